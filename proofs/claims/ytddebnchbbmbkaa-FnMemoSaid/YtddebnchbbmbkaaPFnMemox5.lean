-- The machine side of a law: written by a program of this session (wip/tools), a turned print.
import Derived.Test.YtddebnchbbmbkaaPFnMemox0
import Derived.Test.YtddebnchbbmbkaaPFnMemox2
import Derived.Test.YtddebnchbbmbkaaPFnMemox4
namespace Go.Proofs.Ytddebnchbbmbkaa.PFnMemo
open Go.RowKit Go.Proofs.YtddebnchbbmbkaaW.PrintWords Go.Proofs.YtddebnchbbmbkaaW.PrintLast Go.Proofs.YtddebnchbbmbkaaW.PrintMore
attribute [local go_sem] max2_int min2_int max_two min_two max_three min_three max_four min_four   -- for this text's walks alone
set_option linter.unusedVariables false
set_option linter.unusedSimpArgs false
mutual
def spec_l7Any.l0 : Nat → Int → List Int → Int → Int → List (S95) → Option ((List (S95)) × Int × Int)
 | 0, _, _, _, _, _ => none
 | k + 1, x6, x1000, x1001, x1002, x213000 => if x6 < 6 then (if (x213000.length : Int) > 0 then (if x213000.length < 8796093022208 then (spec_l7Any.l0 k (wrap64 (x6 + 1)) x1000 x1001 x1002 (x213000 ++ [(⟨wrap64 (255 + (x213000.length : Int)), wrap64 (255 + (x213000.length : Int))⟩ : S95)])) else (none)) else (if x213000.length < 8796093022208 then (spec_l7Any.l0 k (wrap64 (x6 + 1)) x1000 x1001 x1002 (x213000 ++ [(⟨97, 97⟩ : S95)])) else (none))) else (some (x213000, x1001, x1002))
def spec_l7Any.l1 : Nat → Int → Int → List Int → Int → Int → List (S95) → Option ((List (S95)) × Int × Int)
 | 0, _, _, _, _, _, _ => none
 | k + 1, x9, x10, x1000, x1001, x1002, x213000 => if x10 < x9 then (if x213000.length < 8796093022208 then (spec_l7Any.l1 k x9 (wrap64 (x10 + 1)) x1000 x1001 x1002 (x213000 ++ [(⟨x10, 200⟩ : S95)])) else (none)) else (some (x213000, x1001, x1002))
end
def spec_l7Any.f (k : Nat) (s0_0 : List Int) (s0_1 : Int) (s0_2 : Int) (a1 : Int) : Option ((List (S95)) × Int × Int) := (spec_l7Draw.f k s0_0 s0_1 s0_2 a1).bind fun bt207 => ((spec_l1Once.f s0_0 bt207.2.1 bt207.2.2 8).bind fun bt213 => (if bt213.1 = true then ((spec_l1Below.f s0_0 bt213.2.1 bt213.2.2 4).bind fun bt216 => (if bt216.1 = 0 then ((spec_l1PickInt.f s0_0 bt216.2.1 bt216.2.2 (([(-1), wrap64 (256 + (bt207.1.length : Int)), 97] : List Int))).bind fun bt222 => (if bt207.1.length < 8796093022208 then (some ((bt207.1 ++ [(⟨bt222.1, 98⟩ : S95)]), bt222.2.1, bt222.2.2)) else (none))) else (if bt216.1 = 1 then (if (bt207.1.length : Int) > 0 then ((spec_l1Below.f s0_0 bt216.2.1 bt216.2.2 (bt207.1.length : Int)).bind fun bt228 => (if 0 ≤ bt228.1 then (if bt228.1 < (bt207.1.length : Int) then (if bt207.1.length < 8796093022208 then (some ((bt207.1 ++ [(⟨(rd_T95 bt207.1 bt228.1).f0, (rd_T95 bt207.1 bt228.1).f1⟩ : S95)]), bt228.2.1, bt228.2.2)) else (none)) else (none)) else (none))) else (some (bt207.1, bt216.2.1, bt216.2.2))) else (if bt216.1 = 2 then (spec_l7Any.l0 k 0 s0_0 bt216.2.1 bt216.2.2 bt207.1) else ((spec_l1Below.f s0_0 bt216.2.1 bt216.2.2 2).bind fun bt242 => (spec_l7Any.l1 k (wrap64 (60 + bt242.1)) 0 s0_0 bt242.2.1 bt242.2.2 (([] : List (S95))))))))) else (some (bt207.1, bt213.2.1, bt213.2.2))))
theorem spec_l7Any.mono_l : ∀ k, (∀ y0 y1 y2 y3 y4, LeO (spec_l7Any.l0 k y0 y1 y2 y3 y4) (spec_l7Any.l0 (k + 1) y0 y1 y2 y3 y4)) ∧ (∀ y0 y1 y2 y3 y4 y5, LeO (spec_l7Any.l1 k y0 y1 y2 y3 y4 y5) (spec_l7Any.l1 (k + 1) y0 y1 y2 y3 y4 y5))
 | 0 => ⟨fun _ _ _ _ _ r h => by simp [spec_l7Any.l0] at h, fun _ _ _ _ _ _ r h => by simp [spec_l7Any.l1] at h⟩
 | k + 1 => by
  obtain ⟨ih0, ih1⟩ := spec_l7Any.mono_l k
  refine ⟨?_, ?_⟩
  ·intro y0 y1 y2 y3 y4
   unfold spec_l7Any.l0
   repeat' first
   | (with_reducible exact ih0 _ _ _ _ _)
   | (with_reducible exact ih1 _ _ _ _ _ _)
   | (with_reducible exact spec_l7Draw.mono _ _ _ _ _)
   | (with_reducible exact LeO.refl _)
   | (with_reducible exact LeO.none _)
   | (with_reducible refine LeO.ite ?_ ?_)
   | (with_reducible refine LeO.bind ?_ (fun _ => ?_))
   | exact ih0 _ _ _ _ _
   | exact ih1 _ _ _ _ _ _
   | exact spec_l7Draw.mono _ _ _ _ _
   | exact LeO.none _
   | refine LeO.ite ?_ ?_
   | refine LeO.bind ?_ (fun _ => ?_)
  ·intro y0 y1 y2 y3 y4 y5
   unfold spec_l7Any.l1
   repeat' first
   | (with_reducible exact ih0 _ _ _ _ _)
   | (with_reducible exact ih1 _ _ _ _ _ _)
   | (with_reducible exact spec_l7Draw.mono _ _ _ _ _)
   | (with_reducible exact LeO.refl _)
   | (with_reducible exact LeO.none _)
   | (with_reducible refine LeO.ite ?_ ?_)
   | (with_reducible refine LeO.bind ?_ (fun _ => ?_))
   | exact ih0 _ _ _ _ _
   | exact ih1 _ _ _ _ _ _
   | exact spec_l7Draw.mono _ _ _ _ _
   | exact LeO.none _
   | refine LeO.ite ?_ ?_
   | refine LeO.bind ?_ (fun _ => ?_)
theorem spec_l7Any.mono : ∀ a0 a1 a2 a3 k, LeO (spec_l7Any.f k a0 a1 a2 a3) (spec_l7Any.f (k + 1) a0 a1 a2 a3) := by
 intro a0 a1 a2 a3 k
 obtain ⟨ih0, ih1⟩ := spec_l7Any.mono_l k
 unfold spec_l7Any.f
 repeat' first
   | (with_reducible exact ih0 _ _ _ _ _)
   | (with_reducible exact ih1 _ _ _ _ _ _)
   | (with_reducible exact spec_l7Draw.mono _ _ _ _ _)
   | (with_reducible exact LeO.refl _)
   | (with_reducible exact LeO.none _)
   | (with_reducible refine LeO.ite ?_ ?_)
   | (with_reducible refine LeO.bind ?_ (fun _ => ?_))
   | exact ih0 _ _ _ _ _
   | exact ih1 _ _ _ _ _ _
   | exact spec_l7Draw.mono _ _ _ _ _
   | exact LeO.none _
   | refine LeO.ite ?_ ?_
   | refine LeO.bind ?_ (fun _ => ?_)
def spec_l7Any.T11 : Bool × List (List Nat × List Nat) := (true, [([], []), ([0], [0]), ([], []), ([], []), ([3], [3]), ([4], [4]), ([5], [5]), ([6], [6]), ([2, 7], [2, 7]), ([8], [8]), ([9], [9]), ([1, 10, 8], [1, 10]), ([0, 1, 2, 3, 4, 5, 6, 7, 8, 9, 10, 11], []), ([12, 11, 11, 0, 1, 2, 3, 4, 5, 6, 7, 8, 9, 10, 11], [11, 12])])
def spec_l7Any.B11 : List Nat := [0, 1, 0, 0, 8, 24, 56, 120, 252, 508, 1020, 2047, 4095, 8191]
theorem spec_l7Any.tab11 : rtab .any (opsOf Try.f33 11) = spec_l7Any.T11 := by kernel_rfl
theorem spec_l7Any.bits11 : waitsOk spec_l7Any.T11.2 spec_l7Any.B11 = true := by kernel_rfl
def spec_l7Any.T14 : Bool × List (List Nat × List Nat) := (true, [([], []), ([0], [0]), ([], []), ([2], [2]), ([], []), ([], []), ([5], [5]), ([6], [6]), ([4, 7], [4, 7]), ([3, 8], [3, 8]), ([9], [9]), ([10], [10]), ([1, 11, 8], [1, 11]), ([0, 1, 2, 3, 4, 5, 6, 7, 8, 9, 10, 11, 12], []), ([13, 12, 12, 0, 1, 2, 3, 4, 5, 6, 7, 8, 9, 10, 11, 12], [12, 13])])
def spec_l7Any.B14 : List Nat := [0, 1, 0, 4, 0, 0, 32, 96, 240, 508, 1020, 2044, 4095, 8191, 16383]
theorem spec_l7Any.tab14 : rtab .any (opsOf Try.f33 14) = spec_l7Any.T14 := by kernel_rfl
theorem spec_l7Any.bits14 : waitsOk spec_l7Any.T14.2 spec_l7Any.B14 = true := by kernel_rfl
set_option maxHeartbeats 8000000 in
set_option maxRecDepth 100000 in
theorem spec_l7Any.calls (k : Nat) (g : Nat) (s0_0 : List Int) (s0_1 : Int) (s0_2 : Int) (a1 : Int) (r1 : List (S95)) (r2 : Int) (r3 : Int) (w0 w : World) (hI : IsS90 w0 w g s0_0 s0_1 s0_2) (hB : Below w0.heap.size w0 w) (h : spec_l7Any.f k s0_0 s0_1 s0_2 a1 = some (r1, r2, r3)) :
  Calls Try.prog 33 #[.pointer (some ⟨g, 0, none⟩), .int .i64 a1] w fun e w' => ∃ v0_ : Value, e = .returned (.agg #[v0_]) ∧ Kd.R k95 95 w' w.heap.size (fun _ => True) v0_ r1 ∧ IsS90 w0 w' g s0_0 r2 r3 ∧ Below w0.heap.size w0 w' ∧ KeepBut w w' g none := by
 have hu26 := Try.underlying26
 have hu95 := Try.underlying95
 have HI0 := Aside0.mk hI
 have HK := Aside0.mk (KeepBut.refl w g none)
 have HL := Aside0.mk hB.size
 clear hI; have HW0 := Aside0.mk hB.size
 have HB := Aside0.mk hB
 clear hB; have H : ((spec_l7Draw.f k s0_0 s0_1 s0_2 a1).bind fun z9a => ((spec_l1Once.f s0_0 z9a.2.1 z9a.2.2 8).bind fun D9a => (if D9a.1 = true then ((spec_l1Below.f s0_0 D9a.2.1 D9a.2.2 4).bind fun o9a => (if o9a.1 = 0 then ((spec_l1PickInt.f s0_0 o9a.2.1 o9a.2.2 (([(-1), wrap64 (256 + (z9a.1.length : Int)), 97] : List Int))).bind fun v9a => (if z9a.1.length < 8796093022208 then (some ((z9a.1 ++ [(⟨v9a.1, 98⟩ : S95)]), v9a.2.1, v9a.2.2)) else (none))) else (if o9a.1 = 1 then (if (z9a.1.length : Int) > 0 then ((spec_l1Below.f s0_0 o9a.2.1 o9a.2.2 (z9a.1.length : Int)).bind fun s9a => (if 0 ≤ s9a.1 then (if s9a.1 < (z9a.1.length : Int) then (if z9a.1.length < 8796093022208 then (some ((z9a.1 ++ [(⟨(rd_T95 z9a.1 s9a.1).f0, (rd_T95 z9a.1 s9a.1).f1⟩ : S95)]), s9a.2.1, s9a.2.2)) else (none)) else (none)) else (none))) else (some (z9a.1, o9a.2.1, o9a.2.2))) else (if o9a.1 = 2 then (spec_l7Any.l0 k 0 s0_0 o9a.2.1 o9a.2.2 z9a.1) else ((spec_l1Below.f s0_0 o9a.2.1 o9a.2.2 2).bind fun w9a => (spec_l7Any.l1 k (wrap64 (60 + w9a.1)) 0 s0_0 w9a.2.1 w9a.2.2 (([] : List (S95))))))))) else (some (z9a.1, D9a.2.1, D9a.2.2))))) = some (r1, r2, r3) := h
 clear h; replace H := Option.bind_eq_some_iff.mp H
 obtain ⟨⟨t207, t210, t211⟩, A30, H⟩ := H
 replace H : ((spec_l1Once.f s0_0 t210 t211 8).bind fun D9a => (if D9a.1 = true then ((spec_l1Below.f s0_0 D9a.2.1 D9a.2.2 4).bind fun o9a => (if o9a.1 = 0 then ((spec_l1PickInt.f s0_0 o9a.2.1 o9a.2.2 (([(-1), wrap64 (256 + (t207.length : Int)), 97] : List Int))).bind fun v9a => (if t207.length < 8796093022208 then (some ((t207 ++ [(⟨v9a.1, 98⟩ : S95)]), v9a.2.1, v9a.2.2)) else (none))) else (if o9a.1 = 1 then (if (t207.length : Int) > 0 then ((spec_l1Below.f s0_0 o9a.2.1 o9a.2.2 (t207.length : Int)).bind fun s9a => (if 0 ≤ s9a.1 then (if s9a.1 < (t207.length : Int) then (if t207.length < 8796093022208 then (some ((t207 ++ [(⟨(rd_T95 t207 s9a.1).f0, (rd_T95 t207 s9a.1).f1⟩ : S95)]), s9a.2.1, s9a.2.2)) else (none)) else (none)) else (none))) else (some (t207, o9a.2.1, o9a.2.2))) else (if o9a.1 = 2 then (spec_l7Any.l0 k 0 s0_0 o9a.2.1 o9a.2.2 t207) else ((spec_l1Below.f s0_0 o9a.2.1 o9a.2.2 2).bind fun w9a => (spec_l7Any.l1 k (wrap64 (60 + w9a.1)) 0 s0_0 w9a.2.1 w9a.2.2 (([] : List (S95))))))))) else (some (t207, D9a.2.1, D9a.2.2)))) = some (r1, r2, r3) := H
 have A3 := Aside0.mk A30
 clear A30; replace H := Option.bind_eq_some_iff.mp H
 obtain ⟨⟨t213, t214, t215⟩, A40, H⟩ := H
 replace H : (if t213 = true then ((spec_l1Below.f s0_0 t214 t215 4).bind fun o9a => (if o9a.1 = 0 then ((spec_l1PickInt.f s0_0 o9a.2.1 o9a.2.2 (([(-1), wrap64 (256 + (t207.length : Int)), 97] : List Int))).bind fun v9a => (if t207.length < 8796093022208 then (some ((t207 ++ [(⟨v9a.1, 98⟩ : S95)]), v9a.2.1, v9a.2.2)) else (none))) else (if o9a.1 = 1 then (if (t207.length : Int) > 0 then ((spec_l1Below.f s0_0 o9a.2.1 o9a.2.2 (t207.length : Int)).bind fun s9a => (if 0 ≤ s9a.1 then (if s9a.1 < (t207.length : Int) then (if t207.length < 8796093022208 then (some ((t207 ++ [(⟨(rd_T95 t207 s9a.1).f0, (rd_T95 t207 s9a.1).f1⟩ : S95)]), s9a.2.1, s9a.2.2)) else (none)) else (none)) else (none))) else (some (t207, o9a.2.1, o9a.2.2))) else (if o9a.1 = 2 then (spec_l7Any.l0 k 0 s0_0 o9a.2.1 o9a.2.2 t207) else ((spec_l1Below.f s0_0 o9a.2.1 o9a.2.2 2).bind fun w9a => (spec_l7Any.l1 k (wrap64 (60 + w9a.1)) 0 s0_0 w9a.2.1 w9a.2.2 (([] : List (S95))))))))) else (some (t207, t214, t215))) = some (r1, r2, r3) := H
 have A4 := Aside0.mk A40
 clear A40
 by_cases c5 : t213 = true
 ·subst c5
  have H1 : ((spec_l1Below.f s0_0 t214 t215 4).bind fun o9a => (if o9a.1 = 0 then ((spec_l1PickInt.f s0_0 o9a.2.1 o9a.2.2 (([(-1), wrap64 (256 + (t207.length : Int)), 97] : List Int))).bind fun v9a => (if t207.length < 8796093022208 then (some ((t207 ++ [(⟨v9a.1, 98⟩ : S95)]), v9a.2.1, v9a.2.2)) else (none))) else (if o9a.1 = 1 then (if (t207.length : Int) > 0 then ((spec_l1Below.f s0_0 o9a.2.1 o9a.2.2 (t207.length : Int)).bind fun s9a => (if 0 ≤ s9a.1 then (if s9a.1 < (t207.length : Int) then (if t207.length < 8796093022208 then (some ((t207 ++ [(⟨(rd_T95 t207 s9a.1).f0, (rd_T95 t207 s9a.1).f1⟩ : S95)]), s9a.2.1, s9a.2.2)) else (none)) else (none)) else (none))) else (some (t207, o9a.2.1, o9a.2.2))) else (if o9a.1 = 2 then (spec_l7Any.l0 k 0 s0_0 o9a.2.1 o9a.2.2 t207) else ((spec_l1Below.f s0_0 o9a.2.1 o9a.2.2 2).bind fun w9a => (spec_l7Any.l1 k (wrap64 (60 + w9a.1)) 0 s0_0 w9a.2.1 w9a.2.2 (([] : List (S95))))))))) = some (r1, r2, r3) := by rw [if_pos rfl] at H; exact H
  clear H; have H := H1
  clear H1; replace H := Option.bind_eq_some_iff.mp H
  obtain ⟨⟨t216, t217, t218⟩, A60, H⟩ := H
  replace H : (if t216 = 0 then ((spec_l1PickInt.f s0_0 t217 t218 (([(-1), wrap64 (256 + (t207.length : Int)), 97] : List Int))).bind fun v9a => (if t207.length < 8796093022208 then (some ((t207 ++ [(⟨v9a.1, 98⟩ : S95)]), v9a.2.1, v9a.2.2)) else (none))) else (if t216 = 1 then (if (t207.length : Int) > 0 then ((spec_l1Below.f s0_0 t217 t218 (t207.length : Int)).bind fun s9a => (if 0 ≤ s9a.1 then (if s9a.1 < (t207.length : Int) then (if t207.length < 8796093022208 then (some ((t207 ++ [(⟨(rd_T95 t207 s9a.1).f0, (rd_T95 t207 s9a.1).f1⟩ : S95)]), s9a.2.1, s9a.2.2)) else (none)) else (none)) else (none))) else (some (t207, t217, t218))) else (if t216 = 2 then (spec_l7Any.l0 k 0 s0_0 t217 t218 t207) else ((spec_l1Below.f s0_0 t217 t218 2).bind fun w9a => (spec_l7Any.l1 k (wrap64 (60 + w9a.1)) 0 s0_0 w9a.2.1 w9a.2.2 (([] : List (S95)))))))) = some (r1, r2, r3) := H
  have A6 := Aside0.mk A60
  clear A60
  by_cases c7 : t216 = 0
  ·rw [if_pos c7] at H
   have c7b0 : (t216 == 0) = true := beq_iff_eq.mpr c7
   have c7b1 : (t216 != 0) = false := bne_eq_false_iff_eq.mpr c7
   clear c7; obtain ⟨y219, hy219⟩ : ∃ y_ : List Int, y_ = (([(-1), wrap64 (256 + (t207.length : Int)), 97] : List Int)) := ⟨_, rfl⟩
   replace H : ((spec_l1PickInt.f s0_0 t217 t218 y219).bind fun v9a => (if t207.length < 8796093022208 then (some ((t207 ++ [(⟨v9a.1, 98⟩ : S95)]), v9a.2.1, v9a.2.2)) else (none))) = some (r1, r2, r3) := by first | (rw [hy219]; with_reducible exact H) | (have H2_ := (Option.bind_some _ _).symm.trans H; rw [hy219]; with_reducible exact H2_) | (have H2_ := (Option.bind_some _ _).symm.trans H; with_reducible exact H2_) | with_reducible exact H | (rw [hy219]; exact H) | exact H
   have Ny219 := Aside0.mk hy219
   clear hy219; replace H := Option.bind_eq_some_iff.mp H
   obtain ⟨⟨t222, t223, t224⟩, A80, H⟩ := H
   replace H : (if t207.length < 8796093022208 then (some ((t207 ++ [(⟨t222, 98⟩ : S95)]), t223, t224)) else (none)) = some (r1, r2, r3) := H
   have A8 := Aside0.mk A80
   clear A80
   by_cases c9 : t207.length < 8796093022208
   ·rw [if_pos c9] at H
    have LMc9 := Aside0.mk c9
    clear c9; obtain ⟨y225, hy225⟩ : ∃ y_ : List (S95), y_ = (t207 ++ [(⟨t222, 98⟩ : S95)]) := ⟨_, rfl⟩
    replace H : (some (y225, t223, t224)) = some (r1, r2, r3) := by first | (rw [hy225]; with_reducible exact H) | (have H2_ := (Option.bind_some _ _).symm.trans H; rw [hy225]; with_reducible exact H2_) | (have H2_ := (Option.bind_some _ _).symm.trans H; with_reducible exact H2_) | with_reducible exact H | (rw [hy225]; exact H) | exact H
    have Ny225 := Aside0.mk hy225
    clear hy225; simp only [Option.some.injEq, Prod.mk.injEq] at H
    obtain ⟨rfl, rfl, rfl⟩ := H
    go_enter Try.func33, Try.ntmps33
    try go_wp2_with (first | ((with_reducible refine gate_dst (N := 4) rfl ?_); refine bX 4 #[.slice none 0 0] 26 ?_; intro j9a hg w10 hbox hb; have n0_ := Aside0.mk (IsS90.below (iS HI0) hb); have n1_ := Aside0.mk (KeepBut.trans (iK HK) (KeepBut.of_below hb g none) (.inl rfl)); have n2_ := Aside0.mk (below_step (iD HB) hb); have c9a := Aside0.mk (hbox); have k9a := Aside0.mk ((by rw [hg]; exact (keep_size (w := w) (g := g) (row := none) (iK HK)) : w.heap.size ≤ j9a)); have p9a := Aside0.mk ((Nat.le_trans HW0.out (by rw [hg]; exact (keep_size (w := w) (g := g) (row := none) (iK HK)) : w.heap.size ≤ j9a) : w0.heap.size ≤ j9a)); have a9a := Aside0.mk ((by rw [hg]; exact Nat.ne_of_lt (IsS90.lt (show IsS90 w0 _ g s0_0 s0_1 s0_2 from iS HI0)) : g ≠ j9a)); have l9a := Aside0.mk ((by rw [hg]; exact Nat.ne_of_gt (IsS90.lt (show IsS90 w0 _ g s0_0 s0_1 s0_2 from iS HI0)) : j9a ≠ g)); clear HI0 HK HB; have HI0 := n0_; have HK := n1_; have HB := n2_; clear n0_ n1_ n2_; clear hb hbox hg) | ((with_reducible refine gate_callee (f := 63) rfl ?_); refine goesC_ (some 13) Try.func63 #[.pointer (some ⟨g, 0, none⟩), .int .i64 a1] ?_; (with_reducible refine (spec_l7Draw.calls k g s0_0 s0_1 s0_2 a1 t207 t210 t211 w0 _ ?side1 ?side2 A3.out).mono ?_); (case side1 => exact iS HI0); (case side2 => exact iD HB); rintro e w11 ⟨v208, rfl, ho0, hi, hb, hk⟩; refine ⟨_, rfl, ?_⟩; have n0_ := Aside0.mk (KeepBut.blk hk (g' := j9a) (o := .cells #[.slice none 0 0] 26 (0, 0)) kB l9a.out (by simp)); have n2_ := Aside0.mk (KeepBut.trans (iK HK) hk (.inl rfl)); have n3_ := Aside0.mk (hb); have n4_ := Aside0.mk (hi); have f9a := Aside0.mk (Kd.R_lower ho0 (keep_size (w := w) (g := g) (row := none) (iK HK))); clear c9a HK HB HI0; have c9a := n0_; have HK := n2_; have HB := n3_; have HI0 := n4_; clear n0_ n2_ n3_ n4_; (try clear hb); (try clear hb2); (try clear hk); (try clear hi)) | ((with_reducible refine gate_dst (N := 5) rfl ?_); refine bX 5 #[.slice none 0 0] 26 ?_; intro h9a hg w12 hbox hb; have n1_ := Aside0.mk (IsS90.below (iS HI0) hb); have n3_ := Aside0.mk (KeepBut.trans (iK HK) (KeepBut.of_below hb g none) (.inl rfl)); have n4_ := Aside0.mk (below_step (iD HB) hb); have b9a := Aside0.mk (hbox); have q9a := Aside0.mk ((by rw [hg]; exact (keep_size (w := w) (g := g) (row := none) (iK HK)) : w.heap.size ≤ h9a)); have r9a := Aside0.mk ((Nat.le_trans HW0.out (by rw [hg]; exact (keep_size (w := w) (g := g) (row := none) (iK HK)) : w.heap.size ≤ h9a) : w0.heap.size ≤ h9a)); have i9a := bl c9a hg; have n9a := bg c9a hg; have e9a := Aside0.mk ((by rw [hg]; exact Nat.ne_of_lt (IsS90.lt (show IsS90 w0 _ g s0_0 t210 t211 from iS HI0)) : g ≠ h9a)); have m9a := Aside0.mk ((by rw [hg]; exact Nat.ne_of_gt (IsS90.lt (show IsS90 w0 _ g s0_0 t210 t211 from iS HI0)) : h9a ≠ g)); replace f9a := Aside0.mk (Kd.R_below (rr f9a) hb); replace c9a := bq c9a hb; clear HI0 HK HB; have HI0 := n1_; have HK := n3_; have HB := n4_; clear n1_ n3_ n4_; clear hb hbox hg; obtain ⟨Ao13, co13, eo13⟩ := Kd.R_slice f9a.out; subst eo13; have hnb14 := n9a.out; have hnc14 := i9a.out; have hnb15 := m9a.out; have hnc15 := e9a.out; have hcz16_0 : w12.cell? ⟨h9a, 0, none⟩ = some (.slice none 0 0) := bc b9a 0; have hfz16_0 := blk_frozen b9a.out 0) | ((with_reducible refine gate_callee (f := 64) rfl ?_); refine goesC_ (some 15) Try.func64 #[.pointer (some ⟨g, 0, none⟩), .int .i64 8] ?_; (with_reducible refine (spec_l1Once.calls g s0_0 t210 t211 8 true t214 t215 w0 _ ?side1 ?side2 A4.out).mono ?_); (case side1 => exact iS HI0); (case side2 => exact iD HB); rintro e w17 ⟨rfl, hi, hb, hk⟩; refine ⟨_, rfl, ?_⟩; have n0_ := Aside0.mk (KeepBut.blk hk (g' := j9a) (o := .cells #[.slice none 0 0] 26 (0, 0)) (by (with_reducible repeat first | refine bkN ?_ _ | refine bkD ?_ | refine bkA ?_ _ | refine blk_far ?_ i9a.out _); exact c9a.out) l9a.out (by simp)); have n1_ := Aside0.mk (Kd.R_mono (Kd.R_keep (IsS90.apart (show IsS90 w0 _ g s0_0 t210 t211 from iS HI0) (rX (Kd.R_mono (Kd.R_far (p := ⟨h9a, 0, none⟩) (Kd.R_types f9a.out b9a.out (by decide)) (fun _ hk => hk.2) (.slice Ao13 t207.length co13)) (fun _ h_ => h_.1))) (by decide)) hk (fun _ h => h.2)) (fun _ h => h.1)); have n2_ := Aside0.mk (KeepBut.blk hk (g' := h9a) (o := .cells #[.slice Ao13 t207.length co13] 26 (0, 0)) (by (with_reducible repeat first | refine bkN ?_ _ | refine bkD ?_ | refine bkA ?_ _); refine blk_put (cs := #[.slice none 0 0]) ?_ 0 _ rfl; (with_reducible repeat first | refine bkN ?_ _ | refine bkD ?_ | refine bkA ?_ _); exact b9a.out) m9a.out (by simp)); have n3_ := Aside0.mk (KeepBut.trans (iK HK) hk (.inl rfl)); have n4_ := Aside0.mk (hb); have n5_ := Aside0.mk (hi); clear c9a f9a b9a HK HB HI0; have c9a := n0_; have f9a := n1_; have b9a := n2_; have HK := n3_; have HB := n4_; have HI0 := n5_; clear n0_ n1_ n2_ n3_ n4_ n5_; (try clear hb); (try clear hb2); (try clear hk); (try clear hi)) | ((with_reducible refine gate_callee (f := 65) rfl ?_); refine goesC_ (some 17) Try.func65 #[.pointer (some ⟨g, 0, none⟩), .int .i64 4] ?_; (with_reducible refine (spec_l1Below.calls g s0_0 t214 t215 4 t216 t217 t218 w0 _ ?side1 ?side2 A6.out).mono ?_); (case side1 => exact iS HI0); (case side2 => exact iD HB); rintro e w18 ⟨rfl, hi, hb, hk⟩; refine ⟨_, rfl, ?_⟩; have n0_ := Aside0.mk (KeepBut.blk hk (g' := j9a) (o := .cells #[.slice none 0 0] 26 (0, 0)) kB l9a.out (by simp)); have n1_ := Aside0.mk (Kd.R_mono (Kd.R_keep (IsS90.apart (show IsS90 w0 _ g s0_0 t214 t215 from iS HI0) (rr f9a) (by decide)) hk (fun _ h => h.2)) (fun _ h => h.1)); have n2_ := Aside0.mk (KeepBut.blk hk (g' := h9a) (o := .cells #[.slice Ao13 t207.length co13] 26 (0, 0)) kB m9a.out (by simp)); have n3_ := Aside0.mk (KeepBut.trans (iK HK) hk (.inl rfl)); have n4_ := Aside0.mk (hb); have n5_ := Aside0.mk (hi); clear c9a f9a b9a HK HB HI0; have c9a := n0_; have f9a := n1_; have b9a := n2_; have HK := n3_; have HB := n4_; have HI0 := n5_; clear n0_ n1_ n2_ n3_ n4_ n5_; (try clear hb); (try clear hb2); (try clear hk); (try clear hi)))
    have n0_ := Aside0.mk (Kd.R_drew f9a.out)
    have n1_ := Aside0.mk (blk_drew c9a.out)
    have n2_ := Aside0.mk (blk_drew b9a.out)
    have n3_ := Aside0.mk (IsS90.drew HI0.out)
    have n4_ := Aside0.mk (keep_drew HK.out)
    have n5_ := Aside0.mk (below_drew1 HB.out)
    clear f9a c9a b9a HI0 HK HB; have f9a := n0_; have c9a := n1_; have b9a := n2_; have HI0 := n3_; have HK := n4_; have HB := n5_; clear n0_ n1_ n2_ n3_ n4_ n5_; refine start_ (n := 14) (S := fun w' => w'.cell? ⟨h9a, 0, none⟩ = some (.slice Ao13 t207.length co13)) (ds := [13]) #[ff,ff,ff,ff,ff,ff,ff,ff,ff,ff,ff,ff,ff,ff] (by kernel_rfl) rfl rfl (bc b9a 0) (fun hHeld => ?_); refine with_tabW spec_l7Any.tab11 spec_l7Any.bits11 (fun HT_ HW_ => ?_)
    generalize w18.drew = w19 at f9a c9a b9a HI0 HK HB hHeld ⊢
    refine pu 0 37 (tb 14 1) HT_ ?_
    refine pu 2 39 (tb 14 5) HT_ ?_
    refine pu 3 40 (tb 14 13) HT_ ?_
    refine tk 1 38 (tb 14 15) rfl rfl HT_ HW_ hHeld (by intro w' s0; go_simp; with_reducible rfl) ?_
    refine tk 4 41 (tb 14 31) rfl rfl HT_ HW_ hHeld (by intro w' s0; go_simp; with_reducible rfl) ?_
    refine pu 5 42 (tb 14 63) HT_ ?_
    refine pu 6 43 (tb 14 127) HT_ ?_
    refine one_ (i := 7) (N := some 44) #[tt,tt,tt,tt,tt,tt,tt,tt,ff,ff,ff,ff,ff,ff] rfl rfl (one_of HT_.out (by kernel_rfl)) (by decide) (fun K hK => ?_)
    refine Kd.R_lit_step (Kd.int .i64) _ 3 ?hg (N := 44) ?hd (xs := ([(-1), wrap64 (256 + (t207.length : Int)), 97] : List Int)) (inner := [.int .i64 (-1), .int .i64 (wrap64 (256 + (t207.length : Int))), .int .i64 97]) (ok := fun _ => True) (okp := fun _ => True) ?hr ?hp (fun _ hk => hk) trivial (Below.refl _ _) (Nat.le_refl _) (by simp) ?_; (case hd => rfl); (case hg => rfl); (case hr => first | (go_simp; done) | (go_simp; rfl)); (case hp => exact (Reps.one (show Kd.M (Kd.int .i64) _ _ _ (-1) [.int .i64 (-1)] from rfl) (Reps.one (show Kd.M (Kd.int .i64) _ _ _ (wrap64 (256 + (t207.length : Int))) [.int .i64 (wrap64 (256 + (t207.length : Int)))] from rfl) (Reps.one (show Kd.M (Kd.int .i64) _ _ _ 97 [.int .i64 97] from rfl) (Reps.none _ _)))))
    intro v220 w20 ho21 hb hg_ hnew_
    clear hg_ hnew_
    (first | rw [← Ny219.out] at ho21 | (simp only [Int.reduceToNat] at ho21; rw [← Ny219.out] at ho21))
    have n2_ := Aside0.mk (IsS90.below (iS HI0) hb)
    have n5_ := Aside0.mk (KeepBut.trans (iK HK) (KeepBut.of_below hb g none) (.inl rfl))
    have n6_ := Aside0.mk (below_step (iD HB) hb)
    have G9a := Aside0.mk (Kd.R_lower ho21 (keep_size (w := w) (g := g) (row := none) (iK HK)))
    replace f9a := Aside0.mk (Kd.R_below (rr f9a) hb); replace c9a := bq c9a hb; replace b9a := bq b9a hb; clear HI0 HK HB; have HI0 := n2_; have HK := n5_; have HB := n6_; clear n2_ n5_ n6_; clear hb ho21; obtain ⟨Ao22, co22, eo22⟩ := Kd.R_slice G9a.out
    (first | subst eo22 | (injection eo22 with f1_ f2_ f3_; have f4_ := f1_.symm; have f5_ := f3_.symm; clear f1_ f2_ f3_; subst f4_; subst f5_))
    refine hK.out _ _ (bc b9a 0) (fun hHeld => ?_)
    clear hK K; refine norm_ (a' := ?_) ?_ ?_
    rotate_left
    ·show Act.put _ (some 44) _ = _
     simp only [putL, i64_w, i32_w]; rfl
    refine one_ (i := 8) (N := some 45) #[tt,tt,tt,tt,tt,tt,tt,tt,tt,ff,ff,ff,ff,ff] rfl rfl (one_of HT_.out (by kernel_rfl)) (by decide) (fun K hK => ?_)
    refine goes_ Try.func66 (by kernel_rfl) rfl #[.pointer (some ⟨g, 0, none⟩), .slice Ao22 y219.length co22] (by rfl) rfl rfl (by (try simp only [List.map_toArray, List.map_cons, List.map_nil]); first | done | rfl | (simp only [List.length_drop, List.length_take]; rfl)) ?_
    with_reducible refine (spec_l1PickInt.calls g s0_0 t217 t218 _ _ y219 t222 t223 t224 w0 _ ?side1 ?side2 ?side3 ?side4 ?side5 A8.out).mono ?_
    (case side1 => exact iS HI0)
    (case side2 => exact iD HB)
    (case side3 => exact cX ((Kd.R_reads' G9a.out).2.2))
    (case side4 => exact (Kd.R_reads' G9a.out).2.1)
    (case side5 => exact far_slice (IsS90.own_ne HI0.out G9a.out (by decide)))
    rintro e w23 ⟨rfl, hi, hb, hk⟩
    refine ⟨_, rfl, ?_⟩
    have n0_ := Aside0.mk (KeepBut.blk hk (g' := j9a) (o := .cells #[.slice none 0 0] 26 (0, 0)) kB l9a.out (by simp))
    have n1_ := Aside0.mk (Kd.R_mono (Kd.R_keep (IsS90.apart (show IsS90 w0 _ g s0_0 t217 t218 from iS HI0) (rr f9a) (by decide)) hk (fun _ h => h.2)) (fun _ h => h.1))
    have n2_ := Aside0.mk (KeepBut.blk hk (g' := h9a) (o := .cells #[.slice Ao13 t207.length co13] 26 (0, 0)) kB m9a.out (by simp))
    have n3_ := Aside0.mk (Kd.R_mono (Kd.R_keep (IsS90.apart (show IsS90 w0 _ g s0_0 t217 t218 from iS HI0) (rr G9a) (by decide)) hk (fun _ h => h.2)) (fun _ h => h.1))
    have n4_ := Aside0.mk (KeepBut.trans (iK HK) hk (.inl rfl))
    have n5_ := Aside0.mk (hb)
    have n6_ := Aside0.mk (hi)
    clear c9a f9a b9a G9a HK HB HI0; have c9a := n0_; have f9a := n1_; have b9a := n2_; have G9a := n3_; have HK := n4_; have HB := n5_; have HI0 := n6_; clear n0_ n1_ n2_ n3_ n4_ n5_ n6_; (try clear hb); (try clear hb2); (try clear hk); (try clear hi); refine hK.out _ _ (bc b9a 0) (fun hHeld => ?_)
    clear hK K; refine norm_ (a' := ?_) ?_ ?_
    rotate_left
    ·show Act.put _ (some 45) _ = _
     simp only [putL, i64_w, i32_w]; rfl
    refine pu 9 46 (tb 14 1023) HT_ ?_
    refine one_ (i := 10) (N := some 47) #[tt,tt,tt,tt,tt,tt,tt,tt,tt,tt,tt,ff,ff,ff] rfl rfl (one_of HT_.out (by kernel_rfl)) (by decide) (fun K hK => ?_)
    refine value_ (w1 := ?_) (v := ?_) (by rfl) rfl ?_ ?_
    rotate_left 2
    ·go_simp
     constructor
     ·rfl
     ·rfl
    refine hK.out _ _ ((blk_cell (blk_alloc b9a.out _) 0).trans rfl) (fun hHeld => ?_)
    clear hK K; refine norm_ (a' := ?_) ?_ ?_
    rotate_left
    ·show Act.put _ (some 47) _ = _
     simp only [putL, i64_w, i32_w]; rfl
    refine one_ (i := 11) (N := some 48) #[tt,tt,tt,tt,tt,tt,tt,tt,tt,tt,tt,tt,ff,ff] rfl rfl (one_of HT_.out (by kernel_rfl)) (by decide) (fun K hK => ?_)
    refine Kd.R_append_step k95 w.heap.size (by rfl) (.tmp 38) (.tmp 47) 24 95 (.agg #[(.int .i64 0), (.int .i64 0)]) 16 rfl Try.underlying24 info95 rfl (by decide) (by omega) (.slice Ao13 t207.length co13) t207 (⟨t222, 98⟩ : S95) [.int .i64 t222, .int .i64 98] (fun _ => True) (fun _ => False) rfl rfl ?aP (fun _ hk => hk.elim) ?aF ?aO (Below.refl _ _) ?aS ?aL ?_
    (case aP => exact k95_mkM _ _ _ (⟨t222, 98⟩ : S95))
    (case aF => exact (fun _ _ => trivial))
    (case aO => exact (rr f9a))
    (case aS => exact (keep_size (w := w) (g := g) (row := none) (iK HK)))
    (case aL => have := LMc9.out; omega)
    intro v226 w24 ho hb hg hat
    rw [← Ny225.out] at ho
    have n0_ := Aside0.mk (IsS90.grown (iS HI0) hg (IsS90.own_ne HI0.out f9a.out (by decide)))
    have n1_ := Aside0.mk (blk_grown (g := j9a) (o := .cells #[.slice none 0 0] 26 (0, 0)) kB hg (Kd.R_ne f9a.out c9a.out (by decide)))
    have n2_ := Aside0.mk (blk_grown (g := h9a) (o := .cells #[.slice Ao13 t207.length co13] 26 (0, 0)) kB hg (Kd.R_ne f9a.out b9a.out (by decide)))
    have n3_ := Aside0.mk (Kd.R_over' (rr G9a) (Kd.R_typed (rr f9a)) (by decide) hg)
    have n4_ := Aside0.mk (below_weaken (iD HB) HL.out hb)
    have n5_ := Aside0.mk (KeepBut.trans (iK HK) (KeepBut.of_grown hg g) (Kd.R_base2 f9a.out))
    have HO227 := Aside0.mk (ho)
    clear f9a HI0 c9a b9a G9a HB HK; have HI0 := n0_; have c9a := n1_; have b9a := n2_; have G9a := n3_; have HB := n4_; have HK := n5_; clear n0_ n1_ n2_ n3_ n4_ n5_; clear ho hb hg hat; obtain ⟨Ao25, co25, eo25⟩ := Kd.R_slice HO227.out
    (first | subst eo25 | (injection eo25 with f1_ f2_ f3_; have f4_ := f1_.symm; have f5_ := f3_.symm; clear f1_ f2_ f3_; subst f4_; subst f5_))
    refine hK.out _ _ (bc b9a 0) (fun hHeld => ?_)
    clear hK K; refine norm_ (a' := ?_) ?_ ?_
    rotate_left
    ·show Act.put _ (some 48) _ = _
     simp only [putL, i64_w, i32_w]; rfl
    refine pu 12 49 (tb 14 8191) HT_ ?_
    refine last_ (i := 13) (N := none) #[tt,tt,tt,tt,tt,tt,tt,tt,tt,tt,tt,tt,tt,tt] rfl rfl (one_of HT_.out (by kernel_rfl)) (by decide) (fun K hK => ?_)
    have hs26 : w24.cell? ⟨h9a, 0, none⟩ = some (.slice Ao13 t207.length co13) := bc b9a 0
    have hfs26 := blk_frozen b9a.out 0; have hns26_0 := i9a.out; have hms26_0 := n9a.out; refine skip_ (w1 := ?_) (by rfl) rfl ?_ ?_
    rotate_left
    ·go_simp; rfl
    refine hK.out _ _ ?_
    clear hK K; refine done_ (done_of HT_.out (by kernel_rfl)) ?_
    have hcz27_0 : w24.cell? ⟨h9a, 0, none⟩ = some (.slice Ao13 t207.length co13) := bc b9a 0
    have hfz27_0 := blk_frozen b9a.out 0; have hnb28 := l9a.out; have hnc28 := a9a.out; have hcz29_0 : w24.cell? ⟨j9a, 0, none⟩ = some (.slice none 0 0) := bc c9a 0
    have hfz29_0 := blk_frozen c9a.out 0
    try go_wp2
    refine bodyPost_ret (results_cell_row rfl _ _ j9a 26 #[.slice Ao25 y225.length co25] (0, 0) _ rfl (by (with_reducible repeat first | refine bkN ?_ _ | refine bkD ?_ | refine bkA ?_ _); refine blk_put (cs := #[.slice none 0 0]) ?_ 0 _ rfl; (with_reducible repeat first | refine bkN ?_ _ | refine bkD ?_ | refine bkA ?_ _ | refine blk_far ?_ i9a.out _); exact c9a.out) Try.underlying26 rfl (by kernel_rfl)) rfl ?_
    exact ⟨_, eR, rX (Kd.R_mono (Kd.R_far (p := ⟨j9a, 0, none⟩) (Kd.R_far (p := ⟨h9a, 0, none⟩) (Kd.R_types (Kd.R_types HO227.out b9a.out (by decide)) c9a.out (by decide)) (fun _ hk => hk.1.2) (.slice Ao25 y225.length co25)) (fun _ hk => hk.2) (.slice Ao25 y225.length co25)) (fun _ hk => trivial)), iS HI0, iD HB, iK HK⟩
   ·rw [if_neg c9] at H
    exact absurd H (by simp)
  ·rw [if_neg c7] at H
   have c7b0 : (t216 == 0) = false := beq_eq_false_iff_ne.mpr c7
   have c7b1 : (t216 != 0) = true := bne_iff_ne.mpr c7
   by_cases c30 : t216 = 1
   ·rw [if_pos c30] at H
    have c30b0 : (t216 == 1) = true := beq_iff_eq.mpr c30
    have c30b1 : (t216 != 1) = false := bne_eq_false_iff_eq.mpr c30
    clear c30
    by_cases c31 : (t207.length : Int) > 0
    ·rw [if_pos c31] at H
     have c31b0 : decide (0 < (t207.length : Int)) = true := decide_eq_true c31
     have c31b1 : decide (0 < t207.length) = true := decide_eq_true (by omega)
     clear c31; replace H := Option.bind_eq_some_iff.mp H
     obtain ⟨⟨t228, t229, t230⟩, A320, H⟩ := H
     replace H : (if 0 ≤ t228 then (if t228 < (t207.length : Int) then (if t207.length < 8796093022208 then (some ((t207 ++ [(⟨(rd_T95 t207 t228).f0, (rd_T95 t207 t228).f1⟩ : S95)]), t229, t230)) else (none)) else (none)) else (none)) = some (r1, r2, r3) := H
     have A32 := Aside0.mk A320
     clear A320
     by_cases c33 : 0 ≤ t228
     ·rw [if_pos c33] at H
      have c33b0 : decide (0 ≤ t228) = true := decide_eq_true c33
      clear c33
      by_cases c34 : t228 < (t207.length : Int)
      ·rw [if_pos c34] at H
       have c34b0 : decide (t228 < (t207.length : Int)) = true := decide_eq_true c34
       clear c34
       by_cases c35 : t207.length < 8796093022208
       ·rw [if_pos c35] at H
        have LMc35 := Aside0.mk c35
        clear c35; obtain ⟨y232, hy232⟩ : ∃ y_ : List (S95), y_ = (t207 ++ [(⟨(rd_T95 t207 t228).f0, (rd_T95 t207 t228).f1⟩ : S95)]) := ⟨_, rfl⟩
        replace H : (some (y232, t229, t230)) = some (r1, r2, r3) := by first | (rw [hy232]; with_reducible exact H) | (have H2_ := (Option.bind_some _ _).symm.trans H; rw [hy232]; with_reducible exact H2_) | (have H2_ := (Option.bind_some _ _).symm.trans H; with_reducible exact H2_) | with_reducible exact H | (rw [hy232]; exact H) | exact H
        have Ny232 := Aside0.mk hy232
        clear hy232; simp only [Option.some.injEq, Prod.mk.injEq] at H
        obtain ⟨rfl, rfl, rfl⟩ := H
        go_enter Try.func33, Try.ntmps33
        try go_wp2_with (first | ((with_reducible refine gate_dst (N := 4) rfl ?_); refine bX 4 #[.slice none 0 0] 26 ?_; intro j9a hg w36 hbox hb; have n0_ := Aside0.mk (IsS90.below (iS HI0) hb); have n1_ := Aside0.mk (KeepBut.trans (iK HK) (KeepBut.of_below hb g none) (.inl rfl)); have n2_ := Aside0.mk (below_step (iD HB) hb); have c9a := Aside0.mk (hbox); have k9a := Aside0.mk ((by rw [hg]; exact (keep_size (w := w) (g := g) (row := none) (iK HK)) : w.heap.size ≤ j9a)); have p9a := Aside0.mk ((Nat.le_trans HW0.out (by rw [hg]; exact (keep_size (w := w) (g := g) (row := none) (iK HK)) : w.heap.size ≤ j9a) : w0.heap.size ≤ j9a)); have a9a := Aside0.mk ((by rw [hg]; exact Nat.ne_of_lt (IsS90.lt (show IsS90 w0 _ g s0_0 s0_1 s0_2 from iS HI0)) : g ≠ j9a)); have l9a := Aside0.mk ((by rw [hg]; exact Nat.ne_of_gt (IsS90.lt (show IsS90 w0 _ g s0_0 s0_1 s0_2 from iS HI0)) : j9a ≠ g)); clear HI0 HK HB; have HI0 := n0_; have HK := n1_; have HB := n2_; clear n0_ n1_ n2_; clear hb hbox hg) | ((with_reducible refine gate_callee (f := 63) rfl ?_); refine goesC_ (some 13) Try.func63 #[.pointer (some ⟨g, 0, none⟩), .int .i64 a1] ?_; (with_reducible refine (spec_l7Draw.calls k g s0_0 s0_1 s0_2 a1 t207 t210 t211 w0 _ ?side1 ?side2 A3.out).mono ?_); (case side1 => exact iS HI0); (case side2 => exact iD HB); rintro e w37 ⟨v208, rfl, ho0, hi, hb, hk⟩; refine ⟨_, rfl, ?_⟩; have n0_ := Aside0.mk (KeepBut.blk hk (g' := j9a) (o := .cells #[.slice none 0 0] 26 (0, 0)) kB l9a.out (by simp)); have n2_ := Aside0.mk (KeepBut.trans (iK HK) hk (.inl rfl)); have n3_ := Aside0.mk (hb); have n4_ := Aside0.mk (hi); have f9a := Aside0.mk (Kd.R_lower ho0 (keep_size (w := w) (g := g) (row := none) (iK HK))); clear c9a HK HB HI0; have c9a := n0_; have HK := n2_; have HB := n3_; have HI0 := n4_; clear n0_ n2_ n3_ n4_; (try clear hb); (try clear hb2); (try clear hk); (try clear hi)) | ((with_reducible refine gate_dst (N := 5) rfl ?_); refine bX 5 #[.slice none 0 0] 26 ?_; intro h9a hg w38 hbox hb; have n1_ := Aside0.mk (IsS90.below (iS HI0) hb); have n3_ := Aside0.mk (KeepBut.trans (iK HK) (KeepBut.of_below hb g none) (.inl rfl)); have n4_ := Aside0.mk (below_step (iD HB) hb); have b9a := Aside0.mk (hbox); have q9a := Aside0.mk ((by rw [hg]; exact (keep_size (w := w) (g := g) (row := none) (iK HK)) : w.heap.size ≤ h9a)); have r9a := Aside0.mk ((Nat.le_trans HW0.out (by rw [hg]; exact (keep_size (w := w) (g := g) (row := none) (iK HK)) : w.heap.size ≤ h9a) : w0.heap.size ≤ h9a)); have i9a := bl c9a hg; have n9a := bg c9a hg; have e9a := Aside0.mk ((by rw [hg]; exact Nat.ne_of_lt (IsS90.lt (show IsS90 w0 _ g s0_0 t210 t211 from iS HI0)) : g ≠ h9a)); have m9a := Aside0.mk ((by rw [hg]; exact Nat.ne_of_gt (IsS90.lt (show IsS90 w0 _ g s0_0 t210 t211 from iS HI0)) : h9a ≠ g)); replace f9a := Aside0.mk (Kd.R_below (rr f9a) hb); replace c9a := bq c9a hb; clear HI0 HK HB; have HI0 := n1_; have HK := n3_; have HB := n4_; clear n1_ n3_ n4_; clear hb hbox hg; obtain ⟨Ao39, co39, eo39⟩ := Kd.R_slice f9a.out; subst eo39; have hnb40 := n9a.out; have hnc40 := i9a.out; have hnb41 := m9a.out; have hnc41 := e9a.out; have hcz42_0 : w38.cell? ⟨h9a, 0, none⟩ = some (.slice none 0 0) := bc b9a 0; have hfz42_0 := blk_frozen b9a.out 0) | ((with_reducible refine gate_callee (f := 64) rfl ?_); refine goesC_ (some 15) Try.func64 #[.pointer (some ⟨g, 0, none⟩), .int .i64 8] ?_; (with_reducible refine (spec_l1Once.calls g s0_0 t210 t211 8 true t214 t215 w0 _ ?side1 ?side2 A4.out).mono ?_); (case side1 => exact iS HI0); (case side2 => exact iD HB); rintro e w43 ⟨rfl, hi, hb, hk⟩; refine ⟨_, rfl, ?_⟩; have n0_ := Aside0.mk (KeepBut.blk hk (g' := j9a) (o := .cells #[.slice none 0 0] 26 (0, 0)) (by (with_reducible repeat first | refine bkN ?_ _ | refine bkD ?_ | refine bkA ?_ _ | refine blk_far ?_ i9a.out _); exact c9a.out) l9a.out (by simp)); have n1_ := Aside0.mk (Kd.R_mono (Kd.R_keep (IsS90.apart (show IsS90 w0 _ g s0_0 t210 t211 from iS HI0) (rX (Kd.R_mono (Kd.R_far (p := ⟨h9a, 0, none⟩) (Kd.R_types f9a.out b9a.out (by decide)) (fun _ hk => hk.2) (.slice Ao39 t207.length co39)) (fun _ h_ => h_.1))) (by decide)) hk (fun _ h => h.2)) (fun _ h => h.1)); have n2_ := Aside0.mk (KeepBut.blk hk (g' := h9a) (o := .cells #[.slice Ao39 t207.length co39] 26 (0, 0)) (by (with_reducible repeat first | refine bkN ?_ _ | refine bkD ?_ | refine bkA ?_ _); refine blk_put (cs := #[.slice none 0 0]) ?_ 0 _ rfl; (with_reducible repeat first | refine bkN ?_ _ | refine bkD ?_ | refine bkA ?_ _); exact b9a.out) m9a.out (by simp)); have n3_ := Aside0.mk (KeepBut.trans (iK HK) hk (.inl rfl)); have n4_ := Aside0.mk (hb); have n5_ := Aside0.mk (hi); clear c9a f9a b9a HK HB HI0; have c9a := n0_; have f9a := n1_; have b9a := n2_; have HK := n3_; have HB := n4_; have HI0 := n5_; clear n0_ n1_ n2_ n3_ n4_ n5_; (try clear hb); (try clear hb2); (try clear hk); (try clear hi)) | ((with_reducible refine gate_callee (f := 65) rfl ?_); refine goesC_ (some 17) Try.func65 #[.pointer (some ⟨g, 0, none⟩), .int .i64 4] ?_; (with_reducible refine (spec_l1Below.calls g s0_0 t214 t215 4 t216 t217 t218 w0 _ ?side1 ?side2 A6.out).mono ?_); (case side1 => exact iS HI0); (case side2 => exact iD HB); rintro e w44 ⟨rfl, hi, hb, hk⟩; refine ⟨_, rfl, ?_⟩; have n0_ := Aside0.mk (KeepBut.blk hk (g' := j9a) (o := .cells #[.slice none 0 0] 26 (0, 0)) kB l9a.out (by simp)); have n1_ := Aside0.mk (Kd.R_mono (Kd.R_keep (IsS90.apart (show IsS90 w0 _ g s0_0 t214 t215 from iS HI0) (rr f9a) (by decide)) hk (fun _ h => h.2)) (fun _ h => h.1)); have n2_ := Aside0.mk (KeepBut.blk hk (g' := h9a) (o := .cells #[.slice Ao39 t207.length co39] 26 (0, 0)) kB m9a.out (by simp)); have n3_ := Aside0.mk (KeepBut.trans (iK HK) hk (.inl rfl)); have n4_ := Aside0.mk (hb); have n5_ := Aside0.mk (hi); clear c9a f9a b9a HK HB HI0; have c9a := n0_; have f9a := n1_; have b9a := n2_; have HK := n3_; have HB := n4_; have HI0 := n5_; clear n0_ n1_ n2_ n3_ n4_ n5_; (try clear hb); (try clear hb2); (try clear hk); (try clear hi); have hcz45_0 : w44.cell? ⟨h9a, 0, none⟩ = some (.slice Ao39 t207.length co39) := bc b9a 0; have hfz45_0 := blk_frozen b9a.out 0))
        have n0_ := Aside0.mk (Kd.R_drew f9a.out)
        have n1_ := Aside0.mk (blk_drew c9a.out)
        have n2_ := Aside0.mk (blk_drew b9a.out)
        have n3_ := Aside0.mk (IsS90.drew HI0.out)
        have n4_ := Aside0.mk (keep_drew HK.out)
        have n5_ := Aside0.mk (below_drew1 HB.out)
        clear f9a c9a b9a HI0 HK HB; have f9a := n0_; have c9a := n1_; have b9a := n2_; have HI0 := n3_; have HK := n4_; have HB := n5_; clear n0_ n1_ n2_ n3_ n4_ n5_; have p231 : 0 ≤ (t228 : Int) := oD
        have q231 : t228 < (t207.length : Int) := oD
        obtain ⟨H9a, e231, hx231_0, hx231_1⟩ := at_T95 (Kd.R_reads' f9a.out).2.2 t228 p231 q231
        cases e231
        replace p231 := eq_true p231
        replace q231 := eq_true q231
        refine start_ (n := 15) (S := fun w' => w'.cell? ⟨h9a, 0, none⟩ = some (.slice (some H9a) t207.length co39) ∧ w'.cell? (H9a.add ((t228).toNat * 2)) = some (.int .i64 ((rd_T95 t207 t228).f0)) ∧ w'.cell? ⟨(H9a.add ((t228).toNat * 2)).block, (H9a.add ((t228).toNat * 2)).off + 1, none⟩ = some (.int .i64 ((rd_T95 t207 t228).f1))) (ds := [12, 14]) #[ff,ff,ff,ff,ff,ff,ff,ff,ff,ff,ff,ff,ff,ff,ff] (by kernel_rfl) rfl rfl ⟨bc b9a 0, hx231_0, hx231_1⟩ (fun hHeld => ?_); refine with_tabW spec_l7Any.tab14 spec_l7Any.bits14 (fun HT_ HW_ => ?_)
        generalize w44.drew = w46 at f9a c9a b9a HI0 HK HB hx231_0 hx231_1 hHeld ⊢
        refine pu 0 56 (tb 15 1) HT_ ?_
        refine pu 2 58 (tb 15 5) HT_ ?_
        refine pu 4 60 (tb 15 21) HT_ ?_
        refine pu 5 61 (tb 15 53) HT_ ?_
        refine tk 1 57 (tb 15 55) rfl rfl HT_ HW_ hHeld (by rintro w' ⟨s0, s1, s2⟩; go_simp; with_reducible rfl) ?_
        refine tk 3 59 (tb 15 63) rfl rfl HT_ HW_ hHeld (by rintro w' ⟨s0, s1, s2⟩; go_simp; with_reducible rfl) ?_
        refine tk 6 62 (tb 15 127) rfl rfl HT_ HW_ hHeld (by rintro w' ⟨s0, s1, s2⟩; go_simp; with_reducible rfl) ?_
        refine pu 7 63 (tb 15 255) HT_ ?_
        refine one_ (i := 8) (N := some 64) #[tt,tt,tt,tt,tt,tt,tt,tt,tt,ff,ff,ff,ff,ff,ff] rfl rfl (one_of HT_.out (by kernel_rfl)) (by decide) (fun K hK => ?_)
        refine goes_ Try.func65 (by kernel_rfl) rfl #[.pointer (some ⟨g, 0, none⟩), .int .i64 (t207.length : Int)] (by rfl) rfl rfl (by (try simp only [List.map_toArray, List.map_cons, List.map_nil]); first | done | rfl | (simp only [List.length_drop, List.length_take]; rfl)) ?_
        with_reducible refine (spec_l1Below.calls g s0_0 t217 t218 (t207.length : Int) t228 t229 t230 w0 _ ?side1 ?side2 A32.out).mono ?_
        (case side1 => exact iS HI0)
        (case side2 => exact iD HB)
        rintro e w47 ⟨rfl, hi, hb, hk⟩
        have HS1_ := keep_cell hk (hHeld.2.1) (by first | (rw [add_block]; exact Kd.own_blk (IsS90.own_ne HI0.out f9a.out (by decide))) | (show (Addr.add _ _).block ≠ _; rw [add_block]; exact Kd.own_blk (IsS90.own_ne HI0.out f9a.out (by decide))) | exact Kd.own_blk (IsS90.own_ne HI0.out f9a.out (by decide)))
        have HS2_ := keep_cell hk (hHeld.2.2) (by first | (rw [add_block]; exact Kd.own_blk (IsS90.own_ne HI0.out f9a.out (by decide))) | (show (Addr.add _ _).block ≠ _; rw [add_block]; exact Kd.own_blk (IsS90.own_ne HI0.out f9a.out (by decide))) | exact Kd.own_blk (IsS90.own_ne HI0.out f9a.out (by decide)))
        refine ⟨_, rfl, ?_⟩
        have n0_ := Aside0.mk (KeepBut.blk hk (g' := j9a) (o := .cells #[.slice none 0 0] 26 (0, 0)) kB l9a.out (by simp))
        have n1_ := Aside0.mk (Kd.R_mono (Kd.R_keep (IsS90.apart (show IsS90 w0 _ g s0_0 t217 t218 from iS HI0) (rr f9a) (by decide)) hk (fun _ h => h.2)) (fun _ h => h.1))
        have n2_ := Aside0.mk (KeepBut.blk hk (g' := h9a) (o := .cells #[.slice (some H9a) t207.length co39] 26 (0, 0)) kB m9a.out (by simp))
        have n3_ := Aside0.mk (KeepBut.trans (iK HK) hk (.inl rfl))
        have n4_ := Aside0.mk (hb)
        have n5_ := Aside0.mk (hi)
        clear c9a f9a b9a HK HB HI0; have c9a := n0_; have f9a := n1_; have b9a := n2_; have HK := n3_; have HB := n4_; have HI0 := n5_; clear n0_ n1_ n2_ n3_ n4_ n5_; (try clear hb); (try clear hb2); (try clear hk); (try clear hi); refine hK.out _ _ ⟨bc b9a 0, HS1_, HS2_⟩ (fun hHeld => ?_)
        clear hK K; refine norm_ (a' := ?_) ?_ ?_
        rotate_left
        ·show Act.put _ (some 64) _ = _
         simp only [putL, i64_w, i32_w]; rfl
        refine pu 9 65 (tb 15 1023) HT_ ?_
        refine tk 10 66 (tb 15 2047) rfl rfl HT_ HW_ hHeld (by rintro w' ⟨s0, s1, s2⟩; go_simp; with_reducible rfl) ?_
        refine one_ (i := 11) (N := some 67) #[tt,tt,tt,tt,tt,tt,tt,tt,tt,tt,tt,tt,ff,ff,ff] rfl rfl (one_of HT_.out (by kernel_rfl)) (by decide) (fun K hK => ?_)
        refine value_ (w1 := ?_) (v := ?_) (by rfl) rfl ?_ ?_
        rotate_left 2
        ·go_simp
         constructor
         ·rfl
         ·rfl
        refine hK.out _ _ ⟨(blk_cell (blk_alloc b9a.out _) 0).trans rfl, (World.cell?_alloc_lt _ _ _ (World.block_lt_of_cell? _ _ (hHeld.2.1))).trans (hHeld.2.1), (World.cell?_alloc_lt _ _ _ (World.block_lt_of_cell? _ _ (hHeld.2.2))).trans (hHeld.2.2)⟩ (fun hHeld => ?_)
        clear hK K; refine norm_ (a' := ?_) ?_ ?_
        rotate_left
        ·show Act.put _ (some 67) _ = _
         simp only [putL, i64_w, i32_w]; rfl
        refine last_ (i := 12) (N := some 68) #[tt,tt,tt,tt,tt,tt,tt,tt,tt,tt,tt,tt,tt,ff,ff] rfl rfl (one_of HT_.out (by kernel_rfl)) (by decide) (fun K hK => ?_)
        refine Kd.R_append_step k95 w.heap.size (by rfl) (.tmp 57) (.tmp 67) 24 95 (.agg #[(.int .i64 0), (.int .i64 0)]) 16 rfl Try.underlying24 info95 rfl (by decide) (by omega) (.slice (some H9a) t207.length co39) t207 (⟨(rd_T95 t207 t228).f0, (rd_T95 t207 t228).f1⟩ : S95) [.int .i64 ((rd_T95 t207 t228).f0), .int .i64 ((rd_T95 t207 t228).f1)] (fun _ => True) (fun _ => False) rfl rfl ?aP (fun _ hk => hk.elim) ?aF ?aO (Below.refl _ _) ?aS ?aL ?_
        (case aP => exact k95_mkM _ _ _ (⟨(rd_T95 t207 t228).f0, (rd_T95 t207 t228).f1⟩ : S95))
        (case aF => exact (fun _ _ => trivial))
        (case aO => exact (rr f9a))
        (case aS => exact (keep_size (w := w) (g := g) (row := none) (iK HK)))
        (case aL => have := LMc35.out; omega)
        intro v233 w48 ho hb hg hat
        rw [← Ny232.out] at ho
        have n0_ := Aside0.mk (IsS90.grown (iS HI0) hg (IsS90.own_ne HI0.out f9a.out (by decide)))
        have n1_ := Aside0.mk (blk_grown (g := j9a) (o := .cells #[.slice none 0 0] 26 (0, 0)) kB hg (Kd.R_ne f9a.out c9a.out (by decide)))
        have n2_ := Aside0.mk (blk_grown (g := h9a) (o := .cells #[.slice (some H9a) t207.length co39] 26 (0, 0)) kB hg (Kd.R_ne f9a.out b9a.out (by decide)))
        have n3_ := Aside0.mk (below_weaken (iD HB) HL.out hb)
        have n4_ := Aside0.mk (KeepBut.trans (iK HK) (KeepBut.of_grown hg g) (Kd.R_base2 f9a.out))
        have HO234 := Aside0.mk (ho)
        clear f9a HI0 c9a b9a HB HK; have HI0 := n0_; have c9a := n1_; have b9a := n2_; have HB := n3_; have HK := n4_; clear n0_ n1_ n2_ n3_ n4_; clear ho hb hg hat; obtain ⟨Ao49, co49, eo49⟩ := Kd.R_slice HO234.out
        (first | subst eo49 | (injection eo49 with f1_ f2_ f3_; have f4_ := f1_.symm; have f5_ := f3_.symm; clear f1_ f2_ f3_; subst f4_; subst f5_))
        refine hK.out _ _ ?_
        clear hK K; refine norm_ (a' := ?_) ?_ ?_
        rotate_left
        ·show Act.put _ (some 68) _ = _
         simp only [putL, i64_w, i32_w]; rfl
        refine pu 13 69 (tb 15 16383) HT_ ?_
        refine last_ (i := 14) (N := none) #[tt,tt,tt,tt,tt,tt,tt,tt,tt,tt,tt,tt,tt,tt,tt] rfl rfl (one_of HT_.out (by kernel_rfl)) (by decide) (fun K hK => ?_)
        have hs50 : w48.cell? ⟨h9a, 0, none⟩ = some (.slice (some H9a) t207.length co39) := bc b9a 0
        have hfs50 := blk_frozen b9a.out 0; have hns50_0 := i9a.out; have hms50_0 := n9a.out; refine skip_ (w1 := ?_) (by rfl) rfl ?_ ?_
        rotate_left
        ·go_simp; rfl
        refine hK.out _ _ ?_
        clear hK K; refine done_ (done_of HT_.out (by kernel_rfl)) ?_
        have hcz51_0 : w48.cell? ⟨h9a, 0, none⟩ = some (.slice (some H9a) t207.length co39) := bc b9a 0
        have hfz51_0 := blk_frozen b9a.out 0; have hnb52 := l9a.out; have hnc52 := a9a.out; have hcz53_0 : w48.cell? ⟨j9a, 0, none⟩ = some (.slice none 0 0) := bc c9a 0
        have hfz53_0 := blk_frozen c9a.out 0
        try go_wp2
        refine bodyPost_ret (results_cell_row rfl _ _ j9a 26 #[.slice Ao49 y232.length co49] (0, 0) _ rfl (by (with_reducible repeat first | refine bkN ?_ _ | refine bkD ?_ | refine bkA ?_ _); refine blk_put (cs := #[.slice none 0 0]) ?_ 0 _ rfl; (with_reducible repeat first | refine bkN ?_ _ | refine bkD ?_ | refine bkA ?_ _ | refine blk_far ?_ i9a.out _); exact c9a.out) Try.underlying26 rfl (by kernel_rfl)) rfl ?_
        exact ⟨_, eR, rX (Kd.R_mono (Kd.R_far (p := ⟨j9a, 0, none⟩) (Kd.R_far (p := ⟨h9a, 0, none⟩) (Kd.R_types (Kd.R_types HO234.out b9a.out (by decide)) c9a.out (by decide)) (fun _ hk => hk.1.2) (.slice Ao49 y232.length co49)) (fun _ hk => hk.2) (.slice Ao49 y232.length co49)) (fun _ hk => trivial)), iS HI0, iD HB, iK HK⟩
       ·rw [if_neg c35] at H
        exact absurd H (by simp)
      ·rw [if_neg c34] at H
       exact absurd H (by simp)
     ·rw [if_neg c33] at H
      exact absurd H (by simp)
    ·rw [if_neg c31] at H
     have c31b0 : decide (0 < (t207.length : Int)) = false := decide_eq_false c31
     have c31b1 : decide (0 < t207.length) = false := decide_eq_false (by omega)
     clear c31; simp only [Option.some.injEq, Prod.mk.injEq] at H
     obtain ⟨rfl, rfl, rfl⟩ := H
     go_enter Try.func33, Try.ntmps33
     go_wp2_with (first | ((with_reducible refine gate_dst (N := 4) rfl ?_); refine bX 4 #[.slice none 0 0] 26 ?_; intro j9a hg w54 hbox hb; have n0_ := Aside0.mk (IsS90.below (iS HI0) hb); have n1_ := Aside0.mk (KeepBut.trans (iK HK) (KeepBut.of_below hb g none) (.inl rfl)); have n2_ := Aside0.mk (below_step (iD HB) hb); have c9a := Aside0.mk (hbox); have k9a := Aside0.mk ((by rw [hg]; exact (keep_size (w := w) (g := g) (row := none) (iK HK)) : w.heap.size ≤ j9a)); have p9a := Aside0.mk ((Nat.le_trans HW0.out (by rw [hg]; exact (keep_size (w := w) (g := g) (row := none) (iK HK)) : w.heap.size ≤ j9a) : w0.heap.size ≤ j9a)); have a9a := Aside0.mk ((by rw [hg]; exact Nat.ne_of_lt (IsS90.lt (show IsS90 w0 _ g s0_0 s0_1 s0_2 from iS HI0)) : g ≠ j9a)); have l9a := Aside0.mk ((by rw [hg]; exact Nat.ne_of_gt (IsS90.lt (show IsS90 w0 _ g s0_0 s0_1 s0_2 from iS HI0)) : j9a ≠ g)); clear HI0 HK HB; have HI0 := n0_; have HK := n1_; have HB := n2_; clear n0_ n1_ n2_; clear hb hbox hg) | ((with_reducible refine gate_callee (f := 63) rfl ?_); refine goesC_ (some 13) Try.func63 #[.pointer (some ⟨g, 0, none⟩), .int .i64 a1] ?_; (with_reducible refine (spec_l7Draw.calls k g s0_0 s0_1 s0_2 a1 t207 t210 t211 w0 _ ?side1 ?side2 A3.out).mono ?_); (case side1 => exact iS HI0); (case side2 => exact iD HB); rintro e w55 ⟨v208, rfl, ho0, hi, hb, hk⟩; refine ⟨_, rfl, ?_⟩; have n0_ := Aside0.mk (KeepBut.blk hk (g' := j9a) (o := .cells #[.slice none 0 0] 26 (0, 0)) kB l9a.out (by simp)); have n2_ := Aside0.mk (KeepBut.trans (iK HK) hk (.inl rfl)); have n3_ := Aside0.mk (hb); have n4_ := Aside0.mk (hi); have f9a := Aside0.mk (Kd.R_lower ho0 (keep_size (w := w) (g := g) (row := none) (iK HK))); clear c9a HK HB HI0; have c9a := n0_; have HK := n2_; have HB := n3_; have HI0 := n4_; clear n0_ n2_ n3_ n4_; (try clear hb); (try clear hb2); (try clear hk); (try clear hi)) | ((with_reducible refine gate_dst (N := 5) rfl ?_); refine bX 5 #[.slice none 0 0] 26 ?_; intro h9a hg w56 hbox hb; have n1_ := Aside0.mk (IsS90.below (iS HI0) hb); have n3_ := Aside0.mk (KeepBut.trans (iK HK) (KeepBut.of_below hb g none) (.inl rfl)); have n4_ := Aside0.mk (below_step (iD HB) hb); have b9a := Aside0.mk (hbox); have q9a := Aside0.mk ((by rw [hg]; exact (keep_size (w := w) (g := g) (row := none) (iK HK)) : w.heap.size ≤ h9a)); have r9a := Aside0.mk ((Nat.le_trans HW0.out (by rw [hg]; exact (keep_size (w := w) (g := g) (row := none) (iK HK)) : w.heap.size ≤ h9a) : w0.heap.size ≤ h9a)); have i9a := bl c9a hg; have n9a := bg c9a hg; have e9a := Aside0.mk ((by rw [hg]; exact Nat.ne_of_lt (IsS90.lt (show IsS90 w0 _ g s0_0 t210 t211 from iS HI0)) : g ≠ h9a)); have m9a := Aside0.mk ((by rw [hg]; exact Nat.ne_of_gt (IsS90.lt (show IsS90 w0 _ g s0_0 t210 t211 from iS HI0)) : h9a ≠ g)); replace f9a := Aside0.mk (Kd.R_below (rr f9a) hb); replace c9a := bq c9a hb; clear HI0 HK HB; have HI0 := n1_; have HK := n3_; have HB := n4_; clear n1_ n3_ n4_; clear hb hbox hg; obtain ⟨Ao57, co57, eo57⟩ := Kd.R_slice f9a.out; subst eo57; have hnb58 := n9a.out; have hnc58 := i9a.out; have hnb59 := m9a.out; have hnc59 := e9a.out; have hcz60_0 : w56.cell? ⟨h9a, 0, none⟩ = some (.slice none 0 0) := bc b9a 0; have hfz60_0 := blk_frozen b9a.out 0) | ((with_reducible refine gate_callee (f := 64) rfl ?_); refine goesC_ (some 15) Try.func64 #[.pointer (some ⟨g, 0, none⟩), .int .i64 8] ?_; (with_reducible refine (spec_l1Once.calls g s0_0 t210 t211 8 true t214 t215 w0 _ ?side1 ?side2 A4.out).mono ?_); (case side1 => exact iS HI0); (case side2 => exact iD HB); rintro e w61 ⟨rfl, hi, hb, hk⟩; refine ⟨_, rfl, ?_⟩; have n0_ := Aside0.mk (KeepBut.blk hk (g' := j9a) (o := .cells #[.slice none 0 0] 26 (0, 0)) (by (with_reducible repeat first | refine bkN ?_ _ | refine bkD ?_ | refine bkA ?_ _ | refine blk_far ?_ i9a.out _); exact c9a.out) l9a.out (by simp)); have n1_ := Aside0.mk (Kd.R_mono (Kd.R_keep (IsS90.apart (show IsS90 w0 _ g s0_0 t210 t211 from iS HI0) (rX (Kd.R_mono (Kd.R_far (p := ⟨h9a, 0, none⟩) (Kd.R_types f9a.out b9a.out (by decide)) (fun _ hk => hk.2) (.slice Ao57 t207.length co57)) (fun _ h_ => h_.1))) (by decide)) hk (fun _ h => h.2)) (fun _ h => h.1)); have n2_ := Aside0.mk (KeepBut.blk hk (g' := h9a) (o := .cells #[.slice Ao57 t207.length co57] 26 (0, 0)) (by (with_reducible repeat first | refine bkN ?_ _ | refine bkD ?_ | refine bkA ?_ _); refine blk_put (cs := #[.slice none 0 0]) ?_ 0 _ rfl; (with_reducible repeat first | refine bkN ?_ _ | refine bkD ?_ | refine bkA ?_ _); exact b9a.out) m9a.out (by simp)); have n3_ := Aside0.mk (KeepBut.trans (iK HK) hk (.inl rfl)); have n4_ := Aside0.mk (hb); have n5_ := Aside0.mk (hi); clear c9a f9a b9a HK HB HI0; have c9a := n0_; have f9a := n1_; have b9a := n2_; have HK := n3_; have HB := n4_; have HI0 := n5_; clear n0_ n1_ n2_ n3_ n4_ n5_; (try clear hb); (try clear hb2); (try clear hk); (try clear hi)) | ((with_reducible refine gate_callee (f := 65) rfl ?_); refine goesC_ (some 17) Try.func65 #[.pointer (some ⟨g, 0, none⟩), .int .i64 4] ?_; (with_reducible refine (spec_l1Below.calls g s0_0 t214 t215 4 t216 t217 t218 w0 _ ?side1 ?side2 A6.out).mono ?_); (case side1 => exact iS HI0); (case side2 => exact iD HB); rintro e w62 ⟨rfl, hi, hb, hk⟩; refine ⟨_, rfl, ?_⟩; have n0_ := Aside0.mk (KeepBut.blk hk (g' := j9a) (o := .cells #[.slice none 0 0] 26 (0, 0)) kB l9a.out (by simp)); have n1_ := Aside0.mk (Kd.R_mono (Kd.R_keep (IsS90.apart (show IsS90 w0 _ g s0_0 t214 t215 from iS HI0) (rr f9a) (by decide)) hk (fun _ h => h.2)) (fun _ h => h.1)); have n2_ := Aside0.mk (KeepBut.blk hk (g' := h9a) (o := .cells #[.slice Ao57 t207.length co57] 26 (0, 0)) kB m9a.out (by simp)); have n3_ := Aside0.mk (KeepBut.trans (iK HK) hk (.inl rfl)); have n4_ := Aside0.mk (hb); have n5_ := Aside0.mk (hi); clear c9a f9a b9a HK HB HI0; have c9a := n0_; have f9a := n1_; have b9a := n2_; have HK := n3_; have HB := n4_; have HI0 := n5_; clear n0_ n1_ n2_ n3_ n4_ n5_; (try clear hb); (try clear hb2); (try clear hk); (try clear hi); have hcz63_0 : w62.cell? ⟨h9a, 0, none⟩ = some (.slice Ao57 t207.length co57) := bc b9a 0; have hfz63_0 := blk_frozen b9a.out 0; have hnb64 := l9a.out; have hnc64 := a9a.out; have hcz65_0 : w62.cell? ⟨j9a, 0, none⟩ = some (.slice none 0 0) := bc c9a 0; have hfz65_0 := blk_frozen c9a.out 0))
     refine bodyPost_ret (results_cell_row rfl _ _ j9a 26 #[.slice Ao57 t207.length co57] (0, 0) _ rfl (by (with_reducible repeat first | refine bkN ?_ _ | refine bkD ?_ | refine bkA ?_ _); refine blk_put (cs := #[.slice none 0 0]) ?_ 0 _ rfl; (with_reducible repeat first | refine bkN ?_ _ | refine bkD ?_ | refine bkA ?_ _); exact c9a.out) Try.underlying26 rfl (by kernel_rfl)) rfl ?_
     exact ⟨_, eR, rX (Kd.R_mono (Kd.R_far (p := ⟨j9a, 0, none⟩) (Kd.R_types f9a.out c9a.out (by decide)) (fun _ hk => hk.2) (.slice Ao57 t207.length co57)) (fun _ hk => trivial)), iS HI0, iD HB, iK HK⟩
   ·rw [if_neg c30] at H
    have c30b0 : (t216 == 1) = false := beq_eq_false_iff_ne.mpr c30
    have c30b1 : (t216 != 1) = true := bne_iff_ne.mpr c30
    by_cases c66 : t216 = 2
    ·rw [if_pos c66] at H
     have c66b0 : (t216 == 2) = true := beq_iff_eq.mpr c66
     have c66b1 : (t216 != 2) = false := bne_eq_false_iff_eq.mpr c66
     clear c66; have H' := Aside0.mk H
     clear H
     go_enter Try.func33, Try.ntmps33
     go_wp2_with (first | ((with_reducible refine gate_dst (N := 4) rfl ?_); refine bX 4 #[.slice none 0 0] 26 ?_; intro j9a hg w67 hbox hb; have n0_ := Aside0.mk (IsS90.below (iS HI0) hb); have n1_ := Aside0.mk (KeepBut.trans (iK HK) (KeepBut.of_below hb g none) (.inl rfl)); have n2_ := Aside0.mk (below_step (iD HB) hb); have c9a := Aside0.mk (hbox); have k9a := Aside0.mk ((by rw [hg]; exact (keep_size (w := w) (g := g) (row := none) (iK HK)) : w.heap.size ≤ j9a)); have p9a := Aside0.mk ((Nat.le_trans HW0.out (by rw [hg]; exact (keep_size (w := w) (g := g) (row := none) (iK HK)) : w.heap.size ≤ j9a) : w0.heap.size ≤ j9a)); have a9a := Aside0.mk ((by rw [hg]; exact Nat.ne_of_lt (IsS90.lt (show IsS90 w0 _ g s0_0 s0_1 s0_2 from iS HI0)) : g ≠ j9a)); have l9a := Aside0.mk ((by rw [hg]; exact Nat.ne_of_gt (IsS90.lt (show IsS90 w0 _ g s0_0 s0_1 s0_2 from iS HI0)) : j9a ≠ g)); clear HI0 HK HB; have HI0 := n0_; have HK := n1_; have HB := n2_; clear n0_ n1_ n2_; clear hb hbox hg) | ((with_reducible refine gate_callee (f := 63) rfl ?_); refine goesC_ (some 13) Try.func63 #[.pointer (some ⟨g, 0, none⟩), .int .i64 a1] ?_; (with_reducible refine (spec_l7Draw.calls k g s0_0 s0_1 s0_2 a1 t207 t210 t211 w0 _ ?side1 ?side2 A3.out).mono ?_); (case side1 => exact iS HI0); (case side2 => exact iD HB); rintro e w68 ⟨v208, rfl, ho0, hi, hb, hk⟩; refine ⟨_, rfl, ?_⟩; have n0_ := Aside0.mk (KeepBut.blk hk (g' := j9a) (o := .cells #[.slice none 0 0] 26 (0, 0)) kB l9a.out (by simp)); have n2_ := Aside0.mk (KeepBut.trans (iK HK) hk (.inl rfl)); have n3_ := Aside0.mk (hb); have n4_ := Aside0.mk (hi); have f9a := Aside0.mk (Kd.R_lower ho0 (keep_size (w := w) (g := g) (row := none) (iK HK))); clear c9a HK HB HI0; have c9a := n0_; have HK := n2_; have HB := n3_; have HI0 := n4_; clear n0_ n2_ n3_ n4_; (try clear hb); (try clear hb2); (try clear hk); (try clear hi)) | ((with_reducible refine gate_dst (N := 5) rfl ?_); refine bX 5 #[.slice none 0 0] 26 ?_; intro h9a hg w69 hbox hb; have n1_ := Aside0.mk (IsS90.below (iS HI0) hb); have n3_ := Aside0.mk (KeepBut.trans (iK HK) (KeepBut.of_below hb g none) (.inl rfl)); have n4_ := Aside0.mk (below_step (iD HB) hb); have b9a := Aside0.mk (hbox); have q9a := Aside0.mk ((by rw [hg]; exact (keep_size (w := w) (g := g) (row := none) (iK HK)) : w.heap.size ≤ h9a)); have r9a := Aside0.mk ((Nat.le_trans HW0.out (by rw [hg]; exact (keep_size (w := w) (g := g) (row := none) (iK HK)) : w.heap.size ≤ h9a) : w0.heap.size ≤ h9a)); have i9a := bl c9a hg; have n9a := bg c9a hg; have e9a := Aside0.mk ((by rw [hg]; exact Nat.ne_of_lt (IsS90.lt (show IsS90 w0 _ g s0_0 t210 t211 from iS HI0)) : g ≠ h9a)); have m9a := Aside0.mk ((by rw [hg]; exact Nat.ne_of_gt (IsS90.lt (show IsS90 w0 _ g s0_0 t210 t211 from iS HI0)) : h9a ≠ g)); replace f9a := Aside0.mk (Kd.R_below (rr f9a) hb); replace c9a := bq c9a hb; clear HI0 HK HB; have HI0 := n1_; have HK := n3_; have HB := n4_; clear n1_ n3_ n4_; clear hb hbox hg; obtain ⟨Ao70, co70, eo70⟩ := Kd.R_slice f9a.out; subst eo70; have hnb71 := n9a.out; have hnc71 := i9a.out; have hnb72 := m9a.out; have hnc72 := e9a.out; have hcz73_0 : w69.cell? ⟨h9a, 0, none⟩ = some (.slice none 0 0) := bc b9a 0; have hfz73_0 := blk_frozen b9a.out 0) | ((with_reducible refine gate_callee (f := 64) rfl ?_); refine goesC_ (some 15) Try.func64 #[.pointer (some ⟨g, 0, none⟩), .int .i64 8] ?_; (with_reducible refine (spec_l1Once.calls g s0_0 t210 t211 8 true t214 t215 w0 _ ?side1 ?side2 A4.out).mono ?_); (case side1 => exact iS HI0); (case side2 => exact iD HB); rintro e w74 ⟨rfl, hi, hb, hk⟩; refine ⟨_, rfl, ?_⟩; have n0_ := Aside0.mk (KeepBut.blk hk (g' := j9a) (o := .cells #[.slice none 0 0] 26 (0, 0)) (by (with_reducible repeat first | refine bkN ?_ _ | refine bkD ?_ | refine bkA ?_ _ | refine blk_far ?_ i9a.out _); exact c9a.out) l9a.out (by simp)); have n1_ := Aside0.mk (Kd.R_mono (Kd.R_keep (IsS90.apart (show IsS90 w0 _ g s0_0 t210 t211 from iS HI0) (rX (Kd.R_mono (Kd.R_far (p := ⟨h9a, 0, none⟩) (Kd.R_types f9a.out b9a.out (by decide)) (fun _ hk => hk.2) (.slice Ao70 t207.length co70)) (fun _ h_ => h_.1))) (by decide)) hk (fun _ h => h.2)) (fun _ h => h.1)); have n2_ := Aside0.mk (KeepBut.blk hk (g' := h9a) (o := .cells #[.slice Ao70 t207.length co70] 26 (0, 0)) (by (with_reducible repeat first | refine bkN ?_ _ | refine bkD ?_ | refine bkA ?_ _); refine blk_put (cs := #[.slice none 0 0]) ?_ 0 _ rfl; (with_reducible repeat first | refine bkN ?_ _ | refine bkD ?_ | refine bkA ?_ _); exact b9a.out) m9a.out (by simp)); have n3_ := Aside0.mk (KeepBut.trans (iK HK) hk (.inl rfl)); have n4_ := Aside0.mk (hb); have n5_ := Aside0.mk (hi); clear c9a f9a b9a HK HB HI0; have c9a := n0_; have f9a := n1_; have b9a := n2_; have HK := n3_; have HB := n4_; have HI0 := n5_; clear n0_ n1_ n2_ n3_ n4_ n5_; (try clear hb); (try clear hb2); (try clear hk); (try clear hi)) | ((with_reducible refine gate_callee (f := 65) rfl ?_); refine goesC_ (some 17) Try.func65 #[.pointer (some ⟨g, 0, none⟩), .int .i64 4] ?_; (with_reducible refine (spec_l1Below.calls g s0_0 t214 t215 4 t216 t217 t218 w0 _ ?side1 ?side2 A6.out).mono ?_); (case side1 => exact iS HI0); (case side2 => exact iD HB); rintro e w75 ⟨rfl, hi, hb, hk⟩; refine ⟨_, rfl, ?_⟩; have n0_ := Aside0.mk (KeepBut.blk hk (g' := j9a) (o := .cells #[.slice none 0 0] 26 (0, 0)) kB l9a.out (by simp)); have n1_ := Aside0.mk (Kd.R_mono (Kd.R_keep (IsS90.apart (show IsS90 w0 _ g s0_0 t214 t215 from iS HI0) (rr f9a) (by decide)) hk (fun _ h => h.2)) (fun _ h => h.1)); have n2_ := Aside0.mk (KeepBut.blk hk (g' := h9a) (o := .cells #[.slice Ao70 t207.length co70] 26 (0, 0)) kB m9a.out (by simp)); have n3_ := Aside0.mk (KeepBut.trans (iK HK) hk (.inl rfl)); have n4_ := Aside0.mk (hb); have n5_ := Aside0.mk (hi); clear c9a f9a b9a HK HB HI0; have c9a := n0_; have f9a := n1_; have b9a := n2_; have HK := n3_; have HB := n4_; have HI0 := n5_; clear n0_ n1_ n2_ n3_ n4_ n5_; (try clear hb); (try clear hb2); (try clear hk); (try clear hi)))
     go_loopg [6] k (fun kq v6 w' => ∃ (x6_1 : Int) (d9a : List (S95)) (t9a : Value), v6 = .int .i64 x6_1 ∧ Aside0 (spec_l7Any.l0 kq x6_1 s0_0 t217 t218 d9a = some (r1, r2, r3)) ∧ Aside0 (kq ≤ k) ∧ Aside0 (Kd.R k95 95 w' w.heap.size (fun _ => True) t9a d9a) ∧ Aside0 (w'.heap[j9a]? = some (.cells #[(.slice none 0 0)] 26 (0, 0))) ∧ Aside0 (w'.heap[h9a]? = some (.cells #[t9a] 26 (0, 0))) ∧ Aside0 (IsS90 w0 w' g s0_0 t217 t218) ∧ Aside0 (KeepBut w w' g none) ∧ Aside0 (Below w0.heap.size w0 w'))
     case atStart => exact ⟨(0), (t207), (.slice Ao70 t207.length co70), sR, H', ⟨Nat.le_refl _⟩, ⟨rr f9a⟩, ⟨bb c9a⟩, ⟨bb b9a⟩, ⟨iS HI0⟩, ⟨iK HK⟩, ⟨iD HB⟩⟩
     case round =>
      clear H'
      obtain ⟨x6_1, d9a, t9a, rfl, HA, HK1, g9a, c9a, b9a, HI0, HK, HB⟩ := hrel
      cases gk with
      | zero => exact absurd HA.out (by simp [spec_l7Any.l0])
      | succ k1 =>
       have H := HA.out; clear HA; simp only [spec_l7Any.l0] at H
       by_cases c76 : x6_1 < 6
       ·rw [if_pos c76] at H
        have c76b0 : decide (x6_1 < 6) = true := decide_eq_true c76
        clear c76
        by_cases c77 : (d9a.length : Int) > 0
        ·rw [if_pos c77] at H
         have c77b0 : decide (0 < (d9a.length : Int)) = true := decide_eq_true c77
         have c77b1 : decide (0 < d9a.length) = true := decide_eq_true (by omega)
         clear c77
         by_cases c78 : d9a.length < 8796093022208
         ·rw [if_pos c78] at H
          have LMc78 := Aside0.mk c78
          clear c78; obtain ⟨y236, hy236⟩ : ∃ y_ : List (S95), y_ = (d9a ++ [(⟨wrap64 (255 + (d9a.length : Int)), wrap64 (255 + (d9a.length : Int))⟩ : S95)]) := ⟨_, rfl⟩
          replace H : (spec_l7Any.l0 k1 (wrap64 (x6_1 + 1)) s0_0 t217 t218 y236) = some (r1, r2, r3) := by first | (rw [hy236]; with_reducible exact H) | (have H2_ := (Option.bind_some _ _).symm.trans H; rw [hy236]; with_reducible exact H2_) | (have H2_ := (Option.bind_some _ _).symm.trans H; with_reducible exact H2_) | with_reducible exact H | (rw [hy236]; exact H) | exact H
          have Ny236 := Aside0.mk hy236
          clear hy236; have H' := Aside0.mk H
          clear H; have hnb79 := n9a.out; have hnc79 := i9a.out; have hnb80 := m9a.out; have hnc80 := e9a.out; have hcz81_0 : wr.cell? ⟨h9a, 0, none⟩ = some (t9a) := bc b9a 0
          have hfz81_0 := blk_frozen b9a.out 0; obtain ⟨Ao82, co82, eo82⟩ := Kd.R_slice g9a.out
          subst eo82
          go_wp2_with (first | ((with_reducible refine gate_dst (N := 8) rfl ?_); refine bX 8 #[.int .i64 0, .int .i64 0] 95 ?_; intro u9a hg w83 hbox hb; have n0_ := Aside0.mk (Kd.R_below (Kd.R_elderB (rr g9a) u9a (Nat.le_of_eq hg.symm)) hb); have n3_ := Aside0.mk (IsS90.below (iS HI0) hb); have n4_ := Aside0.mk (KeepBut.trans (iK HK) (KeepBut.of_below hb g none) (.inl rfl)); have n5_ := Aside0.mk (below_step (iD HB) hb); have B9a := Aside0.mk (hbox); have I9a := Aside0.mk ((by rw [hg]; exact (keep_size (w := w) (g := g) (row := none) (iK HK)) : w.heap.size ≤ u9a)); have GE235 := Aside0.mk ((Nat.le_trans HW0.out (by rw [hg]; exact (keep_size (w := w) (g := g) (row := none) (iK HK)) : w.heap.size ≤ u9a) : w0.heap.size ≤ u9a)); have x9a := bl c9a hg; have E9a := bg c9a hg; have y9a := bl b9a hg; have F9a := bg b9a hg; have A9a := Aside0.mk ((by rw [hg]; exact Nat.ne_of_lt (IsS90.lt (show IsS90 w0 _ g s0_0 t217 t218 from iS HI0)) : g ≠ u9a)); have J9a := Aside0.mk ((by rw [hg]; exact Nat.ne_of_gt (IsS90.lt (show IsS90 w0 _ g s0_0 t217 t218 from iS HI0)) : u9a ≠ g)); replace c9a := bq c9a hb; replace b9a := bq b9a hb; clear g9a HI0 HK HB; have g9a := n0_; have HI0 := n3_; have HK := n4_; have HB := n5_; clear n0_ n3_ n4_ n5_; clear hb hbox hg; have hnb84 := E9a.out; have hnc84 := x9a.out; have hnb85 := F9a.out; have hnc85 := y9a.out; have hnb86 := J9a.out; have hnc86 := A9a.out; obtain ⟨hcz87_0, hcz87_1⟩ := cs2 B9a; obtain ⟨hfz87_0, hfz87_1⟩ := fs2 B9a; have hcq87_0_1 : ∀ v_, (w83.setCell ⟨u9a, 0, none⟩ v_).cell? ⟨u9a, 1, none⟩ = some (.int .i64 0) := (by intro v_; go_simp); have hcz88_0 : w83.cell? ⟨h9a, 0, none⟩ = some (.slice Ao82 d9a.length co82) := bc b9a 0; have hfz88_0 := blk_frozen b9a.out 0) | ((with_reducible refine gate_builtin (b := .append) (xs := #[.tmp 88, .tmp 90]) rfl ?_); at_builtin; refine Kd.R_append k95 w.heap.size rfl (.tmp 88) (.tmp 90) 24 95 (.agg #[(.int .i64 0), (.int .i64 0)]) 16 rfl Try.underlying24 info95 rfl (by decide) (by omega) (.slice Ao82 d9a.length co82) d9a (⟨wrap64 (255 + (d9a.length : Int)), wrap64 (255 + (d9a.length : Int))⟩ : S95) [.int .i64 (wrap64 (255 + (d9a.length : Int))), .int .i64 (wrap64 (255 + (d9a.length : Int)))] (fun k_ => k_ ≠ u9a) (fun _ => False) rfl (by first | (go_simp; done) | (go_simp; rfl)) ?aP (fun _ hk => hk.elim) ?aF ?aO (Below.refl _ _) ?aS ?aL ?_; (case aP => exact k95_mkM _ _ _ (⟨wrap64 (255 + (d9a.length : Int)), wrap64 (255 + (d9a.length : Int))⟩ : S95)); (case aF => exact (fun k_ hk => Kd.freshB (g := u9a) (o := .cells #[.int .i64 (wrap64 (255 + (d9a.length : Int))), .int .i64 (wrap64 (255 + (d9a.length : Int)))] 95 (0, 0)) (by (with_reducible repeat first | refine bkN ?_ _ | refine bkD ?_ | refine bkA ?_ _); refine blk_put (cs := #[.int .i64 (wrap64 (255 + (d9a.length : Int))), .int .i64 97]) ?_ 1 _ rfl; (with_reducible repeat first | refine bkN ?_ _ | refine bkD ?_ | refine bkA ?_ _); refine blk_put (cs := #[.int .i64 97, .int .i64 97]) ?_ 0 _ rfl; (with_reducible repeat first | refine bkN ?_ _ | refine bkD ?_ | refine bkA ?_ _); refine blk_put (cs := #[.int .i64 97, .int .i64 0]) ?_ 1 _ rfl; (with_reducible repeat first | refine bkN ?_ _ | refine bkD ?_ | refine bkA ?_ _); refine blk_put (cs := #[.int .i64 0, .int .i64 0]) ?_ 0 _ rfl; (with_reducible repeat first | refine bkN ?_ _ | refine bkD ?_ | refine bkA ?_ _); exact B9a.out) k_ hk)); (case aO => exact (rX (Kd.R_mono (Kd.R_far (p := ⟨u9a, 1, none⟩) (Kd.R_far (p := ⟨u9a, 0, none⟩) (Kd.R_far (p := ⟨u9a, 1, none⟩) (Kd.R_far (p := ⟨u9a, 0, none⟩) (Kd.R_mono g9a.out (fun k_ hk => (⟨hk, hk.2⟩ : _ ∧ k_ ≠ u9a))) (fun _ hk => hk.2) (.int .i64 97)) (fun _ hk => hk.2) (.int .i64 97)) (fun _ hk => hk.2) (.int .i64 (wrap64 (255 + (d9a.length : Int))))) (fun _ hk => hk.2) (.int .i64 (wrap64 (255 + (d9a.length : Int))))) (fun _ hk => hk.1.2)))); (case aS => exact (keep_size (w := w) (g := g) (row := none) (iK HK))); (case aL => have := LMc78.out; omega); intro v237 w89 ho hb hg hat; rw [← Ny236.out] at ho; have n0_ := Aside0.mk (blk_grown (g := j9a) (o := .cells #[.slice none 0 0] 26 (0, 0)) (by (with_reducible repeat first | refine bkN ?_ _ | refine bkD ?_ | refine bkA ?_ _ | refine blk_far ?_ x9a.out _); exact c9a.out) hg (Kd.R_ne g9a.out c9a.out (by decide))); have n1_ := Aside0.mk (blk_grown (g := h9a) (o := .cells #[.slice Ao82 d9a.length co82] 26 (0, 0)) (by (with_reducible repeat first | refine bkN ?_ _ | refine bkD ?_ | refine bkA ?_ _ | refine blk_far ?_ y9a.out _); exact b9a.out) hg (Kd.R_ne g9a.out b9a.out (by decide))); have n2_ := Aside0.mk (IsS90.grown (show IsS90 w0 _ g s0_0 t217 t218 from iS HI0) hg (IsS90.own_ne HI0.out g9a.out (by decide))); have n3_ := Aside0.mk (blk_grown (g := u9a) (o := .cells #[.int .i64 (wrap64 (255 + (d9a.length : Int))), .int .i64 (wrap64 (255 + (d9a.length : Int)))] 95 (0, 0)) (by (with_reducible repeat first | refine bkN ?_ _ | refine bkD ?_ | refine bkA ?_ _); refine blk_put (cs := #[.int .i64 (wrap64 (255 + (d9a.length : Int))), .int .i64 97]) ?_ 1 _ rfl; (with_reducible repeat first | refine bkN ?_ _ | refine bkD ?_ | refine bkA ?_ _); refine blk_put (cs := #[.int .i64 97, .int .i64 97]) ?_ 0 _ rfl; (with_reducible repeat first | refine bkN ?_ _ | refine bkD ?_ | refine bkA ?_ _); refine blk_put (cs := #[.int .i64 97, .int .i64 0]) ?_ 1 _ rfl; (with_reducible repeat first | refine bkN ?_ _ | refine bkD ?_ | refine bkA ?_ _); refine blk_put (cs := #[.int .i64 0, .int .i64 0]) ?_ 0 _ rfl; (with_reducible repeat first | refine bkN ?_ _ | refine bkD ?_ | refine bkA ?_ _); exact B9a.out) hg (Kd.R_away g9a.out (fun _ hk => hk.2))); have n4_ := Aside0.mk (below_weaken (iD HB) HL.out hb); have n5_ := Aside0.mk (KeepBut.trans (iK HK) (KeepBut.of_grown hg g) (Kd.R_base2 g9a.out)); have HO238 := Aside0.mk (ho); clear g9a c9a b9a HI0 B9a HB HK; have c9a := n0_; have b9a := n1_; have HI0 := n2_; have B9a := n3_; have HB := n4_; have HK := n5_; clear n0_ n1_ n2_ n3_ n4_ n5_; clear ho hb hg hat; obtain ⟨Ao90, co90, eo90⟩ := Kd.R_slice HO238.out; subst eo90; have hcz91_0 : w89.cell? ⟨h9a, 0, none⟩ = some (.slice Ao82 d9a.length co82) := bc b9a 0; have hfz91_0 := blk_frozen b9a.out 0))
          go_roundg k1
          case measure => have := HK1.out; omega
          case rel => exact ⟨(wrap64 (x6_1 + 1)), (y236), (.slice Ao90 y236.length co90), sR, H', ⟨by have := HK1.out; omega⟩, ⟨rX (Kd.R_mono (Kd.R_far (p := ⟨h9a, 0, none⟩) (Kd.R_types HO238.out b9a.out (by decide)) (fun _ hk => hk.2) (.slice Ao90 y236.length co90)) (fun _ hk => trivial))⟩, ⟨by (with_reducible repeat first | refine bkN ?_ _ | refine bkD ?_ | refine bkA ?_ _ | refine blk_far ?_ i9a.out _); exact c9a.out⟩, ⟨by (with_reducible repeat first | refine bkN ?_ _ | refine bkD ?_ | refine bkA ?_ _); refine blk_put (cs := #[.slice Ao82 d9a.length co82]) ?_ 0 _ rfl; (with_reducible repeat first | refine bkN ?_ _ | refine bkD ?_ | refine bkA ?_ _); exact b9a.out⟩, ⟨iS HI0⟩, ⟨iK HK⟩, ⟨iD HB⟩⟩
         ·rw [if_neg c78] at H
          exact absurd H (by simp)
        ·rw [if_neg c77] at H
         have c77b0 : decide (0 < (d9a.length : Int)) = false := decide_eq_false c77
         have c77b1 : decide (0 < d9a.length) = false := decide_eq_false (by omega)
         clear c77
         by_cases c92 : d9a.length < 8796093022208
         ·rw [if_pos c92] at H
          have LMc92 := Aside0.mk c92
          clear c92; obtain ⟨y239, hy239⟩ : ∃ y_ : List (S95), y_ = (d9a ++ [(⟨97, 97⟩ : S95)]) := ⟨_, rfl⟩
          replace H : (spec_l7Any.l0 k1 (wrap64 (x6_1 + 1)) s0_0 t217 t218 y239) = some (r1, r2, r3) := by first | (rw [hy239]; with_reducible exact H) | (have H2_ := (Option.bind_some _ _).symm.trans H; rw [hy239]; with_reducible exact H2_) | (have H2_ := (Option.bind_some _ _).symm.trans H; with_reducible exact H2_) | with_reducible exact H | (rw [hy239]; exact H) | exact H
          have Ny239 := Aside0.mk hy239
          clear hy239; have H' := Aside0.mk H
          clear H; have hnb93 := n9a.out; have hnc93 := i9a.out; have hnb94 := m9a.out; have hnc94 := e9a.out; have hcz95_0 : wr.cell? ⟨h9a, 0, none⟩ = some (t9a) := bc b9a 0
          have hfz95_0 := blk_frozen b9a.out 0; obtain ⟨Ao96, co96, eo96⟩ := Kd.R_slice g9a.out
          subst eo96
          go_wp2_with (first | ((with_reducible refine gate_dst (N := 8) rfl ?_); refine bX 8 #[.int .i64 0, .int .i64 0] 95 ?_; intro u9a hg w97 hbox hb; have n0_ := Aside0.mk (Kd.R_below (Kd.R_elderB (rr g9a) u9a (Nat.le_of_eq hg.symm)) hb); have n3_ := Aside0.mk (IsS90.below (iS HI0) hb); have n4_ := Aside0.mk (KeepBut.trans (iK HK) (KeepBut.of_below hb g none) (.inl rfl)); have n5_ := Aside0.mk (below_step (iD HB) hb); have B9a := Aside0.mk (hbox); have I9a := Aside0.mk ((by rw [hg]; exact (keep_size (w := w) (g := g) (row := none) (iK HK)) : w.heap.size ≤ u9a)); have GE235 := Aside0.mk ((Nat.le_trans HW0.out (by rw [hg]; exact (keep_size (w := w) (g := g) (row := none) (iK HK)) : w.heap.size ≤ u9a) : w0.heap.size ≤ u9a)); have x9a := bl c9a hg; have E9a := bg c9a hg; have y9a := bl b9a hg; have F9a := bg b9a hg; have A9a := Aside0.mk ((by rw [hg]; exact Nat.ne_of_lt (IsS90.lt (show IsS90 w0 _ g s0_0 t217 t218 from iS HI0)) : g ≠ u9a)); have J9a := Aside0.mk ((by rw [hg]; exact Nat.ne_of_gt (IsS90.lt (show IsS90 w0 _ g s0_0 t217 t218 from iS HI0)) : u9a ≠ g)); replace c9a := bq c9a hb; replace b9a := bq b9a hb; clear g9a HI0 HK HB; have g9a := n0_; have HI0 := n3_; have HK := n4_; have HB := n5_; clear n0_ n3_ n4_ n5_; clear hb hbox hg; have hnb98 := E9a.out; have hnc98 := x9a.out; have hnb99 := F9a.out; have hnc99 := y9a.out; have hnb100 := J9a.out; have hnc100 := A9a.out; obtain ⟨hcz101_0, hcz101_1⟩ := cs2 B9a; obtain ⟨hfz101_0, hfz101_1⟩ := fs2 B9a; have hcq101_0_1 : ∀ v_, (w97.setCell ⟨u9a, 0, none⟩ v_).cell? ⟨u9a, 1, none⟩ = some (.int .i64 0) := (by intro v_; go_simp); have hcz102_0 : w97.cell? ⟨h9a, 0, none⟩ = some (.slice Ao96 d9a.length co96) := bc b9a 0; have hfz102_0 := blk_frozen b9a.out 0) | ((with_reducible refine gate_builtin (b := .append) (xs := #[.tmp 88, .tmp 90]) rfl ?_); at_builtin; refine Kd.R_append k95 w.heap.size rfl (.tmp 88) (.tmp 90) 24 95 (.agg #[(.int .i64 0), (.int .i64 0)]) 16 rfl Try.underlying24 info95 rfl (by decide) (by omega) (.slice Ao96 d9a.length co96) d9a (⟨97, 97⟩ : S95) [.int .i64 97, .int .i64 97] (fun k_ => k_ ≠ u9a) (fun _ => False) rfl (by first | (go_simp; done) | (go_simp; rfl)) ?aP (fun _ hk => hk.elim) ?aF ?aO (Below.refl _ _) ?aS ?aL ?_; (case aP => exact k95_mkM _ _ _ (⟨97, 97⟩ : S95)); (case aF => exact (fun k_ hk => Kd.freshB (g := u9a) (o := .cells #[.int .i64 97, .int .i64 97] 95 (0, 0)) (by (with_reducible repeat first | refine bkN ?_ _ | refine bkD ?_ | refine bkA ?_ _); refine blk_put (cs := #[.int .i64 97, .int .i64 0]) ?_ 1 _ rfl; (with_reducible repeat first | refine bkN ?_ _ | refine bkD ?_ | refine bkA ?_ _); refine blk_put (cs := #[.int .i64 0, .int .i64 0]) ?_ 0 _ rfl; (with_reducible repeat first | refine bkN ?_ _ | refine bkD ?_ | refine bkA ?_ _); exact B9a.out) k_ hk)); (case aO => exact (rX (Kd.R_mono (Kd.R_far (p := ⟨u9a, 1, none⟩) (Kd.R_far (p := ⟨u9a, 0, none⟩) (Kd.R_mono g9a.out (fun k_ hk => (⟨hk, hk.2⟩ : _ ∧ k_ ≠ u9a))) (fun _ hk => hk.2) (.int .i64 97)) (fun _ hk => hk.2) (.int .i64 97)) (fun _ hk => hk.1.2)))); (case aS => exact (keep_size (w := w) (g := g) (row := none) (iK HK))); (case aL => have := LMc92.out; omega); intro v240 w103 ho hb hg hat; rw [← Ny239.out] at ho; have n0_ := Aside0.mk (blk_grown (g := j9a) (o := .cells #[.slice none 0 0] 26 (0, 0)) (by (with_reducible repeat first | refine bkN ?_ _ | refine bkD ?_ | refine bkA ?_ _ | refine blk_far ?_ x9a.out _); exact c9a.out) hg (Kd.R_ne g9a.out c9a.out (by decide))); have n1_ := Aside0.mk (blk_grown (g := h9a) (o := .cells #[.slice Ao96 d9a.length co96] 26 (0, 0)) (by (with_reducible repeat first | refine bkN ?_ _ | refine bkD ?_ | refine bkA ?_ _ | refine blk_far ?_ y9a.out _); exact b9a.out) hg (Kd.R_ne g9a.out b9a.out (by decide))); have n2_ := Aside0.mk (IsS90.grown (show IsS90 w0 _ g s0_0 t217 t218 from iS HI0) hg (IsS90.own_ne HI0.out g9a.out (by decide))); have n3_ := Aside0.mk (blk_grown (g := u9a) (o := .cells #[.int .i64 97, .int .i64 97] 95 (0, 0)) (by (with_reducible repeat first | refine bkN ?_ _ | refine bkD ?_ | refine bkA ?_ _); refine blk_put (cs := #[.int .i64 97, .int .i64 0]) ?_ 1 _ rfl; (with_reducible repeat first | refine bkN ?_ _ | refine bkD ?_ | refine bkA ?_ _); refine blk_put (cs := #[.int .i64 0, .int .i64 0]) ?_ 0 _ rfl; (with_reducible repeat first | refine bkN ?_ _ | refine bkD ?_ | refine bkA ?_ _); exact B9a.out) hg (Kd.R_away g9a.out (fun _ hk => hk.2))); have n4_ := Aside0.mk (below_weaken (iD HB) HL.out hb); have n5_ := Aside0.mk (KeepBut.trans (iK HK) (KeepBut.of_grown hg g) (Kd.R_base2 g9a.out)); have HO241 := Aside0.mk (ho); clear g9a c9a b9a HI0 B9a HB HK; have c9a := n0_; have b9a := n1_; have HI0 := n2_; have B9a := n3_; have HB := n4_; have HK := n5_; clear n0_ n1_ n2_ n3_ n4_ n5_; clear ho hb hg hat; obtain ⟨Ao104, co104, eo104⟩ := Kd.R_slice HO241.out; subst eo104; have hcz105_0 : w103.cell? ⟨h9a, 0, none⟩ = some (.slice Ao96 d9a.length co96) := bc b9a 0; have hfz105_0 := blk_frozen b9a.out 0))
          go_roundg k1
          case measure => have := HK1.out; omega
          case rel => exact ⟨(wrap64 (x6_1 + 1)), (y239), (.slice Ao104 y239.length co104), sR, H', ⟨by have := HK1.out; omega⟩, ⟨rX (Kd.R_mono (Kd.R_far (p := ⟨h9a, 0, none⟩) (Kd.R_types HO241.out b9a.out (by decide)) (fun _ hk => hk.2) (.slice Ao104 y239.length co104)) (fun _ hk => trivial))⟩, ⟨by (with_reducible repeat first | refine bkN ?_ _ | refine bkD ?_ | refine bkA ?_ _ | refine blk_far ?_ i9a.out _); exact c9a.out⟩, ⟨by (with_reducible repeat first | refine bkN ?_ _ | refine bkD ?_ | refine bkA ?_ _); refine blk_put (cs := #[.slice Ao96 d9a.length co96]) ?_ 0 _ rfl; (with_reducible repeat first | refine bkN ?_ _ | refine bkD ?_ | refine bkA ?_ _); exact b9a.out⟩, ⟨iS HI0⟩, ⟨iK HK⟩, ⟨iD HB⟩⟩
         ·rw [if_neg c92] at H
          exact absurd H (by simp)
       ·rw [if_neg c76] at H
        have c76b0 : decide (x6_1 < 6) = false := decide_eq_false c76
        clear c76; simp only [Option.some.injEq, Prod.mk.injEq] at H
        obtain ⟨rfl, rfl, rfl⟩ := H
        have hnb106 := n9a.out; have hnc106 := i9a.out; have hnb107 := m9a.out; have hnc107 := e9a.out; have hcz108_0 : wr.cell? ⟨h9a, 0, none⟩ = some (t9a) := bc b9a 0
        have hfz108_0 := blk_frozen b9a.out 0; obtain ⟨Ao109, co109, eo109⟩ := Kd.R_slice g9a.out
        subst eo109
        have hnb110 := l9a.out; have hnc110 := a9a.out; have hcz111_0 : wr.cell? ⟨j9a, 0, none⟩ = some (.slice none 0 0) := bc c9a 0
        have hfz111_0 := blk_frozen c9a.out 0
        go_wp2
        refine bodyPost_ret (results_cell_row rfl _ _ j9a 26 #[.slice Ao109 d9a.length co109] (0, 0) _ rfl (by (with_reducible repeat first | refine bkN ?_ _ | refine bkD ?_ | refine bkA ?_ _); refine blk_put (cs := #[.slice none 0 0]) ?_ 0 _ rfl; (with_reducible repeat first | refine bkN ?_ _ | refine bkD ?_ | refine bkA ?_ _); exact c9a.out) Try.underlying26 rfl (by kernel_rfl)) rfl ?_
        exact ⟨_, eR, rX (Kd.R_mono (Kd.R_far (p := ⟨j9a, 0, none⟩) (Kd.R_types g9a.out c9a.out (by decide)) (fun _ hk => hk.2) (.slice Ao109 d9a.length co109)) (fun _ hk => trivial)), iS HI0, iD HB, iK HK⟩
    ·rw [if_neg c66] at H
     have c66b0 : (t216 == 2) = false := beq_eq_false_iff_ne.mpr c66
     have c66b1 : (t216 != 2) = true := bne_iff_ne.mpr c66
     replace H := Option.bind_eq_some_iff.mp H
     obtain ⟨⟨t242, t243, t244⟩, A1120, H⟩ := H
     replace H : (spec_l7Any.l1 k (wrap64 (60 + t242)) 0 s0_0 t243 t244 (([] : List (S95)))) = some (r1, r2, r3) := H
     have A112 := Aside0.mk A1120
     clear A1120; obtain ⟨y245, hy245⟩ : ∃ y_ : List (S95), y_ = (([] : List (S95))) := ⟨_, rfl⟩
     replace H : (spec_l7Any.l1 k (wrap64 (60 + t242)) 0 s0_0 t243 t244 y245) = some (r1, r2, r3) := by first | (rw [hy245]; with_reducible exact H) | (have H2_ := (Option.bind_some _ _).symm.trans H; rw [hy245]; with_reducible exact H2_) | (have H2_ := (Option.bind_some _ _).symm.trans H; with_reducible exact H2_) | with_reducible exact H | (rw [hy245]; exact H) | exact H
     have Ny245 := Aside0.mk hy245
     clear hy245; have H' := Aside0.mk H
     clear H
     go_enter Try.func33, Try.ntmps33
     go_wp2_with (first | ((with_reducible refine gate_dst (N := 4) rfl ?_); refine bX 4 #[.slice none 0 0] 26 ?_; intro j9a hg w113 hbox hb; have n0_ := Aside0.mk (IsS90.below (iS HI0) hb); have n1_ := Aside0.mk (KeepBut.trans (iK HK) (KeepBut.of_below hb g none) (.inl rfl)); have n2_ := Aside0.mk (below_step (iD HB) hb); have c9a := Aside0.mk (hbox); have k9a := Aside0.mk ((by rw [hg]; exact (keep_size (w := w) (g := g) (row := none) (iK HK)) : w.heap.size ≤ j9a)); have p9a := Aside0.mk ((Nat.le_trans HW0.out (by rw [hg]; exact (keep_size (w := w) (g := g) (row := none) (iK HK)) : w.heap.size ≤ j9a) : w0.heap.size ≤ j9a)); have a9a := Aside0.mk ((by rw [hg]; exact Nat.ne_of_lt (IsS90.lt (show IsS90 w0 _ g s0_0 s0_1 s0_2 from iS HI0)) : g ≠ j9a)); have l9a := Aside0.mk ((by rw [hg]; exact Nat.ne_of_gt (IsS90.lt (show IsS90 w0 _ g s0_0 s0_1 s0_2 from iS HI0)) : j9a ≠ g)); clear HI0 HK HB; have HI0 := n0_; have HK := n1_; have HB := n2_; clear n0_ n1_ n2_; clear hb hbox hg) | ((with_reducible refine gate_callee (f := 63) rfl ?_); refine goesC_ (some 13) Try.func63 #[.pointer (some ⟨g, 0, none⟩), .int .i64 a1] ?_; (with_reducible refine (spec_l7Draw.calls k g s0_0 s0_1 s0_2 a1 t207 t210 t211 w0 _ ?side1 ?side2 A3.out).mono ?_); (case side1 => exact iS HI0); (case side2 => exact iD HB); rintro e w114 ⟨v208, rfl, ho0, hi, hb, hk⟩; refine ⟨_, rfl, ?_⟩; have n0_ := Aside0.mk (KeepBut.blk hk (g' := j9a) (o := .cells #[.slice none 0 0] 26 (0, 0)) kB l9a.out (by simp)); have n2_ := Aside0.mk (KeepBut.trans (iK HK) hk (.inl rfl)); have n3_ := Aside0.mk (hb); have n4_ := Aside0.mk (hi); have f9a := Aside0.mk (Kd.R_lower ho0 (keep_size (w := w) (g := g) (row := none) (iK HK))); clear c9a HK HB HI0; have c9a := n0_; have HK := n2_; have HB := n3_; have HI0 := n4_; clear n0_ n2_ n3_ n4_; (try clear hb); (try clear hb2); (try clear hk); (try clear hi)) | ((with_reducible refine gate_dst (N := 5) rfl ?_); refine bX 5 #[.slice none 0 0] 26 ?_; intro h9a hg w115 hbox hb; have n1_ := Aside0.mk (IsS90.below (iS HI0) hb); have n3_ := Aside0.mk (KeepBut.trans (iK HK) (KeepBut.of_below hb g none) (.inl rfl)); have n4_ := Aside0.mk (below_step (iD HB) hb); have b9a := Aside0.mk (hbox); have q9a := Aside0.mk ((by rw [hg]; exact (keep_size (w := w) (g := g) (row := none) (iK HK)) : w.heap.size ≤ h9a)); have r9a := Aside0.mk ((Nat.le_trans HW0.out (by rw [hg]; exact (keep_size (w := w) (g := g) (row := none) (iK HK)) : w.heap.size ≤ h9a) : w0.heap.size ≤ h9a)); have i9a := bl c9a hg; have n9a := bg c9a hg; have e9a := Aside0.mk ((by rw [hg]; exact Nat.ne_of_lt (IsS90.lt (show IsS90 w0 _ g s0_0 t210 t211 from iS HI0)) : g ≠ h9a)); have m9a := Aside0.mk ((by rw [hg]; exact Nat.ne_of_gt (IsS90.lt (show IsS90 w0 _ g s0_0 t210 t211 from iS HI0)) : h9a ≠ g)); replace f9a := Aside0.mk (Kd.R_below (rr f9a) hb); replace c9a := bq c9a hb; clear HI0 HK HB; have HI0 := n1_; have HK := n3_; have HB := n4_; clear n1_ n3_ n4_; clear hb hbox hg; obtain ⟨K9a, L9a, eo116⟩ := Kd.R_slice f9a.out; subst eo116; have hnb117 := n9a.out; have hnc117 := i9a.out; have hnb118 := m9a.out; have hnc118 := e9a.out; have hcz119_0 : w115.cell? ⟨h9a, 0, none⟩ = some (.slice none 0 0) := bc b9a 0; have hfz119_0 := blk_frozen b9a.out 0) | ((with_reducible refine gate_callee (f := 64) rfl ?_); refine goesC_ (some 15) Try.func64 #[.pointer (some ⟨g, 0, none⟩), .int .i64 8] ?_; (with_reducible refine (spec_l1Once.calls g s0_0 t210 t211 8 true t214 t215 w0 _ ?side1 ?side2 A4.out).mono ?_); (case side1 => exact iS HI0); (case side2 => exact iD HB); rintro e w120 ⟨rfl, hi, hb, hk⟩; refine ⟨_, rfl, ?_⟩; have n0_ := Aside0.mk (KeepBut.blk hk (g' := j9a) (o := .cells #[.slice none 0 0] 26 (0, 0)) (by (with_reducible repeat first | refine bkN ?_ _ | refine bkD ?_ | refine bkA ?_ _ | refine blk_far ?_ i9a.out _); exact c9a.out) l9a.out (by simp)); have n1_ := Aside0.mk (Kd.R_mono (Kd.R_keep (IsS90.apart (show IsS90 w0 _ g s0_0 t210 t211 from iS HI0) (rX (Kd.R_mono (Kd.R_far (p := ⟨h9a, 0, none⟩) (Kd.R_types f9a.out b9a.out (by decide)) (fun _ hk => hk.2) (.slice K9a t207.length L9a)) (fun _ h_ => h_.1))) (by decide)) hk (fun _ h => h.2)) (fun _ h => h.1)); have n2_ := Aside0.mk (KeepBut.blk hk (g' := h9a) (o := .cells #[.slice K9a t207.length L9a] 26 (0, 0)) (by (with_reducible repeat first | refine bkN ?_ _ | refine bkD ?_ | refine bkA ?_ _); refine blk_put (cs := #[.slice none 0 0]) ?_ 0 _ rfl; (with_reducible repeat first | refine bkN ?_ _ | refine bkD ?_ | refine bkA ?_ _); exact b9a.out) m9a.out (by simp)); have n3_ := Aside0.mk (KeepBut.trans (iK HK) hk (.inl rfl)); have n4_ := Aside0.mk (hb); have n5_ := Aside0.mk (hi); clear c9a f9a b9a HK HB HI0; have c9a := n0_; have f9a := n1_; have b9a := n2_; have HK := n3_; have HB := n4_; have HI0 := n5_; clear n0_ n1_ n2_ n3_ n4_ n5_; (try clear hb); (try clear hb2); (try clear hk); (try clear hi)) | ((with_reducible refine gate_callee (f := 65) rfl ?_); refine goesC_ (some 17) Try.func65 #[.pointer (some ⟨g, 0, none⟩), .int .i64 4] ?_; (with_reducible refine (spec_l1Below.calls g s0_0 t214 t215 4 t216 t217 t218 w0 _ ?side1 ?side2 A6.out).mono ?_); (case side1 => exact iS HI0); (case side2 => exact iD HB); rintro e w121 ⟨rfl, hi, hb, hk⟩; refine ⟨_, rfl, ?_⟩; have n0_ := Aside0.mk (KeepBut.blk hk (g' := j9a) (o := .cells #[.slice none 0 0] 26 (0, 0)) kB l9a.out (by simp)); have n1_ := Aside0.mk (Kd.R_mono (Kd.R_keep (IsS90.apart (show IsS90 w0 _ g s0_0 t214 t215 from iS HI0) (rr f9a) (by decide)) hk (fun _ h => h.2)) (fun _ h => h.1)); have n2_ := Aside0.mk (KeepBut.blk hk (g' := h9a) (o := .cells #[.slice K9a t207.length L9a] 26 (0, 0)) kB m9a.out (by simp)); have n3_ := Aside0.mk (KeepBut.trans (iK HK) hk (.inl rfl)); have n4_ := Aside0.mk (hb); have n5_ := Aside0.mk (hi); clear c9a f9a b9a HK HB HI0; have c9a := n0_; have f9a := n1_; have b9a := n2_; have HK := n3_; have HB := n4_; have HI0 := n5_; clear n0_ n1_ n2_ n3_ n4_ n5_; (try clear hb); (try clear hb2); (try clear hk); (try clear hi)) | ((with_reducible refine gate_callee (f := 65) rfl ?_); refine goesC_ (some 19) Try.func65 #[.pointer (some ⟨g, 0, none⟩), .int .i64 2] ?_; (with_reducible refine (spec_l1Below.calls g s0_0 t217 t218 2 t242 t243 t244 w0 _ ?side1 ?side2 A112.out).mono ?_); (case side1 => exact iS HI0); (case side2 => exact iD HB); rintro e w122 ⟨rfl, hi, hb, hk⟩; refine ⟨_, rfl, ?_⟩; have n0_ := Aside0.mk (KeepBut.blk hk (g' := j9a) (o := .cells #[.slice none 0 0] 26 (0, 0)) kB l9a.out (by simp)); have n1_ := Aside0.mk (Kd.R_mono (Kd.R_keep (IsS90.apart (show IsS90 w0 _ g s0_0 t217 t218 from iS HI0) (rr f9a) (by decide)) hk (fun _ h => h.2)) (fun _ h => h.1)); have n2_ := Aside0.mk (KeepBut.blk hk (g' := h9a) (o := .cells #[.slice K9a t207.length L9a] 26 (0, 0)) kB m9a.out (by simp)); have n3_ := Aside0.mk (KeepBut.trans (iK HK) hk (.inl rfl)); have n4_ := Aside0.mk (hb); have n5_ := Aside0.mk (hi); clear c9a f9a b9a HK HB HI0; have c9a := n0_; have f9a := n1_; have b9a := n2_; have HK := n3_; have HB := n4_; have HI0 := n5_; clear n0_ n1_ n2_ n3_ n4_ n5_; (try clear hb); (try clear hb2); (try clear hk); (try clear hi)) | ((with_reducible refine gate_dst (N := 21) rfl ?_); refine Kd.R_lit k95 _ 95 ?hg (N := 21) ?hd (xs := ([] : List (S95))) (inner := []) (ok := fun _ => True) (okp := fun _ => True) ?hr ?hp (fun _ hk => hk) trivial (Below.refl _ _) (Nat.le_refl _) (by simp) ?_; (case hd => rfl); (case hg => rfl); (case hr => first | (go_simp; done) | (go_simp; rfl)); (case hp => exact (Reps.none _ _)); intro v246 w123 M9a hb hg_ hnew_; clear hg_ hnew_; (first | rw [← Ny245.out] at M9a | (simp only [Int.reduceToNat] at M9a; rw [← Ny245.out] at M9a)); have n0_ := Aside0.mk (Kd.R_elder' (rr f9a) (Kd.R_base M9a) hb); have n2_ := Aside0.mk (IsS90.below (iS HI0) hb); have n5_ := Aside0.mk (KeepBut.trans (iK HK) (KeepBut.of_below hb g none) (.inl rfl)); have n6_ := Aside0.mk (below_step (iD HB) hb); have HO247 := Aside0.mk (Kd.R_lower (Kd.R_new' M9a (Kd.R_lt (rr f9a))) (keep_size (w := w) (g := g) (row := none) (iK HK))); replace c9a := bq c9a hb; replace b9a := bq b9a hb; clear f9a HI0 HK HB; have f9a := n0_; have HI0 := n2_; have HK := n5_; have HB := n6_; clear n0_ n2_ n5_ n6_; clear hb M9a; obtain ⟨Ao125, co125, eo125⟩ := Kd.R_slice HO247.out; subst eo125; have hcz126_0 : w123.cell? ⟨h9a, 0, none⟩ = some (.slice K9a t207.length L9a) := bc b9a 0; have hfz126_0 := blk_frozen b9a.out 0))
     go_loopg [10] k (fun kq v10 w' => ∃ (C9a : Int) (d9a : List (S95)) (t9a : Value), v10 = .int .i64 C9a ∧ Aside0 (spec_l7Any.l1 kq (wrap64 (60 + t242)) C9a s0_0 t243 t244 d9a = some (r1, r2, r3)) ∧ Aside0 (kq ≤ k) ∧ Aside0 (Kd.R k95 95 w' w.heap.size (fun _ => True) t9a d9a) ∧ Aside0 (w'.heap[j9a]? = some (.cells #[(.slice none 0 0)] 26 (0, 0))) ∧ Aside0 (w'.heap[h9a]? = some (.cells #[t9a] 26 (0, 0))) ∧ Aside0 (IsS90 w0 w' g s0_0 t243 t244) ∧ Aside0 (KeepBut w w' g none) ∧ Aside0 (Below w0.heap.size w0 w'))
     case atStart => exact ⟨(0), (y245), (.slice Ao125 y245.length co125), sR, H', ⟨Nat.le_refl _⟩, ⟨rX (Kd.R_mono (Kd.R_far (p := ⟨h9a, 0, none⟩) (Kd.R_types HO247.out b9a.out (by decide)) (fun _ hk => hk.2) (.slice Ao125 y245.length co125)) (fun _ hk => trivial))⟩, ⟨by (with_reducible repeat first | refine bkN ?_ _ | refine bkD ?_ | refine bkA ?_ _ | refine blk_far ?_ i9a.out _); exact c9a.out⟩, ⟨by (with_reducible repeat first | refine bkN ?_ _ | refine bkD ?_ | refine bkA ?_ _); refine blk_put (cs := #[.slice K9a t207.length L9a]) ?_ 0 _ rfl; (with_reducible repeat first | refine bkN ?_ _ | refine bkD ?_ | refine bkA ?_ _); exact b9a.out⟩, ⟨iS HI0⟩, ⟨iK HK⟩, ⟨iD HB⟩⟩
     case round =>
      clear H'
      obtain ⟨C9a, d9a, t9a, rfl, HA, HK1, g9a, c9a, b9a, HI0, HK, HB⟩ := hrel
      cases gk with
      | zero => exact absurd HA.out (by simp [spec_l7Any.l1])
      | succ k1 =>
       have H := HA.out; clear HA; simp only [spec_l7Any.l1] at H
       by_cases c127 : C9a < (wrap64 (60 + t242))
       ·rw [if_pos c127] at H
        have c127b0 : decide (C9a < (wrap64 (60 + t242))) = true := decide_eq_true c127
        clear c127
        by_cases c128 : d9a.length < 8796093022208
        ·rw [if_pos c128] at H
         have LMc128 := Aside0.mk c128
         clear c128; obtain ⟨y248, hy248⟩ : ∃ y_ : List (S95), y_ = (d9a ++ [(⟨C9a, 200⟩ : S95)]) := ⟨_, rfl⟩
         replace H : (spec_l7Any.l1 k1 (wrap64 (60 + t242)) (wrap64 (C9a + 1)) s0_0 t243 t244 y248) = some (r1, r2, r3) := by first | (rw [hy248]; with_reducible exact H) | (have H2_ := (Option.bind_some _ _).symm.trans H; rw [hy248]; with_reducible exact H2_) | (have H2_ := (Option.bind_some _ _).symm.trans H; with_reducible exact H2_) | with_reducible exact H | (rw [hy248]; exact H) | exact H
         have Ny248 := Aside0.mk hy248
         clear hy248; have H' := Aside0.mk H
         clear H; have hnb129 := n9a.out; have hnc129 := i9a.out; have hnb130 := m9a.out; have hnc130 := e9a.out; have hcz131_0 : wr.cell? ⟨h9a, 0, none⟩ = some (t9a) := bc b9a 0
         have hfz131_0 := blk_frozen b9a.out 0
         go_wp2_with (first | ((with_reducible refine gate_builtin (b := .append) (xs := #[.tmp 29, .tmp 32]) rfl ?_); at_builtin; refine Kd.R_append k95 w.heap.size rfl (.tmp 29) (.tmp 32) 24 95 (.agg #[(.int .i64 0), (.int .i64 0)]) 16 rfl Try.underlying24 info95 rfl (by decide) (by omega) t9a d9a (⟨C9a, 200⟩ : S95) [.int .i64 C9a, .int .i64 200] (fun _ => True) (fun _ => False) rfl rfl ?aP (fun _ hk => hk.elim) ?aF ?aO (Below.refl _ _) ?aS ?aL ?_; (case aP => exact k95_mkM _ _ _ (⟨C9a, 200⟩ : S95)); (case aF => exact (fun _ _ => trivial)); (case aO => exact (rr g9a)); (case aS => exact (keep_size (w := w) (g := g) (row := none) (iK HK))); (case aL => have := LMc128.out; omega); intro v249 w132 ho hb hg hat; rw [← Ny248.out] at ho; have n0_ := Aside0.mk (blk_grown (g := j9a) (o := .cells #[.slice none 0 0] 26 (0, 0)) kB hg (Kd.R_ne g9a.out c9a.out (by decide))); have n1_ := Aside0.mk (blk_grown (g := h9a) (o := .cells #[t9a] 26 (0, 0)) kB hg (Kd.R_ne g9a.out b9a.out (by decide))); have n2_ := Aside0.mk (IsS90.grown (iS HI0) hg (IsS90.own_ne HI0.out g9a.out (by decide))); have n3_ := Aside0.mk (below_weaken (iD HB) HL.out hb); have n4_ := Aside0.mk (KeepBut.trans (iK HK) (KeepBut.of_grown hg g) (Kd.R_base2 g9a.out)); have HO250 := Aside0.mk (ho); clear g9a c9a b9a HI0 HB HK; have c9a := n0_; have b9a := n1_; have HI0 := n2_; have HB := n3_; have HK := n4_; clear n0_ n1_ n2_ n3_ n4_; clear ho hb hg hat; obtain ⟨Ao133, co133, eo133⟩ := Kd.R_slice HO250.out; subst eo133; have hcz134_0 : w132.cell? ⟨h9a, 0, none⟩ = some (t9a) := bc b9a 0; have hfz134_0 := blk_frozen b9a.out 0))
         go_roundg k1
         case measure => have := HK1.out; omega
         case rel => exact ⟨(wrap64 (C9a + 1)), (y248), (.slice Ao133 y248.length co133), sR, H', ⟨by have := HK1.out; omega⟩, ⟨rX (Kd.R_mono (Kd.R_far (p := ⟨h9a, 0, none⟩) (Kd.R_types HO250.out b9a.out (by decide)) (fun _ hk => hk.2) (.slice Ao133 y248.length co133)) (fun _ hk => trivial))⟩, ⟨by (with_reducible repeat first | refine bkN ?_ _ | refine bkD ?_ | refine bkA ?_ _ | refine blk_far ?_ i9a.out _); exact c9a.out⟩, ⟨by (with_reducible repeat first | refine bkN ?_ _ | refine bkD ?_ | refine bkA ?_ _); refine blk_put (cs := #[t9a]) ?_ 0 _ rfl; (with_reducible repeat first | refine bkN ?_ _ | refine bkD ?_ | refine bkA ?_ _); exact b9a.out⟩, ⟨iS HI0⟩, ⟨iK HK⟩, ⟨iD HB⟩⟩
        ·rw [if_neg c128] at H
         exact absurd H (by simp)
       ·rw [if_neg c127] at H
        have c127b0 : decide (C9a < (wrap64 (60 + t242))) = false := decide_eq_false c127
        clear c127; simp only [Option.some.injEq, Prod.mk.injEq] at H
        obtain ⟨rfl, rfl, rfl⟩ := H
        have hnb135 := n9a.out; have hnc135 := i9a.out; have hnb136 := m9a.out; have hnc136 := e9a.out; have hcz137_0 : wr.cell? ⟨h9a, 0, none⟩ = some (t9a) := bc b9a 0
        have hfz137_0 := blk_frozen b9a.out 0; obtain ⟨Ao138, co138, eo138⟩ := Kd.R_slice g9a.out
        subst eo138
        have hnb139 := l9a.out; have hnc139 := a9a.out; have hcz140_0 : wr.cell? ⟨j9a, 0, none⟩ = some (.slice none 0 0) := bc c9a 0
        have hfz140_0 := blk_frozen c9a.out 0
        go_wp2
        refine bodyPost_ret (results_cell_row rfl _ _ j9a 26 #[.slice Ao138 d9a.length co138] (0, 0) _ rfl (by (with_reducible repeat first | refine bkN ?_ _ | refine bkD ?_ | refine bkA ?_ _); refine blk_put (cs := #[.slice none 0 0]) ?_ 0 _ rfl; (with_reducible repeat first | refine bkN ?_ _ | refine bkD ?_ | refine bkA ?_ _); exact c9a.out) Try.underlying26 rfl (by kernel_rfl)) rfl ?_
        exact ⟨_, eR, rX (Kd.R_mono (Kd.R_far (p := ⟨j9a, 0, none⟩) (Kd.R_types g9a.out c9a.out (by decide)) (fun _ hk => hk.2) (.slice Ao138 d9a.length co138)) (fun _ hk => trivial)), iS HI0, iD HB, iK HK⟩
 ·replace c5 := Bool.eq_false_iff.mpr c5
  subst c5
  have H1 : (some (t207, t214, t215)) = some (r1, r2, r3) := by rw [if_neg (show ¬ (false = true) by decide)] at H; exact H
  clear H; have H := H1
  clear H1; simp only [Option.some.injEq, Prod.mk.injEq] at H
  obtain ⟨rfl, rfl, rfl⟩ := H
  go_enter Try.func33, Try.ntmps33
  go_wp2_with (first | ((with_reducible refine gate_dst (N := 4) rfl ?_); refine bX 4 #[.slice none 0 0] 26 ?_; intro j9a hg w141 hbox hb; have n0_ := Aside0.mk (IsS90.below (iS HI0) hb); have n1_ := Aside0.mk (KeepBut.trans (iK HK) (KeepBut.of_below hb g none) (.inl rfl)); have n2_ := Aside0.mk (below_step (iD HB) hb); have c9a := Aside0.mk (hbox); have k9a := Aside0.mk ((by rw [hg]; exact (keep_size (w := w) (g := g) (row := none) (iK HK)) : w.heap.size ≤ j9a)); have p9a := Aside0.mk ((Nat.le_trans HW0.out (by rw [hg]; exact (keep_size (w := w) (g := g) (row := none) (iK HK)) : w.heap.size ≤ j9a) : w0.heap.size ≤ j9a)); have a9a := Aside0.mk ((by rw [hg]; exact Nat.ne_of_lt (IsS90.lt (show IsS90 w0 _ g s0_0 s0_1 s0_2 from iS HI0)) : g ≠ j9a)); have l9a := Aside0.mk ((by rw [hg]; exact Nat.ne_of_gt (IsS90.lt (show IsS90 w0 _ g s0_0 s0_1 s0_2 from iS HI0)) : j9a ≠ g)); clear HI0 HK HB; have HI0 := n0_; have HK := n1_; have HB := n2_; clear n0_ n1_ n2_; clear hb hbox hg) | ((with_reducible refine gate_callee (f := 63) rfl ?_); refine goesC_ (some 13) Try.func63 #[.pointer (some ⟨g, 0, none⟩), .int .i64 a1] ?_; (with_reducible refine (spec_l7Draw.calls k g s0_0 s0_1 s0_2 a1 t207 t210 t211 w0 _ ?side1 ?side2 A3.out).mono ?_); (case side1 => exact iS HI0); (case side2 => exact iD HB); rintro e w142 ⟨v208, rfl, ho0, hi, hb, hk⟩; refine ⟨_, rfl, ?_⟩; have n0_ := Aside0.mk (KeepBut.blk hk (g' := j9a) (o := .cells #[.slice none 0 0] 26 (0, 0)) kB l9a.out (by simp)); have n2_ := Aside0.mk (KeepBut.trans (iK HK) hk (.inl rfl)); have n3_ := Aside0.mk (hb); have n4_ := Aside0.mk (hi); have f9a := Aside0.mk (Kd.R_lower ho0 (keep_size (w := w) (g := g) (row := none) (iK HK))); clear c9a HK HB HI0; have c9a := n0_; have HK := n2_; have HB := n3_; have HI0 := n4_; clear n0_ n2_ n3_ n4_; (try clear hb); (try clear hb2); (try clear hk); (try clear hi)) | ((with_reducible refine gate_dst (N := 5) rfl ?_); refine bX 5 #[.slice none 0 0] 26 ?_; intro h9a hg w143 hbox hb; have n1_ := Aside0.mk (IsS90.below (iS HI0) hb); have n3_ := Aside0.mk (KeepBut.trans (iK HK) (KeepBut.of_below hb g none) (.inl rfl)); have n4_ := Aside0.mk (below_step (iD HB) hb); have b9a := Aside0.mk (hbox); have q9a := Aside0.mk ((by rw [hg]; exact (keep_size (w := w) (g := g) (row := none) (iK HK)) : w.heap.size ≤ h9a)); have r9a := Aside0.mk ((Nat.le_trans HW0.out (by rw [hg]; exact (keep_size (w := w) (g := g) (row := none) (iK HK)) : w.heap.size ≤ h9a) : w0.heap.size ≤ h9a)); have i9a := bl c9a hg; have n9a := bg c9a hg; have e9a := Aside0.mk ((by rw [hg]; exact Nat.ne_of_lt (IsS90.lt (show IsS90 w0 _ g s0_0 t210 t211 from iS HI0)) : g ≠ h9a)); have m9a := Aside0.mk ((by rw [hg]; exact Nat.ne_of_gt (IsS90.lt (show IsS90 w0 _ g s0_0 t210 t211 from iS HI0)) : h9a ≠ g)); replace f9a := Aside0.mk (Kd.R_below (rr f9a) hb); replace c9a := bq c9a hb; clear HI0 HK HB; have HI0 := n1_; have HK := n3_; have HB := n4_; clear n1_ n3_ n4_; clear hb hbox hg; obtain ⟨Ao144, co144, eo144⟩ := Kd.R_slice f9a.out; subst eo144; have hnb145 := n9a.out; have hnc145 := i9a.out; have hnb146 := m9a.out; have hnc146 := e9a.out; have hcz147_0 : w143.cell? ⟨h9a, 0, none⟩ = some (.slice none 0 0) := bc b9a 0; have hfz147_0 := blk_frozen b9a.out 0) | ((with_reducible refine gate_callee (f := 64) rfl ?_); refine goesC_ (some 15) Try.func64 #[.pointer (some ⟨g, 0, none⟩), .int .i64 8] ?_; (with_reducible refine (spec_l1Once.calls g s0_0 t210 t211 8 false t214 t215 w0 _ ?side1 ?side2 A4.out).mono ?_); (case side1 => exact iS HI0); (case side2 => exact iD HB); rintro e w148 ⟨rfl, hi, hb, hk⟩; refine ⟨_, rfl, ?_⟩; have n0_ := Aside0.mk (KeepBut.blk hk (g' := j9a) (o := .cells #[.slice none 0 0] 26 (0, 0)) (by (with_reducible repeat first | refine bkN ?_ _ | refine bkD ?_ | refine bkA ?_ _ | refine blk_far ?_ i9a.out _); exact c9a.out) l9a.out (by simp)); have n1_ := Aside0.mk (Kd.R_mono (Kd.R_keep (IsS90.apart (show IsS90 w0 _ g s0_0 t210 t211 from iS HI0) (rX (Kd.R_mono (Kd.R_far (p := ⟨h9a, 0, none⟩) (Kd.R_types f9a.out b9a.out (by decide)) (fun _ hk => hk.2) (.slice Ao144 t207.length co144)) (fun _ h_ => h_.1))) (by decide)) hk (fun _ h => h.2)) (fun _ h => h.1)); have n2_ := Aside0.mk (KeepBut.blk hk (g' := h9a) (o := .cells #[.slice Ao144 t207.length co144] 26 (0, 0)) (by (with_reducible repeat first | refine bkN ?_ _ | refine bkD ?_ | refine bkA ?_ _); refine blk_put (cs := #[.slice none 0 0]) ?_ 0 _ rfl; (with_reducible repeat first | refine bkN ?_ _ | refine bkD ?_ | refine bkA ?_ _); exact b9a.out) m9a.out (by simp)); have n3_ := Aside0.mk (KeepBut.trans (iK HK) hk (.inl rfl)); have n4_ := Aside0.mk (hb); have n5_ := Aside0.mk (hi); clear c9a f9a b9a HK HB HI0; have c9a := n0_; have f9a := n1_; have b9a := n2_; have HK := n3_; have HB := n4_; have HI0 := n5_; clear n0_ n1_ n2_ n3_ n4_ n5_; (try clear hb); (try clear hb2); (try clear hk); (try clear hi); have hcz149_0 : w148.cell? ⟨h9a, 0, none⟩ = some (.slice Ao144 t207.length co144) := bc b9a 0; have hfz149_0 := blk_frozen b9a.out 0; have hnb150 := l9a.out; have hnc150 := a9a.out; have hcz151_0 : w148.cell? ⟨j9a, 0, none⟩ = some (.slice none 0 0) := bc c9a 0; have hfz151_0 := blk_frozen c9a.out 0))
  refine bodyPost_ret (results_cell_row rfl _ _ j9a 26 #[.slice Ao144 t207.length co144] (0, 0) _ rfl (by (with_reducible repeat first | refine bkN ?_ _ | refine bkD ?_ | refine bkA ?_ _); refine blk_put (cs := #[.slice none 0 0]) ?_ 0 _ rfl; (with_reducible repeat first | refine bkN ?_ _ | refine bkD ?_ | refine bkA ?_ _); exact c9a.out) Try.underlying26 rfl (by kernel_rfl)) rfl ?_
  exact ⟨_, eR, rX (Kd.R_mono (Kd.R_far (p := ⟨j9a, 0, none⟩) (Kd.R_types f9a.out c9a.out (by decide)) (fun _ hk => hk.2) (.slice Ao144 t207.length co144)) (fun _ hk => trivial)), iS HI0, iD HB, iK HK⟩
end Go.Proofs.Ytddebnchbbmbkaa.PFnMemo
