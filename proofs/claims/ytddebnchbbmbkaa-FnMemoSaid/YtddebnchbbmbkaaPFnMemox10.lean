-- The machine side of a law: written by a program of this session (wip/tools), a turned print.
import Derived.Test.YtddebnchbbmbkaaPFnMemox0
import Derived.Test.YtddebnchbbmbkaaPFnMemox2
import Derived.Test.YtddebnchbbmbkaaPFnMemox4
import Derived.Test.YtddebnchbbmbkaaPFnMemox5
import Derived.Test.YtddebnchbbmbkaaPFnMemox6
import Derived.Test.YtddebnchbbmbkaaPFnMemox8
import Derived.Test.YtddebnchbbmbkaaPFnMemox9
namespace Go.Proofs.Ytddebnchbbmbkaa.PFnMemo
open Go.RowKit Go.Proofs.YtddebnchbbmbkaaW.PrintWords Go.Proofs.YtddebnchbbmbkaaW.PrintLast Go.Proofs.YtddebnchbbmbkaaW.PrintMore
attribute [local go_sem] max2_int min2_int max_two min_two max_three min_three max_four min_four   -- for this text's walks alone
set_option linter.unusedVariables false
set_option linter.unusedSimpArgs false
mutual
def spec_l9Line.l0 : Nat → ByteArray → Int → List Int → Int → Int → List (S95) → Option (ByteArray × Int × Int)
 | 0, _, _, _, _, _, _ => none
 | k + 1, x7, x8, x1000, x1001, x1002, x379000 => if x8 > 0 then ((spec_l8Word.f k x1000 x1001 x1002 x379000 5).bind fun bt382 => (if x7.size + bt382.1.size ≤ 9223372036854775807 then ((spec_l1Pick.f x1000 bt382.2.1 bt382.2.2 (([(⟨#[32]⟩ : ByteArray), (⟨#[32]⟩ : ByteArray), (⟨#[]⟩ : ByteArray), (⟨#[32, 32]⟩ : ByteArray), (⟨#[10]⟩ : ByteArray), (⟨#[32, 9, 32]⟩ : ByteArray), (⟨#[49, 50]⟩ : ByteArray), (⟨#[51, 52, 53, 54]⟩ : ByteArray), (⟨#[46]⟩ : ByteArray), (⟨#[32, 46]⟩ : ByteArray), (⟨#[33, 63]⟩ : ByteArray), (⟨#[32, 32, 32]⟩ : ByteArray), (⟨#[13, 10]⟩ : ByteArray)] : List ByteArray))).bind fun bt388 => (if (x7 ++ bt382.1).size + bt388.1.size ≤ 9223372036854775807 then (spec_l9Line.l0 k ((x7 ++ bt382.1) ++ bt388.1) (wrap64 (x8 - 1)) x1000 bt388.2.1 bt388.2.2 x379000) else (none))) else (none))) else ((spec_l1Once.f x1000 x1001 x1002 30).bind fun bt391 => (if bt391.1 = true then ((spec_l1Below.f x1000 bt391.2.1 bt391.2.2 2).bind fun bt394 => (spec_l9Line.l1 k (⟨#[]⟩ : ByteArray) (wrap64 (1000 + bt394.1)) x1000 bt394.2.1 bt394.2.2)) else (some (x7, bt391.2.1, bt391.2.2))))
def spec_l9Line.l1 : Nat → ByteArray → Int → List Int → Int → Int → Option (ByteArray × Int × Int)
 | 0, _, _, _, _, _ => none
 | k + 1, x7, x9, x1000, x1001, x1002 => if (x7.size : Int) < x9 then ((spec_l1Pick.f x1000 x1001 x1002 (([(⟨#[97]⟩ : ByteArray), (⟨#[98]⟩ : ByteArray), (⟨#[32]⟩ : ByteArray), (⟨#[49]⟩ : ByteArray)] : List ByteArray))).bind fun bt400 => (if x7.size + bt400.1.size ≤ 9223372036854775807 then (spec_l9Line.l1 k (x7 ++ bt400.1) x9 x1000 bt400.2.1 bt400.2.2) else (none))) else (some (x7, x1001, x1002))
end
def spec_l9Line.f (k : Nat) (s0_0 : List Int) (s0_1 : Int) (s0_2 : Int) (l1_0 : List (S95)) (a2 : Int) : Option (ByteArray × Int × Int) := (spec_l1Below.f s0_0 s0_1 s0_2 (wrap64 (a2 + 1))).bind fun bt379 => (spec_l9Line.l0 k (⟨#[]⟩ : ByteArray) bt379.1 s0_0 bt379.2.1 bt379.2.2 l1_0)
theorem spec_l9Line.mono_l : ∀ k, (∀ y0 y1 y2 y3 y4 y5, LeO (spec_l9Line.l0 k y0 y1 y2 y3 y4 y5) (spec_l9Line.l0 (k + 1) y0 y1 y2 y3 y4 y5)) ∧ (∀ y0 y1 y2 y3 y4, LeO (spec_l9Line.l1 k y0 y1 y2 y3 y4) (spec_l9Line.l1 (k + 1) y0 y1 y2 y3 y4))
 | 0 => ⟨fun _ _ _ _ _ _ r h => by simp [spec_l9Line.l0] at h, fun _ _ _ _ _ r h => by simp [spec_l9Line.l1] at h⟩
 | k + 1 => by
  obtain ⟨ih0, ih1⟩ := spec_l9Line.mono_l k
  refine ⟨?_, ?_⟩
  ·intro y0 y1 y2 y3 y4 y5
   unfold spec_l9Line.l0
   repeat' first
   | (with_reducible exact ih0 _ _ _ _ _ _)
   | (with_reducible exact ih1 _ _ _ _ _)
   | (with_reducible exact spec_l8Word.mono _ _ _ _ _ _)
   | (with_reducible exact LeO.refl _)
   | (with_reducible exact LeO.none _)
   | (with_reducible refine LeO.ite ?_ ?_)
   | (with_reducible refine LeO.bind ?_ (fun _ => ?_))
   | exact ih0 _ _ _ _ _ _
   | exact ih1 _ _ _ _ _
   | exact spec_l8Word.mono _ _ _ _ _ _
   | exact LeO.none _
   | refine LeO.ite ?_ ?_
   | refine LeO.bind ?_ (fun _ => ?_)
  ·intro y0 y1 y2 y3 y4
   unfold spec_l9Line.l1
   repeat' first
   | (with_reducible exact ih0 _ _ _ _ _ _)
   | (with_reducible exact ih1 _ _ _ _ _)
   | (with_reducible exact spec_l8Word.mono _ _ _ _ _ _)
   | (with_reducible exact LeO.refl _)
   | (with_reducible exact LeO.none _)
   | (with_reducible refine LeO.ite ?_ ?_)
   | (with_reducible refine LeO.bind ?_ (fun _ => ?_))
   | exact ih0 _ _ _ _ _ _
   | exact ih1 _ _ _ _ _
   | exact spec_l8Word.mono _ _ _ _ _ _
   | exact LeO.none _
   | refine LeO.ite ?_ ?_
   | refine LeO.bind ?_ (fun _ => ?_)
theorem spec_l9Line.mono : ∀ a0 a1 a2 a3 a4 k, LeO (spec_l9Line.f k a0 a1 a2 a3 a4) (spec_l9Line.f (k + 1) a0 a1 a2 a3 a4) := by
 intro a0 a1 a2 a3 a4 k
 obtain ⟨ih0, ih1⟩ := spec_l9Line.mono_l k
 unfold spec_l9Line.f
 repeat' first
   | (with_reducible exact ih0 _ _ _ _ _ _)
   | (with_reducible exact ih1 _ _ _ _ _)
   | (with_reducible exact spec_l8Word.mono _ _ _ _ _ _)
   | (with_reducible exact LeO.refl _)
   | (with_reducible exact LeO.none _)
   | (with_reducible refine LeO.ite ?_ ?_)
   | (with_reducible refine LeO.bind ?_ (fun _ => ?_))
   | exact ih0 _ _ _ _ _ _
   | exact ih1 _ _ _ _ _
   | exact spec_l8Word.mono _ _ _ _ _ _
   | exact LeO.none _
   | refine LeO.ite ?_ ?_
   | refine LeO.bind ?_ (fun _ => ?_)
set_option maxHeartbeats 8000000 in
set_option maxRecDepth 100000 in
theorem spec_l9Line.calls (k : Nat) (g : Nat) (s0_0 : List Int) (s0_1 : Int) (s0_2 : Int) (A1_0 : Option Addr) (c1_0 : Nat) (l1_0 : List (S95)) (a2 : Int) (r1 : ByteArray) (r2 : Int) (r3 : Int) (w0 w : World) (hI : IsS90 w0 w g s0_0 s0_1 s0_2) (hB : Below w0.heap.size w0 w) (hr1_0 : ∀ W_, KeepBut w W_ g none → Kd.C k95 W_ A1_0 l1_0.length l1_0) (hc1_0 : l1_0.length ≤ c1_0) (h : spec_l9Line.f k s0_0 s0_1 s0_2 l1_0 a2 = some (r1, r2, r3)) :
  Calls Try.prog 54 #[.pointer (some ⟨g, 0, none⟩), .agg #[.slice A1_0 l1_0.length c1_0], .int .i64 a2] w fun e w' => e = .returned (.string r1) ∧ IsS90 w0 w' g s0_0 r2 r3 ∧ Below w0.heap.size w0 w' ∧ KeepBut w w' g none := by
 have hu26 := Try.underlying26
 have HR1_0 := Aside0.mk hr1_0
 have HC1_0 := Aside0.mk hc1_0
 clear hr1_0 hc1_0; have HI0 := Aside0.mk hI
 have HK := Aside0.mk (KeepBut.refl w g none)
 have HL := Aside0.mk hB.size
 clear hI; have HW0 := Aside0.mk hB.size
 have HB := Aside0.mk hB
 clear hB; have H : ((spec_l1Below.f s0_0 s0_1 s0_2 (wrap64 (a2 + 1))).bind fun bt379 => (spec_l9Line.l0 k (⟨#[]⟩ : ByteArray) bt379.1 s0_0 bt379.2.1 bt379.2.2 l1_0)) = some (r1, r2, r3) := h
 clear h; replace H := Option.bind_eq_some_iff.mp H
 obtain ⟨⟨t379, t380, t381⟩, A40, H⟩ := H
 replace H : (spec_l9Line.l0 k (⟨#[]⟩ : ByteArray) t379 s0_0 t380 t381 l1_0) = some (r1, r2, r3) := H
 have A4 := Aside0.mk A40
 clear A40; have H' := Aside0.mk H
 clear H
 go_enter Try.func54, Try.ntmps54
 go_wp2_with (first | ((with_reducible refine gate_dst (N := 4) rfl ?_); refine bX 4 #[.slice A1_0 l1_0.length c1_0] 26 ?_; intro e9a hg w5 hbox hb; have n0_ := Aside0.mk (IsS90.below (iS HI0) hb); have n1_ := Aside0.mk (KeepBut.trans (iK HK) (KeepBut.of_below hb g none) (.inl rfl)); have n2_ := Aside0.mk (below_step (iD HB) hb); have b9a := Aside0.mk (hbox); have c9a := Aside0.mk ((by rw [hg]; exact (keep_size (w := w) (g := g) (row := none) (iK HK)) : w.heap.size ≤ e9a)); have f9a := Aside0.mk ((Nat.le_trans HW0.out (by rw [hg]; exact (keep_size (w := w) (g := g) (row := none) (iK HK)) : w.heap.size ≤ e9a) : w0.heap.size ≤ e9a)); have a9a := Aside0.mk ((by rw [hg]; exact Nat.ne_of_lt (IsS90.lt (show IsS90 w0 _ g s0_0 s0_1 s0_2 from iS HI0)) : g ≠ e9a)); have d9a := Aside0.mk ((by rw [hg]; exact Nat.ne_of_gt (IsS90.lt (show IsS90 w0 _ g s0_0 s0_1 s0_2 from iS HI0)) : e9a ≠ g)); clear HI0 HK HB; have HI0 := n0_; have HK := n1_; have HB := n2_; clear n0_ n1_ n2_; clear hb hbox hg) | ((with_reducible refine gate_callee (f := 65) rfl ?_); refine goesC_ (some 13) Try.func65 #[.pointer (some ⟨g, 0, none⟩), .int .i64 (wrap64 (a2 + 1))] ?_; (with_reducible refine (spec_l1Below.calls g s0_0 s0_1 s0_2 (wrap64 (a2 + 1)) t379 t380 t381 w0 _ ?side1 ?side2 A4.out).mono ?_); (case side1 => exact iS HI0); (case side2 => exact iD HB); rintro e w6 ⟨rfl, hi, hb, hk⟩; refine ⟨_, rfl, ?_⟩; have n0_ := Aside0.mk (KeepBut.blk hk (g' := e9a) (o := .cells #[.slice A1_0 l1_0.length c1_0] 26 (0, 0)) kB d9a.out (by simp)); have n1_ := Aside0.mk (KeepBut.trans (iK HK) hk (.inl rfl)); have n2_ := Aside0.mk (hb); have n3_ := Aside0.mk (hi); clear b9a HK HB HI0; have b9a := n0_; have HK := n1_; have HB := n2_; have HI0 := n3_; clear n0_ n1_ n2_ n3_; (try clear hb); (try clear hb2); (try clear hk); (try clear hi)))
 go_loopg [7, 8] k (fun kq v7 v8 w' => ∃ (x7_1 : ByteArray) (x8_1 : Int) (g9a : Int) (h9a : Int), v7 = .string x7_1 ∧ v8 = .int .i64 x8_1 ∧ Aside0 (spec_l9Line.l0 kq x7_1 x8_1 s0_0 g9a h9a l1_0 = some (r1, r2, r3)) ∧ Aside0 (kq ≤ k) ∧ Aside0 (w'.heap[e9a]? = some (.cells #[(.slice A1_0 l1_0.length c1_0)] 26 (0, 0))) ∧ Aside0 (IsS90 w0 w' g s0_0 g9a h9a) ∧ Aside0 (KeepBut w w' g none) ∧ Aside0 (Below w0.heap.size w0 w'))
 case atStart => exact ⟨((⟨#[]⟩ : ByteArray)), (t379), (t380), (t381), sR, sR, H', ⟨Nat.le_refl _⟩, ⟨bb b9a⟩, ⟨iS HI0⟩, ⟨iK HK⟩, ⟨iD HB⟩⟩
 case round =>
  clear H'
  obtain ⟨x7_1, x8_1, g9a, h9a, rfl, rfl, HA, HK1, b9a, HI0, HK, HB⟩ := hrel
  cases gk with
  | zero => exact absurd HA.out (by simp [spec_l9Line.l0])
  | succ k1 =>
   have H := HA.out; clear HA; simp only [spec_l9Line.l0] at H
   by_cases c7 : x8_1 > 0
   ·rw [if_pos c7] at H
    have c7b0 : decide (0 < x8_1) = true := decide_eq_true c7
    clear c7; replace H := Option.bind_eq_some_iff.mp H
    obtain ⟨⟨t382, t383, t384⟩, A80, H⟩ := H
    replace H : (if x7_1.size + t382.size ≤ 9223372036854775807 then ((spec_l1Pick.f s0_0 t383 t384 (([(⟨#[32]⟩ : ByteArray), (⟨#[32]⟩ : ByteArray), (⟨#[]⟩ : ByteArray), (⟨#[32, 32]⟩ : ByteArray), (⟨#[10]⟩ : ByteArray), (⟨#[32, 9, 32]⟩ : ByteArray), (⟨#[49, 50]⟩ : ByteArray), (⟨#[51, 52, 53, 54]⟩ : ByteArray), (⟨#[46]⟩ : ByteArray), (⟨#[32, 46]⟩ : ByteArray), (⟨#[33, 63]⟩ : ByteArray), (⟨#[32, 32, 32]⟩ : ByteArray), (⟨#[13, 10]⟩ : ByteArray)] : List ByteArray))).bind fun k9a => (if (x7_1 ++ t382).size + k9a.1.size ≤ 9223372036854775807 then (spec_l9Line.l0 k1 ((x7_1 ++ t382) ++ k9a.1) (wrap64 (x8_1 - 1)) s0_0 k9a.2.1 k9a.2.2 l1_0) else (none))) else (none)) = some (r1, r2, r3) := H
    have A8 := Aside0.mk A80
    clear A80
    by_cases c9 : x7_1.size + t382.size ≤ 9223372036854775807
    ·rw [if_pos c9] at H
     have c9b0 := eq_true c9
     have c9b1 : decide (x7_1.size + t382.size ≤ 9223372036854775807) = true := decide_eq_true c9
     try have c9b2 : (9223372036854775807 < x7_1.size + t382.size) = False := eq_false (Nat.not_lt.2 c9)
     obtain ⟨y385, hy385⟩ : ∃ y_ : List ByteArray, y_ = (([(⟨#[32]⟩ : ByteArray), (⟨#[32]⟩ : ByteArray), (⟨#[]⟩ : ByteArray), (⟨#[32, 32]⟩ : ByteArray), (⟨#[10]⟩ : ByteArray), (⟨#[32, 9, 32]⟩ : ByteArray), (⟨#[49, 50]⟩ : ByteArray), (⟨#[51, 52, 53, 54]⟩ : ByteArray), (⟨#[46]⟩ : ByteArray), (⟨#[32, 46]⟩ : ByteArray), (⟨#[33, 63]⟩ : ByteArray), (⟨#[32, 32, 32]⟩ : ByteArray), (⟨#[13, 10]⟩ : ByteArray)] : List ByteArray)) := ⟨_, rfl⟩
     replace H : ((spec_l1Pick.f s0_0 t383 t384 y385).bind fun k9a => (if (x7_1 ++ t382).size + k9a.1.size ≤ 9223372036854775807 then (spec_l9Line.l0 k1 ((x7_1 ++ t382) ++ k9a.1) (wrap64 (x8_1 - 1)) s0_0 k9a.2.1 k9a.2.2 l1_0) else (none))) = some (r1, r2, r3) := by first | (rw [hy385]; with_reducible exact H) | (have H2_ := (Option.bind_some _ _).symm.trans H; rw [hy385]; with_reducible exact H2_) | (have H2_ := (Option.bind_some _ _).symm.trans H; with_reducible exact H2_) | with_reducible exact H | (rw [hy385]; exact H) | exact H
     have Ny385 := Aside0.mk hy385
     clear hy385; replace H := Option.bind_eq_some_iff.mp H
     obtain ⟨⟨t388, t389, t390⟩, A100, H⟩ := H
     replace H : (if (x7_1 ++ t382).size + t388.size ≤ 9223372036854775807 then (spec_l9Line.l0 k1 ((x7_1 ++ t382) ++ t388) (wrap64 (x8_1 - 1)) s0_0 t389 t390 l1_0) else (none)) = some (r1, r2, r3) := H
     have A10 := Aside0.mk A100
     clear A100
     by_cases c11 : (x7_1 ++ t382).size + t388.size ≤ 9223372036854775807
     ·rw [if_pos c11] at H
      have c11b0 := eq_true c11
      have c11b1 : decide ((x7_1 ++ t382).size + t388.size ≤ 9223372036854775807) = true := decide_eq_true c11
      try have c11b2 : (9223372036854775807 < (x7_1 ++ t382).size + t388.size) = False := eq_false (Nat.not_lt.2 c11)
      try have c11b6 : (9223372036854775807 < (x7_1.size + t382.size) + t388.size) = False := eq_false (by have h_ := c11; simp only [ByteArray.size_append] at h_; omega)
      have H' := Aside0.mk H
      clear H; have hnb12 := d9a.out; have hnc12 := a9a.out; have hcz13_0 : wr.cell? ⟨e9a, 0, none⟩ = some (.slice A1_0 l1_0.length c1_0) := bc b9a 0
      have hfz13_0 := blk_frozen b9a.out 0
      go_wp2_with (first | ((with_reducible refine gate_callee (f := 78) rfl ?_); refine goesC_ (some 21) Try.func78 #[.pointer (some ⟨g, 0, none⟩), .agg #[.slice A1_0 l1_0.length c1_0], .int .i64 5] ?_; (with_reducible refine (spec_l8Word.calls k1 g s0_0 g9a h9a _ _ l1_0 5 t382 t383 t384 w0 _ ?side1 ?side2 ?side3 ?side4 A8.out).mono ?_); (case side1 => exact iS HI0); (case side2 => exact iD HB); (case side3 => exact Kd.C_foot_step HR1_0.out (iK HK)); (case side4 => exact HC1_0.out); rintro e w14 ⟨rfl, hi, hb, hk⟩; refine ⟨_, rfl, ?_⟩; have n0_ := Aside0.mk (KeepBut.blk hk (g' := e9a) (o := .cells #[.slice A1_0 l1_0.length c1_0] 26 (0, 0)) kB d9a.out (by simp)); have n1_ := Aside0.mk (KeepBut.trans (iK HK) hk (.inl rfl)); have n2_ := Aside0.mk (hb); have n3_ := Aside0.mk (hi); clear b9a HK HB HI0; have b9a := n0_; have HK := n1_; have HB := n2_; have HI0 := n3_; clear n0_ n1_ n2_ n3_; (try clear hb); (try clear hb2); (try clear hk); (try clear hi)) | ((with_reducible refine gate_dst (N := 24) rfl ?_); refine Kd.R_lit Kd.string _ 9 ?hg (N := 24) ?hd (xs := ([(⟨#[32]⟩ : ByteArray), (⟨#[32]⟩ : ByteArray), (⟨#[]⟩ : ByteArray), (⟨#[32, 32]⟩ : ByteArray), (⟨#[10]⟩ : ByteArray), (⟨#[32, 9, 32]⟩ : ByteArray), (⟨#[49, 50]⟩ : ByteArray), (⟨#[51, 52, 53, 54]⟩ : ByteArray), (⟨#[46]⟩ : ByteArray), (⟨#[32, 46]⟩ : ByteArray), (⟨#[33, 63]⟩ : ByteArray), (⟨#[32, 32, 32]⟩ : ByteArray), (⟨#[13, 10]⟩ : ByteArray)] : List ByteArray)) (inner := [.string (⟨#[32]⟩ : ByteArray), .string (⟨#[32]⟩ : ByteArray), .string (⟨#[]⟩ : ByteArray), .string (⟨#[32, 32]⟩ : ByteArray), .string (⟨#[10]⟩ : ByteArray), .string (⟨#[32, 9, 32]⟩ : ByteArray), .string (⟨#[49, 50]⟩ : ByteArray), .string (⟨#[51, 52, 53, 54]⟩ : ByteArray), .string (⟨#[46]⟩ : ByteArray), .string (⟨#[32, 46]⟩ : ByteArray), .string (⟨#[33, 63]⟩ : ByteArray), .string (⟨#[32, 32, 32]⟩ : ByteArray), .string (⟨#[13, 10]⟩ : ByteArray)]) (ok := fun _ => True) (okp := fun _ => True) ?hr ?hp (fun _ hk => hk) trivial (Below.refl _ _) (Nat.le_refl _) (by simp) ?_; (case hd => rfl); (case hg => rfl); (case hr => first | (go_simp; done) | (go_simp; rfl)); (case hp => exact (Reps.one (show Kd.M Kd.string _ _ _ (⟨#[32]⟩ : ByteArray) [.string (⟨#[32]⟩ : ByteArray)] from rfl) (Reps.one (show Kd.M Kd.string _ _ _ (⟨#[32]⟩ : ByteArray) [.string (⟨#[32]⟩ : ByteArray)] from rfl) (Reps.one (show Kd.M Kd.string _ _ _ (⟨#[]⟩ : ByteArray) [.string (⟨#[]⟩ : ByteArray)] from rfl) (Reps.one (show Kd.M Kd.string _ _ _ (⟨#[32, 32]⟩ : ByteArray) [.string (⟨#[32, 32]⟩ : ByteArray)] from rfl) (Reps.one (show Kd.M Kd.string _ _ _ (⟨#[10]⟩ : ByteArray) [.string (⟨#[10]⟩ : ByteArray)] from rfl) (Reps.one (show Kd.M Kd.string _ _ _ (⟨#[32, 9, 32]⟩ : ByteArray) [.string (⟨#[32, 9, 32]⟩ : ByteArray)] from rfl) (Reps.one (show Kd.M Kd.string _ _ _ (⟨#[49, 50]⟩ : ByteArray) [.string (⟨#[49, 50]⟩ : ByteArray)] from rfl) (Reps.one (show Kd.M Kd.string _ _ _ (⟨#[51, 52, 53, 54]⟩ : ByteArray) [.string (⟨#[51, 52, 53, 54]⟩ : ByteArray)] from rfl) (Reps.one (show Kd.M Kd.string _ _ _ (⟨#[46]⟩ : ByteArray) [.string (⟨#[46]⟩ : ByteArray)] from rfl) (Reps.one (show Kd.M Kd.string _ _ _ (⟨#[32, 46]⟩ : ByteArray) [.string (⟨#[32, 46]⟩ : ByteArray)] from rfl) (Reps.one (show Kd.M Kd.string _ _ _ (⟨#[33, 63]⟩ : ByteArray) [.string (⟨#[33, 63]⟩ : ByteArray)] from rfl) (Reps.one (show Kd.M Kd.string _ _ _ (⟨#[32, 32, 32]⟩ : ByteArray) [.string (⟨#[32, 32, 32]⟩ : ByteArray)] from rfl) (Reps.one (show Kd.M Kd.string _ _ _ (⟨#[13, 10]⟩ : ByteArray) [.string (⟨#[13, 10]⟩ : ByteArray)] from rfl) (Reps.none _ _))))))))))))))); intro v386 w15 ho16 hb hg_ hnew_; clear hg_ hnew_; (first | rw [← Ny385.out] at ho16 | (simp only [Int.reduceToNat] at ho16; rw [← Ny385.out] at ho16)); have n2_ := Aside0.mk (IsS90.below (iS HI0) hb); have n3_ := Aside0.mk (KeepBut.trans (iK HK) (KeepBut.of_below hb g none) (.inl rfl)); have n4_ := Aside0.mk (below_step (iD HB) hb); have l9a := Aside0.mk (Kd.R_lower ho16 (keep_size (w := w) (g := g) (row := none) (iK HK))); replace b9a := bq b9a hb; clear HI0 HK HB; have HI0 := n2_; have HK := n3_; have HB := n4_; clear n2_ n3_ n4_; clear hb ho16; obtain ⟨Ao17, co17, eo17⟩ := Kd.R_slice l9a.out; subst eo17) | ((with_reducible refine gate_callee (f := 79) rfl ?_); refine goesC_ (some 25) Try.func79 #[.pointer (some ⟨g, 0, none⟩), .slice Ao17 y385.length co17] ?_; (with_reducible refine (spec_l1Pick.calls g s0_0 t383 t384 _ _ y385 t388 t389 t390 w0 _ ?side1 ?side2 ?side3 ?side4 ?side5 A10.out).mono ?_); (case side1 => exact iS HI0); (case side2 => exact iD HB); (case side3 => exact cX ((Kd.R_reads' l9a.out).2.2)); (case side4 => exact (Kd.R_reads' l9a.out).2.1); (case side5 => exact far_slice (IsS90.own_ne HI0.out l9a.out (by decide))); rintro e w18 ⟨rfl, hi, hb, hk⟩; refine ⟨_, rfl, ?_⟩; have n0_ := Aside0.mk (KeepBut.blk hk (g' := e9a) (o := .cells #[.slice A1_0 l1_0.length c1_0] 26 (0, 0)) kB d9a.out (by simp)); have n1_ := Aside0.mk (Kd.R_mono (Kd.R_keep (IsS90.apart (show IsS90 w0 _ g s0_0 t383 t384 from iS HI0) (rr l9a) (by decide)) hk (fun _ h => h.2)) (fun _ h => h.1)); have n2_ := Aside0.mk (KeepBut.trans (iK HK) hk (.inl rfl)); have n3_ := Aside0.mk (hb); have n4_ := Aside0.mk (hi); clear b9a l9a HK HB HI0; have b9a := n0_; have l9a := n1_; have HK := n2_; have HB := n3_; have HI0 := n4_; clear n0_ n1_ n2_ n3_ n4_; (try clear hb); (try clear hb2); (try clear hk); (try clear hi)))
      go_roundg k1
      case measure => have := HK1.out; omega
      case rel => exact ⟨((x7_1 ++ t382) ++ t388), (wrap64 (x8_1 - 1)), (t389), (t390), sR, sR, H', ⟨by have := HK1.out; omega⟩, ⟨bb b9a⟩, ⟨iS HI0⟩, ⟨iK HK⟩, ⟨iD HB⟩⟩
     ·rw [if_neg c11] at H
      exact absurd H (by simp)
    ·rw [if_neg c9] at H
     exact absurd H (by simp)
   ·rw [if_neg c7] at H
    have c7b0 : decide (0 < x8_1) = false := decide_eq_false c7
    clear c7; replace H := Option.bind_eq_some_iff.mp H
    obtain ⟨⟨t391, t392, t393⟩, A190, H⟩ := H
    replace H : (if t391 = true then ((spec_l1Below.f s0_0 t392 t393 2).bind fun m9a => (spec_l9Line.l1 k1 (⟨#[]⟩ : ByteArray) (wrap64 (1000 + m9a.1)) s0_0 m9a.2.1 m9a.2.2)) else (some (x7_1, t392, t393))) = some (r1, r2, r3) := H
    have A19 := Aside0.mk A190
    clear A190
    by_cases c20 : t391 = true
    ·subst c20
     have H1 : ((spec_l1Below.f s0_0 t392 t393 2).bind fun m9a => (spec_l9Line.l1 k1 (⟨#[]⟩ : ByteArray) (wrap64 (1000 + m9a.1)) s0_0 m9a.2.1 m9a.2.2)) = some (r1, r2, r3) := by rw [if_pos rfl] at H; exact H
     clear H; have H := H1
     clear H1; replace H := Option.bind_eq_some_iff.mp H
     obtain ⟨⟨t394, t395, t396⟩, A210, H⟩ := H
     replace H : (spec_l9Line.l1 k1 (⟨#[]⟩ : ByteArray) (wrap64 (1000 + t394)) s0_0 t395 t396) = some (r1, r2, r3) := H
     have A21 := Aside0.mk A210
     clear A210; have H' := Aside0.mk H
     clear H
     go_wp2_with (first | ((with_reducible refine gate_callee (f := 64) rfl ?_); refine goesC_ (some 28) Try.func64 #[.pointer (some ⟨g, 0, none⟩), .int .i64 30] ?_; (with_reducible refine (spec_l1Once.calls g s0_0 g9a h9a 30 true t392 t393 w0 _ ?side1 ?side2 A19.out).mono ?_); (case side1 => exact iS HI0); (case side2 => exact iD HB); rintro e w22 ⟨rfl, hi, hb, hk⟩; refine ⟨_, rfl, ?_⟩; have n0_ := Aside0.mk (KeepBut.blk hk (g' := e9a) (o := .cells #[.slice A1_0 l1_0.length c1_0] 26 (0, 0)) kB d9a.out (by simp)); have n1_ := Aside0.mk (KeepBut.trans (iK HK) hk (.inl rfl)); have n2_ := Aside0.mk (hb); have n3_ := Aside0.mk (hi); clear b9a HK HB HI0; have b9a := n0_; have HK := n1_; have HB := n2_; have HI0 := n3_; clear n0_ n1_ n2_ n3_; (try clear hb); (try clear hb2); (try clear hk); (try clear hi)) | ((with_reducible refine gate_callee (f := 65) rfl ?_); refine goesC_ (some 30) Try.func65 #[.pointer (some ⟨g, 0, none⟩), .int .i64 2] ?_; (with_reducible refine (spec_l1Below.calls g s0_0 t392 t393 2 t394 t395 t396 w0 _ ?side1 ?side2 A21.out).mono ?_); (case side1 => exact iS HI0); (case side2 => exact iD HB); rintro e w23 ⟨rfl, hi, hb, hk⟩; refine ⟨_, rfl, ?_⟩; have n0_ := Aside0.mk (KeepBut.blk hk (g' := e9a) (o := .cells #[.slice A1_0 l1_0.length c1_0] 26 (0, 0)) kB d9a.out (by simp)); have n1_ := Aside0.mk (KeepBut.trans (iK HK) hk (.inl rfl)); have n2_ := Aside0.mk (hb); have n3_ := Aside0.mk (hi); clear b9a HK HB HI0; have b9a := n0_; have HK := n1_; have HB := n2_; have HI0 := n3_; clear n0_ n1_ n2_ n3_; (try clear hb); (try clear hb2); (try clear hk); (try clear hi)))
     go_loopg [7] k1 (fun kq v7 w' => ∃ (x7_2 : ByteArray) (i9a : Int) (j9a : Int), v7 = .string x7_2 ∧ Aside0 (spec_l9Line.l1 kq x7_2 (wrap64 (1000 + t394)) s0_0 i9a j9a = some (r1, r2, r3)) ∧ Aside0 (kq ≤ k1) ∧ Aside0 (w'.heap[e9a]? = some (.cells #[(.slice A1_0 l1_0.length c1_0)] 26 (0, 0))) ∧ Aside0 (IsS90 w0 w' g s0_0 i9a j9a) ∧ Aside0 (KeepBut w w' g none) ∧ Aside0 (Below w0.heap.size w0 w'))
     case atStart => exact ⟨((⟨#[]⟩ : ByteArray)), (t395), (t396), sR, H', ⟨Nat.le_refl _⟩, ⟨bb b9a⟩, ⟨iS HI0⟩, ⟨iK HK⟩, ⟨iD HB⟩⟩
     case round =>
      clear H'
      obtain ⟨x7_2, i9a, j9a, rfl, HA, HK2, b9a, HI0, HK, HB⟩ := hrel
      cases gk with
      | zero => exact absurd HA.out (by simp [spec_l9Line.l1])
      | succ k2 =>
       have H := HA.out; clear HA; simp only [spec_l9Line.l1] at H
       by_cases c24 : (x7_2.size : Int) < (wrap64 (1000 + t394))
       ·rw [if_pos c24] at H
        have c24b0 : decide ((x7_2.size : Int) < (wrap64 (1000 + t394))) = true := decide_eq_true c24
        clear c24; obtain ⟨y397, hy397⟩ : ∃ y_ : List ByteArray, y_ = (([(⟨#[97]⟩ : ByteArray), (⟨#[98]⟩ : ByteArray), (⟨#[32]⟩ : ByteArray), (⟨#[49]⟩ : ByteArray)] : List ByteArray)) := ⟨_, rfl⟩
        replace H : ((spec_l1Pick.f s0_0 i9a j9a y397).bind fun bt400 => (if x7_2.size + bt400.1.size ≤ 9223372036854775807 then (spec_l9Line.l1 k2 (x7_2 ++ bt400.1) (wrap64 (1000 + t394)) s0_0 bt400.2.1 bt400.2.2) else (none))) = some (r1, r2, r3) := by first | (rw [hy397]; with_reducible exact H) | (have H2_ := (Option.bind_some _ _).symm.trans H; rw [hy397]; with_reducible exact H2_) | (have H2_ := (Option.bind_some _ _).symm.trans H; with_reducible exact H2_) | with_reducible exact H | (rw [hy397]; exact H) | exact H
        have Ny397 := Aside0.mk hy397
        clear hy397; replace H := Option.bind_eq_some_iff.mp H
        obtain ⟨⟨t400, t401, t402⟩, A250, H⟩ := H
        replace H : (if x7_2.size + t400.size ≤ 9223372036854775807 then (spec_l9Line.l1 k2 (x7_2 ++ t400) (wrap64 (1000 + t394)) s0_0 t401 t402) else (none)) = some (r1, r2, r3) := H
        have A25 := Aside0.mk A250
        clear A250
        by_cases c26 : x7_2.size + t400.size ≤ 9223372036854775807
        ·rw [if_pos c26] at H
         have c26b0 := eq_true c26
         have c26b1 : decide (x7_2.size + t400.size ≤ 9223372036854775807) = true := decide_eq_true c26
         try have c26b2 : (9223372036854775807 < x7_2.size + t400.size) = False := eq_false (Nat.not_lt.2 c26)
         have H' := Aside0.mk H
         clear H
         go_wp2_with (first | ((with_reducible refine gate_dst (N := 38) rfl ?_); refine Kd.R_lit Kd.string _ 9 ?hg (N := 38) ?hd (xs := ([(⟨#[97]⟩ : ByteArray), (⟨#[98]⟩ : ByteArray), (⟨#[32]⟩ : ByteArray), (⟨#[49]⟩ : ByteArray)] : List ByteArray)) (inner := [.string (⟨#[97]⟩ : ByteArray), .string (⟨#[98]⟩ : ByteArray), .string (⟨#[32]⟩ : ByteArray), .string (⟨#[49]⟩ : ByteArray)]) (ok := fun _ => True) (okp := fun _ => True) ?hr ?hp (fun _ hk => hk) trivial (Below.refl _ _) (Nat.le_refl _) (by simp) ?_; (case hd => rfl); (case hg => rfl); (case hr => first | (go_simp; done) | (go_simp; rfl)); (case hp => exact (Reps.one (show Kd.M Kd.string _ _ _ (⟨#[97]⟩ : ByteArray) [.string (⟨#[97]⟩ : ByteArray)] from rfl) (Reps.one (show Kd.M Kd.string _ _ _ (⟨#[98]⟩ : ByteArray) [.string (⟨#[98]⟩ : ByteArray)] from rfl) (Reps.one (show Kd.M Kd.string _ _ _ (⟨#[32]⟩ : ByteArray) [.string (⟨#[32]⟩ : ByteArray)] from rfl) (Reps.one (show Kd.M Kd.string _ _ _ (⟨#[49]⟩ : ByteArray) [.string (⟨#[49]⟩ : ByteArray)] from rfl) (Reps.none _ _)))))); intro v398 w27 ho28 hb hg_ hnew_; clear hg_ hnew_; (first | rw [← Ny397.out] at ho28 | (simp only [Int.reduceToNat] at ho28; rw [← Ny397.out] at ho28)); have n2_ := Aside0.mk (IsS90.below (iS HI0) hb); have n3_ := Aside0.mk (KeepBut.trans (iK HK) (KeepBut.of_below hb g none) (.inl rfl)); have n4_ := Aside0.mk (below_step (iD HB) hb); have n9a := Aside0.mk (Kd.R_lower ho28 (keep_size (w := w) (g := g) (row := none) (iK HK))); replace b9a := bq b9a hb; clear HI0 HK HB; have HI0 := n2_; have HK := n3_; have HB := n4_; clear n2_ n3_ n4_; clear hb ho28; obtain ⟨Ao29, co29, eo29⟩ := Kd.R_slice n9a.out; subst eo29) | ((with_reducible refine gate_callee (f := 79) rfl ?_); refine goesC_ (some 39) Try.func79 #[.pointer (some ⟨g, 0, none⟩), .slice Ao29 y397.length co29] ?_; (with_reducible refine (spec_l1Pick.calls g s0_0 i9a j9a _ _ y397 t400 t401 t402 w0 _ ?side1 ?side2 ?side3 ?side4 ?side5 A25.out).mono ?_); (case side1 => exact iS HI0); (case side2 => exact iD HB); (case side3 => exact cX ((Kd.R_reads' n9a.out).2.2)); (case side4 => exact (Kd.R_reads' n9a.out).2.1); (case side5 => exact far_slice (IsS90.own_ne HI0.out n9a.out (by decide))); rintro e w30 ⟨rfl, hi, hb, hk⟩; refine ⟨_, rfl, ?_⟩; have n0_ := Aside0.mk (KeepBut.blk hk (g' := e9a) (o := .cells #[.slice A1_0 l1_0.length c1_0] 26 (0, 0)) kB d9a.out (by simp)); have n1_ := Aside0.mk (Kd.R_mono (Kd.R_keep (IsS90.apart (show IsS90 w0 _ g s0_0 i9a j9a from iS HI0) (rr n9a) (by decide)) hk (fun _ h => h.2)) (fun _ h => h.1)); have n2_ := Aside0.mk (KeepBut.trans (iK HK) hk (.inl rfl)); have n3_ := Aside0.mk (hb); have n4_ := Aside0.mk (hi); clear b9a n9a HK HB HI0; have b9a := n0_; have n9a := n1_; have HK := n2_; have HB := n3_; have HI0 := n4_; clear n0_ n1_ n2_ n3_ n4_; (try clear hb); (try clear hb2); (try clear hk); (try clear hi)))
         go_roundg k2
         case measure => have := HK1.out; have := HK2.out; omega
         case rel => exact ⟨(x7_2 ++ t400), (t401), (t402), sR, H', ⟨by have := HK1.out; have := HK2.out; omega⟩, ⟨bb b9a⟩, ⟨iS HI0⟩, ⟨iK HK⟩, ⟨iD HB⟩⟩
        ·rw [if_neg c26] at H
         exact absurd H (by simp)
       ·rw [if_neg c24] at H
        have c24b0 : decide ((x7_2.size : Int) < (wrap64 (1000 + t394))) = false := decide_eq_false c24
        clear c24; simp only [Option.some.injEq, Prod.mk.injEq] at H
        obtain ⟨rfl, rfl, rfl⟩ := H
        go_wp2
        go_ret
        exact ⟨eR, iS HI0, iD HB, iK HK⟩
    ·replace c20 := Bool.eq_false_iff.mpr c20
     subst c20
     have H1 : (some (x7_1, t392, t393)) = some (r1, r2, r3) := by rw [if_neg (show ¬ (false = true) by decide)] at H; exact H
     clear H; have H := H1
     clear H1; simp only [Option.some.injEq, Prod.mk.injEq] at H
     obtain ⟨rfl, rfl, rfl⟩ := H
     go_wp2_with (first | ((with_reducible refine gate_callee (f := 64) rfl ?_); refine goesC_ (some 28) Try.func64 #[.pointer (some ⟨g, 0, none⟩), .int .i64 30] ?_; (with_reducible refine (spec_l1Once.calls g s0_0 g9a h9a 30 false t392 t393 w0 _ ?side1 ?side2 A19.out).mono ?_); (case side1 => exact iS HI0); (case side2 => exact iD HB); rintro e w31 ⟨rfl, hi, hb, hk⟩; refine ⟨_, rfl, ?_⟩; have n0_ := Aside0.mk (KeepBut.blk hk (g' := e9a) (o := .cells #[.slice A1_0 l1_0.length c1_0] 26 (0, 0)) kB d9a.out (by simp)); have n1_ := Aside0.mk (KeepBut.trans (iK HK) hk (.inl rfl)); have n2_ := Aside0.mk (hb); have n3_ := Aside0.mk (hi); clear b9a HK HB HI0; have b9a := n0_; have HK := n1_; have HB := n2_; have HI0 := n3_; clear n0_ n1_ n2_ n3_; (try clear hb); (try clear hb2); (try clear hk); (try clear hi)))
     go_ret
     exact ⟨eR, iS HI0, iD HB, iK HK⟩
def spec_DrawEncodeMemo.f (k : Nat) (l0 : List Int) : Option ((List (S95)) × Int × (List (S86)) × ByteArray) := (spec_l1New.f k l0).bind fun bt405 => ((spec_l1Size.f l0 10).bind fun t409 => ((spec_l7Any.f k bt405.1 bt405.2.1 bt405.2.2 t409).bind fun bt410 => ((spec_l10Memo.f k bt405.1 bt410.2.1 bt410.2.2 bt410.1).bind fun bt416 => ((spec_l1Size.f l0 8).bind fun t423 => ((spec_l9Line.f k bt405.1 bt416.2.2.1 bt416.2.2.2 bt410.1 t423).bind fun bt424 => (some (bt410.1, bt416.1, bt416.2.1, bt424.1)))))))
theorem spec_DrawEncodeMemo.mono : ∀ a0 k, LeO (spec_DrawEncodeMemo.f k a0) (spec_DrawEncodeMemo.f (k + 1) a0) := by
 intro a0 k
 unfold spec_DrawEncodeMemo.f
 repeat' first
   | (with_reducible exact spec_l10Memo.mono _ _ _ _ _)
   | (with_reducible exact spec_l1New.mono _ _)
   | (with_reducible exact spec_l7Any.mono _ _ _ _ _)
   | (with_reducible exact spec_l9Line.mono _ _ _ _ _ _)
   | (with_reducible exact LeO.refl _)
   | (with_reducible exact LeO.none _)
   | (with_reducible refine LeO.ite ?_ ?_)
   | (with_reducible refine LeO.bind ?_ (fun _ => ?_))
   | exact spec_l10Memo.mono _ _ _ _ _
   | exact spec_l1New.mono _ _
   | exact spec_l7Any.mono _ _ _ _ _
   | exact spec_l9Line.mono _ _ _ _ _ _
   | exact LeO.none _
   | refine LeO.ite ?_ ?_
   | refine LeO.bind ?_ (fun _ => ?_)
def spec_DrawEncodeMemo.T4 : Bool × List (List Nat × List Nat) := (true, [([], []), ([], []), ([], []), ([], []), ([], []), ([4], [4]), ([2, 3, 5, 5], [2, 3, 5]), ([0, 6, 0], [0]), ([1, 7, 0, 1, 7], [1]), ([6, 8, 0, 1, 2, 3, 4, 5, 6, 7, 8], [6])])
def spec_DrawEncodeMemo.B4 : List Nat := [0, 0, 0, 0, 0, 16, 60, 125, 255, 511]
theorem spec_DrawEncodeMemo.tab4 : rtab .any (opsOf Try.f27 4) = spec_DrawEncodeMemo.T4 := by kernel_rfl
theorem spec_DrawEncodeMemo.bits4 : waitsOk spec_DrawEncodeMemo.T4.2 spec_DrawEncodeMemo.B4 = true := by kernel_rfl
set_option maxHeartbeats 8000000 in
set_option maxRecDepth 100000 in
theorem spec_DrawEncodeMemo.calls (k : Nat) (A0 : Option Addr) (c0 : Nat) (l0 : List Int) (r1 : List (S95)) (r2 : Int) (r3 : List (S86)) (r4 : ByteArray) (w : World) (hr0 : Kd.C (Kd.int .u8) w A0 l0.length l0) (hc0 : l0.length ≤ c0) (h : spec_DrawEncodeMemo.f k l0 = some (r1, r2, r3, r4)) :
  Calls Try.prog 27 #[.slice A0 l0.length c0] w fun e w' => ∃ v0_ v2_ : Value, e = .returned (.tuple #[.agg #[v0_], .agg #[.int .i64 r2, v2_], .string r4]) ∧ Kd.R k95 95 w' w.heap.size (fun k_ => (w.heap.size ≤ k_)) v0_ r1 ∧ Kd.N k86 86 w' w.heap.size (fun k_ => (w.heap.size ≤ k_) ∧ some k_ ≠ (v0_ : Value).ownBlock) v2_ r3 ∧ Below w.heap.size w w' := by
 have hu26 := Try.underlying26
 have hu31 := Try.underlying31
 have HR0 := Aside0.mk hr0
 have HC0 := Aside0.mk hc0
 clear hr0 hc0; have HB := Aside0.mk (Below.refl w.heap.size w)
 have H : ((spec_l1New.f k l0).bind fun bt405 => ((spec_l1Size.f l0 10).bind fun t409 => ((spec_l7Any.f k bt405.1 bt405.2.1 bt405.2.2 t409).bind fun m9a => ((spec_l10Memo.f k bt405.1 m9a.2.1 m9a.2.2 m9a.1).bind fun k9a => ((spec_l1Size.f l0 8).bind fun t423 => ((spec_l9Line.f k bt405.1 k9a.2.2.1 k9a.2.2.2 m9a.1 t423).bind fun A9a => (some (m9a.1, k9a.1, k9a.2.1, A9a.1)))))))) = some (r1, r2, r3, r4) := h
 clear h; replace H := Option.bind_eq_some_iff.mp H
 obtain ⟨⟨t405, t406, t407⟩, A20, H⟩ := H
 replace H : ((spec_l1Size.f l0 10).bind fun t409 => ((spec_l7Any.f k t405 t406 t407 t409).bind fun m9a => ((spec_l10Memo.f k t405 m9a.2.1 m9a.2.2 m9a.1).bind fun k9a => ((spec_l1Size.f l0 8).bind fun t423 => ((spec_l9Line.f k t405 k9a.2.2.1 k9a.2.2.2 m9a.1 t423).bind fun A9a => (some (m9a.1, k9a.1, k9a.2.1, A9a.1))))))) = some (r1, r2, r3, r4) := H
 have A2 := Aside0.mk A20
 clear A20; replace H := Option.bind_eq_some_iff.mp H
 obtain ⟨t409, A30, H⟩ := H
 replace H : ((spec_l7Any.f k t405 t406 t407 t409).bind fun m9a => ((spec_l10Memo.f k t405 m9a.2.1 m9a.2.2 m9a.1).bind fun k9a => ((spec_l1Size.f l0 8).bind fun t423 => ((spec_l9Line.f k t405 k9a.2.2.1 k9a.2.2.2 m9a.1 t423).bind fun A9a => (some (m9a.1, k9a.1, k9a.2.1, A9a.1)))))) = some (r1, r2, r3, r4) := H
 have A3 := Aside0.mk A30
 clear A30; replace H := Option.bind_eq_some_iff.mp H
 obtain ⟨⟨t410, t413, t414⟩, A40, H⟩ := H
 replace H : ((spec_l10Memo.f k t405 t413 t414 t410).bind fun k9a => ((spec_l1Size.f l0 8).bind fun t423 => ((spec_l9Line.f k t405 k9a.2.2.1 k9a.2.2.2 t410 t423).bind fun A9a => (some (t410, k9a.1, k9a.2.1, A9a.1))))) = some (r1, r2, r3, r4) := H
 have A4 := Aside0.mk A40
 clear A40; replace H := Option.bind_eq_some_iff.mp H
 obtain ⟨⟨t416, t417, t420, t421⟩, A50, H⟩ := H
 replace H : ((spec_l1Size.f l0 8).bind fun t423 => ((spec_l9Line.f k t405 t420 t421 t410 t423).bind fun A9a => (some (t410, t416, t417, A9a.1)))) = some (r1, r2, r3, r4) := H
 have A5 := Aside0.mk A50
 clear A50; replace H := Option.bind_eq_some_iff.mp H
 obtain ⟨t423, A60, H⟩ := H
 replace H : ((spec_l9Line.f k t405 t420 t421 t410 t423).bind fun A9a => (some (t410, t416, t417, A9a.1))) = some (r1, r2, r3, r4) := H
 have A6 := Aside0.mk A60
 clear A60; replace H := Option.bind_eq_some_iff.mp H
 obtain ⟨⟨t424, t425, t426⟩, A70, H⟩ := H
 replace H : (some (t410, t416, t417, t424)) = some (r1, r2, r3, r4) := H
 have A7 := Aside0.mk A70
 clear A70; simp only [Option.some.injEq, Prod.mk.injEq] at H
 obtain ⟨rfl, rfl, rfl, rfl⟩ := H
 go_enter Try.func27, Try.ntmps27
 try go_wp2_with (first | ((with_reducible refine gate_dst (N := 2) rfl ?_); refine bX 2 #[.slice none 0 0] 26 ?_; intro n9a hg w8 hbox hb; have c9a := Aside0.mk (hbox); have GW403 := bs HB hg; have o9a := bs HB hg; replace HB := bh HB hb; clear hb hbox hg) | ((with_reducible refine gate_dst (N := 3) rfl ?_); refine bX 3 #[.int .i64 0, .slice none 0 0] 31 ?_; intro h9a hg w9 hbox hb; have e9a := Aside0.mk (hbox); have GW404 := bs HB hg; have p9a := bs HB hg; have u9a := bl c9a hg; have v9a := bg c9a hg; replace c9a := bq c9a hb; replace HB := bh HB hb; clear hb hbox hg) | ((with_reducible refine gate_callee (f := 32) rfl ?_); refine goesC_ (some 9) Try.func32 #[.slice A0 l0.length c0] ?_; (with_reducible refine (spec_l1New.calls k _ _ l0 t405 t406 t407 w _ ?side1 ?side2 ?side3 A2.out).mono ?_); (case side1 => exact iB HB); (case side2 => exact HR0.out); (case side3 => exact HC0.out); rintro e w10 ⟨g408, rfl, hi, hb, hb2⟩; refine ⟨_, rfl, ?_⟩; have n2_ := Aside0.mk (hb); have HI408 := Aside0.mk (hi); have a9a := Aside0.mk (IsS90.ne_blk hi (blk_below (bb c9a) hb2) (by decide)); have B9a := Aside0.mk (Ne.symm (IsS90.ne_blk hi (blk_below (bb c9a) hb2) (by decide))); have b9a := Aside0.mk (IsS90.ne_blk hi (blk_below (bb e9a) hb2) (by decide)); have C9a := Aside0.mk (Ne.symm (IsS90.ne_blk hi (blk_below (bb e9a) hb2) (by decide))); replace c9a := bq c9a hb2; replace e9a := bq e9a hb2; clear HB; have HB := n2_; clear n2_; (try clear hb); (try clear hb2); (try clear hk); (try clear hi)) | ((with_reducible refine gate_callee (f := 34) rfl ?_); refine goesC_ (some 12) Try.func34 #[.slice A0 l0.length c0, .int .i64 10] ?_; (with_reducible refine (spec_l1Size.calls _ _ l0 10 t409 _ ?side1 ?side2 A3.out).mono ?_); (case side1 => exact cX (Kd.C_below HR0.out HB.out)); (case side2 => exact HC0.out); rintro e w' ⟨rfl, ⟨nd, rfl⟩⟩; refine ⟨_, rfl, ?_⟩; (try (rw [drewN_self w10]; generalize hq_ : World.drewN w10 _ = w10; have n0_ : Aside0 (w10.heap[n9a]? = some (.cells #[.slice none 0 0] 26 (0, 0))) := ⟨by rw [← hq_]; exact kB⟩; have n1_ : Aside0 (w10.heap[h9a]? = some (.cells #[.int .i64 0, .slice none 0 0] 31 (0, 0))) := ⟨by rw [← hq_]; exact kB⟩; have n2_ : Aside0 (IsS90 w w10 g408 t405 t406 t407) := ⟨by rw [← hq_]; exact (iS HI408)⟩; have n3_ : Aside0 (Below w.heap.size w w10) := ⟨by rw [← hq_]; exact (iD HB)⟩; clear c9a e9a HI408 HB hq_; have c9a := n0_; have e9a := n1_; have HI408 := n2_; have HB := n3_; clear n0_ n1_ n2_ n3_))) | ((with_reducible refine gate_callee (f := 33) rfl ?_); refine goesC_ (some 13) Try.func33 #[.pointer (some ⟨g408, 0, none⟩), .int .i64 t409] ?_; (with_reducible refine (spec_l7Any.calls k g408 t405 t406 t407 t409 t410 t413 t414 w _ ?side1 ?side2 A4.out).mono ?_); (case side1 => exact iS HI408); (case side2 => exact iD HB); rintro e w11 ⟨v411, rfl, ho0, hi, hb, hk⟩; refine ⟨_, rfl, ?_⟩; have n0_ := Aside0.mk (KeepBut.blk hk (g' := n9a) (o := .cells #[.slice none 0 0] 26 (0, 0)) kB B9a.out (by simp)); have n1_ := Aside0.mk (KeepBut.blk hk (g' := h9a) (o := .cells #[.int .i64 0, .slice none 0 0] 31 (0, 0)) kB C9a.out (by simp)); have n3_ := Aside0.mk (hb); have n4_ := Aside0.mk (hi); have i9a := Aside0.mk (Kd.R_lower (Kd.R_newM (M := fun k_ => (w.heap.size ≤ k_)) ho0 (below_size (iD HB)) (fun k_ h_ => h_)) (below_size (iD HB))); clear c9a e9a HB HI408; have c9a := n0_; have e9a := n1_; have HB := n3_; have HI408 := n4_; clear n0_ n1_ n3_ n4_; (try clear hb); (try clear hb2); (try clear hk); (try clear hi)) | ((with_reducible refine gate_dst (N := 6) rfl ?_); refine bX 6 #[.slice none 0 0] 26 ?_; intro t9a hg w12 hbox hb; have n3_ := Aside0.mk (IsS90.below (iS HI408) hb); have n4_ := Aside0.mk (below_step (iD HB) hb); have g9a := Aside0.mk (hbox); have GW415 := Aside0.mk ((by rw [hg]; exact (below_size (iD HB)) : w.heap.size ≤ t9a)); have G9a := Aside0.mk ((by rw [hg]; exact (below_size (iD HB)) : w.heap.size ≤ t9a)); have w9a := bl c9a hg; have D9a := bg c9a hg; have q9a := bl e9a hg; have r9a := bg e9a hg; have d9a := Aside0.mk ((by rw [hg]; exact Nat.ne_of_lt (IsS90.lt (show IsS90 w _ g408 t405 t413 t414 from iS HI408)) : g408 ≠ t9a)); have E9a := Aside0.mk ((by rw [hg]; exact Nat.ne_of_gt (IsS90.lt (show IsS90 w _ g408 t405 t413 t414 from iS HI408)) : t9a ≠ g408)); replace i9a := Aside0.mk (Kd.R_below (rr i9a) hb); replace c9a := bq c9a hb; replace e9a := bq e9a hb; clear HI408 HB; have HI408 := n3_; have HB := n4_; clear n3_ n4_; clear hb hbox hg; obtain ⟨Ao13, co13, eo13⟩ := Kd.R_slice i9a.out; subst eo13; have hnb14 := D9a.out; have hnc14 := w9a.out; have hnb15 := r9a.out; have hnc15 := q9a.out; have hnb16 := E9a.out; have hnc16 := d9a.out; have hcz17_0 : w12.cell? ⟨t9a, 0, none⟩ = some (.slice none 0 0) := bc g9a 0; have hfz17_0 := blk_frozen g9a.out 0) | ((with_reducible refine gate_callee (f := 53) rfl ?_); refine goesC_ (some 16) Try.func53 #[.pointer (some ⟨g408, 0, none⟩), .agg #[.slice Ao13 t410.length co13]] ?_; (with_reducible refine (spec_l10Memo.calls k g408 t405 t413 t414 _ _ t410 t416 t417 t420 t421 w _ ?side1 ?side2 ?side3 ?side4 A5.out).mono ?_); (case side1 => exact iS HI408); (case side2 => exact iD HB); (case side3 => exact Kd.C_foot_own (IsS90.apart (show IsS90 w _ g408 t405 t413 t414 from iS HI408) (rX (Kd.R_mono (Kd.R_far (p := ⟨t9a, 0, none⟩) (Kd.R_types i9a.out g9a.out (by decide)) (fun _ hk => hk.2) (.slice Ao13 t410.length co13)) (fun _ h_ => h_.1))) (by decide)) (fun _ h_ => h_.2)); (case side4 => exact (Kd.R_reads' i9a.out).2.1); rintro e w18 ⟨v418, rfl, ho0, hi, hb, hk⟩; refine ⟨_, rfl, ?_⟩; have n0_ := Aside0.mk (KeepBut.blk hk (g' := n9a) (o := .cells #[.slice none 0 0] 26 (0, 0)) (by (with_reducible repeat first | refine bkN ?_ _ | refine bkD ?_ | refine bkA ?_ _ | refine blk_far ?_ w9a.out _); exact c9a.out) B9a.out (by simp)); have n1_ := Aside0.mk (KeepBut.blk hk (g' := h9a) (o := .cells #[.int .i64 0, .slice none 0 0] 31 (0, 0)) (by (with_reducible repeat first | refine bkN ?_ _ | refine bkD ?_ | refine bkA ?_ _ | refine blk_far ?_ q9a.out _); exact e9a.out) C9a.out (by simp)); have n2_ := Aside0.mk (Kd.R_mono (Kd.R_keep (IsS90.apart (show IsS90 w _ g408 t405 t413 t414 from iS HI408) (rX (Kd.R_mono (Kd.R_far (p := ⟨t9a, 0, none⟩) (Kd.R_types i9a.out g9a.out (by decide)) (fun _ hk => hk.2) (.slice Ao13 t410.length co13)) (fun _ h_ => h_.1))) (by decide)) hk (fun _ h => h.2)) (fun _ h => h.1)); have n3_ := Aside0.mk (KeepBut.blk hk (g' := t9a) (o := .cells #[.slice Ao13 t410.length co13] 26 (0, 0)) (by (with_reducible repeat first | refine bkN ?_ _ | refine bkD ?_ | refine bkA ?_ _); refine blk_put (cs := #[.slice none 0 0]) ?_ 0 _ rfl; (with_reducible repeat first | refine bkN ?_ _ | refine bkD ?_ | refine bkA ?_ _); exact g9a.out) E9a.out (by simp)); have n5_ := Aside0.mk (hb); have n6_ := Aside0.mk (hi); have x9a := Aside0.mk (Kd.N_lower (Kd.N_mono (ok' := fun k_ => (w.heap.size ≤ k_) ∧ some k_ ≠ (.slice Ao13 t410.length co13 : Value).ownBlock ∧ k_ ≠ n9a ∧ k_ ≠ h9a ∧ k_ ≠ t9a ∧ k_ ≠ g408) ho0 (fun k_ hk_ => ⟨(Nat.le_trans (below_size (iD HB)) hk_), (Kd.fresh' (Kd.R_lt (rX (Kd.R_mono (Kd.R_far (p := ⟨t9a, 0, none⟩) (Kd.R_types i9a.out g9a.out (by decide)) (fun _ hk => hk.2) (.slice Ao13 t410.length co13)) (fun _ h_ => h_.1)))) k_ hk_), (Kd.freshB (g := n9a) (o := .cells #[.slice none 0 0] 26 (0, 0)) (by (with_reducible repeat first | refine bkN ?_ _ | refine bkD ?_ | refine bkA ?_ _ | refine blk_far ?_ w9a.out _); exact c9a.out) k_ hk_), (Kd.freshB (g := h9a) (o := .cells #[.int .i64 0, .slice none 0 0] 31 (0, 0)) (by (with_reducible repeat first | refine bkN ?_ _ | refine bkD ?_ | refine bkA ?_ _ | refine blk_far ?_ q9a.out _); exact e9a.out) k_ hk_), (Kd.freshB (g := t9a) (o := .cells #[.slice Ao13 t410.length co13] 26 (0, 0)) (by (with_reducible repeat first | refine bkN ?_ _ | refine bkD ?_ | refine bkA ?_ _); refine blk_put (cs := #[.slice none 0 0]) ?_ 0 _ rfl; (with_reducible repeat first | refine bkN ?_ _ | refine bkD ?_ | refine bkA ?_ _); exact g9a.out) k_ hk_), (IsS90.fresh (iS HI408) k_ hk_)⟩)) (below_size (iD HB))); clear c9a e9a i9a g9a HB HI408; have c9a := n0_; have e9a := n1_; have i9a := n2_; have g9a := n3_; have HB := n5_; have HI408 := n6_; clear n0_ n1_ n2_ n3_ n5_ n6_; (try clear hb); (try clear hb2); (try clear hk); (try clear hi)) | ((with_reducible refine gate_dst (N := 7) rfl ?_); refine bX 7 #[.int .i64 0, .slice none 0 0] 31 ?_; intro f9a hg w19 hbox hb; have n1_ := Aside0.mk (Kd.N_below (Kd.N_elderB (nX x9a.out) f9a (Nat.le_of_eq hg.symm)) hb); have n4_ := Aside0.mk (IsS90.below (iS HI408) hb); have n6_ := Aside0.mk (below_step (iD HB) hb); have l9a := Aside0.mk (hbox); have GW422 := Aside0.mk ((by rw [hg]; exact (below_size (iD HB)) : w.heap.size ≤ f9a)); have GE422 := Aside0.mk ((by rw [hg]; exact (below_size (iD HB)) : w.heap.size ≤ f9a)); have F9a := bl c9a hg; have y9a := bg c9a hg; have z9a := bl e9a hg; have j9a := bg e9a hg; have H9a := bl g9a hg; have NB422_415 := bg g9a hg; have s9a := Aside0.mk ((by rw [hg]; exact Nat.ne_of_lt (IsS90.lt (show IsS90 w _ g408 t405 t420 t421 from iS HI408)) : g408 ≠ f9a)); have I9a := Aside0.mk ((by rw [hg]; exact Nat.ne_of_gt (IsS90.lt (show IsS90 w _ g408 t405 t420 t421 from iS HI408)) : f9a ≠ g408)); replace i9a := Aside0.mk (Kd.R_below (rr i9a) hb); replace c9a := bq c9a hb; replace e9a := bq e9a hb; replace g9a := bq g9a hb; clear x9a HI408 HB; have x9a := n1_; have HI408 := n4_; have HB := n6_; clear n1_ n4_ n6_; clear hb hbox hg; have hnb20 := y9a.out; have hnc20 := F9a.out; have hnb21 := j9a.out; have hnc21 := z9a.out; have hnb22 := NB422_415.out; have hnc22 := H9a.out; have hnb23 := I9a.out; have hnc23 := s9a.out; obtain ⟨hcz24_0, hcz24_1⟩ := cs2 l9a; obtain ⟨hfz24_0, hfz24_1⟩ := fs2 l9a; obtain ⟨Ao25, co25, eo25⟩ := Kd.N_slice x9a.out; subst eo25))
 have n0_ : Aside0 (Kd.R k95 95 ((w19.setCell ⟨f9a, 0, none⟩ (.int .i64 t416)).setCell ⟨f9a, 1, none⟩ (.slice Ao25 t417.length co25)) w.heap.size (fun k_ => (w.heap.size ≤ k_)) (.slice Ao13 t410.length co13) t410) := ⟨rX (Kd.R_mono (Kd.R_far (p := ⟨f9a, 1, none⟩) (Kd.R_far (p := ⟨f9a, 0, none⟩) (Kd.R_types i9a.out l9a.out (by decide)) (fun _ hk => hk.2) (.int .i64 t416)) (fun _ hk => hk.2) (.slice Ao25 t417.length co25)) (fun _ hk => hk.1.1))⟩
 have n1_ : Aside0 (Kd.N k86 86 ((w19.setCell ⟨f9a, 0, none⟩ (.int .i64 t416)).setCell ⟨f9a, 1, none⟩ (.slice Ao25 t417.length co25)) w.heap.size (fun k_ => (w.heap.size ≤ k_) ∧ some k_ ≠ (.slice Ao13 t410.length co13 : Value).ownBlock ∧ k_ ≠ n9a ∧ k_ ≠ h9a ∧ k_ ≠ t9a ∧ k_ ≠ g408 ∧ k_ ≠ f9a) (.slice Ao25 t417.length co25) t417) := ⟨nX (Kd.N_mono (Kd.N_far (p := ⟨f9a, 1, none⟩) (Kd.N_far (p := ⟨f9a, 0, none⟩) (Kd.N_mono x9a.out (fun k_ hk => (⟨hk, hk.2⟩ : _ ∧ k_ ≠ f9a))) (fun _ hk => hk.2) (.int .i64 t416)) (fun _ hk => hk.2) (.slice Ao25 t417.length co25)) (fun _ hk => ⟨hk.1.1.1, ⟨hk.1.1.2.1, ⟨hk.1.1.2.2.1, ⟨hk.1.1.2.2.2.1, ⟨hk.1.1.2.2.2.2.1, ⟨hk.1.1.2.2.2.2.2, hk.1.2⟩⟩⟩⟩⟩⟩))⟩
 have n2_ : Aside0 (((w19.setCell ⟨f9a, 0, none⟩ (.int .i64 t416)).setCell ⟨f9a, 1, none⟩ (.slice Ao25 t417.length co25)).heap[n9a]? = some (.cells #[.slice none 0 0] 26 (0, 0))) := ⟨by (with_reducible repeat first | refine bkN ?_ _ | refine bkD ?_ | refine bkA ?_ _ | refine blk_far ?_ F9a.out _); exact c9a.out⟩
 have n3_ : Aside0 (((w19.setCell ⟨f9a, 0, none⟩ (.int .i64 t416)).setCell ⟨f9a, 1, none⟩ (.slice Ao25 t417.length co25)).heap[h9a]? = some (.cells #[.int .i64 0, .slice none 0 0] 31 (0, 0))) := ⟨by (with_reducible repeat first | refine bkN ?_ _ | refine bkD ?_ | refine bkA ?_ _ | refine blk_far ?_ z9a.out _); exact e9a.out⟩
 have n4_ : Aside0 (((w19.setCell ⟨f9a, 0, none⟩ (.int .i64 t416)).setCell ⟨f9a, 1, none⟩ (.slice Ao25 t417.length co25)).heap[t9a]? = some (.cells #[.slice Ao13 t410.length co13] 26 (0, 0))) := ⟨by (with_reducible repeat first | refine bkN ?_ _ | refine bkD ?_ | refine bkA ?_ _ | refine blk_far ?_ H9a.out _); exact g9a.out⟩
 have n5_ : Aside0 (((w19.setCell ⟨f9a, 0, none⟩ (.int .i64 t416)).setCell ⟨f9a, 1, none⟩ (.slice Ao25 t417.length co25)).heap[f9a]? = some (.cells #[.int .i64 t416, .slice Ao25 t417.length co25] 31 (0, 0))) := ⟨by (with_reducible repeat first | refine bkN ?_ _ | refine bkD ?_ | refine bkA ?_ _); refine blk_put (cs := #[.int .i64 t416, .slice none 0 0]) ?_ 1 _ rfl; (with_reducible repeat first | refine bkN ?_ _ | refine bkD ?_ | refine bkA ?_ _); refine blk_put (cs := #[.int .i64 0, .slice none 0 0]) ?_ 0 _ rfl; (with_reducible repeat first | refine bkN ?_ _ | refine bkD ?_ | refine bkA ?_ _); exact l9a.out⟩
 have n6_ : Aside0 (IsS90 w ((w19.setCell ⟨f9a, 0, none⟩ (.int .i64 t416)).setCell ⟨f9a, 1, none⟩ (.slice Ao25 t417.length co25)) g408 t405 t420 t421) := ⟨iS HI408⟩
 have n7_ : Aside0 (Below w.heap.size w ((w19.setCell ⟨f9a, 0, none⟩ (.int .i64 t416)).setCell ⟨f9a, 1, none⟩ (.slice Ao25 t417.length co25))) := ⟨iD HB⟩
 generalize ((w19.setCell ⟨f9a, 0, none⟩ (.int .i64 t416)).setCell ⟨f9a, 1, none⟩ (.slice Ao25 t417.length co25)) = w26 at n0_ n1_ n2_ n3_ n4_ n5_ n6_ n7_ ⊢
 have i9a := n0_; have x9a := n1_; have c9a := n2_; have e9a := n3_; have g9a := n4_; have l9a := n5_; have HI408 := n6_; have HB := n7_; clear n0_ n1_ n2_ n3_ n4_ n5_ n6_ n7_; have n0_ := Aside0.mk (Kd.R_drew i9a.out)
 have n1_ := Aside0.mk (Kd.N_drew x9a.out)
 have n2_ := Aside0.mk (blk_drew c9a.out)
 have n3_ := Aside0.mk (blk_drew e9a.out)
 have n4_ := Aside0.mk (blk_drew g9a.out)
 have n5_ := Aside0.mk (blk_drew l9a.out)
 have n6_ := Aside0.mk (IsS90.drew HI408.out)
 have n7_ := Aside0.mk (below_drew1 HB.out)
 clear i9a x9a c9a e9a g9a l9a HI408 HB; have i9a := n0_; have x9a := n1_; have c9a := n2_; have e9a := n3_; have g9a := n4_; have l9a := n5_; have HI408 := n6_; have HB := n7_; clear n0_ n1_ n2_ n3_ n4_ n5_ n6_ n7_; refine start_ (n := 10) (S := fun w' => w'.cell? ⟨t9a, 0, none⟩ = some (.slice Ao13 t410.length co13) ∧ w'.cell? ⟨f9a, 0, none⟩ = some (.int .i64 t416) ∧ w'.cell? ⟨f9a, 1, none⟩ = some (.slice Ao25 t417.length co25)) (ds := []) #[ff,ff,ff,ff,ff,ff,ff,ff,ff,ff] (by kernel_rfl) rfl rfl ⟨bc g9a 0, bc l9a 0, bc l9a 1⟩ (fun hHeld => ?_); refine with_tabW spec_DrawEncodeMemo.tab4 spec_DrawEncodeMemo.bits4 (fun HT_ HW_ => ?_)
 generalize w26.drew = w27 at i9a x9a c9a e9a g9a l9a HI408 HB hHeld ⊢
 refine pu 2 19 (tb 10 4) HT_ ?_
 refine pu 4 21 (tb 10 20) HT_ ?_
 refine tk 0 17 (tb 10 21) rfl rfl HT_ HW_ hHeld (by rintro w' ⟨s0, s1, s2⟩; go_simp; with_reducible rfl) ?_
 refine tk 1 18 (tb 10 23) rfl rfl HT_ HW_ hHeld (by rintro w' ⟨s0, s1, s2⟩; go_simp; with_reducible rfl) ?_
 refine tk 3 20 (tb 10 31) rfl rfl HT_ HW_ hHeld (by rintro w' ⟨s0, s1, s2⟩; go_simp; with_reducible rfl) ?_
 refine one_ (i := 5) (N := some 22) #[tt,tt,tt,tt,tt,tt,ff,ff,ff,ff] rfl rfl (one_of HT_.out (by kernel_rfl)) (by decide) (fun K hK => ?_)
 refine goes_ Try.func34 (by kernel_rfl) rfl #[.slice A0 l0.length c0, .int .i64 8] (by rfl) rfl rfl (by (try simp only [List.map_toArray, List.map_cons, List.map_nil]); first | done | rfl | (simp only [List.length_drop, List.length_take]; rfl)) ?_
 with_reducible refine (spec_l1Size.calls _ _ l0 8 t423 _ ?side1 ?side2 A6.out).mono ?_
 (case side1 => exact cX (Kd.C_below HR0.out HB.out))
 (case side2 => exact HC0.out)
 rintro e w' ⟨rfl, ⟨nd, rfl⟩⟩
 refine ⟨_, rfl, ?_⟩
 refine hK.out _ _ ⟨bc g9a 0, bc l9a 0, bc l9a 1⟩ (fun hHeld => ?_)
 clear hK K; refine norm_ (a' := ?_) ?_ ?_
 rotate_left
 ·show Act.put _ (some 22) _ = _
  simp only [putL, i64_w, i32_w]; rfl
 refine one_ (i := 6) (N := some 23) #[tt,tt,tt,tt,tt,tt,tt,ff,ff,ff] rfl rfl (one_of HT_.out (by kernel_rfl)) (by decide) (fun K hK => ?_)
 refine goes_ Try.func54 (by kernel_rfl) rfl #[.pointer (some ⟨g408, 0, none⟩), .agg #[.slice Ao13 t410.length co13], .int .i64 t423] (by rfl) rfl rfl (by (try simp only [List.map_toArray, List.map_cons, List.map_nil]); first | done | rfl | (simp only [List.length_drop, List.length_take]; rfl)) ?_
 with_reducible refine (spec_l9Line.calls k g408 t405 t420 t421 _ _ t410 t423 t424 t425 t426 w _ ?side1 ?side2 ?side3 ?side4 A7.out).mono ?_
 (case side1 => exact iS HI408)
 (case side2 => exact iD HB)
 (case side3 => exact Kd.C_foot_own (IsS90.apart (show IsS90 w _ g408 t405 t420 t421 from iS HI408) (rr i9a) (by decide)) (fun _ h_ => h_.2))
 (case side4 => exact (Kd.R_reads' i9a.out).2.1)
 rintro e w28 ⟨rfl, hi, hb, hk⟩
 refine ⟨_, rfl, ?_⟩
 have n0_ := Aside0.mk (KeepBut.blk hk (g' := n9a) (o := .cells #[.slice none 0 0] 26 (0, 0)) kB B9a.out (by simp))
 have n1_ := Aside0.mk (KeepBut.blk hk (g' := h9a) (o := .cells #[.int .i64 0, .slice none 0 0] 31 (0, 0)) kB C9a.out (by simp))
 have n2_ := Aside0.mk (Kd.R_mono (Kd.R_keep (IsS90.apart (show IsS90 w _ g408 t405 t420 t421 from iS HI408) (rr i9a) (by decide)) hk (fun _ h => h.2)) (fun _ h => h.1))
 have n3_ := Aside0.mk (KeepBut.blk hk (g' := t9a) (o := .cells #[.slice Ao13 t410.length co13] 26 (0, 0)) kB E9a.out (by simp))
 have n4_ := Aside0.mk (Kd.N_mono (Kd.N_keep (Kd.N_mono (ok := fun k_ => (((w.heap.size ≤ k_)) ∧ (some k_ ≠ (.slice Ao13 t410.length co13 : Value).ownBlock ∧ (k_ ≠ n9a ∧ (k_ ≠ h9a ∧ (k_ ≠ t9a ∧ (k_ ≠ g408 ∧ k_ ≠ f9a))))))) (nX x9a.out) (fun k_ hk_ => (⟨hk_, hk_.2.2.2.2.2.1⟩ : _ ∧ k_ ≠ g408))) hk (fun _ h => h.2)) (fun _ h => h.1))
 have n5_ := Aside0.mk (KeepBut.blk hk (g' := f9a) (o := .cells #[.int .i64 t416, .slice Ao25 t417.length co25] 31 (0, 0)) kB I9a.out (by simp))
 have n6_ := Aside0.mk (hb)
 have n7_ := Aside0.mk (hi)
 clear c9a e9a i9a g9a x9a l9a HB HI408; have c9a := n0_; have e9a := n1_; have i9a := n2_; have g9a := n3_; have x9a := n4_; have l9a := n5_; have HB := n6_; have HI408 := n7_; clear n0_ n1_ n2_ n3_ n4_ n5_ n6_ n7_; (try clear hb); (try clear hb2); (try clear hk); (try clear hi); refine hK.out _ _ ⟨bc g9a 0, bc l9a 0, bc l9a 1⟩ (fun hHeld => ?_)
 clear hK K; refine norm_ (a' := ?_) ?_ ?_
 rotate_left
 ·show Act.put _ (some 23) _ = _
  simp only [putL, i64_w, i32_w]; rfl
 refine one_ (i := 7) (N := none) #[tt,tt,tt,tt,tt,tt,tt,tt,ff,ff] rfl rfl (one_of HT_.out (by kernel_rfl)) (by decide) (fun K hK => ?_)
 have hs29 : w28.cell? ⟨n9a, 0, none⟩ = some (.slice none 0 0) := bc c9a 0
 have hfs29 := blk_frozen c9a.out 0; have hns29_1 := v9a.out; have hns29_2 := D9a.out; have hns29_3 := y9a.out; have hms29_1 := u9a.out; have hms29_2 := w9a.out; have hms29_3 := F9a.out; refine skip_ (w1 := ?_) (by rfl) rfl ?_ ?_
 rotate_left
 ·go_simp; rfl
 refine hK.out _ _ ⟨((cell_far (p := ⟨n9a, _, none⟩) D9a.out _).trans (hHeld.1)), ((cell_far (p := ⟨n9a, _, none⟩) y9a.out _).trans (hHeld.2.1)), ((cell_far (p := ⟨n9a, _, none⟩) y9a.out _).trans (hHeld.2.2))⟩ (fun hHeld => ?_)
 clear hK K; refine one_ (i := 8) (N := none) #[tt,tt,tt,tt,tt,tt,tt,tt,tt,ff] rfl rfl (one_of HT_.out (by kernel_rfl)) (by decide) (fun K hK => ?_)
 have hs30 : w28.cell? ⟨h9a, 0, none⟩ = some (.int .i64 0) := bc e9a 0
 have hfs30 := blk_frozen e9a.out 0; have hns30_0 := u9a.out; have hns30_2 := r9a.out; have hns30_3 := j9a.out; have hms30_0 := v9a.out; have hms30_2 := q9a.out; have hms30_3 := z9a.out; have hs31 : w28.cell? ⟨h9a, 1, none⟩ = some (.slice none 0 0) := bc e9a 1
 have hfs31 := blk_frozen e9a.out 1; have hns31_0 := u9a.out; have hns31_2 := r9a.out; have hns31_3 := j9a.out; have hms31_0 := v9a.out; have hms31_2 := q9a.out; have hms31_3 := z9a.out; refine skip_ (w1 := ?_) (by rfl) rfl ?_ ?_
 rotate_left
 ·go_simp; rfl
 refine hK.out _ _ ⟨((cell_far (p := ⟨h9a, _, none⟩) r9a.out _).trans (((cell_far (p := ⟨h9a, _, none⟩) r9a.out _).trans (hHeld.1)))), ((cell_far (p := ⟨h9a, _, none⟩) j9a.out _).trans (((cell_far (p := ⟨h9a, _, none⟩) j9a.out _).trans (hHeld.2.1)))), ((cell_far (p := ⟨h9a, _, none⟩) j9a.out _).trans (((cell_far (p := ⟨h9a, _, none⟩) j9a.out _).trans (hHeld.2.2))))⟩ (fun hHeld => ?_)
 clear hK K; refine pure_ (i := 9) (N := some 4) (v := ?_) (a' := ?_) #[tt,tt,tt,tt,tt,tt,tt,tt,tt,tt] rfl rfl (any_of HT_.out (by kernel_rfl)) (fun _ _ _ h => h) (Or.inl ⟨by rfl, ?_⟩) ?_ ?_
 rotate_left
 ·intro w'; go_simp; with_reducible rfl
 rotate_left
 ·simp only [putL, i64_w, i32_w]; rfl
 refine done_ (done_of HT_.out (by kernel_rfl)) ?_
 try go_wp2
 refine bodyPost_ret (results_list (rs := [.cell 2 26, .cell 3 31, .tmp 4]) rfl (by simp) (.cell n9a 26 #[.slice Ao13 t410.length co13] (0, 0) _ rfl (by (with_reducible repeat first | refine bkN ?_ _ | refine bkD ?_ | refine bkA ?_ _ | refine blk_far ?_ u9a.out _); refine blk_put (cs := #[.slice none 0 0]) ?_ 0 _ rfl; (with_reducible repeat first | refine bkN ?_ _ | refine bkD ?_ | refine bkA ?_ _); exact c9a.out) Try.underlying26 rfl (by kernel_rfl) (.cell h9a 31 #[.int .i64 t416, .slice Ao25 t417.length co25] (0, 0) _ rfl (by (with_reducible repeat first | refine bkN ?_ _ | refine bkD ?_ | refine bkA ?_ _); refine blk_put (cs := #[.int .i64 t416, .slice none 0 0]) ?_ 1 _ rfl; (with_reducible repeat first | refine bkN ?_ _ | refine bkD ?_ | refine bkA ?_ _); refine blk_put (cs := #[.int .i64 0, .slice none 0 0]) ?_ 0 _ rfl; (with_reducible repeat first | refine bkN ?_ _ | refine bkD ?_ | refine bkA ?_ _ | refine blk_far ?_ v9a.out _); exact e9a.out) Try.underlying31 rfl (by kernel_rfl) (.tmp .nil)))) rfl ?_
 exact ⟨_, _, eR, rX (Kd.R_mono (Kd.R_far (p := ⟨h9a, 1, none⟩) (Kd.R_far (p := ⟨h9a, 0, none⟩) (Kd.R_far (p := ⟨n9a, 0, none⟩) (Kd.R_types (Kd.R_types i9a.out c9a.out (by decide)) e9a.out (by decide)) (fun _ hk => hk.1.2) (.slice Ao13 t410.length co13)) (fun _ hk => hk.2) (.int .i64 t416)) (fun _ hk => hk.2) (.slice Ao25 t417.length co25)) (fun _ hk => hk.1.1)), nX (Kd.N_mono (Kd.N_far (p := ⟨h9a, 1, none⟩) (Kd.N_far (p := ⟨h9a, 0, none⟩) (Kd.N_far (p := ⟨n9a, 0, none⟩) (Kd.N_mono (Kd.N_mono x9a.out (fun k_ hk => (⟨hk, hk.2.2.1⟩ : _ ∧ k_ ≠ n9a))) (fun k_ hk => (⟨hk, hk.1.2.2.2.1⟩ : _ ∧ k_ ≠ h9a))) (fun _ hk => hk.1.2) (.slice Ao13 t410.length co13)) (fun _ hk => hk.2) (.int .i64 t416)) (fun _ hk => hk.2) (.slice Ao25 t417.length co25)) (fun _ hk => ⟨hk.1.1.1, hk.1.1.2.1⟩)), iD HB⟩
def impl_within.f (a0 : Int) (a1 : Int) (a2 : Int) : Option (Bool) := if a0 ≥ a1 then (some (decide (a0 ≤ a2))) else (some false)
set_option maxHeartbeats 8000000 in
set_option maxRecDepth 100000 in
theorem impl_within.calls (a0 : Int) (a1 : Int) (a2 : Int) (r : Bool) (w : World) (h : impl_within.f a0 a1 a2 = some r) :
  Calls Try.prog 35 #[.int .i64 a0, .int .i64 a1, .int .i64 a2] w fun e w' => e = .returned (.bool r) ∧ Drawn0 w w' := by
 have H : (if a0 ≥ a1 then (some (decide (a0 ≤ a2))) else (some false)) = some r := h
 clear h
 by_cases c4 : a0 ≥ a1
 ·rw [if_pos c4] at H
  have c4b0 : decide (a1 ≤ a0) = true := decide_eq_true c4
  clear c4; obtain rfl := Option.some.inj H
  go_enter Try.func35, Try.ntmps35
  go_wp2
  go_ret
  exact ⟨by first | rfl | (simp; done) | (simp [*]; done), by repeat (first | exact Drawn0.refl _ | apply Drawn0.step)⟩
 ·rw [if_neg c4] at H
  have c4b0 : decide (a1 ≤ a0) = false := decide_eq_false c4
  clear c4; obtain rfl := Option.some.inj H
  go_enter Try.func35, Try.ntmps35
  go_wp2
  go_ret
  exact ⟨by first | rfl | (simp; done) | (simp [*]; done), by repeat (first | exact Drawn0.refl _ | apply Drawn0.step)⟩
def impl_isWord.f (a0 : ByteArray) : Option (Bool) := (impl_within.f (a0.size : Int) 1 64).bind fun t427 => (some t427)
set_option maxHeartbeats 8000000 in
set_option maxRecDepth 100000 in
theorem impl_isWord.calls (a0 : ByteArray) (r : Bool) (w : World) (h : impl_isWord.f a0 = some r) :
  Calls Try.prog 38 #[.string a0] w fun e w' => e = .returned (.bool r) ∧ Drawn0 w w' := by
 have H : ((impl_within.f (a0.size : Int) 1 64).bind fun t427 => (some t427)) = some r := h
 clear h; replace H := Option.bind_eq_some_iff.mp H
 obtain ⟨t427, A20, H⟩ := H
 replace H : (some t427) = some r := H
 have A2 := Aside0.mk A20
 clear A20; obtain rfl := Option.some.inj H
 go_enter Try.func38, Try.ntmps38
 go_wp2_with (first | ((with_reducible refine gate_callee (f := 35) rfl ?_); refine goesC_ (some 5) Try.func35 #[.int .i64 (a0.size : Int), .int .i64 1, .int .i64 64] ?_; (with_reducible refine (impl_within.calls (a0.size : Int) 1 64 t427 _ A2.out).mono ?_); rintro e w' ⟨rfl, ⟨nd, rfl⟩⟩; refine ⟨_, rfl, ?_⟩))
 go_ret
 exact ⟨by first | rfl | (simp; done) | (simp [*]; done), by repeat (first | exact Drawn0.refl _ | apply Drawn0.step)⟩
def impl_bytesIn.f (l0 : List ByteArray) (a1 : Int) : Option (ByteArray) := if a1 < 256 then (some (strOfNums (([(a1) % 256] : List Int)))) else (if 0 ≤ (wrap64 (a1 - 256)) then (if (wrap64 (a1 - 256)) < (l0.length : Int) then (some (rdOf ByteArray.empty l0 (wrap64 (a1 - 256)))) else (none)) else (none))
set_option maxHeartbeats 8000000 in
set_option maxRecDepth 100000 in
theorem impl_bytesIn.calls (A0 : Option Addr) (c0 : Nat) (l0 : List ByteArray) (a1 : Int) (r : ByteArray) (w : World) (hr0 : Kd.C Kd.string w A0 l0.length l0) (hc0 : l0.length ≤ c0) (h : impl_bytesIn.f l0 a1 = some r) :
  Calls Try.prog 94 #[.slice A0 l0.length c0, .int .i64 a1] w fun e w' => e = .returned (.string r) ∧ Below w.heap.size w w' := by
 have HR0 := Aside0.mk hr0
 have HC0 := Aside0.mk hc0
 clear hr0 hc0; have HB := Aside0.mk (Below.refl w.heap.size w)
 have H : (if a1 < 256 then (some (strOfNums (([(a1) % 256] : List Int)))) else (if 0 ≤ (wrap64 (a1 - 256)) then (if (wrap64 (a1 - 256)) < (l0.length : Int) then (some (rdOf ByteArray.empty l0 (wrap64 (a1 - 256)))) else (none)) else (none))) = some r := h
 clear h
 by_cases c3 : a1 < 256
 ·rw [if_pos c3] at H
  have c3b0 : decide (a1 < 256) = true := decide_eq_true c3
  clear c3; obtain ⟨y428, hy428⟩ : ∃ y_ : List Int, y_ = (([(a1) % 256] : List Int)) := ⟨_, rfl⟩
  replace H : (some (strOfNums y428)) = some r := by first | (rw [hy428]; with_reducible exact H) | (have H2_ := (Option.bind_some _ _).symm.trans H; rw [hy428]; with_reducible exact H2_) | (have H2_ := (Option.bind_some _ _).symm.trans H; with_reducible exact H2_) | with_reducible exact H | (rw [hy428]; exact H) | exact H
  have Ny428 := Aside0.mk hy428
  clear hy428; obtain rfl := Option.some.inj H
  go_enter Try.func94, Try.ntmps94
  go_wp2_with (first | ((with_reducible refine gate_dst (N := 9) rfl ?_); refine Kd.R_lit (Kd.int .u8) _ 5 ?hg (N := 9) ?hd (xs := ([(a1) % 256] : List Int)) (inner := [.int .u8 ((a1) % 256)]) (ok := fun _ => True) (okp := fun _ => True) ?hr ?hp (fun _ hk => hk) trivial (Below.refl _ _) (Nat.le_refl _) (by simp) ?_; (case hd => rfl); (case hg => rfl); (case hr => first | (go_simp; done) | (go_simp; rfl)); (case hp => exact (Reps.one (show Kd.M (Kd.int .u8) _ _ _ ((a1) % 256) [.int .u8 ((a1) % 256)] from rfl) (Reps.none _ _))); intro v429 w4 ho5 hb hg_ hnew_; clear hg_ hnew_; (first | rw [← Ny428.out] at ho5 | (simp only [Int.reduceToNat] at ho5; rw [← Ny428.out] at ho5)); have HO430 := Aside0.mk (Kd.R_lower ho5 (below_size (be HB))); replace HB := bh HB hb; clear hb ho5; have hcv6 := own_string (P := Try.prog) Try.underlying22 Try.underlying5 Try.underlying9 (Kd.own_of_R HO430.out)))
  go_ret
  exact ⟨eR, iB HB⟩
 ·rw [if_neg c3] at H
  have c3b0 : decide (a1 < 256) = false := decide_eq_false c3
  clear c3; obtain ⟨ji7, hji7⟩ : ∃ j_ : Int, (wrap64 (a1 - 256)) = j_ := ⟨_, rfl⟩
  replace H : (if 0 ≤ (ji7) then (if (ji7) < (l0.length : Int) then (some (rdOf ByteArray.empty l0 (ji7))) else (none)) else (none)) = some r := by first | (rw [hji7] at H; exact H) | (simp only [hji7] at H ⊢; exact H)
  have hji7w : (IntKind.i64.wrap (a1 - 256)) = ji7 := (i64_w _).trans hji7
  by_cases c8 : 0 ≤ (ji7)
  ·rw [if_pos c8] at H
   have c8b0 : decide (0 ≤ (ji7)) = true := decide_eq_true c8
   clear c8
   by_cases c9 : (ji7) < (l0.length : Int)
   ·rw [if_pos c9] at H
    have c9b0 : decide ((ji7) < (l0.length : Int)) = true := decide_eq_true c9
    clear c9; obtain rfl := Option.some.inj H
    have p431 : 0 ≤ ((ji7) : Int) := oD
    have q431 : (ji7) < (l0.length : Int) := oD
    obtain ⟨ad431, e431, hx431_0⟩ := Kd.at_string HR0.out (ji7) p431 q431
    cases e431
    replace p431 := eq_true p431
    replace q431 := eq_true q431
    go_enter Try.func94, Try.ntmps94
    go_wp2
    go_ret
    exact ⟨by first | rfl | (simp [errW_none, errW_some] <;> rfl) | (simp only [← hji7]; first | rfl | (simp [errW_none, errW_some] <;> rfl)) | (simp [*, errW_none, errW_some] <;> rfl), iB HB⟩
   ·rw [if_neg c9] at H
    exact absurd H (by simp)
  ·rw [if_neg c8] at H
   exact absurd H (by simp)
def slices_Index_string_string.l0 : Nat → List ByteArray → ByteArray → Int → Int → Option (Int)
 | 0, _, _, _, _ => none
 | k + 1, x0, x1, x7, x8 => if x8 < x7 then (if 0 ≤ x8 then (if x8 < (x0.length : Int) then (if x1.toList = (rdOf ByteArray.empty x0 x8).toList then (some x8) else (slices_Index_string_string.l0 k x0 x1 x7 (wrap64 (x8 + 1)))) else (none)) else (none)) else (some (-1))
def slices_Index_string_string.f (k : Nat) (l0 : List ByteArray) (a1 : ByteArray) : Option (Int) := slices_Index_string_string.l0 k l0 a1 (l0.length : Int) 0
theorem slices_Index_string_string.mono_l : ∀ k, (∀ y0 y1 y2 y3, LeO (slices_Index_string_string.l0 k y0 y1 y2 y3) (slices_Index_string_string.l0 (k + 1) y0 y1 y2 y3))
 | 0 => fun _ _ _ _ r h => by simp [slices_Index_string_string.l0] at h
 | k + 1 => by
  have ih0 := slices_Index_string_string.mono_l k
  ·intro y0 y1 y2 y3
   unfold slices_Index_string_string.l0
   repeat' first
   | (with_reducible exact ih0 _ _ _ _)
   | (with_reducible exact LeO.refl _)
   | (with_reducible exact LeO.none _)
   | (with_reducible refine LeO.ite ?_ ?_)
   | (with_reducible refine LeO.bind ?_ (fun _ => ?_))
   | exact ih0 _ _ _ _
   | exact LeO.none _
   | refine LeO.ite ?_ ?_
   | refine LeO.bind ?_ (fun _ => ?_)
theorem slices_Index_string_string.mono : ∀ a0 a1 k, LeO (slices_Index_string_string.f k a0 a1) (slices_Index_string_string.f (k + 1) a0 a1) := by
 intro a0 a1 k
 have ih0 := slices_Index_string_string.mono_l k
 unfold slices_Index_string_string.f
 repeat' first
   | (with_reducible exact ih0 _ _ _ _)
   | (with_reducible exact LeO.refl _)
   | (with_reducible exact LeO.none _)
   | (with_reducible refine LeO.ite ?_ ?_)
   | (with_reducible refine LeO.bind ?_ (fun _ => ?_))
   | exact ih0 _ _ _ _
   | exact LeO.none _
   | refine LeO.ite ?_ ?_
   | refine LeO.bind ?_ (fun _ => ?_)
set_option maxHeartbeats 8000000 in
set_option maxRecDepth 100000 in
theorem slices_Index_string_string.calls (k : Nat) (A0 : Option Addr) (c0 : Nat) (l0 : List ByteArray) (a1 : ByteArray) (r : Int) (w : World) (hr0 : Kd.C Kd.string w A0 l0.length l0) (hc0 : l0.length ≤ c0) (h : slices_Index_string_string.f k l0 a1 = some r) :
  Calls Try.prog 97 #[.slice A0 l0.length c0, .string a1] w fun e w' => e = .returned (.int .i64 r) ∧ Drawn0 w w' := by
 have HR0 := Aside0.mk hr0
 have HC0 := Aside0.mk hc0
 clear hr0 hc0; have H : (slices_Index_string_string.l0 k l0 a1 (l0.length : Int) 0) = some r := h
 clear h; have H' := Aside0.mk H
 clear H
 go_enter Try.func97, Try.ntmps97
 go_wp2
 go_loopg [8] k (fun kq v8 w' => ∃ (x8_1 : Int), v8 = .int .i64 x8_1 ∧ Aside0 (slices_Index_string_string.l0 kq l0 a1 (l0.length : Int) x8_1 = some r) ∧ Aside0 (kq ≤ k) ∧ Drawn0 w w')
 case atStart => exact ⟨(0), sR, H', ⟨Nat.le_refl _⟩, by repeat (first | exact Drawn0.refl _ | apply Drawn0.step)⟩
 case round =>
  clear H'
  obtain ⟨x8_1, rfl, HA, HK1, ⟨m1, rfl⟩⟩ := hrel
  cases gk with
  | zero => exact absurd HA.out (by simp [slices_Index_string_string.l0])
  | succ k1 =>
   have H := HA.out; clear HA; simp only [slices_Index_string_string.l0] at H
   by_cases c3 : x8_1 < (l0.length : Int)
   ·rw [if_pos c3] at H
    have c3b0 : decide (x8_1 < (l0.length : Int)) = true := decide_eq_true c3
    clear c3
    by_cases c4 : 0 ≤ x8_1
    ·rw [if_pos c4] at H
     have c4b0 : decide (0 ≤ x8_1) = true := decide_eq_true c4
     clear c4
     by_cases c5 : x8_1 < (l0.length : Int)
     ·rw [if_pos c5] at H
      have c5b0 : decide (x8_1 < (l0.length : Int)) = true := decide_eq_true c5
      clear c5
      by_cases c6 : a1.toList = (rdOf ByteArray.empty l0 x8_1).toList
      ·rw [if_pos c6] at H
       have c6b0 : (a1.toList == (rdOf ByteArray.empty l0 x8_1).toList) = true := beq_iff_eq.mpr c6
       have c6b1 : (a1.toList != (rdOf ByteArray.empty l0 x8_1).toList) = false := bne_eq_false_iff_eq.mpr c6
       clear c6; obtain rfl := Option.some.inj H
       have p432 : 0 ≤ (x8_1 : Int) := oD
       have q432 : x8_1 < (l0.length : Int) := oD
       obtain ⟨ad432, e432, hx432_0⟩ := Kd.at_string HR0.out x8_1 p432 q432
       cases e432
       replace p432 := eq_true p432
       replace q432 := eq_true q432
       go_wp2
       go_ret
       exact ⟨by first | rfl | (simp; done) | (simp [*]; done), by repeat (first | exact Drawn0.refl _ | apply Drawn0.step)⟩
      ·rw [if_neg c6] at H
       have c6b0 : (a1.toList == (rdOf ByteArray.empty l0 x8_1).toList) = false := beq_eq_false_iff_ne.mpr c6
       have c6b1 : (a1.toList != (rdOf ByteArray.empty l0 x8_1).toList) = true := bne_iff_ne.mpr c6
       have H' := Aside0.mk H
       clear H; have p432 : 0 ≤ (x8_1 : Int) := oD
       have q432 : x8_1 < (l0.length : Int) := oD
       obtain ⟨ad432, e432, hx432_0⟩ := Kd.at_string HR0.out x8_1 p432 q432
       cases e432
       replace p432 := eq_true p432
       replace q432 := eq_true q432
       go_wp2
       go_roundg k1
       case measure => have := HK1.out; omega
       case rel => exact ⟨(wrap64 (x8_1 + 1)), sR, H', ⟨by have := HK1.out; omega⟩, by repeat (first | exact Drawn0.refl _ | apply Drawn0.step)⟩
     ·rw [if_neg c5] at H
      exact absurd H (by simp)
    ·rw [if_neg c4] at H
     exact absurd H (by simp)
   ·rw [if_neg c3] at H
    have c3b0 : decide (x8_1 < (l0.length : Int)) = false := decide_eq_false c3
    clear c3; obtain rfl := Option.some.inj H
    go_wp2
    go_ret
    exact ⟨by first | rfl | (simp; done) | (simp [*]; done), by repeat (first | exact Drawn0.refl _ | apply Drawn0.step)⟩
def slices_Contains_string_string.f (k : Nat) (l0 : List ByteArray) (a1 : ByteArray) : Option (Bool) := (slices_Index_string_string.f k l0 a1).bind fun t433 => (some (decide (t433 ≥ 0)))
theorem slices_Contains_string_string.mono : ∀ a0 a1 k, LeO (slices_Contains_string_string.f k a0 a1) (slices_Contains_string_string.f (k + 1) a0 a1) := by
 intro a0 a1 k
 unfold slices_Contains_string_string.f
 repeat' first
   | (with_reducible exact slices_Index_string_string.mono _ _ _)
   | (with_reducible exact LeO.refl _)
   | (with_reducible exact LeO.none _)
   | (with_reducible refine LeO.ite ?_ ?_)
   | (with_reducible refine LeO.bind ?_ (fun _ => ?_))
   | exact slices_Index_string_string.mono _ _ _
   | exact LeO.none _
   | refine LeO.ite ?_ ?_
   | refine LeO.bind ?_ (fun _ => ?_)
set_option maxHeartbeats 8000000 in
set_option maxRecDepth 100000 in
theorem slices_Contains_string_string.calls (k : Nat) (A0 : Option Addr) (c0 : Nat) (l0 : List ByteArray) (a1 : ByteArray) (r : Bool) (w : World) (hr0 : Kd.C Kd.string w A0 l0.length l0) (hc0 : l0.length ≤ c0) (h : slices_Contains_string_string.f k l0 a1 = some r) :
  Calls Try.prog 95 #[.slice A0 l0.length c0, .string a1] w fun e w' => e = .returned (.bool r) ∧ Drawn0 w w' := by
 have HR0 := Aside0.mk hr0
 have HC0 := Aside0.mk hc0
 clear hr0 hc0; have H : ((slices_Index_string_string.f k l0 a1).bind fun t433 => (some (decide (t433 ≥ 0)))) = some r := h
 clear h; replace H := Option.bind_eq_some_iff.mp H
 obtain ⟨t433, A30, H⟩ := H
 replace H : (some (decide (t433 ≥ 0))) = some r := H
 have A3 := Aside0.mk A30
 clear A30; obtain rfl := Option.some.inj H
 go_enter Try.func95, Try.ntmps95
 go_wp2_with (first | ((with_reducible refine gate_callee (f := 97) rfl ?_); refine goesC_ (some 7) Try.func97 #[.slice A0 l0.length c0, .string a1] ?_; (with_reducible refine (slices_Index_string_string.calls k _ _ l0 a1 t433 _ ?side1 ?side2 A3.out).mono ?_); (case side1 => exact cX HR0.out); (case side2 => exact HC0.out); rintro e w' ⟨rfl, ⟨nd, rfl⟩⟩; refine ⟨_, rfl, ?_⟩))
 go_ret
 exact ⟨by first | rfl | (simp; done) | (simp [*]; done), by repeat (first | exact Drawn0.refl _ | apply Drawn0.step)⟩
end Go.Proofs.Ytddebnchbbmbkaa.PFnMemo
