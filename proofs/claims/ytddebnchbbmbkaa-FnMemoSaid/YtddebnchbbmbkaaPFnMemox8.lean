-- The machine side of a law: written by a program of this session (wip/tools), a turned print.
import Derived.Test.YtddebnchbbmbkaaPFnMemox0
import Derived.Test.YtddebnchbbmbkaaPFnMemox2
import Derived.Test.YtddebnchbbmbkaaPFnMemox3
import Derived.Test.YtddebnchbbmbkaaPFnMemox4
namespace Go.Proofs.Ytddebnchbbmbkaa.PFnMemo
open Go.RowKit Go.Proofs.YtddebnchbbmbkaaW.PrintWords Go.Proofs.YtddebnchbbmbkaaW.PrintLast Go.Proofs.YtddebnchbbmbkaaW.PrintMore
attribute [local go_sem] max2_int min2_int max_two min_two max_three min_three max_four min_four   -- for this text's walks alone
set_option linter.unusedVariables false
set_option linter.unusedSimpArgs false
def spec_l1Pick.f (s0_0 : List Int) (s0_1 : Int) (s0_2 : Int) (l1 : List ByteArray) : Option (ByteArray × Int × Int) := (spec_l1Below.f s0_0 s0_1 s0_2 (l1.length : Int)).bind fun bt307 => (if 0 ≤ bt307.1 then (if bt307.1 < (l1.length : Int) then (some (rdOf ByteArray.empty l1 bt307.1, bt307.2.1, bt307.2.2)) else (none)) else (none))
set_option maxHeartbeats 8000000 in
set_option maxRecDepth 100000 in
theorem spec_l1Pick.calls (g : Nat) (s0_0 : List Int) (s0_1 : Int) (s0_2 : Int) (A1 : Option Addr) (c1 : Nat) (l1 : List ByteArray) (r1 : ByteArray) (r2 : Int) (r3 : Int) (w0 w : World) (hI : IsS90 w0 w g s0_0 s0_1 s0_2) (hB : Below w0.heap.size w0 w) (hr1 : Kd.C Kd.string w A1 l1.length l1) (hc1 : l1.length ≤ c1) (hf1 : ∀ ad, A1 = some ad → 0 < l1.length → ad.block ≠ g) (h : spec_l1Pick.f s0_0 s0_1 s0_2 l1 = some (r1, r2, r3)) :
  Calls Try.prog 79 #[.pointer (some ⟨g, 0, none⟩), .slice A1 l1.length c1] w fun e w' => e = .returned (.string r1) ∧ IsS90 w0 w' g s0_0 r2 r3 ∧ Below w0.heap.size w0 w' ∧ KeepBut w w' g none := by
 have HR1 := Aside0.mk hr1
 have HC1 := Aside0.mk hc1
 clear hr1 hc1; have HI0 := Aside0.mk hI
 have HK := Aside0.mk (KeepBut.refl w g none)
 have HL := Aside0.mk hB.size
 clear hI; have HW0 := Aside0.mk hB.size
 have HB := Aside0.mk hB
 clear hB; have H : ((spec_l1Below.f s0_0 s0_1 s0_2 (l1.length : Int)).bind fun bt307 => (if 0 ≤ bt307.1 then (if bt307.1 < (l1.length : Int) then (some (rdOf ByteArray.empty l1 bt307.1, bt307.2.1, bt307.2.2)) else (none)) else (none))) = some (r1, r2, r3) := h
 clear h; replace H := Option.bind_eq_some_iff.mp H
 obtain ⟨⟨t307, t308, t309⟩, A30, H⟩ := H
 replace H : (if 0 ≤ t307 then (if t307 < (l1.length : Int) then (some (rdOf ByteArray.empty l1 t307, t308, t309)) else (none)) else (none)) = some (r1, r2, r3) := H
 have A3 := Aside0.mk A30
 clear A30
 by_cases c4 : 0 ≤ t307
 ·rw [if_pos c4] at H
  have c4b0 : decide (0 ≤ t307) = true := decide_eq_true c4
  clear c4
  by_cases c5 : t307 < (l1.length : Int)
  ·rw [if_pos c5] at H
   have c5b0 : decide (t307 < (l1.length : Int)) = true := decide_eq_true c5
   clear c5; simp only [Option.some.injEq, Prod.mk.injEq] at H
   obtain ⟨rfl, rfl, rfl⟩ := H
   go_enter Try.func79, Try.ntmps79
   go_wp2_with (first | ((with_reducible refine gate_callee (f := 65) rfl ?_); refine goesC_ (some 9) Try.func65 #[.pointer (some ⟨g, 0, none⟩), .int .i64 (l1.length : Int)] ?_; (with_reducible refine (spec_l1Below.calls g s0_0 s0_1 s0_2 (l1.length : Int) t307 t308 t309 w0 _ ?side1 ?side2 A3.out).mono ?_); (case side1 => exact iS HI0); (case side2 => exact iD HB); rintro e w6 ⟨rfl, hi, hb, hk⟩; refine ⟨_, rfl, ?_⟩; have n0_ := Aside0.mk (KeepBut.trans (iK HK) hk (.inl rfl)); have n1_ := Aside0.mk (hb); have n2_ := Aside0.mk (hi); clear HK HB HI0; have HK := n0_; have HB := n1_; have HI0 := n2_; clear n0_ n1_ n2_; (try clear hb); (try clear hb2); (try clear hk); (try clear hi); have p310 : 0 ≤ (t307 : Int) := oD; have q310 : t307 < (l1.length : Int) := oD; obtain ⟨ad310, e310, hx310_0⟩ := Kd.at_string HR1.out t307 p310 q310; cases e310; replace hx310_0 := keep_cell HK.out hx310_0 (by first | (rw [add_block]; exact hf1 _ rfl (by omega)) | exact hf1 _ rfl (by omega) | exact hf1 ad310 rfl (by omega)); replace p310 := eq_true p310; replace q310 := eq_true q310))
   go_ret
   exact ⟨eR, iS HI0, iD HB, iK HK⟩
  ·rw [if_neg c5] at H
   exact absurd H (by simp)
 ·rw [if_neg c4] at H
  exact absurd H (by simp)
mutual
def spec_l8Word.l0 : Nat → ByteArray → List ByteArray → Int → List Int → Int → Int → Option (ByteArray × Int × Int)
 | 0, _, _, _, _, _, _ => none
 | k + 1, x7, x8, x10, x1000, x1001, x1002 => if x10 > 0 then (if (x8.length : Int) > 0 then ((spec_l1Once.f x1000 x1001 x1002 2).bind fun bt319 => (spec_l8Word.j1 k x7 x8 x10 bt319.1 x1000 bt319.2.1 bt319.2.2)) else (spec_l8Word.j1 k x7 x8 x10 false x1000 x1001 x1002)) else (some (x7, x1001, x1002))
def spec_l8Word.j1 : Nat → ByteArray → List ByteArray → Int → Bool → List Int → Int → Int → Option (ByteArray × Int × Int)
 | 0, _, _, _, _, _, _, _ => none
 | k + 1, x7, x8, x10, x30, x1000, x1001, x1002 => if x30 = true then ((spec_l1Below.f x1000 x1001 x1002 (x8.length : Int)).bind fun bt322 => (if 0 ≤ bt322.1 then (if bt322.1 < (x8.length : Int) then (if x7.size + (rdOf ByteArray.empty x8 bt322.1).size ≤ 9223372036854775807 then (spec_l8Word.l0 k (x7 ++ (rdOf ByteArray.empty x8 bt322.1)) x8 (wrap64 (x10 - 1)) x1000 bt322.2.1 bt322.2.2) else (none)) else (none)) else (none))) else ((spec_l1Pick.f x1000 x1001 x1002 (([(⟨#[97]⟩ : ByteArray), (⟨#[98]⟩ : ByteArray), (⟨#[99]⟩ : ByteArray), (⟨#[97, 98]⟩ : ByteArray), (⟨#[97, 97]⟩ : ByteArray), (⟨#[122]⟩ : ByteArray), (⟨#[255]⟩ : ByteArray)] : List ByteArray))).bind fun bt329 => (if x7.size + bt329.1.size ≤ 9223372036854775807 then (spec_l8Word.l0 k (x7 ++ bt329.1) x8 (wrap64 (x10 - 1)) x1000 bt329.2.1 bt329.2.2) else (none)))
end
def spec_l8Word.f (k : Nat) (s0_0 : List Int) (s0_1 : Int) (s0_2 : Int) (l1_0 : List (S95)) (a2 : Int) : Option (ByteArray × Int × Int) := (spec_l7Table.f k l1_0).bind fun bt312 => ((spec_l1Below.f s0_0 s0_1 s0_2 (wrap64 (a2 + 1))).bind fun bt316 => (spec_l8Word.l0 k (⟨#[]⟩ : ByteArray) bt312.1 bt316.1 s0_0 bt316.2.1 bt316.2.2))
theorem spec_l8Word.mono_l : ∀ k, (∀ y0 y1 y2 y3 y4 y5, LeO (spec_l8Word.l0 k y0 y1 y2 y3 y4 y5) (spec_l8Word.l0 (k + 1) y0 y1 y2 y3 y4 y5)) ∧ (∀ y0 y1 y2 y3 y4 y5 y6, LeO (spec_l8Word.j1 k y0 y1 y2 y3 y4 y5 y6) (spec_l8Word.j1 (k + 1) y0 y1 y2 y3 y4 y5 y6))
 | 0 => ⟨fun _ _ _ _ _ _ r h => by simp [spec_l8Word.l0] at h, fun _ _ _ _ _ _ _ r h => by simp [spec_l8Word.j1] at h⟩
 | k + 1 => by
  obtain ⟨ih0, ih1⟩ := spec_l8Word.mono_l k
  refine ⟨?_, ?_⟩
  ·intro y0 y1 y2 y3 y4 y5
   unfold spec_l8Word.l0
   repeat' first
   | (with_reducible exact ih0 _ _ _ _ _ _)
   | (with_reducible exact ih1 _ _ _ _ _ _ _)
   | (with_reducible exact spec_l7Table.mono _ _)
   | (with_reducible exact LeO.refl _)
   | (with_reducible exact LeO.none _)
   | (with_reducible refine LeO.ite ?_ ?_)
   | (with_reducible refine LeO.bind ?_ (fun _ => ?_))
   | exact ih0 _ _ _ _ _ _
   | exact ih1 _ _ _ _ _ _ _
   | exact spec_l7Table.mono _ _
   | exact LeO.none _
   | refine LeO.ite ?_ ?_
   | refine LeO.bind ?_ (fun _ => ?_)
  ·intro y0 y1 y2 y3 y4 y5 y6
   unfold spec_l8Word.j1
   repeat' first
   | (with_reducible exact ih0 _ _ _ _ _ _)
   | (with_reducible exact ih1 _ _ _ _ _ _ _)
   | (with_reducible exact spec_l7Table.mono _ _)
   | (with_reducible exact LeO.refl _)
   | (with_reducible exact LeO.none _)
   | (with_reducible refine LeO.ite ?_ ?_)
   | (with_reducible refine LeO.bind ?_ (fun _ => ?_))
   | exact ih0 _ _ _ _ _ _
   | exact ih1 _ _ _ _ _ _ _
   | exact spec_l7Table.mono _ _
   | exact LeO.none _
   | refine LeO.ite ?_ ?_
   | refine LeO.bind ?_ (fun _ => ?_)
theorem spec_l8Word.mono : ∀ a0 a1 a2 a3 a4 k, LeO (spec_l8Word.f k a0 a1 a2 a3 a4) (spec_l8Word.f (k + 1) a0 a1 a2 a3 a4) := by
 intro a0 a1 a2 a3 a4 k
 obtain ⟨ih0, ih1⟩ := spec_l8Word.mono_l k
 unfold spec_l8Word.f
 repeat' first
   | (with_reducible exact ih0 _ _ _ _ _ _)
   | (with_reducible exact ih1 _ _ _ _ _ _ _)
   | (with_reducible exact spec_l7Table.mono _ _)
   | (with_reducible exact LeO.refl _)
   | (with_reducible exact LeO.none _)
   | (with_reducible refine LeO.ite ?_ ?_)
   | (with_reducible refine LeO.bind ?_ (fun _ => ?_))
   | exact ih0 _ _ _ _ _ _
   | exact ih1 _ _ _ _ _ _ _
   | exact spec_l7Table.mono _ _
   | exact LeO.none _
   | refine LeO.ite ?_ ?_
   | refine LeO.bind ?_ (fun _ => ?_)
set_option maxHeartbeats 8000000 in
set_option maxRecDepth 100000 in
theorem spec_l8Word.calls (k : Nat) (g : Nat) (s0_0 : List Int) (s0_1 : Int) (s0_2 : Int) (A1_0 : Option Addr) (c1_0 : Nat) (l1_0 : List (S95)) (a2 : Int) (r1 : ByteArray) (r2 : Int) (r3 : Int) (w0 w : World) (hI : IsS90 w0 w g s0_0 s0_1 s0_2) (hB : Below w0.heap.size w0 w) (hr1_0 : ∀ W_, KeepBut w W_ g none → Kd.C k95 W_ A1_0 l1_0.length l1_0) (hc1_0 : l1_0.length ≤ c1_0) (h : spec_l8Word.f k s0_0 s0_1 s0_2 l1_0 a2 = some (r1, r2, r3)) :
  Calls Try.prog 78 #[.pointer (some ⟨g, 0, none⟩), .agg #[.slice A1_0 l1_0.length c1_0], .int .i64 a2] w fun e w' => e = .returned (.string r1) ∧ IsS90 w0 w' g s0_0 r2 r3 ∧ Below w0.heap.size w0 w' ∧ KeepBut w w' g none := by
 have hu26 := Try.underlying26
 have HR1_0 := Aside0.mk hr1_0
 have HC1_0 := Aside0.mk hc1_0
 clear hr1_0 hc1_0; have HI0 := Aside0.mk hI
 have HK := Aside0.mk (KeepBut.refl w g none)
 have HL := Aside0.mk hB.size
 clear hI; have HW0 := Aside0.mk hB.size
 have HB := Aside0.mk hB
 clear hB; have H : ((spec_l7Table.f k l1_0).bind fun bt312 => ((spec_l1Below.f s0_0 s0_1 s0_2 (wrap64 (a2 + 1))).bind fun m9a => (spec_l8Word.l0 k (⟨#[]⟩ : ByteArray) bt312.1 m9a.1 s0_0 m9a.2.1 m9a.2.2))) = some (r1, r2, r3) := h
 clear h; replace H := Option.bind_eq_some_iff.mp H
 obtain ⟨⟨t312, t315⟩, A40, H⟩ := H
 replace H : ((spec_l1Below.f s0_0 s0_1 s0_2 (wrap64 (a2 + 1))).bind fun m9a => (spec_l8Word.l0 k (⟨#[]⟩ : ByteArray) t312 m9a.1 s0_0 m9a.2.1 m9a.2.2)) = some (r1, r2, r3) := H
 have A4 := Aside0.mk A40
 clear A40; replace H := Option.bind_eq_some_iff.mp H
 obtain ⟨⟨t316, t317, t318⟩, A50, H⟩ := H
 replace H : (spec_l8Word.l0 k (⟨#[]⟩ : ByteArray) t312 t316 s0_0 t317 t318) = some (r1, r2, r3) := H
 have A5 := Aside0.mk A50
 clear A50; have H' := Aside0.mk H
 clear H
 go_enter Try.func78, Try.ntmps78
 go_wp2_with (first | ((with_reducible refine gate_dst (N := 4) rfl ?_); refine bX 4 #[.slice A1_0 l1_0.length c1_0] 26 ?_; intro i9a hg w6 hbox hb; have n0_ := Aside0.mk (IsS90.below (iS HI0) hb); have n1_ := Aside0.mk (KeepBut.trans (iK HK) (KeepBut.of_below hb g none) (.inl rfl)); have n2_ := Aside0.mk (below_step (iD HB) hb); have d9a := Aside0.mk (hbox); have e9a := Aside0.mk ((by rw [hg]; exact (keep_size (w := w) (g := g) (row := none) (iK HK)) : w.heap.size ≤ i9a)); have j9a := Aside0.mk ((Nat.le_trans HW0.out (by rw [hg]; exact (keep_size (w := w) (g := g) (row := none) (iK HK)) : w.heap.size ≤ i9a) : w0.heap.size ≤ i9a)); have a9a := Aside0.mk ((by rw [hg]; exact Nat.ne_of_lt (IsS90.lt (show IsS90 w0 _ g s0_0 s0_1 s0_2 from iS HI0)) : g ≠ i9a)); have k9a := Aside0.mk ((by rw [hg]; exact Nat.ne_of_gt (IsS90.lt (show IsS90 w0 _ g s0_0 s0_1 s0_2 from iS HI0)) : i9a ≠ g)); clear HI0 HK HB; have HI0 := n0_; have HK := n1_; have HB := n2_; clear n0_ n1_ n2_; clear hb hbox hg; have hnb7 := k9a.out; have hnc7 := a9a.out; have hcz8_0 : w6.cell? ⟨i9a, 0, none⟩ = some (.slice A1_0 l1_0.length c1_0) := bc d9a 0; have hfz8_0 := blk_frozen d9a.out 0) | ((with_reducible refine gate_callee (f := 36) rfl ?_); refine goesC_ (some 13) Try.func36 #[.agg #[.slice A1_0 l1_0.length c1_0]] ?_; (with_reducible refine (spec_l7Table.calls k _ _ l1_0 t312 t315 _ ?side1 ?side2 A4.out).mono ?_); (case side1 => exact Kd.C_foot_now HR1_0.out (iK HK)); (case side2 => exact HC1_0.out); rintro e w9 ⟨v313, rfl, ho0, hb⟩; refine ⟨_, rfl, ?_⟩; have n1_ := Aside0.mk (IsS90.below (iS HI0) hb); have n3_ := Aside0.mk (KeepBut.trans (iK HK) (KeepBut.of_below hb g none) (.inl rfl)); have n4_ := Aside0.mk (below_step (iD HB) hb); have HO314 := Aside0.mk (Kd.R_lower ho0 (keep_size (w := w) (g := g) (row := none) (iK HK))); replace d9a := bq d9a hb; clear HI0 HK HB; have HI0 := n1_; have HK := n3_; have HB := n4_; clear n1_ n3_ n4_; (try clear hb); (try clear hb2); (try clear hk); (try clear hi)) | ((with_reducible refine gate_callee (f := 65) rfl ?_); refine goesC_ (some 19) Try.func65 #[.pointer (some ⟨g, 0, none⟩), .int .i64 (wrap64 (a2 + 1))] ?_; (with_reducible refine (spec_l1Below.calls g s0_0 s0_1 s0_2 (wrap64 (a2 + 1)) t316 t317 t318 w0 _ ?side1 ?side2 A5.out).mono ?_); (case side1 => exact iS HI0); (case side2 => exact iD HB); rintro e w10 ⟨rfl, hi, hb, hk⟩; refine ⟨_, rfl, ?_⟩; have n0_ := Aside0.mk (KeepBut.blk hk (g' := i9a) (o := .cells #[.slice A1_0 l1_0.length c1_0] 26 (0, 0)) kB k9a.out (by simp)); have n1_ := Aside0.mk (Kd.R_mono (Kd.R_keep (IsS90.apart (show IsS90 w0 _ g s0_0 s0_1 s0_2 from iS HI0) (rr HO314) (by decide)) hk (fun _ h => h.2)) (fun _ h => h.1)); have n2_ := Aside0.mk (KeepBut.trans (iK HK) hk (.inl rfl)); have n3_ := Aside0.mk (hb); have n4_ := Aside0.mk (hi); clear d9a HO314 HK HB HI0; have d9a := n0_; have HO314 := n1_; have HK := n2_; have HB := n3_; have HI0 := n4_; clear n0_ n1_ n2_ n3_ n4_; (try clear hb); (try clear hb2); (try clear hk); (try clear hi)))
 go_loopg [7, 10] k (fun kq v7 v10 w' => ∃ (x7_1 : ByteArray) (f9a : Int) (g9a : Int) (h9a : Int), v7 = .string x7_1 ∧ v10 = .int .i64 f9a ∧ Aside0 (spec_l8Word.l0 kq x7_1 t312 f9a s0_0 g9a h9a = some (r1, r2, r3)) ∧ Aside0 (kq ≤ k) ∧ Aside0 (Kd.R Kd.string 9 w' w.heap.size (fun _ => True) v313 t312) ∧ Aside0 (w'.heap[i9a]? = some (.cells #[(.slice A1_0 l1_0.length c1_0)] 26 (0, 0))) ∧ Aside0 (IsS90 w0 w' g s0_0 g9a h9a) ∧ Aside0 (KeepBut w w' g none) ∧ Aside0 (Below w0.heap.size w0 w'))
 case atStart => exact ⟨((⟨#[]⟩ : ByteArray)), (t316), (t317), (t318), sR, sR, H', ⟨Nat.le_refl _⟩, ⟨rr HO314⟩, ⟨bb d9a⟩, ⟨iS HI0⟩, ⟨iK HK⟩, ⟨iD HB⟩⟩
 case round =>
  clear H'
  obtain ⟨x7_1, f9a, g9a, h9a, rfl, rfl, HA, HK1, HO_8, d9a, HI0, HK, HB⟩ := hrel
  cases gk with
  | zero => exact absurd HA.out (by simp [spec_l8Word.l0])
  | succ k1 =>
   have H := HA.out; clear HA; simp only [spec_l8Word.l0] at H
   by_cases c11 : f9a > 0
   ·rw [if_pos c11] at H
    have c11b0 : decide (0 < f9a) = true := decide_eq_true c11
    clear c11; have HC12 := Aside0.mk H
    clear H
    go_upto_region 6 with (fail)
    go_cut [30] (fun v30 wc => ∃ (kq : Nat) (o9a : Bool) (b9a : Int) (c9a : Int), v30 = .bool o9a ∧ Aside0 (spec_l8Word.j1 kq x7_1 t312 f9a o9a s0_0 b9a c9a = some (r1, r2, r3)) ∧ Aside0 (kq ≤ k1) ∧ Aside0 (Kd.R Kd.string 9 wc w.heap.size (fun _ => True) v313 t312) ∧ Aside0 (wc.heap[i9a]? = some (.cells #[(.slice A1_0 l1_0.length c1_0)] 26 (0, 0))) ∧ Aside0 (IsS90 w0 wc g s0_0 b9a c9a) ∧ Aside0 (KeepBut w wc g none) ∧ Aside0 (Below w0.heap.size w0 wc))
    case first =>
     have H := HC12.out; clear HC12
     by_cases c13 : (t312.length : Int) > 0
     ·rw [if_pos c13] at H
      have c13b0 : decide (0 < (t312.length : Int)) = true := decide_eq_true c13
      have c13b1 : decide (0 < t312.length) = true := decide_eq_true (by omega)
      clear c13
      (first | rw [c13b0] | (simp only [i64_w, i32_w]; rw [c13b0]) | skip)
      replace H := Option.bind_eq_some_iff.mp H
      obtain ⟨⟨t319, t320, t321⟩, A140, H⟩ := H
      replace H : (spec_l8Word.j1 k1 x7_1 t312 f9a t319 s0_0 t320 t321) = some (r1, r2, r3) := H
      have A14 := Aside0.mk A140
      clear A140; have H' := Aside0.mk H
      clear H; obtain ⟨Ao15, co15, eo15⟩ := Kd.R_slice HO_8.out
      subst eo15
      go_wp2_with (first | (go_at_call 64; (with_reducible refine (spec_l1Once.calls g s0_0 g9a h9a 2 t319 t320 t321 w0 _ ?side1 ?side2 A14.out).mono ?_); (case side1 => exact iS HI0); (case side2 => exact iD HB); rintro e w16 ⟨rfl, hi, hb, hk⟩; have n0_ := Aside0.mk (Kd.R_mono (Kd.R_keep (IsS90.apart (show IsS90 w0 _ g s0_0 g9a h9a from iS HI0) (rr HO_8) (by decide)) hk (fun _ h => h.2)) (fun _ h => h.1)); have n1_ := Aside0.mk (KeepBut.blk hk (g' := i9a) (o := .cells #[.slice A1_0 l1_0.length c1_0] 26 (0, 0)) kB k9a.out (by simp)); have n2_ := Aside0.mk (KeepBut.trans (iK HK) hk (.inl rfl)); have n3_ := Aside0.mk (hb); have n4_ := Aside0.mk (hi); clear HO_8 d9a HK HB HI0; have HO_8 := n0_; have d9a := n1_; have HK := n2_; have HB := n3_; have HI0 := n4_; clear n0_ n1_ n2_ n3_ n4_; (try clear hb); (try clear hb2); (try clear hk); (try clear hi)))
      go_meet
      case rel => exact ⟨_, (t319), (t320), (t321), sR, H', ⟨by have := HK1.out; first | omega | exact Nat.le_refl _⟩, ⟨rr HO_8⟩, ⟨bb d9a⟩, ⟨iS HI0⟩, ⟨iK HK⟩, ⟨iD HB⟩⟩
     ·rw [if_neg c13] at H
      have c13b0 : decide (0 < (t312.length : Int)) = false := decide_eq_false c13
      have c13b1 : decide (0 < t312.length) = false := decide_eq_false (by omega)
      clear c13
      (first | rw [c13b0] | (simp only [i64_w, i32_w]; rw [c13b0]) | skip)
      have H' := Aside0.mk H
      clear H; obtain ⟨Ao17, co17, eo17⟩ := Kd.R_slice HO_8.out
      subst eo17
      go_wp2
      go_meet
      case rel => exact ⟨_, (false), (g9a), (h9a), sR, H', ⟨by have := HK1.out; first | omega | exact Nat.le_refl _⟩, ⟨rr HO_8⟩, ⟨bb d9a⟩, ⟨iS HI0⟩, ⟨iK HK⟩, ⟨iD HB⟩⟩
    case rest =>
     clear HC12; obtain ⟨kq, o9a, b9a, c9a, rfl, HA, HJ11, HO_8, d9a, HI0, HK, HB⟩ := hcut
     cases kq with
     | zero => exact absurd HA.out (by simp [spec_l8Word.j1])
     | succ kj11 =>
      have H := HA.out; clear HA; simp only [spec_l8Word.j1] at H
      by_cases c18 : o9a = true
      ·subst c18
       have H1 : ((spec_l1Below.f s0_0 b9a c9a (t312.length : Int)).bind fun p9a => (if 0 ≤ p9a.1 then (if p9a.1 < (t312.length : Int) then (if x7_1.size + (rdOf ByteArray.empty t312 p9a.1).size ≤ 9223372036854775807 then (spec_l8Word.l0 kj11 (x7_1 ++ (rdOf ByteArray.empty t312 p9a.1)) t312 (wrap64 (f9a - 1)) s0_0 p9a.2.1 p9a.2.2) else (none)) else (none)) else (none))) = some (r1, r2, r3) := by rw [if_pos rfl] at H; exact H
       clear H; have H := H1
       clear H1; replace H := Option.bind_eq_some_iff.mp H
       obtain ⟨⟨t322, t323, t324⟩, A190, H⟩ := H
       replace H : (if 0 ≤ t322 then (if t322 < (t312.length : Int) then (if x7_1.size + (rdOf ByteArray.empty t312 t322).size ≤ 9223372036854775807 then (spec_l8Word.l0 kj11 (x7_1 ++ (rdOf ByteArray.empty t312 t322)) t312 (wrap64 (f9a - 1)) s0_0 t323 t324) else (none)) else (none)) else (none)) = some (r1, r2, r3) := H
       have A19 := Aside0.mk A190
       clear A190
       by_cases c20 : 0 ≤ t322
       ·rw [if_pos c20] at H
        have c20b0 : decide (0 ≤ t322) = true := decide_eq_true c20
        clear c20
        by_cases c21 : t322 < (t312.length : Int)
        ·rw [if_pos c21] at H
         have c21b0 : decide (t322 < (t312.length : Int)) = true := decide_eq_true c21
         clear c21
         by_cases c22 : x7_1.size + (rdOf ByteArray.empty t312 t322).size ≤ 9223372036854775807
         ·rw [if_pos c22] at H
          have c22b0 := eq_true c22
          have c22b1 : decide (x7_1.size + (rdOf ByteArray.empty t312 t322).size ≤ 9223372036854775807) = true := decide_eq_true c22
          try have c22b2 : (9223372036854775807 < x7_1.size + (rdOf ByteArray.empty t312 t322).size) = False := eq_false (Nat.not_lt.2 c22)
          have H' := Aside0.mk H
          clear H; obtain ⟨Ao23, co23, eo23⟩ := Kd.R_slice HO_8.out
          subst eo23
          go_wp2_with (first | ((with_reducible refine gate_callee (f := 65) rfl ?_); refine goesC_ (some 36) Try.func65 #[.pointer (some ⟨g, 0, none⟩), .int .i64 (t312.length : Int)] ?_; (with_reducible refine (spec_l1Below.calls g s0_0 b9a c9a (t312.length : Int) t322 t323 t324 w0 _ ?side1 ?side2 A19.out).mono ?_); (case side1 => exact iS HI0); (case side2 => exact iD HB); rintro e w24 ⟨rfl, hi, hb, hk⟩; refine ⟨_, rfl, ?_⟩; have n0_ := Aside0.mk (Kd.R_mono (Kd.R_keep (IsS90.apart (show IsS90 w0 _ g s0_0 b9a c9a from iS HI0) (rr HO_8) (by decide)) hk (fun _ h => h.2)) (fun _ h => h.1)); have n1_ := Aside0.mk (KeepBut.blk hk (g' := i9a) (o := .cells #[.slice A1_0 l1_0.length c1_0] 26 (0, 0)) kB k9a.out (by simp)); have n2_ := Aside0.mk (KeepBut.trans (iK HK) hk (.inl rfl)); have n3_ := Aside0.mk (hb); have n4_ := Aside0.mk (hi); clear HO_8 d9a HK HB HI0; have HO_8 := n0_; have d9a := n1_; have HK := n2_; have HB := n3_; have HI0 := n4_; clear n0_ n1_ n2_ n3_ n4_; (try clear hb); (try clear hb2); (try clear hk); (try clear hi); have p325 : 0 ≤ (t322 : Int) := oD; have q325 : t322 < (t312.length : Int) := oD; obtain ⟨ad325, e325, hx325_0⟩ := Kd.at_string (Kd.R_reads' HO_8.out).2.2 t322 p325 q325; cases e325; replace p325 := eq_true p325; replace q325 := eq_true q325))
          go_roundg kj11
          case measure => have := HK1.out; have := HJ11.out; omega
          case rel => exact ⟨(x7_1 ++ (rdOf ByteArray.empty t312 t322)), (wrap64 (f9a - 1)), (t323), (t324), sR, sR, H', ⟨by have := HK1.out; have := HJ11.out; omega⟩, ⟨rr HO_8⟩, ⟨bb d9a⟩, ⟨iS HI0⟩, ⟨iK HK⟩, ⟨iD HB⟩⟩
         ·rw [if_neg c22] at H
          exact absurd H (by simp)
        ·rw [if_neg c21] at H
         exact absurd H (by simp)
       ·rw [if_neg c20] at H
        exact absurd H (by simp)
      ·replace c18 := Bool.eq_false_iff.mpr c18
       subst c18
       have H1 : ((spec_l1Pick.f s0_0 b9a c9a (([(⟨#[97]⟩ : ByteArray), (⟨#[98]⟩ : ByteArray), (⟨#[99]⟩ : ByteArray), (⟨#[97, 98]⟩ : ByteArray), (⟨#[97, 97]⟩ : ByteArray), (⟨#[122]⟩ : ByteArray), (⟨#[255]⟩ : ByteArray)] : List ByteArray))).bind fun l9a => (if x7_1.size + l9a.1.size ≤ 9223372036854775807 then (spec_l8Word.l0 kj11 (x7_1 ++ l9a.1) t312 (wrap64 (f9a - 1)) s0_0 l9a.2.1 l9a.2.2) else (none))) = some (r1, r2, r3) := by rw [if_neg (show ¬ (false = true) by decide)] at H; exact H
       clear H; have H := H1
       clear H1; obtain ⟨y326, hy326⟩ : ∃ y_ : List ByteArray, y_ = (([(⟨#[97]⟩ : ByteArray), (⟨#[98]⟩ : ByteArray), (⟨#[99]⟩ : ByteArray), (⟨#[97, 98]⟩ : ByteArray), (⟨#[97, 97]⟩ : ByteArray), (⟨#[122]⟩ : ByteArray), (⟨#[255]⟩ : ByteArray)] : List ByteArray)) := ⟨_, rfl⟩
       replace H : ((spec_l1Pick.f s0_0 b9a c9a y326).bind fun l9a => (if x7_1.size + l9a.1.size ≤ 9223372036854775807 then (spec_l8Word.l0 kj11 (x7_1 ++ l9a.1) t312 (wrap64 (f9a - 1)) s0_0 l9a.2.1 l9a.2.2) else (none))) = some (r1, r2, r3) := by first | (rw [hy326]; with_reducible exact H) | (have H2_ := (Option.bind_some _ _).symm.trans H; rw [hy326]; with_reducible exact H2_) | (have H2_ := (Option.bind_some _ _).symm.trans H; with_reducible exact H2_) | with_reducible exact H | (rw [hy326]; exact H) | exact H
       have Ny326 := Aside0.mk hy326
       clear hy326; replace H := Option.bind_eq_some_iff.mp H
       obtain ⟨⟨t329, t330, t331⟩, A250, H⟩ := H
       replace H : (if x7_1.size + t329.size ≤ 9223372036854775807 then (spec_l8Word.l0 kj11 (x7_1 ++ t329) t312 (wrap64 (f9a - 1)) s0_0 t330 t331) else (none)) = some (r1, r2, r3) := H
       have A25 := Aside0.mk A250
       clear A250
       by_cases c26 : x7_1.size + t329.size ≤ 9223372036854775807
       ·rw [if_pos c26] at H
        have c26b0 := eq_true c26
        have c26b1 : decide (x7_1.size + t329.size ≤ 9223372036854775807) = true := decide_eq_true c26
        try have c26b2 : (9223372036854775807 < x7_1.size + t329.size) = False := eq_false (Nat.not_lt.2 c26)
        have H' := Aside0.mk H
        clear H
        go_wp2_with (first | ((with_reducible refine gate_dst (N := 42) rfl ?_); refine Kd.R_lit Kd.string _ 9 ?hg (N := 42) ?hd (xs := ([(⟨#[97]⟩ : ByteArray), (⟨#[98]⟩ : ByteArray), (⟨#[99]⟩ : ByteArray), (⟨#[97, 98]⟩ : ByteArray), (⟨#[97, 97]⟩ : ByteArray), (⟨#[122]⟩ : ByteArray), (⟨#[255]⟩ : ByteArray)] : List ByteArray)) (inner := [.string (⟨#[97]⟩ : ByteArray), .string (⟨#[98]⟩ : ByteArray), .string (⟨#[99]⟩ : ByteArray), .string (⟨#[97, 98]⟩ : ByteArray), .string (⟨#[97, 97]⟩ : ByteArray), .string (⟨#[122]⟩ : ByteArray), .string (⟨#[255]⟩ : ByteArray)]) (ok := fun _ => True) (okp := fun _ => True) ?hr ?hp (fun _ hk => hk) trivial (Below.refl _ _) (Nat.le_refl _) (by simp) ?_; (case hd => rfl); (case hg => rfl); (case hr => first | (go_simp; done) | (go_simp; rfl)); (case hp => exact (Reps.one (show Kd.M Kd.string _ _ _ (⟨#[97]⟩ : ByteArray) [.string (⟨#[97]⟩ : ByteArray)] from rfl) (Reps.one (show Kd.M Kd.string _ _ _ (⟨#[98]⟩ : ByteArray) [.string (⟨#[98]⟩ : ByteArray)] from rfl) (Reps.one (show Kd.M Kd.string _ _ _ (⟨#[99]⟩ : ByteArray) [.string (⟨#[99]⟩ : ByteArray)] from rfl) (Reps.one (show Kd.M Kd.string _ _ _ (⟨#[97, 98]⟩ : ByteArray) [.string (⟨#[97, 98]⟩ : ByteArray)] from rfl) (Reps.one (show Kd.M Kd.string _ _ _ (⟨#[97, 97]⟩ : ByteArray) [.string (⟨#[97, 97]⟩ : ByteArray)] from rfl) (Reps.one (show Kd.M Kd.string _ _ _ (⟨#[122]⟩ : ByteArray) [.string (⟨#[122]⟩ : ByteArray)] from rfl) (Reps.one (show Kd.M Kd.string _ _ _ (⟨#[255]⟩ : ByteArray) [.string (⟨#[255]⟩ : ByteArray)] from rfl) (Reps.none _ _))))))))); intro v327 w27 ho28 hb hg_ hnew_; clear hg_ hnew_; (first | rw [← Ny326.out] at ho28 | (simp only [Int.reduceToNat] at ho28; rw [← Ny326.out] at ho28)); have n0_ := Aside0.mk (Kd.R_elder' (rr HO_8) (Kd.R_base ho28) hb); have n3_ := Aside0.mk (IsS90.below (iS HI0) hb); have n4_ := Aside0.mk (KeepBut.trans (iK HK) (KeepBut.of_below hb g none) (.inl rfl)); have n5_ := Aside0.mk (below_step (iD HB) hb); have n9a := Aside0.mk (Kd.R_lower (Kd.R_new' ho28 (Kd.R_lt (rr HO_8))) (keep_size (w := w) (g := g) (row := none) (iK HK))); replace d9a := bq d9a hb; clear HO_8 HI0 HK HB; have HO_8 := n0_; have HI0 := n3_; have HK := n4_; have HB := n5_; clear n0_ n3_ n4_ n5_; clear hb ho28; obtain ⟨Ao29, co29, eo29⟩ := Kd.R_slice n9a.out; subst eo29) | ((with_reducible refine gate_callee (f := 79) rfl ?_); refine goesC_ (some 43) Try.func79 #[.pointer (some ⟨g, 0, none⟩), .slice Ao29 y326.length co29] ?_; (with_reducible refine (spec_l1Pick.calls g s0_0 b9a c9a _ _ y326 t329 t330 t331 w0 _ ?side1 ?side2 ?side3 ?side4 ?side5 A25.out).mono ?_); (case side1 => exact iS HI0); (case side2 => exact iD HB); (case side3 => exact cX ((Kd.R_reads' n9a.out).2.2)); (case side4 => exact (Kd.R_reads' n9a.out).2.1); (case side5 => exact far_slice (IsS90.own_ne HI0.out n9a.out (by decide))); rintro e w30 ⟨rfl, hi, hb, hk⟩; refine ⟨_, rfl, ?_⟩; have n0_ := Aside0.mk (Kd.R_mono (Kd.R_keep (IsS90.apart (show IsS90 w0 _ g s0_0 b9a c9a from iS HI0) (rr HO_8) (by decide)) hk (fun _ h => h.2)) (fun _ h => h.1)); have n1_ := Aside0.mk (KeepBut.blk hk (g' := i9a) (o := .cells #[.slice A1_0 l1_0.length c1_0] 26 (0, 0)) kB k9a.out (by simp)); have n2_ := Aside0.mk (Kd.R_mono (Kd.R_keep (IsS90.apart (show IsS90 w0 _ g s0_0 b9a c9a from iS HI0) (rr n9a) (by decide)) hk (fun _ h => h.2)) (fun _ h => h.1)); have n3_ := Aside0.mk (KeepBut.trans (iK HK) hk (.inl rfl)); have n4_ := Aside0.mk (hb); have n5_ := Aside0.mk (hi); clear HO_8 d9a n9a HK HB HI0; have HO_8 := n0_; have d9a := n1_; have n9a := n2_; have HK := n3_; have HB := n4_; have HI0 := n5_; clear n0_ n1_ n2_ n3_ n4_ n5_; (try clear hb); (try clear hb2); (try clear hk); (try clear hi)))
        go_roundg kj11
        case measure => have := HK1.out; have := HJ11.out; omega
        case rel => exact ⟨(x7_1 ++ t329), (wrap64 (f9a - 1)), (t330), (t331), sR, sR, H', ⟨by have := HK1.out; have := HJ11.out; omega⟩, ⟨rX (Kd.R_mono HO_8.out (fun _ hk => trivial))⟩, ⟨bb d9a⟩, ⟨iS HI0⟩, ⟨iK HK⟩, ⟨iD HB⟩⟩
       ·rw [if_neg c26] at H
        exact absurd H (by simp)
   ·rw [if_neg c11] at H
    have c11b0 : decide (0 < f9a) = false := decide_eq_false c11
    clear c11; simp only [Option.some.injEq, Prod.mk.injEq] at H
    obtain ⟨rfl, rfl, rfl⟩ := H
    go_wp2
    go_ret
    exact ⟨eR, iS HI0, iD HB, iK HK⟩
end Go.Proofs.Ytddebnchbbmbkaa.PFnMemo
