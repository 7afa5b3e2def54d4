-- The machine side of a law: written by a program of this session (wip/tools), a turned print.
import Derived.Test.YtddebnchbbmbkaaPFnMemox0
import Derived.Test.YtddebnchbbmbkaaPFnMemox3
import Derived.Test.YtddebnchbbmbkaaPFnMemox6
import Derived.Test.YtddebnchbbmbkaaPFnMemox19
namespace Go.Proofs.Ytddebnchbbmbkaa.PFnMemo
open Go.RowKit Go.Proofs.YtddebnchbbmbkaaW.PrintWords Go.Proofs.YtddebnchbbmbkaaW.PrintLast Go.Proofs.YtddebnchbbmbkaaW.PrintMore
attribute [local go_sem] max2_int min2_int max_two min_two max_three min_three max_four min_four   -- for this text's walks alone
set_option linter.unusedVariables false
set_option linter.unusedSimpArgs false
def spec_Cut.l0 : Nat → ByteArray → List ByteArray → Option (List ByteArray)
 | 0, _, _ => none
 | k + 1, x0, x3 => if (x0.size : Int) > 0 then ((spec_l9Next.f k x0).bind fun t538 => (if 0 ≤ t538 then (if t538 ≤ (x0.size : Int) then (if x3.length < 8796093022208 then (spec_Cut.l0 k (x0.extract (t538 : Int).toNat x0.size) (x3 ++ [x0.extract 0 (t538 : Int).toNat])) else (none)) else (none)) else (none))) else (some x3)
def spec_Cut.f (k : Nat) (a0 : ByteArray) : Option (List ByteArray) := (some (([] : List ByteArray) : List ByteArray)).bind fun y535 => (if (a0.size : Int) > 1000 then (some y535) else (spec_Cut.l0 k a0 y535))
theorem spec_Cut.mono_l : ∀ k, (∀ y0 y1, LeO (spec_Cut.l0 k y0 y1) (spec_Cut.l0 (k + 1) y0 y1))
 | 0 => fun _ _ r h => by simp [spec_Cut.l0] at h
 | k + 1 => by
  have ih0 := spec_Cut.mono_l k
  ·intro y0 y1
   unfold spec_Cut.l0
   repeat' first
   | (with_reducible exact ih0 _ _)
   | (with_reducible exact spec_l9Next.mono _ _)
   | (with_reducible exact LeO.refl _)
   | (with_reducible exact LeO.none _)
   | (with_reducible refine LeO.ite ?_ ?_)
   | (with_reducible refine LeO.bind ?_ (fun _ => ?_))
   | exact ih0 _ _
   | exact spec_l9Next.mono _ _
   | exact LeO.none _
   | refine LeO.ite ?_ ?_
   | refine LeO.bind ?_ (fun _ => ?_)
theorem spec_Cut.mono : ∀ a0 k, LeO (spec_Cut.f k a0) (spec_Cut.f (k + 1) a0) := by
 intro a0 k
 have ih0 := spec_Cut.mono_l k
 unfold spec_Cut.f
 repeat' first
   | (with_reducible exact ih0 _ _)
   | (with_reducible exact spec_l9Next.mono _ _)
   | (with_reducible exact LeO.refl _)
   | (with_reducible exact LeO.none _)
   | (with_reducible refine LeO.ite ?_ ?_)
   | (with_reducible refine LeO.bind ?_ (fun _ => ?_))
   | exact ih0 _ _
   | exact spec_l9Next.mono _ _
   | exact LeO.none _
   | refine LeO.ite ?_ ?_
   | refine LeO.bind ?_ (fun _ => ?_)
set_option maxHeartbeats 8000000 in
set_option maxRecDepth 100000 in
theorem spec_Cut.calls (k : Nat) (a0 : ByteArray) (r : List ByteArray) (w : World) (h : spec_Cut.f k a0 = some r) :
  Calls Try.prog 56 #[.string a0] w fun e w' => ∃ v0_ : Value, e = .returned (v0_) ∧ Kd.R Kd.string 9 w' w.heap.size (fun _ => True) v0_ r ∧ Below w.heap.size w w' := by
 have HB := Aside0.mk (Below.refl w.heap.size w)
 have H : ((some (([] : List ByteArray) : List ByteArray)).bind fun y535 => (if (a0.size : Int) > 1000 then (some y535) else (spec_Cut.l0 k a0 y535))) = some r := h
 clear h; obtain ⟨y535, hy535⟩ : ∃ y_ : List ByteArray, y_ = (([] : List ByteArray)) := ⟨_, rfl⟩
 replace H : (if (a0.size : Int) > 1000 then (some y535) else (spec_Cut.l0 k a0 y535)) = some r := by first | (rw [hy535]; with_reducible exact H) | (have H2_ := (Option.bind_some _ _).symm.trans H; rw [hy535]; with_reducible exact H2_) | (have H2_ := (Option.bind_some _ _).symm.trans H; with_reducible exact H2_) | with_reducible exact H | (rw [hy535]; exact H) | exact H
 have Ny535 := Aside0.mk hy535
 clear hy535
 by_cases c2 : (a0.size : Int) > 1000
 ·rw [if_pos c2] at H
  have c2b0 : decide (1000 < (a0.size : Int)) = true := decide_eq_true c2
  have c2b1 : decide (1000 < a0.size) = true := decide_eq_true (by omega)
  clear c2; obtain rfl := Option.some.inj H
  go_enter Try.func56, Try.ntmps56
  go_wp2_with (first | ((with_reducible refine gate_dst (N := 5) rfl ?_); refine Kd.R_lit Kd.string _ 9 ?hg (N := 5) ?hd (xs := ([] : List ByteArray)) (inner := []) (ok := fun _ => True) (okp := fun _ => True) ?hr ?hp (fun _ hk => hk) trivial (Below.refl _ _) (Nat.le_refl _) (by simp) ?_; (case hd => rfl); (case hg => rfl); (case hr => first | (go_simp; done) | (go_simp; rfl)); (case hp => exact (Reps.none _ _)); intro v536 w3 ho4 hb hg_ hnew_; clear hg_ hnew_; (first | rw [← Ny535.out] at ho4 | (simp only [Int.reduceToNat] at ho4; rw [← Ny535.out] at ho4)); have HO537 := Aside0.mk (Kd.R_lower ho4 (below_size (be HB))); replace HB := bh HB hb; clear hb ho4))
  go_ret
  exact ⟨_, eR, rX HO537.out, iB HB⟩
 ·rw [if_neg c2] at H
  have c2b0 : decide (1000 < (a0.size : Int)) = false := decide_eq_false c2
  have c2b1 : decide (1000 < a0.size) = false := decide_eq_false (by omega)
  clear c2; have H' := Aside0.mk H
  clear H
  go_enter Try.func56, Try.ntmps56
  go_wp2_with (first | ((with_reducible refine gate_dst (N := 5) rfl ?_); refine Kd.R_lit Kd.string _ 9 ?hg (N := 5) ?hd (xs := ([] : List ByteArray)) (inner := []) (ok := fun _ => True) (okp := fun _ => True) ?hr ?hp (fun _ hk => hk) trivial (Below.refl _ _) (Nat.le_refl _) (by simp) ?_; (case hd => rfl); (case hg => rfl); (case hr => first | (go_simp; done) | (go_simp; rfl)); (case hp => exact (Reps.none _ _)); intro v536 w5 ho6 hb hg_ hnew_; clear hg_ hnew_; (first | rw [← Ny535.out] at ho6 | (simp only [Int.reduceToNat] at ho6; rw [← Ny535.out] at ho6)); have HO537 := Aside0.mk (Kd.R_lower ho6 (below_size (be HB))); replace HB := bh HB hb; clear hb ho6))
  go_loopg [0, 3] k (fun kq v0 v3 w' => ∃ (x0_1 : ByteArray) (x3_1 : List ByteArray), v0 = .string x0_1 ∧ Aside0 (spec_Cut.l0 kq x0_1 x3_1 = some r) ∧ Aside0 (kq ≤ k) ∧ Aside0 (Kd.R Kd.string 9 w' w.heap.size (fun _ => True) v3 x3_1) ∧ Aside0 (Below w.heap.size w w'))
  case atStart => exact ⟨(a0), (y535), sR, H', ⟨Nat.le_refl _⟩, ⟨rr HO537⟩, ⟨iB HB⟩⟩
  case round =>
   clear H'
   obtain ⟨x0_1, x3_1, rfl, HA, HK1, HO_3, HB⟩ := hrel
   cases gk with
   | zero => exact absurd HA.out (by simp [spec_Cut.l0])
   | succ k1 =>
    have H := HA.out; clear HA; simp only [spec_Cut.l0] at H
    by_cases c7 : (x0_1.size : Int) > 0
    ·rw [if_pos c7] at H
     have c7b0 : decide (0 < (x0_1.size : Int)) = true := decide_eq_true c7
     have c7b1 : decide (0 < x0_1.size) = true := decide_eq_true (by omega)
     clear c7; replace H := Option.bind_eq_some_iff.mp H
     obtain ⟨t538, A80, H⟩ := H
     replace H : (if 0 ≤ t538 then (if t538 ≤ (x0_1.size : Int) then (if x3_1.length < 8796093022208 then (spec_Cut.l0 k1 (x0_1.extract (t538 : Int).toNat x0_1.size) (x3_1 ++ [x0_1.extract 0 (t538 : Int).toNat])) else (none)) else (none)) else (none)) = some r := H
     have A8 := Aside0.mk A80
     clear A80
     by_cases c9 : 0 ≤ t538
     ·rw [if_pos c9] at H
      have c9b0 := eq_true c9
      have c9b1 : decide (0 ≤ t538) = true := decide_eq_true c9
      clear c9
      by_cases c10 : t538 ≤ (x0_1.size : Int)
      ·rw [if_pos c10] at H
       have c10b0 := eq_true c10
       have c10b1 : decide (t538 ≤ (x0_1.size : Int)) = true := decide_eq_true c10
       clear c10
       by_cases c11 : x3_1.length < 8796093022208
       ·rw [if_pos c11] at H
        have LMc11 := Aside0.mk c11
        clear c11; obtain ⟨y539, hy539⟩ : ∃ y_ : List ByteArray, y_ = (x3_1 ++ [x0_1.extract 0 (t538 : Int).toNat]) := ⟨_, rfl⟩
        replace H : (spec_Cut.l0 k1 (x0_1.extract (t538 : Int).toNat x0_1.size) y539) = some r := by first | (rw [hy539]; with_reducible exact H) | (have H2_ := (Option.bind_some _ _).symm.trans H; rw [hy539]; with_reducible exact H2_) | (have H2_ := (Option.bind_some _ _).symm.trans H; with_reducible exact H2_) | with_reducible exact H | (rw [hy539]; exact H) | exact H
        have Ny539 := Aside0.mk hy539
        clear hy539; have c12b0 := eq_true (oD : 0 ≤ t538)
        have c13b0 := eq_true (oD : t538 ≤ (x0_1.size : Int))
        have H' := Aside0.mk H
        clear H
        go_wp2_with (first | ((with_reducible refine gate_callee (f := 81) rfl ?_); refine goesC_ (some 14) Try.func81 #[.string x0_1] ?_; (with_reducible refine (spec_l9Next.calls k1 x0_1 t538 _ A8.out).mono ?_); rintro e w' ⟨rfl, ⟨nd, rfl⟩⟩; refine ⟨_, rfl, ?_⟩) | ((with_reducible refine gate_builtin (b := .append) (xs := #[.tmp 15, .tmp 19]) rfl ?_); at_builtin; refine Kd.R_append Kd.string (w0 := w) w.heap.size rfl (.tmp 15) (.tmp 19) 35 9 (.string ⟨#[]⟩) 16 rfl Try.underlying35 info9 rfl (by decide) (by omega) u3 x3_1 (x0_1.extract 0 (t538 : Int).toNat) [.string (x0_1.extract 0 (t538 : Int).toNat)] (fun _ => True) (fun _ => False) rfl rfl ?aP (fun _ hk => hk.elim) ?aF ?aO ?aB ?aS ?aL ?_; (case aP => exact rfl); (case aB => exact (be HB)); (case aF => exact (fun _ _ => trivial)); (case aO => exact (rr HO_3)); (case aS => exact (below_size (be HB))); (case aL => have := LMc11.out; omega); intro v540 w14 ho hb hg hat; rw [← Ny539.out] at ho; have n0_ := Aside0.mk (hb); have HO541 := Aside0.mk (ho); clear HO_3 HB; have HB := n0_; clear n0_; clear ho hb hg hat))
        go_roundg k1
        case measure => have := HK1.out; omega
        case rel => exact ⟨(x0_1.extract (t538 : Int).toNat x0_1.size), (y539), sR, H', ⟨by have := HK1.out; omega⟩, ⟨rr HO541⟩, ⟨iB HB⟩⟩
       ·rw [if_neg c11] at H
        exact absurd H (by simp)
      ·rw [if_neg c10] at H
       exact absurd H (by simp)
     ·rw [if_neg c9] at H
      exact absurd H (by simp)
    ·rw [if_neg c7] at H
     have c7b0 : decide (0 < (x0_1.size : Int)) = false := decide_eq_false c7
     have c7b1 : decide (0 < x0_1.size) = false := decide_eq_false (by omega)
     clear c7; obtain rfl := Option.some.inj H
     go_wp2
     go_ret
     exact ⟨_, eR, rX HO_3.out, iB HB⟩
def spec_Encode.l0 : Nat → List Int → List ByteArray → Int → List (S95) → Option (List Int × Int)
 | 0, _, _, _, _ => none
 | k + 1, x6, x7, x8, x543000 => if x8 < (x7.length : Int) then (if 0 ≤ x8 then ((spec_l8Bpe.f k x543000 (rdOf ByteArray.empty x7 x8)).bind fun t551 => (if x6.length + t551.length < 17592186044416 then (spec_Encode.l0 k (x6 ++ t551) x7 (wrap64 (x8 + 1)) x543000) else (none))) else (none)) else (some (x6, 0))
def spec_Encode.f (k : Nat) (l0_0 : List (S95)) (a1 : ByteArray) : Option (List Int × Int) := (some (([] : List Int) : List Int)).bind fun y543 => ((spec_VocabOk.f k l0_0).bind fun t546 => (if t546 = true then (if (a1.size : Int) > 1000 then (some (y543, 2)) else ((spec_Cut.f k a1).bind fun t547 => (spec_Encode.l0 k y543 t547 0 l0_0))) else (some (y543, 1))))
theorem spec_Encode.mono_l : ∀ k, (∀ y0 y1 y2 y3, LeO (spec_Encode.l0 k y0 y1 y2 y3) (spec_Encode.l0 (k + 1) y0 y1 y2 y3))
 | 0 => fun _ _ _ _ r h => by simp [spec_Encode.l0] at h
 | k + 1 => by
  have ih0 := spec_Encode.mono_l k
  ·intro y0 y1 y2 y3
   unfold spec_Encode.l0
   repeat' first
   | (with_reducible exact ih0 _ _ _ _)
   | (with_reducible exact spec_Cut.mono _ _)
   | (with_reducible exact spec_VocabOk.mono _ _)
   | (with_reducible exact spec_l8Bpe.mono _ _ _)
   | (with_reducible exact LeO.refl _)
   | (with_reducible exact LeO.none _)
   | (with_reducible refine LeO.ite ?_ ?_)
   | (with_reducible refine LeO.bind ?_ (fun _ => ?_))
   | exact ih0 _ _ _ _
   | exact spec_Cut.mono _ _
   | exact spec_VocabOk.mono _ _
   | exact spec_l8Bpe.mono _ _ _
   | exact LeO.none _
   | refine LeO.ite ?_ ?_
   | refine LeO.bind ?_ (fun _ => ?_)
theorem spec_Encode.mono : ∀ a0 a1 k, LeO (spec_Encode.f k a0 a1) (spec_Encode.f (k + 1) a0 a1) := by
 intro a0 a1 k
 have ih0 := spec_Encode.mono_l k
 unfold spec_Encode.f
 repeat' first
   | (with_reducible exact ih0 _ _ _ _)
   | (with_reducible exact spec_Cut.mono _ _)
   | (with_reducible exact spec_VocabOk.mono _ _)
   | (with_reducible exact spec_l8Bpe.mono _ _ _)
   | (with_reducible exact LeO.refl _)
   | (with_reducible exact LeO.none _)
   | (with_reducible refine LeO.ite ?_ ?_)
   | (with_reducible refine LeO.bind ?_ (fun _ => ?_))
   | exact ih0 _ _ _ _
   | exact spec_Cut.mono _ _
   | exact spec_VocabOk.mono _ _
   | exact spec_l8Bpe.mono _ _ _
   | exact LeO.none _
   | refine LeO.ite ?_ ?_
   | refine LeO.bind ?_ (fun _ => ?_)
def spec_Encode.T10 : Bool × List (List Nat × List Nat) := (true, [([], []), ([], []), ([], []), ([], []), ([2, 3], [2, 3]), ([4], [4]), ([1, 5], [1, 5]), ([0, 6, 6], [0, 6]), ([7, 7, 0, 1, 2, 3, 4, 5, 6, 7], [0, 7])])
def spec_Encode.B10 : List Nat := [0, 0, 0, 0, 12, 28, 62, 127, 255]
theorem spec_Encode.tab10 : rtab .any (opsOf Try.f29 10) = spec_Encode.T10 := by kernel_rfl
theorem spec_Encode.bits10 : waitsOk spec_Encode.T10.2 spec_Encode.B10 = true := by kernel_rfl
set_option maxHeartbeats 8000000 in
set_option maxRecDepth 100000 in
theorem spec_Encode.calls (k : Nat) (A0_0 : Option Addr) (c0_0 : Nat) (l0_0 : List (S95)) (a1 : ByteArray) (r1 : List Int) (r2 : Int) (w : World) (hr0_0 : Kd.C k95 w A0_0 l0_0.length l0_0) (hc0_0 : l0_0.length ≤ c0_0) (h : spec_Encode.f k l0_0 a1 = some (r1, r2)) :
  Calls Try.prog 29 #[.agg #[.slice A0_0 l0_0.length c0_0], .string a1] w fun e w' => ∃ v0_ : Value, e = .returned (.tuple #[v0_, .int .i64 r2]) ∧ Kd.R (Kd.int .i64) 3 w' w.heap.size (fun _ => True) v0_ r1 ∧ Below w.heap.size w w' := by
 have hu26 := Try.underlying26
 have HR0_0 := Aside0.mk hr0_0
 have HC0_0 := Aside0.mk hc0_0
 clear hr0_0 hc0_0; have HB := Aside0.mk (Below.refl w.heap.size w)
 have H : ((some (([] : List Int) : List Int)).bind fun y543 => ((spec_VocabOk.f k l0_0).bind fun t546 => (if t546 = true then (if (a1.size : Int) > 1000 then (some (y543, 2)) else ((spec_Cut.f k a1).bind fun t547 => (spec_Encode.l0 k y543 t547 0 l0_0))) else (some (y543, 1))))) = some (r1, r2) := h
 clear h; obtain ⟨y543, hy543⟩ : ∃ y_ : List Int, y_ = (([] : List Int)) := ⟨_, rfl⟩
 replace H : ((spec_VocabOk.f k l0_0).bind fun t546 => (if t546 = true then (if (a1.size : Int) > 1000 then (some (y543, 2)) else ((spec_Cut.f k a1).bind fun t547 => (spec_Encode.l0 k y543 t547 0 l0_0))) else (some (y543, 1)))) = some (r1, r2) := by first | (rw [hy543]; with_reducible exact H) | (have H2_ := (Option.bind_some _ _).symm.trans H; rw [hy543]; with_reducible exact H2_) | (have H2_ := (Option.bind_some _ _).symm.trans H; with_reducible exact H2_) | with_reducible exact H | (rw [hy543]; exact H) | exact H
 have e9a := Aside0.mk hy543
 clear hy543; replace H := Option.bind_eq_some_iff.mp H
 obtain ⟨t546, A30, H⟩ := H
 replace H : (if t546 = true then (if (a1.size : Int) > 1000 then (some (y543, 2)) else ((spec_Cut.f k a1).bind fun t547 => (spec_Encode.l0 k y543 t547 0 l0_0))) else (some (y543, 1))) = some (r1, r2) := H
 have A3 := Aside0.mk A30
 clear A30
 by_cases c4 : t546 = true
 ·subst c4
  have H1 : (if (a1.size : Int) > 1000 then (some (y543, 2)) else ((spec_Cut.f k a1).bind fun t547 => (spec_Encode.l0 k y543 t547 0 l0_0))) = some (r1, r2) := by rw [if_pos rfl] at H; exact H
  clear H; have H := H1
  clear H1
  by_cases c5 : (a1.size : Int) > 1000
  ·rw [if_pos c5] at H
   have c5b0 : decide (1000 < (a1.size : Int)) = true := decide_eq_true c5
   have c5b1 : decide (1000 < a1.size) = true := decide_eq_true (by omega)
   clear c5; simp only [Option.some.injEq, Prod.mk.injEq] at H
   obtain ⟨rfl, rfl⟩ := H
   go_enter Try.func29, Try.ntmps29
   go_wp2_with (first | ((with_reducible refine gate_dst (N := 2) rfl ?_); refine bX 2 #[.slice A0_0 l0_0.length c0_0] 26 ?_; intro c9a hg w6 hbox hb; have a9a := Aside0.mk (hbox); have GW542 := bs HB hg; have d9a := bs HB hg; replace HB := bh HB hb; clear hb hbox hg) | ((with_reducible refine gate_dst (N := 9) rfl ?_); refine Kd.R_lit (Kd.int .i64) _ 3 ?hg (N := 9) ?hd (xs := ([] : List Int)) (inner := []) (ok := fun _ => True) (okp := fun _ => True) ?hr ?hp (fun _ hk => hk) trivial (Below.refl _ _) (Nat.le_refl _) (by simp) ?_; (case hd => rfl); (case hg => rfl); (case hr => first | (go_simp; done) | (go_simp; rfl)); (case hp => exact (Reps.none _ _)); intro v544 w7 ho8 hb hg_ hnew_; clear hg_ hnew_; (first | rw [← e9a.out] at ho8 | (simp only [Int.reduceToNat] at ho8; rw [← e9a.out] at ho8)); have b9a := Aside0.mk (Kd.R_lower ho8 (below_size (be HB))); replace a9a := bq a9a hb; replace HB := bh HB hb; clear hb ho8; have hcz9_0 : w7.cell? ⟨c9a, 0, none⟩ = some (.slice A0_0 l0_0.length c0_0) := bc a9a 0; have hfz9_0 := blk_frozen a9a.out 0) | ((with_reducible refine gate_callee (f := 10) rfl ?_); refine goesC_ (some 11) Try.func10 #[.agg #[.slice A0_0 l0_0.length c0_0]] ?_; (with_reducible refine (spec_VocabOk.calls k _ _ l0_0 true _ ?side1 ?side2 A3.out).mono ?_); (case side1 => exact cX (Kd.C_below HR0_0.out HB.out)); (case side2 => exact HC0_0.out); rintro e w10 ⟨rfl, hb⟩; refine ⟨_, rfl, ?_⟩; replace b9a := Aside0.mk (Kd.R_below (rr b9a) hb); replace a9a := bq a9a hb; replace HB := bh HB hb; (try clear hb); (try clear hb2); (try clear hk); (try clear hi)))
   go_ret2
   exact ⟨_, eR, rX b9a.out, iB HB⟩
  ·rw [if_neg c5] at H
   have c5b0 : decide (1000 < (a1.size : Int)) = false := decide_eq_false c5
   have c5b1 : decide (1000 < a1.size) = false := decide_eq_false (by omega)
   clear c5; replace H := Option.bind_eq_some_iff.mp H
   obtain ⟨t547, A110, H⟩ := H
   replace H : (spec_Encode.l0 k y543 t547 0 l0_0) = some (r1, r2) := H
   have A11 := Aside0.mk A110
   clear A110; have H' := Aside0.mk H
   clear H
   go_enter Try.func29, Try.ntmps29
   go_wp2_with (first | ((with_reducible refine gate_dst (N := 2) rfl ?_); refine bX 2 #[.slice A0_0 l0_0.length c0_0] 26 ?_; intro c9a hg w12 hbox hb; have a9a := Aside0.mk (hbox); have GW542 := bs HB hg; have d9a := bs HB hg; replace HB := bh HB hb; clear hb hbox hg) | ((with_reducible refine gate_dst (N := 9) rfl ?_); refine Kd.R_lit (Kd.int .i64) _ 3 ?hg (N := 9) ?hd (xs := ([] : List Int)) (inner := []) (ok := fun _ => True) (okp := fun _ => True) ?hr ?hp (fun _ hk => hk) trivial (Below.refl _ _) (Nat.le_refl _) (by simp) ?_; (case hd => rfl); (case hg => rfl); (case hr => first | (go_simp; done) | (go_simp; rfl)); (case hp => exact (Reps.none _ _)); intro v544 w13 ho14 hb hg_ hnew_; clear hg_ hnew_; (first | rw [← e9a.out] at ho14 | (simp only [Int.reduceToNat] at ho14; rw [← e9a.out] at ho14)); have b9a := Aside0.mk (Kd.R_lower ho14 (below_size (be HB))); replace a9a := bq a9a hb; replace HB := bh HB hb; clear hb ho14; have hcz15_0 : w13.cell? ⟨c9a, 0, none⟩ = some (.slice A0_0 l0_0.length c0_0) := bc a9a 0; have hfz15_0 := blk_frozen a9a.out 0) | ((with_reducible refine gate_callee (f := 10) rfl ?_); refine goesC_ (some 11) Try.func10 #[.agg #[.slice A0_0 l0_0.length c0_0]] ?_; (with_reducible refine (spec_VocabOk.calls k _ _ l0_0 true _ ?side1 ?side2 A3.out).mono ?_); (case side1 => exact cX (Kd.C_below HR0_0.out HB.out)); (case side2 => exact HC0_0.out); rintro e w16 ⟨rfl, hb⟩; refine ⟨_, rfl, ?_⟩; replace b9a := Aside0.mk (Kd.R_below (rr b9a) hb); replace a9a := bq a9a hb; replace HB := bh HB hb; (try clear hb); (try clear hb2); (try clear hk); (try clear hi)) | ((with_reducible refine gate_callee (f := 56) rfl ?_); refine goesC_ (some 19) Try.func56 #[.string a1] ?_; (with_reducible refine (spec_Cut.calls k a1 t547 _ A11.out).mono ?_); rintro e w17 ⟨v548, rfl, ho0, hb⟩; refine ⟨_, rfl, ?_⟩; have HO549 := Aside0.mk (Kd.R_lower ho0 (below_size (be HB))); replace b9a := Aside0.mk (Kd.R_below (rr b9a) hb); replace a9a := bq a9a hb; replace HB := bh HB hb; (try clear hb); (try clear hb2); (try clear hk); (try clear hi)))
   go_loopg [6, 8] k (fun kq v6 v8 w' => ∃ (x6_1 : List Int) (x8_1 : Int), v8 = .int .i64 x8_1 ∧ Aside0 (spec_Encode.l0 kq x6_1 t547 x8_1 l0_0 = some (r1, r2)) ∧ Aside0 (kq ≤ k) ∧ Aside0 (Kd.R (Kd.int .i64) 3 w' w.heap.size (fun _ => True) v6 x6_1) ∧ Aside0 (Kd.R Kd.string 9 w' w.heap.size (fun _ => True) v548 t547) ∧ Aside0 (w'.heap[c9a]? = some (.cells #[(.slice A0_0 l0_0.length c0_0)] 26 (0, 0))) ∧ Aside0 (Below w.heap.size w w'))
   case atStart => exact ⟨(y543), (0), sR, H', ⟨Nat.le_refl _⟩, ⟨rr b9a⟩, ⟨rr HO549⟩, ⟨bb a9a⟩, ⟨iB HB⟩⟩
   case round =>
    clear H'
    obtain ⟨x6_1, x8_1, rfl, HA, HK1, HO_6, HO_7, a9a, HB⟩ := hrel
    cases gk with
    | zero => exact absurd HA.out (by simp [spec_Encode.l0])
    | succ k1 =>
     have H := HA.out; clear HA; simp only [spec_Encode.l0] at H
     by_cases c18 : x8_1 < (t547.length : Int)
     ·rw [if_pos c18] at H
      have c18b0 : decide (x8_1 < (t547.length : Int)) = true := decide_eq_true c18
      clear c18
      by_cases c19 : 0 ≤ x8_1
      ·rw [if_pos c19] at H
       have c19b0 : decide (0 ≤ x8_1) = true := decide_eq_true c19
       clear c19; replace H := Option.bind_eq_some_iff.mp H
       obtain ⟨t551, A200, H⟩ := H
       replace H : (if x6_1.length + t551.length < 17592186044416 then (spec_Encode.l0 k1 (x6_1 ++ t551) t547 (wrap64 (x8_1 + 1)) l0_0) else (none)) = some (r1, r2) := H
       have A20 := Aside0.mk A200
       clear A200
       by_cases c21 : x6_1.length + t551.length < 17592186044416
       ·rw [if_pos c21] at H
        have LMc21 := Aside0.mk c21
        clear c21; obtain ⟨y554, hy554⟩ : ∃ y_ : List Int, y_ = (x6_1 ++ t551) := ⟨_, rfl⟩
        replace H : (spec_Encode.l0 k1 y554 t547 (wrap64 (x8_1 + 1)) l0_0) = some (r1, r2) := by first | (rw [hy554]; with_reducible exact H) | (have H2_ := (Option.bind_some _ _).symm.trans H; rw [hy554]; with_reducible exact H2_) | (have H2_ := (Option.bind_some _ _).symm.trans H; with_reducible exact H2_) | with_reducible exact H | (rw [hy554]; exact H) | exact H
        have Ny554 := Aside0.mk hy554
        clear hy554; have H' := Aside0.mk H
        clear H; obtain ⟨Ao22, co22, eo22⟩ := Kd.R_slice HO_7.out
        subst eo22
        try go_wp2
        have n0_ := Aside0.mk (Kd.R_drew HO_6.out)
        have n1_ := Aside0.mk (Kd.R_drew HO_7.out)
        have n2_ := Aside0.mk (blk_drew a9a.out)
        have n3_ := Aside0.mk (below_drew1 HB.out)
        clear HO_6 HO_7 a9a HB; have HO_6 := n0_; have HO_7 := n1_; have a9a := n2_; have HB := n3_; clear n0_ n1_ n2_ n3_; have p550 : 0 ≤ (x8_1 : Int) := oD
        have q550 : x8_1 < (t547.length : Int) := oD
        obtain ⟨ad550, e550, hx550_0⟩ := Kd.at_string (Kd.R_reads' HO_7.out).2.2 x8_1 p550 q550
        cases e550
        replace p550 := eq_true p550
        replace q550 := eq_true q550
        refine start_ (n := 9) (S := fun w' => w'.cell? ⟨c9a, 0, none⟩ = some (.slice A0_0 l0_0.length c0_0) ∧ w'.cell? (ad550.add (x8_1).toNat) = some (.string (rdOf ByteArray.empty t547 x8_1))) (ds := [7]) #[ff,ff,ff,ff,ff,ff,ff,ff,ff] (by kernel_rfl) rfl rfl ⟨bc a9a 0, hx550_0⟩ (fun hHeld => ?_); refine with_tabW spec_Encode.tab10 spec_Encode.bits10 (fun HT_ HW_ => ?_)
        generalize wr.drew = w23 at HO_6 HO_7 a9a HB hx550_0 hHeld ⊢
        refine pu 0 26 (tb 9 1) HT_ ?_
        refine pu 2 28 (tb 9 5) HT_ ?_
        refine pu 3 29 (tb 9 13) HT_ ?_
        refine pu 4 30 (tb 9 29) HT_ ?_
        refine tk 1 27 (tb 9 31) rfl rfl HT_ HW_ hHeld (by rintro w' ⟨s0, s1⟩; go_simp; with_reducible rfl) ?_
        refine tk 5 31 (tb 9 63) rfl rfl HT_ HW_ hHeld (by rintro w' ⟨s0, s1⟩; go_simp; with_reducible rfl) ?_
        refine one_ (i := 6) (N := some 32) #[tt,tt,tt,tt,tt,tt,tt,ff,ff] rfl rfl (one_of HT_.out (by kernel_rfl)) (by decide) (fun K hK => ?_)
        refine goes_ Try.func40 (by kernel_rfl) rfl #[.agg #[.slice A0_0 l0_0.length c0_0], .string (rdOf ByteArray.empty t547 x8_1)] (by rfl) rfl rfl (by (try simp only [List.map_toArray, List.map_cons, List.map_nil]); first | done | rfl | (simp only [List.length_drop, List.length_take]; rfl)) ?_
        with_reducible refine (spec_l8Bpe.calls k1 _ _ l0_0 (rdOf ByteArray.empty t547 x8_1) t551 _ ?side1 ?side2 A20.out).mono ?_
        (case side1 => exact cX (Kd.C_below HR0_0.out HB.out))
        (case side2 => exact HC0_0.out)
        rintro e w24 ⟨v552, rfl, ho0, hb⟩
        have HS1_ := (hb.cell (World.block_lt_of_cell? _ _ (hHeld.2))).trans (hHeld.2)
        refine ⟨_, rfl, ?_⟩
        have n0_ := Aside0.mk (Kd.R_elder' (rr HO_6) (Kd.R_base ho0) hb)
        have f9a := Aside0.mk (Kd.R_lower (Kd.R_new' ho0 (Kd.R_lt (rr HO_6))) (below_size (be HB)))
        replace HO_7 := Aside0.mk (Kd.R_below (rr HO_7) hb); replace a9a := bq a9a hb; replace HB := bh HB hb
        clear HO_6; have HO_6 := n0_; clear n0_; (try clear hb); (try clear hb2); (try clear hk); (try clear hi); obtain ⟨Ao26, co26, eo26⟩ := Kd.R_slice f9a.out
        (first | subst eo26 | (injection eo26 with f1_ f2_ f3_; have f4_ := f1_.symm; have f5_ := f3_.symm; clear f1_ f2_ f3_; subst f4_; subst f5_))
        refine hK.out _ _ ⟨bc a9a 0, HS1_⟩ (fun hHeld => ?_)
        clear hK K; refine norm_ (a' := ?_) ?_ ?_
        rotate_left
        ·show Act.put _ (some 32) _ = _
         simp only [putL, i64_w, i32_w]; rfl
        refine last_ (i := 7) (N := some 33) #[tt,tt,tt,tt,tt,tt,tt,tt,ff] rfl rfl (one_of HT_.out (by kernel_rfl)) (by decide) (fun K hK => ?_)
        refine Kd.R_append_rows_step (Kd.int .i64) (w0 := w) w.heap.size (by rfl) (.tmp 26) (.tmp 32) 36 3 (.int .i64 0) 8 rfl Try.underlying36 info3 rfl (by decide) (by omega) u6 x6_1 t551 _ _ _ (fun k_ => some k_ ≠ (.slice Ao26 t551.length co26 : Value).ownBlock) (fun _ => False) rfl rfl ?aO ?aR (fun _ _ h => h) (fun _ h => h.elim) ?aF ?aB ?aS ?aL ?_
        (case aR => exact cX ((Kd.R_reads' f9a.out).2.2))
        (case aB => exact (be HB))
        (case aF => exact (fun k_ hk => Kd.fresh' (Kd.R_lt (rr f9a)) k_ hk))
        (case aO => exact (rX (Kd.R_mono HO_6.out (fun _ hk => hk.2))))
        (case aS => exact (below_size (be HB)))
        (case aL => have := LMc21.out; omega)
        intro v555 w25 ho hb hg hat
        rw [← Ny554.out] at ho
        have n0_ := Aside0.mk (Kd.R_over' (rr HO_7) (Kd.R_typed (rr HO_6)) (by decide) hg)
        have n1_ := Aside0.mk (blk_grown (g := c9a) (o := .cells #[.slice A0_0 l0_0.length c0_0] 26 (0, 0)) kB hg (Kd.R_ne HO_6.out a9a.out (by decide)))
        have n2_ := Aside0.mk (Kd.R_after (ok := (fun _ => True)) (rr f9a) hg hat)
        have n3_ := Aside0.mk (hb)
        have HO556 := Aside0.mk (ho)
        clear HO_6 HO_7 a9a f9a HB; have HO_7 := n0_; have a9a := n1_; have f9a := n2_; have HB := n3_; clear n0_ n1_ n2_ n3_; clear ho hb hg hat; refine hK.out _ _ ?_
        clear hK K; refine norm_ (a' := ?_) ?_ ?_
        rotate_left
        ·show Act.put _ (some 33) _ = _
         simp only [putL, i64_w, i32_w]; rfl
        refine pu 8 6 (tb 9 511) HT_ ?_
        refine done_ (done_of HT_.out (by kernel_rfl)) ?_
        try go_wp2
        go_roundg k1
        case measure => have := HK1.out; omega
        case rel => exact ⟨(y554), (wrap64 (x8_1 + 1)), sR, H', ⟨by have := HK1.out; omega⟩, ⟨rX (Kd.R_mono HO556.out (fun _ hk => trivial))⟩, ⟨rr HO_7⟩, ⟨bb a9a⟩, ⟨iB HB⟩⟩
       ·rw [if_neg c21] at H
        exact absurd H (by simp)
      ·rw [if_neg c19] at H
       exact absurd H (by simp)
     ·rw [if_neg c18] at H
      have c18b0 : decide (x8_1 < (t547.length : Int)) = false := decide_eq_false c18
      clear c18; simp only [Option.some.injEq, Prod.mk.injEq] at H
      obtain ⟨rfl, rfl⟩ := H
      obtain ⟨Ao27, co27, eo27⟩ := Kd.R_slice HO_7.out
      subst eo27
      go_wp2
      go_ret2
      exact ⟨_, eR, rX HO_6.out, iB HB⟩
 ·replace c4 := Bool.eq_false_iff.mpr c4
  subst c4
  have H1 : (some (y543, 1)) = some (r1, r2) := by rw [if_neg (show ¬ (false = true) by decide)] at H; exact H
  clear H; have H := H1
  clear H1; simp only [Option.some.injEq, Prod.mk.injEq] at H
  obtain ⟨rfl, rfl⟩ := H
  go_enter Try.func29, Try.ntmps29
  go_wp2_with (first | ((with_reducible refine gate_dst (N := 2) rfl ?_); refine bX 2 #[.slice A0_0 l0_0.length c0_0] 26 ?_; intro c9a hg w28 hbox hb; have a9a := Aside0.mk (hbox); have GW542 := bs HB hg; have d9a := bs HB hg; replace HB := bh HB hb; clear hb hbox hg) | ((with_reducible refine gate_dst (N := 9) rfl ?_); refine Kd.R_lit (Kd.int .i64) _ 3 ?hg (N := 9) ?hd (xs := ([] : List Int)) (inner := []) (ok := fun _ => True) (okp := fun _ => True) ?hr ?hp (fun _ hk => hk) trivial (Below.refl _ _) (Nat.le_refl _) (by simp) ?_; (case hd => rfl); (case hg => rfl); (case hr => first | (go_simp; done) | (go_simp; rfl)); (case hp => exact (Reps.none _ _)); intro v544 w29 ho30 hb hg_ hnew_; clear hg_ hnew_; (first | rw [← e9a.out] at ho30 | (simp only [Int.reduceToNat] at ho30; rw [← e9a.out] at ho30)); have b9a := Aside0.mk (Kd.R_lower ho30 (below_size (be HB))); replace a9a := bq a9a hb; replace HB := bh HB hb; clear hb ho30; have hcz31_0 : w29.cell? ⟨c9a, 0, none⟩ = some (.slice A0_0 l0_0.length c0_0) := bc a9a 0; have hfz31_0 := blk_frozen a9a.out 0) | ((with_reducible refine gate_callee (f := 10) rfl ?_); refine goesC_ (some 11) Try.func10 #[.agg #[.slice A0_0 l0_0.length c0_0]] ?_; (with_reducible refine (spec_VocabOk.calls k _ _ l0_0 false _ ?side1 ?side2 A3.out).mono ?_); (case side1 => exact cX (Kd.C_below HR0_0.out HB.out)); (case side2 => exact HC0_0.out); rintro e w32 ⟨rfl, hb⟩; refine ⟨_, rfl, ?_⟩; replace b9a := Aside0.mk (Kd.R_below (rr b9a) hb); replace a9a := bq a9a hb; replace HB := bh HB hb; (try clear hb); (try clear hb2); (try clear hk); (try clear hi)))
  go_ret2
  exact ⟨_, eR, rX b9a.out, iB HB⟩
def spec_l10SameInts.l0 : Nat → List Int → List Int → Int → Option (Bool)
 | 0, _, _, _ => none
 | k + 1, x0, x1, x5 => if x5 < (x0.length : Int) then (if 0 ≤ x5 then (if x5 < (x1.length : Int) then (if (rd x0 x5) = (rd x1 x5) then (spec_l10SameInts.l0 k x0 x1 (wrap64 (x5 + 1))) else (some false)) else (none)) else (none)) else (some true)
def spec_l10SameInts.f (k : Nat) (l0 : List Int) (l1 : List Int) : Option (Bool) := if (l0.length : Int) = (l1.length : Int) then (spec_l10SameInts.l0 k l0 l1 0) else (some false)
theorem spec_l10SameInts.mono_l : ∀ k, (∀ y0 y1 y2, LeO (spec_l10SameInts.l0 k y0 y1 y2) (spec_l10SameInts.l0 (k + 1) y0 y1 y2))
 | 0 => fun _ _ _ r h => by simp [spec_l10SameInts.l0] at h
 | k + 1 => by
  have ih0 := spec_l10SameInts.mono_l k
  ·intro y0 y1 y2
   unfold spec_l10SameInts.l0
   repeat' first
   | (with_reducible exact ih0 _ _ _)
   | (with_reducible exact LeO.refl _)
   | (with_reducible exact LeO.none _)
   | (with_reducible refine LeO.ite ?_ ?_)
   | (with_reducible refine LeO.bind ?_ (fun _ => ?_))
   | exact ih0 _ _ _
   | exact LeO.none _
   | refine LeO.ite ?_ ?_
   | refine LeO.bind ?_ (fun _ => ?_)
theorem spec_l10SameInts.mono : ∀ a0 a1 k, LeO (spec_l10SameInts.f k a0 a1) (spec_l10SameInts.f (k + 1) a0 a1) := by
 intro a0 a1 k
 have ih0 := spec_l10SameInts.mono_l k
 unfold spec_l10SameInts.f
 repeat' first
   | (with_reducible exact ih0 _ _ _)
   | (with_reducible exact LeO.refl _)
   | (with_reducible exact LeO.none _)
   | (with_reducible refine LeO.ite ?_ ?_)
   | (with_reducible refine LeO.bind ?_ (fun _ => ?_))
   | exact ih0 _ _ _
   | exact LeO.none _
   | refine LeO.ite ?_ ?_
   | refine LeO.bind ?_ (fun _ => ?_)
set_option maxHeartbeats 8000000 in
set_option maxRecDepth 100000 in
theorem spec_l10SameInts.calls (k : Nat) (A0 : Option Addr) (c0 : Nat) (l0 : List Int) (A1 : Option Addr) (c1 : Nat) (l1 : List Int) (r : Bool) (w : World) (hr0 : Kd.C (Kd.int .i64) w A0 l0.length l0) (hc0 : l0.length ≤ c0) (hr1 : Kd.C (Kd.int .i64) w A1 l1.length l1) (hc1 : l1.length ≤ c1) (h : spec_l10SameInts.f k l0 l1 = some r) :
  Calls Try.prog 58 #[.slice A0 l0.length c0, .slice A1 l1.length c1] w fun e w' => e = .returned (.bool r) ∧ Drawn0 w w' := by
 have HR0 := Aside0.mk hr0
 have HC0 := Aside0.mk hc0
 clear hr0 hc0; have HR1 := Aside0.mk hr1
 have HC1 := Aside0.mk hc1
 clear hr1 hc1; have H : (if (l0.length : Int) = (l1.length : Int) then (spec_l10SameInts.l0 k l0 l1 0) else (some false)) = some r := h
 clear h
 by_cases c3 : (l0.length : Int) = (l1.length : Int)
 ·rw [if_pos c3] at H
  have c3b0 : ((l0.length : Int) == (l1.length : Int)) = true := beq_iff_eq.mpr c3
  have c3b1 : ((l0.length : Int) != (l1.length : Int)) = false := bne_eq_false_iff_eq.mpr c3
  have c3b2 : (l0.length == l1.length) = true := by first | simpa using c3 | (simp at c3 ⊢; omega)
  clear c3; have H' := Aside0.mk H
  clear H
  go_enter Try.func58, Try.ntmps58
  go_wp2
  repeat (go_quiet (fail); try go_wp2)
  go_loopg [5] k (fun kq v5 w' => ∃ (x5_1 : Int), v5 = .int .i64 x5_1 ∧ Aside0 (spec_l10SameInts.l0 kq l0 l1 x5_1 = some r) ∧ Aside0 (kq ≤ k) ∧ Drawn0 w w')
  case atStart => exact ⟨(0), sR, H', ⟨Nat.le_refl _⟩, by repeat (first | exact Drawn0.refl _ | apply Drawn0.step)⟩
  case round =>
   clear H'
   obtain ⟨x5_1, rfl, HA, HK1, ⟨m1, rfl⟩⟩ := hrel
   cases gk with
   | zero => exact absurd HA.out (by simp [spec_l10SameInts.l0])
   | succ k1 =>
    have H := HA.out; clear HA; simp only [spec_l10SameInts.l0] at H
    by_cases c4 : x5_1 < (l0.length : Int)
    ·rw [if_pos c4] at H
     have c4b0 : decide (x5_1 < (l0.length : Int)) = true := decide_eq_true c4
     clear c4
     by_cases c5 : 0 ≤ x5_1
     ·rw [if_pos c5] at H
      have c5b0 : decide (0 ≤ x5_1) = true := decide_eq_true c5
      clear c5
      by_cases c6 : x5_1 < (l1.length : Int)
      ·rw [if_pos c6] at H
       have c6b0 : decide (x5_1 < (l1.length : Int)) = true := decide_eq_true c6
       clear c6
       by_cases c7 : (rd l0 x5_1) = (rd l1 x5_1)
       ·rw [if_pos c7] at H
        have c7b0 : ((rd l0 x5_1) == (rd l1 x5_1)) = true := beq_iff_eq.mpr c7
        have c7b1 : ((rd l0 x5_1) != (rd l1 x5_1)) = false := bne_eq_false_iff_eq.mpr c7
        clear c7; have H' := Aside0.mk H
        clear H; have p557 : 0 ≤ (x5_1 : Int) := oD
        have q557 : x5_1 < (l0.length : Int) := oD
        obtain ⟨ad557, e557, hx557_0⟩ := Kd.at_int HR0.out x5_1 p557 q557
        cases e557
        replace p557 := eq_true p557
        replace q557 := eq_true q557
        have p558 : 0 ≤ (x5_1 : Int) := oD
        have q558 : x5_1 < (l1.length : Int) := oD
        obtain ⟨ad558, e558, hx558_0⟩ := Kd.at_int HR1.out x5_1 p558 q558
        cases e558
        replace p558 := eq_true p558
        replace q558 := eq_true q558
        go_wp2
        repeat (go_quiet (fail); try go_wp2)
        go_roundg k1
        case measure => have := HK1.out; omega
        case rel => exact ⟨(wrap64 (x5_1 + 1)), sR, H', ⟨by have := HK1.out; omega⟩, by repeat (first | exact Drawn0.refl _ | apply Drawn0.step)⟩
       ·rw [if_neg c7] at H
        have c7b0 : ((rd l0 x5_1) == (rd l1 x5_1)) = false := beq_eq_false_iff_ne.mpr c7
        have c7b1 : ((rd l0 x5_1) != (rd l1 x5_1)) = true := bne_iff_ne.mpr c7
        obtain rfl := Option.some.inj H
        have p557 : 0 ≤ (x5_1 : Int) := oD
        have q557 : x5_1 < (l0.length : Int) := oD
        obtain ⟨ad557, e557, hx557_0⟩ := Kd.at_int HR0.out x5_1 p557 q557
        cases e557
        replace p557 := eq_true p557
        replace q557 := eq_true q557
        have p558 : 0 ≤ (x5_1 : Int) := oD
        have q558 : x5_1 < (l1.length : Int) := oD
        obtain ⟨ad558, e558, hx558_0⟩ := Kd.at_int HR1.out x5_1 p558 q558
        cases e558
        replace p558 := eq_true p558
        replace q558 := eq_true q558
        go_wp2
        repeat (go_quiet (fail); try go_wp2)
        go_ret
        exact ⟨by first | rfl | (simp; done) | (simp [*]; done), by repeat (first | exact Drawn0.refl _ | apply Drawn0.step)⟩
      ·rw [if_neg c6] at H
       exact absurd H (by simp)
     ·rw [if_neg c5] at H
      exact absurd H (by simp)
    ·rw [if_neg c4] at H
     have c4b0 : decide (x5_1 < (l0.length : Int)) = false := decide_eq_false c4
     clear c4; obtain rfl := Option.some.inj H
     go_wp2
     repeat (go_quiet (fail); try go_wp2)
     go_ret
     exact ⟨by first | rfl | (simp; done) | (simp [*]; done), by repeat (first | exact Drawn0.refl _ | apply Drawn0.step)⟩
 ·rw [if_neg c3] at H
  have c3b0 : ((l0.length : Int) == (l1.length : Int)) = false := beq_eq_false_iff_ne.mpr c3
  have c3b1 : ((l0.length : Int) != (l1.length : Int)) = true := bne_iff_ne.mpr c3
  have c3b2 : (l0.length == l1.length) = false := by first | simpa using c3 | (simp at c3 ⊢; omega)
  obtain rfl := Option.some.inj H
  go_enter Try.func58, Try.ntmps58
  go_wp2
  repeat (go_quiet (fail); try go_wp2)
  go_ret
  exact ⟨by first | rfl | (simp; done) | (simp [*]; done), by repeat (first | exact Drawn0.refl _ | apply Drawn0.step)⟩
end Go.Proofs.Ytddebnchbbmbkaa.PFnMemo
