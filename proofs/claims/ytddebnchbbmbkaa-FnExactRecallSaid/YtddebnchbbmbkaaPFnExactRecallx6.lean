-- The machine side of a law: written by a program of this session (wip/tools), a turned print.
import Derived.Test.YtddebnchbbmbkaaPFnExactRecallx0
import Derived.Test.YtddebnchbbmbkaaPFnExactRecallx5
namespace Go.Proofs.Ytddebnchbbmbkaa.PFnExactRecall
open Go.RowKit Go.Proofs.YtddebnchbbmbkaaW.PrintWords Go.Proofs.YtddebnchbbmbkaaW.PrintLast Go.Proofs.YtddebnchbbmbkaaW.PrintMore
attribute [local go_sem] max2_int min2_int max_two min_two max_three min_three max_four min_four   -- for this text's walks alone
set_option linter.unusedVariables false
set_option linter.unusedSimpArgs false
mutual
def impl_bpe.l0 : Nat → ByteArray → List Int → Int → List (S95) → Option (List Int)
 | 0, _, _, _, _ => none
 | k + 1, x1, x5, x6, x151000 => if x6 < (x1.size : Int) then (if 0 ≤ x6 then (if x5.length < 17592186044416 then (impl_bpe.l0 k x1 (x5 ++ [wrap64 (bt x1 x6)]) (wrap64 (x6 + 1)) x151000) else (none)) else (none)) else (impl_bpe.l1 k x5 x151000)
def impl_bpe.l1 : Nat → List Int → List (S95) → Option (List Int)
 | 0, _, _ => none
 | k + 1, x5, x151000 => (impl_least.f k x151000 x5).bind fun bt157 => (if bt157.1 < 0 then (some x5) else ((impl_merged.f x5 bt157.1 bt157.2).bind fun t159 => (impl_bpe.l1 k t159 x151000)))
end
def impl_bpe.f (k : Nat) (l0_0 : List (S95)) (a1 : ByteArray) : Option (List Int) := impl_bpe.l0 k a1 (([] : List Int)) 0 l0_0
theorem impl_bpe.mono_l : ∀ k, (∀ y0 y1 y2 y3, LeO (impl_bpe.l0 k y0 y1 y2 y3) (impl_bpe.l0 (k + 1) y0 y1 y2 y3)) ∧ (∀ y0 y1, LeO (impl_bpe.l1 k y0 y1) (impl_bpe.l1 (k + 1) y0 y1))
 | 0 => ⟨fun _ _ _ _ r h => by simp [impl_bpe.l0] at h, fun _ _ r h => by simp [impl_bpe.l1] at h⟩
 | k + 1 => by
  obtain ⟨ih0, ih1⟩ := impl_bpe.mono_l k
  refine ⟨?_, ?_⟩
  ·intro y0 y1 y2 y3
   unfold impl_bpe.l0
   repeat' first
   | (with_reducible exact ih0 _ _ _ _)
   | (with_reducible exact ih1 _ _)
   | (with_reducible exact impl_least.mono _ _ _)
   | (with_reducible exact LeO.refl _)
   | (with_reducible exact LeO.none _)
   | (with_reducible refine LeO.ite ?_ ?_)
   | (with_reducible refine LeO.bind ?_ (fun _ => ?_))
   | exact ih0 _ _ _ _
   | exact ih1 _ _
   | exact impl_least.mono _ _ _
   | exact LeO.none _
   | refine LeO.ite ?_ ?_
   | refine LeO.bind ?_ (fun _ => ?_)
  ·intro y0 y1
   unfold impl_bpe.l1
   repeat' first
   | (with_reducible exact ih0 _ _ _ _)
   | (with_reducible exact ih1 _ _)
   | (with_reducible exact impl_least.mono _ _ _)
   | (with_reducible exact LeO.refl _)
   | (with_reducible exact LeO.none _)
   | (with_reducible refine LeO.ite ?_ ?_)
   | (with_reducible refine LeO.bind ?_ (fun _ => ?_))
   | exact ih0 _ _ _ _
   | exact ih1 _ _
   | exact impl_least.mono _ _ _
   | exact LeO.none _
   | refine LeO.ite ?_ ?_
   | refine LeO.bind ?_ (fun _ => ?_)
theorem impl_bpe.mono : ∀ a0 a1 k, LeO (impl_bpe.f k a0 a1) (impl_bpe.f (k + 1) a0 a1) := by
 intro a0 a1 k
 obtain ⟨ih0, ih1⟩ := impl_bpe.mono_l k
 unfold impl_bpe.f
 repeat' first
   | (with_reducible exact ih0 _ _ _ _)
   | (with_reducible exact ih1 _ _)
   | (with_reducible exact impl_least.mono _ _ _)
   | (with_reducible exact LeO.refl _)
   | (with_reducible exact LeO.none _)
   | (with_reducible refine LeO.ite ?_ ?_)
   | (with_reducible refine LeO.bind ?_ (fun _ => ?_))
   | exact ih0 _ _ _ _
   | exact ih1 _ _
   | exact impl_least.mono _ _ _
   | exact LeO.none _
   | refine LeO.ite ?_ ?_
   | refine LeO.bind ?_ (fun _ => ?_)
set_option maxHeartbeats 8000000 in
set_option maxRecDepth 100000 in
theorem impl_bpe.calls (k : Nat) (A0_0 : Option Addr) (c0_0 : Nat) (l0_0 : List (S95)) (a1 : ByteArray) (r : List Int) (w : World) (hr0_0 : Kd.C k95 w A0_0 l0_0.length l0_0) (hc0_0 : l0_0.length ≤ c0_0) (h : impl_bpe.f k l0_0 a1 = some r) :
  Calls Try.prog 62 #[.agg #[.slice A0_0 l0_0.length c0_0], .string a1] w fun e w' => ∃ v0_ : Value, e = .returned (v0_) ∧ Kd.R (Kd.int .i64) 3 w' w.heap.size (fun _ => True) v0_ r ∧ Below w.heap.size w w' := by
 have hu26 := Try.underlying26
 have HR0_0 := Aside0.mk hr0_0
 have HC0_0 := Aside0.mk hc0_0
 clear hr0_0 hc0_0; have HB := Aside0.mk (Below.refl w.heap.size w)
 have H : (impl_bpe.l0 k a1 (([] : List Int)) 0 l0_0) = some r := h
 clear h; obtain ⟨y151, hy151⟩ : ∃ y_ : List Int, y_ = (([] : List Int)) := ⟨_, rfl⟩
 replace H : (impl_bpe.l0 k a1 y151 0 l0_0) = some r := by first | (rw [hy151]; with_reducible exact H) | (have H2_ := (Option.bind_some _ _).symm.trans H; rw [hy151]; with_reducible exact H2_) | (have H2_ := (Option.bind_some _ _).symm.trans H; with_reducible exact H2_) | with_reducible exact H | (rw [hy151]; exact H) | exact H
 have Ny151 := Aside0.mk hy151
 clear hy151; have H' := Aside0.mk H
 clear H
 go_enter Try.func62, Try.ntmps62
 go_wp2_with (first | ((with_reducible refine gate_dst (N := 2) rfl ?_); refine bX 2 #[.slice A0_0 l0_0.length c0_0] 26 ?_; intro gb150 hg w3 hbox hb; have a9a := Aside0.mk (hbox); have GW150 := bs HB hg; have GE150 := bs HB hg; replace HB := bh HB hb; clear hb hbox hg) | ((with_reducible refine gate_dst (N := 9) rfl ?_); refine Kd.R_lit (Kd.int .i64) _ 3 ?hg (N := 9) ?hd (xs := ([] : List Int)) (inner := []) (ok := fun _ => True) (okp := fun _ => True) ?hr ?hp (fun _ hk => hk) trivial (Below.refl _ _) (Nat.le_refl _) (by simp) ?_; (case hd => rfl); (case hg => rfl); (case hr => first | (go_simp; done) | (go_simp; rfl)); (case hp => exact (Reps.none _ _)); intro v152 w4 ho5 hb hg_ hnew_; clear hg_ hnew_; (first | rw [← Ny151.out] at ho5 | (simp only [Int.reduceToNat] at ho5; rw [← Ny151.out] at ho5)); have HO153 := Aside0.mk (Kd.R_lower ho5 (below_size (be HB))); replace a9a := bq a9a hb; replace HB := bh HB hb; clear hb ho5))
 go_loopg [5, 6] k (fun kq v5 v6 w' => ∃ (x5_1 : List Int) (x6_1 : Int), v6 = .int .i64 x6_1 ∧ Aside0 (impl_bpe.l0 kq a1 x5_1 x6_1 l0_0 = some r) ∧ Aside0 (kq ≤ k) ∧ Aside0 (Kd.R (Kd.int .i64) 3 w' w.heap.size (fun _ => True) v5 x5_1) ∧ Aside0 (w'.heap[gb150]? = some (.cells #[(.slice A0_0 l0_0.length c0_0)] 26 (0, 0))) ∧ Aside0 (Below w.heap.size w w'))
 case atStart => exact ⟨(y151), (0), sR, H', ⟨Nat.le_refl _⟩, ⟨rr HO153⟩, ⟨bb a9a⟩, ⟨iB HB⟩⟩
 case round =>
  clear H'
  obtain ⟨x5_1, x6_1, rfl, HA, HK1, HO_5, a9a, HB⟩ := hrel
  cases gk with
  | zero => exact absurd HA.out (by simp [impl_bpe.l0])
  | succ k1 =>
   have H := HA.out; clear HA; simp only [impl_bpe.l0] at H
   by_cases c6 : x6_1 < (a1.size : Int)
   ·rw [if_pos c6] at H
    have c6b0 : decide (x6_1 < (a1.size : Int)) = true := decide_eq_true c6
    clear c6
    by_cases c7 : 0 ≤ x6_1
    ·rw [if_pos c7] at H
     have c7b0 : decide (0 ≤ x6_1) = true := decide_eq_true c7
     clear c7
     by_cases c9 : x5_1.length < 17592186044416
     ·rw [if_pos c9] at H
      have LMc9 := Aside0.mk c9
      clear c9; obtain ⟨y154, hy154⟩ : ∃ y_ : List Int, y_ = (x5_1 ++ [wrap64 (bt a1 x6_1)]) := ⟨_, rfl⟩
      replace H : (impl_bpe.l0 k1 a1 y154 (wrap64 (x6_1 + 1)) l0_0) = some r := by first | (rw [hy154]; with_reducible exact H) | (have H2_ := (Option.bind_some _ _).symm.trans H; rw [hy154]; with_reducible exact H2_) | (have H2_ := (Option.bind_some _ _).symm.trans H; with_reducible exact H2_) | with_reducible exact H | (rw [hy154]; exact H) | exact H
      have Ny154 := Aside0.mk hy154
      clear hy154; have H' := Aside0.mk H
      clear H; have p8 : 0 ≤ (x6_1 : Int) := oD
      have q8 : x6_1 < (a1.size : Int) := oD
      have hx8 := bt_at a1 x6_1
      replace p8 := eq_true p8
      replace q8 := eq_true q8
      go_wp2_with (first | ((with_reducible refine gate_builtin (b := .append) (xs := #[.tmp 16, .tmp 21]) rfl ?_); at_builtin; refine Kd.R_append (Kd.int .i64) (w0 := w) w.heap.size rfl (.tmp 16) (.tmp 21) 36 3 (.int .i64 0) 8 rfl Try.underlying36 info3 rfl (by decide) (by omega) u5 x5_1 (wrap64 (bt a1 x6_1)) [.int .i64 (wrap64 (bt a1 x6_1))] (fun _ => True) (fun _ => False) rfl rfl ?aP (fun _ hk => hk.elim) ?aF ?aO ?aB ?aS ?aL ?_; (case aP => exact rfl); (case aB => exact (be HB)); (case aF => exact (fun _ _ => trivial)); (case aO => exact (rr HO_5)); (case aS => exact (below_size (be HB))); (case aL => have := LMc9.out; omega); intro v155 w10 ho hb hg hat; rw [← Ny154.out] at ho; have n0_ := Aside0.mk (blk_grown (g := gb150) (o := .cells #[.slice A0_0 l0_0.length c0_0] 26 (0, 0)) kB hg (Kd.R_ne HO_5.out a9a.out (by decide))); have n1_ := Aside0.mk (hb); have HO156 := Aside0.mk (ho); clear HO_5 a9a HB; have a9a := n0_; have HB := n1_; clear n0_ n1_; clear ho hb hg hat))
      go_roundg k1
      case measure => have := HK1.out; omega
      case rel => exact ⟨(y154), (wrap64 (x6_1 + 1)), sR, H', ⟨by have := HK1.out; omega⟩, ⟨rr HO156⟩, ⟨bb a9a⟩, ⟨iB HB⟩⟩
     ·rw [if_neg c9] at H
      exact absurd H (by simp)
    ·rw [if_neg c7] at H
     exact absurd H (by simp)
   ·rw [if_neg c6] at H
    have c6b0 : decide (x6_1 < (a1.size : Int)) = false := decide_eq_false c6
    clear c6; have H' := Aside0.mk H
    clear H
    go_wp2
    go_loopg [5] k1 (fun kq v5 w' => ∃ (x5_2 : List Int), Aside0 (impl_bpe.l1 kq x5_2 l0_0 = some r) ∧ Aside0 (kq ≤ k1) ∧ Aside0 (Kd.R (Kd.int .i64) 3 w' w.heap.size (fun _ => True) v5 x5_2) ∧ Aside0 (w'.heap[gb150]? = some (.cells #[(.slice A0_0 l0_0.length c0_0)] 26 (0, 0))) ∧ Aside0 (Below w.heap.size w w'))
    case atStart => exact ⟨(x5_1), H', ⟨Nat.le_refl _⟩, ⟨rr HO_5⟩, ⟨bb a9a⟩, ⟨iB HB⟩⟩
    case round =>
     clear H'
     obtain ⟨x5_2, HA, HK2, HO_5, a9a, HB⟩ := hrel
     cases gk with
     | zero => exact absurd HA.out (by simp [impl_bpe.l1])
     | succ k2 =>
      have H := HA.out; clear HA; simp only [impl_bpe.l1] at H
      replace H := Option.bind_eq_some_iff.mp H
      obtain ⟨⟨t157, t158⟩, A110, H⟩ := H
      replace H : (if t157 < 0 then (some x5_2) else ((impl_merged.f x5_2 t157 t158).bind fun t159 => (impl_bpe.l1 k2 t159 l0_0))) = some r := H
      have A11 := Aside0.mk A110
      clear A110
      by_cases c12 : t157 < 0
      ·rw [if_pos c12] at H
       have c12b0 : decide (t157 < 0) = true := decide_eq_true c12
       clear c12; obtain rfl := Option.some.inj H
       have hcz13_0 : wr.cell? ⟨gb150, 0, none⟩ = some (.slice A0_0 l0_0.length c0_0) := bc a9a 0
       have hfz13_0 := blk_frozen a9a.out 0; obtain ⟨Ao14, co14, eo14⟩ := Kd.R_slice HO_5.out
       subst eo14
       go_wp2_with (first | ((with_reducible refine gate_callee (f := 85) rfl ?_); refine goesC_ (some 26) Try.func85 #[.agg #[.slice A0_0 l0_0.length c0_0], .slice Ao14 x5_2.length co14] ?_; (with_reducible refine (impl_least.calls k2 _ _ l0_0 _ _ x5_2 t157 t158 _ ?side1 ?side2 ?side3 ?side4 A11.out).mono ?_); (case side1 => exact cX (Kd.C_below HR0_0.out HB.out)); (case side2 => exact HC0_0.out); (case side3 => exact cX ((Kd.R_reads' HO_5.out).2.2)); (case side4 => exact (Kd.R_reads' HO_5.out).2.1); rintro e w15 ⟨rfl, hb⟩; refine ⟨_, rfl, ?_⟩; replace HO_5 := Aside0.mk (Kd.R_below (rr HO_5) hb); replace a9a := bq a9a hb; replace HB := bh HB hb; (try clear hb); (try clear hb2); (try clear hk); (try clear hi)))
       go_ret
       exact ⟨_, eR, rX HO_5.out, iB HB⟩
      ·rw [if_neg c12] at H
       have c12b0 : decide (t157 < 0) = false := decide_eq_false c12
       clear c12; replace H := Option.bind_eq_some_iff.mp H
       obtain ⟨t159, A160, H⟩ := H
       replace H : (impl_bpe.l1 k2 t159 l0_0) = some r := H
       have A16 := Aside0.mk A160
       clear A160; have H' := Aside0.mk H
       clear H; have hcz17_0 : wr.cell? ⟨gb150, 0, none⟩ = some (.slice A0_0 l0_0.length c0_0) := bc a9a 0
       have hfz17_0 := blk_frozen a9a.out 0; obtain ⟨Ao18, co18, eo18⟩ := Kd.R_slice HO_5.out
       subst eo18
       go_wp2_with (first | ((with_reducible refine gate_callee (f := 85) rfl ?_); refine goesC_ (some 26) Try.func85 #[.agg #[.slice A0_0 l0_0.length c0_0], .slice Ao18 x5_2.length co18] ?_; (with_reducible refine (impl_least.calls k2 _ _ l0_0 _ _ x5_2 t157 t158 _ ?side1 ?side2 ?side3 ?side4 A11.out).mono ?_); (case side1 => exact cX (Kd.C_below HR0_0.out HB.out)); (case side2 => exact HC0_0.out); (case side3 => exact cX ((Kd.R_reads' HO_5.out).2.2)); (case side4 => exact (Kd.R_reads' HO_5.out).2.1); rintro e w19 ⟨rfl, hb⟩; refine ⟨_, rfl, ?_⟩; replace HO_5 := Aside0.mk (Kd.R_below (rr HO_5) hb); replace a9a := bq a9a hb; replace HB := bh HB hb; (try clear hb); (try clear hb2); (try clear hk); (try clear hi)) | ((with_reducible refine gate_callee (f := 86) rfl ?_); refine goesC_ (some 35) Try.func86 #[.slice Ao18 x5_2.length co18, .int .i64 t157, .int .i64 t158] ?_; (with_reducible refine (impl_merged.calls _ _ x5_2 t157 t158 t159 _ ?side1 ?side2 A16.out).mono ?_); (case side1 => exact cX ((Kd.R_reads' HO_5.out).2.2)); (case side2 => exact (Kd.R_reads' HO_5.out).2.1); rintro e w20 ⟨v160, rfl, ho0, hb⟩; refine ⟨_, rfl, ?_⟩; have n0_ := Aside0.mk (Kd.R_elder' (rr HO_5) (Kd.R_base ho0) hb); have HO161 := Aside0.mk (Kd.R_lower (Kd.R_new' ho0 (Kd.R_lt (rr HO_5))) (below_size (be HB))); replace a9a := bq a9a hb; replace HB := bh HB hb; clear HO_5; have HO_5 := n0_; clear n0_; (try clear hb); (try clear hb2); (try clear hk); (try clear hi)))
       go_roundg k2
       case measure => have := HK1.out; have := HK2.out; omega
       case rel => exact ⟨(t159), H', ⟨by have := HK1.out; have := HK2.out; omega⟩, ⟨rX (Kd.R_mono HO161.out (fun _ hk => trivial))⟩, ⟨bb a9a⟩, ⟨iB HB⟩⟩
end Go.Proofs.Ytddebnchbbmbkaa.PFnExactRecall
