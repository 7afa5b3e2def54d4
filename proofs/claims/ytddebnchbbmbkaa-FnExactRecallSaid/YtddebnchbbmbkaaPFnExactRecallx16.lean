-- The machine side of a law: written by a program of this session (wip/tools), a turned print.
import Derived.Test.YtddebnchbbmbkaaPFnExactRecallx0
import Derived.Test.YtddebnchbbmbkaaPFnExactRecallx10
import Derived.Test.YtddebnchbbmbkaaPFnExactRecallx13
import Derived.Test.YtddebnchbbmbkaaPFnExactRecallx14
import Derived.Test.YtddebnchbbmbkaaPFnExactRecallx15
namespace Go.Proofs.Ytddebnchbbmbkaa.PFnExactRecall
open Go.RowKit Go.Proofs.YtddebnchbbmbkaaW.PrintWords Go.Proofs.YtddebnchbbmbkaaW.PrintLast Go.Proofs.YtddebnchbbmbkaaW.PrintMore
attribute [local go_sem] max2_int min2_int max_two min_two max_three min_three max_four min_four   -- for this text's walks alone
set_option linter.unusedVariables false
set_option linter.unusedSimpArgs false
def spec_Recall.f (k : Nat) (l0_0 : List (S95)) (a1_0 : Int) (l1_1 : List (S86)) (a2 : ByteArray) : Option (Int × (List (S86)) × List Int × Bool) := (spec_MemoOk.f k l0_0 a1_0 l1_1).bind fun t307 => (if t307 = true then ((spec_l1In.f (a2.size : Int) 1 64).bind fun t311 => (if t311 = true then ((spec_l10Copy.f k a1_0 l1_1).bind fun bt312 => ((spec_l10Recall.f k l0_0 bt312.1 bt312.2 a2).bind fun bt316 => (some (bt316.1, bt316.2.1, bt316.2.2.1, bt316.2.2.2)))) else ((spec_l10Copy.f k a1_0 l1_1).bind fun bt325 => (some (bt325.1, bt325.2, (([] : List Int)), false))))) else (some (0, ([] : List (S86)), (([] : List Int)), false)))
theorem spec_Recall.mono : ∀ a0 a1 a2 a3 k, LeO (spec_Recall.f k a0 a1 a2 a3) (spec_Recall.f (k + 1) a0 a1 a2 a3) := by
 intro a0 a1 a2 a3 k
 unfold spec_Recall.f
 repeat' first
   | (with_reducible exact spec_MemoOk.mono _ _ _ _)
   | (with_reducible exact spec_l10Copy.mono _ _ _)
   | (with_reducible exact spec_l10Recall.mono _ _ _ _ _)
   | (with_reducible exact LeO.refl _)
   | (with_reducible exact LeO.none _)
   | (with_reducible refine LeO.ite ?_ ?_)
   | (with_reducible refine LeO.bind ?_ (fun _ => ?_))
   | exact spec_MemoOk.mono _ _ _ _
   | exact spec_l10Copy.mono _ _ _
   | exact spec_l10Recall.mono _ _ _ _ _
   | exact LeO.none _
   | refine LeO.ite ?_ ?_
   | refine LeO.bind ?_ (fun _ => ?_)
def spec_Recall.T5 : Bool × List (List Nat × List Nat) := (true, [([], []), ([], []), ([1], [1]), ([], []), ([0, 2, 3, 2], [0, 2, 3]), ([4], [4]), ([5], [5]), ([5], [5]), ([5], [5]), ([], []), ([9, 6, 4, 0, 1, 2, 3, 4, 5, 6, 9], [6, 9]), ([7, 10, 0, 1, 2, 3, 4, 5, 6, 7, 9, 10], [7]), ([8, 11, 0, 1, 2, 3, 4, 5, 6, 7, 8, 9, 10, 11], [8])])
def spec_Recall.B5 : List Nat := [0, 0, 2, 0, 15, 31, 63, 63, 63, 0, 639, 1791, 4095]
theorem spec_Recall.tab5 : rtab .any (opsOf Try.f16 5) = spec_Recall.T5 := by kernel_rfl
theorem spec_Recall.bits5 : waitsOk spec_Recall.T5.2 spec_Recall.B5 = true := by kernel_rfl
set_option maxHeartbeats 8000000 in
set_option maxRecDepth 100000 in
theorem spec_Recall.calls (k : Nat) (A0_0 : Option Addr) (c0_0 : Nat) (l0_0 : List (S95)) (a1_0 : Int) (A1_1 : Option Addr) (c1_1 : Nat) (l1_1 : List (S86)) (a2 : ByteArray) (r1 : Int) (r2 : List (S86)) (r3 : List Int) (r4 : Bool) (w : World) (hr0_0 : Kd.C k95 w A0_0 l0_0.length l0_0) (hc0_0 : l0_0.length ≤ c0_0) (hr1_1 : Kd.C k86 w A1_1 l1_1.length l1_1) (hc1_1 : l1_1.length ≤ c1_1) (h : spec_Recall.f k l0_0 a1_0 l1_1 a2 = some (r1, r2, r3, r4)) :
  Calls Try.prog 16 #[.agg #[.slice A0_0 l0_0.length c0_0], .agg #[.int .i64 a1_0, .slice A1_1 l1_1.length c1_1], .string a2] w fun e w' => ∃ v1_ v2_ : Value, e = .returned (.tuple #[.agg #[.int .i64 r1, v1_], v2_, .bool r4]) ∧ Kd.N k86 86 w' w.heap.size (fun k_ => (w.heap.size ≤ k_) ∧ some k_ ≠ (v2_ : Value).ownBlock) v1_ r2 ∧ Kd.R (Kd.int .i64) 3 w' w.heap.size (fun k_ => (w.heap.size ≤ k_)) v2_ r3 ∧ Below w.heap.size w w' := by
 have hu26 := Try.underlying26
 have hu31 := Try.underlying31
 have B9a := Aside0.mk hr0_0
 have C9a := Aside0.mk hc0_0
 clear hr0_0 hc0_0; have D9a := Aside0.mk hr1_1
 have E9a := Aside0.mk hc1_1
 clear hr1_1 hc1_1; have HB := Aside0.mk (Below.refl w.heap.size w)
 have H : ((spec_MemoOk.f k l0_0 a1_0 l1_1).bind fun t307 => (if t307 = true then ((spec_l1In.f (a2.size : Int) 1 64).bind fun t311 => (if t311 = true then ((spec_l10Copy.f k a1_0 l1_1).bind fun w9a => ((spec_l10Recall.f k l0_0 w9a.1 w9a.2 a2).bind fun k9a => (some (k9a.1, k9a.2.1, k9a.2.2.1, k9a.2.2.2)))) else ((spec_l10Copy.f k a1_0 l1_1).bind fun x9a => (some (x9a.1, x9a.2, (([] : List Int)), false))))) else (some (0, ([] : List (S86)), (([] : List Int)), false)))) = some (r1, r2, r3, r4) := h
 clear h; replace H := Option.bind_eq_some_iff.mp H
 obtain ⟨t307, A40, H⟩ := H
 replace H : (if t307 = true then ((spec_l1In.f (a2.size : Int) 1 64).bind fun t311 => (if t311 = true then ((spec_l10Copy.f k a1_0 l1_1).bind fun w9a => ((spec_l10Recall.f k l0_0 w9a.1 w9a.2 a2).bind fun k9a => (some (k9a.1, k9a.2.1, k9a.2.2.1, k9a.2.2.2)))) else ((spec_l10Copy.f k a1_0 l1_1).bind fun x9a => (some (x9a.1, x9a.2, (([] : List Int)), false))))) else (some (0, ([] : List (S86)), (([] : List Int)), false))) = some (r1, r2, r3, r4) := H
 have A4 := Aside0.mk A40
 clear A40
 by_cases c5 : t307 = true
 ·subst c5
  have H1 : ((spec_l1In.f (a2.size : Int) 1 64).bind fun t311 => (if t311 = true then ((spec_l10Copy.f k a1_0 l1_1).bind fun w9a => ((spec_l10Recall.f k l0_0 w9a.1 w9a.2 a2).bind fun k9a => (some (k9a.1, k9a.2.1, k9a.2.2.1, k9a.2.2.2)))) else ((spec_l10Copy.f k a1_0 l1_1).bind fun x9a => (some (x9a.1, x9a.2, (([] : List Int)), false))))) = some (r1, r2, r3, r4) := by rw [if_pos rfl] at H; exact H
  clear H; have H := H1
  clear H1; replace H := Option.bind_eq_some_iff.mp H
  obtain ⟨t311, A60, H⟩ := H
  replace H : (if t311 = true then ((spec_l10Copy.f k a1_0 l1_1).bind fun w9a => ((spec_l10Recall.f k l0_0 w9a.1 w9a.2 a2).bind fun k9a => (some (k9a.1, k9a.2.1, k9a.2.2.1, k9a.2.2.2)))) else ((spec_l10Copy.f k a1_0 l1_1).bind fun x9a => (some (x9a.1, x9a.2, (([] : List Int)), false)))) = some (r1, r2, r3, r4) := H
  have A6 := Aside0.mk A60
  clear A60
  by_cases c7 : t311 = true
  ·subst c7
   have H1 : ((spec_l10Copy.f k a1_0 l1_1).bind fun w9a => ((spec_l10Recall.f k l0_0 w9a.1 w9a.2 a2).bind fun k9a => (some (k9a.1, k9a.2.1, k9a.2.2.1, k9a.2.2.2)))) = some (r1, r2, r3, r4) := by rw [if_pos rfl] at H; exact H
   clear H; have H := H1
   clear H1; replace H := Option.bind_eq_some_iff.mp H
   obtain ⟨⟨t312, t313⟩, A80, H⟩ := H
   replace H : ((spec_l10Recall.f k l0_0 t312 t313 a2).bind fun k9a => (some (k9a.1, k9a.2.1, k9a.2.2.1, k9a.2.2.2))) = some (r1, r2, r3, r4) := H
   have A8 := Aside0.mk A80
   clear A80; replace H := Option.bind_eq_some_iff.mp H
   obtain ⟨⟨t316, t317, t320, t323⟩, A90, H⟩ := H
   replace H : (some (t316, t317, t320, t323)) = some (r1, r2, r3, r4) := H
   have A9 := Aside0.mk A90
   clear A90; simp only [Option.some.injEq, Prod.mk.injEq] at H
   obtain ⟨rfl, rfl, rfl, rfl⟩ := H
   go_enter Try.func16, Try.ntmps16
   try go_wp2_with (first | ((with_reducible refine gate_dst (N := 3) rfl ?_); refine bX 3 #[.slice A0_0 l0_0.length c0_0] 26 ?_; intro g9a hg w10 hbox hb; have a9a := Aside0.mk (hbox); have GW304 := bs HB hg; have GE304 := bs HB hg; replace HB := bh HB hb; clear hb hbox hg) | ((with_reducible refine gate_dst (N := 4) rfl ?_); refine bX 4 #[.int .i64 a1_0, .slice A1_1 l1_1.length c1_1] 31 ?_; intro h9a hg w11 hbox hb; have b9a := Aside0.mk (hbox); have GW305 := bs HB hg; have GE305 := bs HB hg; have q9a := bl a9a hg; have r9a := bg a9a hg; replace a9a := bq a9a hb; replace HB := bh HB hb; clear hb hbox hg) | ((with_reducible refine gate_dst (N := 6) rfl ?_); refine bX 6 #[.int .i64 0, .slice none 0 0] 31 ?_; intro d9a hg w12 hbox hb; have c9a := Aside0.mk (hbox); have GW306 := bs HB hg; have GE306 := bs HB hg; have s9a := bl a9a hg; have t9a := bg a9a hg; have u9a := bl b9a hg; have v9a := bg b9a hg; replace a9a := bq a9a hb; replace b9a := bq b9a hb; replace HB := bh HB hb; clear hb hbox hg; have hnb13 := q9a.out; have hnc13 := r9a.out; have hnb14 := s9a.out; have hnc14 := t9a.out; have hcz15_0 : w12.cell? ⟨g9a, 0, none⟩ = some (.slice A0_0 l0_0.length c0_0) := bc a9a 0; have hfz15_0 := blk_frozen a9a.out 0; have hnb16 := u9a.out; have hnc16 := v9a.out; obtain ⟨hcz17_0, hcz17_1⟩ := cs2 b9a; obtain ⟨hfz17_0, hfz17_1⟩ := fs2 b9a) | ((with_reducible refine gate_callee (f := 30) rfl ?_); refine goesC_ (some 14) Try.func30 #[.agg #[.slice A0_0 l0_0.length c0_0], .agg #[.int .i64 a1_0, .slice A1_1 l1_1.length c1_1]] ?_; (with_reducible refine (spec_MemoOk.calls k _ _ l0_0 a1_0 _ _ l1_1 true _ ?side1 ?side2 ?side3 ?side4 A4.out).mono ?_); (case side1 => exact cX (Kd.C_below B9a.out HB.out)); (case side2 => exact C9a.out); (case side3 => exact cX (Kd.C_below D9a.out HB.out)); (case side4 => exact E9a.out); rintro e w18 ⟨rfl, hb⟩; refine ⟨_, rfl, ?_⟩; replace a9a := bq a9a hb; replace b9a := bq b9a hb; replace c9a := bq c9a hb; replace HB := bh HB hb; (try clear hb); (try clear hb2); (try clear hk); (try clear hi)) | ((with_reducible refine gate_callee (f := 43) rfl ?_); refine goesC_ (some 20) Try.func43 #[.int .i64 (a2.size : Int), .int .i64 1, .int .i64 64] ?_; (with_reducible refine (spec_l1In.calls (a2.size : Int) 1 64 true _ A6.out).mono ?_); rintro e w' ⟨rfl, ⟨nd, rfl⟩⟩; refine ⟨_, rfl, ?_⟩; (try (rw [drewN_self w18]; generalize hq_ : World.drewN w18 _ = w18; have n0_ : Aside0 (w18.heap[g9a]? = some (.cells #[.slice A0_0 l0_0.length c0_0] 26 (0, 0))) := ⟨by rw [← hq_]; exact kB⟩; have n1_ : Aside0 (w18.heap[h9a]? = some (.cells #[.int .i64 a1_0, .slice A1_1 l1_1.length c1_1] 31 (0, 0))) := ⟨by rw [← hq_]; exact kB⟩; have n2_ : Aside0 (w18.heap[d9a]? = some (.cells #[.int .i64 0, .slice none 0 0] 31 (0, 0))) := ⟨by rw [← hq_]; exact kB⟩; have n3_ : Aside0 (Below w.heap.size w w18) := ⟨by rw [← hq_]; exact (be HB)⟩; clear a9a b9a c9a HB hq_; have a9a := n0_; have b9a := n1_; have c9a := n2_; have HB := n3_; clear n0_ n1_ n2_ n3_))))
   have n0_ := Aside0.mk (blk_drew a9a.out)
   have n1_ := Aside0.mk (blk_drew b9a.out)
   have n2_ := Aside0.mk (blk_drew c9a.out)
   have n3_ := Aside0.mk (below_drew1 HB.out)
   clear a9a b9a c9a HB; have a9a := n0_; have b9a := n1_; have c9a := n2_; have HB := n3_; clear n0_ n1_ n2_ n3_; refine start_ (n := 13) (S := fun w' => w'.cell? ⟨g9a, 0, none⟩ = some (.slice A0_0 l0_0.length c0_0) ∧ w'.cell? ⟨h9a, 0, none⟩ = some (.int .i64 a1_0) ∧ w'.cell? ⟨h9a, 1, none⟩ = some (.slice A1_1 l1_1.length c1_1)) (ds := []) #[ff,ff,ff,ff,ff,ff,ff,ff,ff,ff,ff,ff,ff] (by kernel_rfl) rfl rfl ⟨bc a9a 0, bc b9a 0, bc b9a 1⟩ (fun hHeld => ?_); refine with_tabW spec_Recall.tab5 spec_Recall.bits5 (fun HT_ HW_ => ?_)
   generalize w18.drew = w19 at a9a b9a c9a HB hHeld ⊢
   refine pu 3 29 (tb 13 8) HT_ ?_
   refine tk 0 26 (tb 13 9) rfl rfl HT_ HW_ hHeld (by rintro w' ⟨s0, s1, s2⟩; go_simp; with_reducible rfl) ?_
   refine tk 1 27 (tb 13 11) rfl rfl HT_ HW_ hHeld (by rintro w' ⟨s0, s1, s2⟩; go_simp; with_reducible rfl) ?_
   refine join_ (σ := Value × Value × Value × Nat) 3 #[tt,tt,tt,tt,tt,tt,tt,tt,tt,tt,ff,ff,ff] (fun s_ => [(28, .agg #[.int .i64 t312, s_.1]), (30, .tuple #[.agg #[.int .i64 t316, s_.2.1], s_.2.2.1, .bool t323]), (9, .pointer (some ⟨s_.2.2.2, 0, none⟩)), (25, .tuple #[.agg #[.int .i64 t316, s_.2.1], s_.2.2.1, .bool t323]), (31, .agg #[.int .i64 t316, s_.2.1]), (32, s_.2.2.1), (33, .bool t323)]) (fun s_ w' => (w'.cell? ⟨g9a, 0, none⟩ = some (.slice A0_0 l0_0.length c0_0) ∧ w'.cell? ⟨h9a, 0, none⟩ = some (.int .i64 a1_0) ∧ w'.cell? ⟨h9a, 1, none⟩ = some (.slice A1_1 l1_1.length c1_1)) ∧ (Kd.N k86 86 w' w.heap.size (fun k_ => (w.heap.size ≤ k_) ∧ some k_ ≠ (s_.2.1 : Value).ownBlock ∧ some k_ ≠ (s_.2.2.1 : Value).ownBlock ∧ k_ ≠ g9a ∧ k_ ≠ h9a ∧ k_ ≠ d9a ∧ k_ ≠ s_.2.2.2) s_.1 t313) ∧ (Kd.N k86 86 w' w.heap.size (fun k_ => (w.heap.size ≤ k_) ∧ some k_ ≠ (s_.2.2.1 : Value).ownBlock ∧ k_ ≠ g9a ∧ k_ ≠ h9a ∧ k_ ≠ d9a ∧ k_ ≠ s_.2.2.2) s_.2.1 t317) ∧ (Kd.R (Kd.int .i64) 3 w' w.heap.size (fun k_ => (w.heap.size ≤ k_)) s_.2.2.1 t320) ∧ (w'.heap[g9a]? = some (.cells #[.slice A0_0 l0_0.length c0_0] 26 (0, 0))) ∧ (w'.heap[h9a]? = some (.cells #[.int .i64 a1_0, .slice A1_1 l1_1.length c1_1] 31 (0, 0))) ∧ (w'.heap[d9a]? = some (.cells #[.int .i64 0, .slice none 0 0] 31 (0, 0))) ∧ (w'.heap[s_.2.2.2]? = some (.cells #[.int .i64 0, .slice none 0 0] 31 (0, 0))) ∧ (w.heap.size ≤ s_.2.2.2) ∧ (w.heap.size ≤ s_.2.2.2) ∧ (g9a ≠ s_.2.2.2) ∧ (s_.2.2.2 ≠ g9a) ∧ (h9a ≠ s_.2.2.2) ∧ (s_.2.2.2 ≠ h9a) ∧ (d9a ≠ s_.2.2.2) ∧ (s_.2.2.2 ≠ d9a) ∧ (Below w.heap.size w w')) ?_ ?_
   rotate_left
   ·intro hCont; refine two_ (i := 2) (j := 9) (Ni := some 28) (Nj := some 9) #[tt,tt,tt,tt,ff,ff,ff,ff,ff,ff,ff,ff,ff] #[tt,tt,ff,tt,ff,ff,ff,ff,ff,tt,ff,ff,ff] rfl rfl rfl rfl (two_of HT_.out (by kernel_rfl)) (by decide) (by decide) (fun K hK => ?_) (fun K hK => ?_)
    ·skip
     refine goes_ Try.func44 (by kernel_rfl) rfl #[.agg #[.int .i64 a1_0, .slice A1_1 l1_1.length c1_1]] (by rfl) rfl rfl (by (try simp only [List.map_toArray, List.map_cons, List.map_nil]); first | done | rfl | (simp only [List.length_drop, List.length_take]; rfl)) ?_
     with_reducible refine (spec_l10Copy.calls k a1_0 _ _ l1_1 t312 t313 _ ?side1 ?side2 A8.out).mono ?_
     (case side1 => exact cX (Kd.C_below D9a.out HB.out))
     (case side2 => exact E9a.out)
     rintro e w20 ⟨v314, rfl, ho0, hb⟩
     refine ⟨_, rfl, ?_⟩
     have o9a := Aside0.mk (Kd.N_lower (Kd.N_mono (ok' := fun k_ => (w.heap.size ≤ k_) ∧ k_ ≠ g9a ∧ k_ ≠ h9a ∧ k_ ≠ d9a) (Kd.S_N (Kd.S_bound ho0)) (fun k_ hk_ => ⟨(Nat.le_trans (below_size (be HB)) hk_.2.1), (Kd.freshB (g := g9a) (o := .cells #[.slice A0_0 l0_0.length c0_0] 26 (0, 0)) kB k_ hk_.2.1), (Kd.freshB (g := h9a) (o := .cells #[.int .i64 a1_0, .slice A1_1 l1_1.length c1_1] 31 (0, 0)) kB k_ hk_.2.1), (Kd.freshB (g := d9a) (o := .cells #[.int .i64 0, .slice none 0 0] 31 (0, 0)) kB k_ hk_.2.1)⟩)) (below_size (be HB)))
     replace a9a := bq a9a hb; replace b9a := bq b9a hb; replace c9a := bq c9a hb; replace HB := bh HB hb
     (try clear hb); (try clear hb2); (try clear hk); (try clear hi); obtain ⟨Ao21, co21, eo21⟩ := Kd.N_slice o9a.out
     (first | subst eo21 | (injection eo21 with f1_ f2_ f3_; have f4_ := f1_.symm; have f5_ := f3_.symm; clear f1_ f2_ f3_; subst f4_; subst f5_))
     refine hK.out _ _ ⟨bc a9a 0, bc b9a 0, bc b9a 1⟩ (fun hHeld => ?_)
     clear hK K; refine norm_ (a' := ?_) ?_ ?_
     rotate_left
     ·show Act.put _ (some 28) _ = _
      simp only [putL, i64_w, i32_w]; rfl
     refine two_ (i := 4) (j := 9) (Ni := some 30) (Nj := some 9) #[tt,tt,tt,tt,tt,ff,ff,ff,ff,ff,ff,ff,ff] #[tt,tt,tt,tt,ff,ff,ff,ff,ff,tt,ff,ff,ff] rfl rfl rfl rfl (two_of HT_.out (by kernel_rfl)) (by decide) (by decide) (fun K hK => ?_) (fun K hK => ?_)
     ·skip
      refine goes_ Try.func45 (by kernel_rfl) rfl #[.agg #[.slice A0_0 l0_0.length c0_0], .agg #[.int .i64 t312, .slice Ao21 t313.length co21], .string a2] (by rfl) rfl rfl (by (try simp only [List.map_toArray, List.map_cons, List.map_nil]); first | done | rfl | (simp only [List.length_drop, List.length_take]; rfl)) ?_
      with_reducible refine (spec_l10Recall.calls k _ _ l0_0 t312 (fun k_ => ((w.heap.size ≤ k_) ∧ (k_ ≠ g9a ∧ (k_ ≠ h9a ∧ k_ ≠ d9a)))) _ _ t313 a2 t316 t317 t320 t323 _ ?side1 ?side2 ?side3 A9.out).mono ?_
      (case side1 => exact cX (Kd.C_below B9a.out HB.out))
      (case side2 => exact C9a.out)
      (case side3 => exact Kd.N_V (o9a.out))
      rintro e w22 ⟨v318, v321, rfl, ho0, ho1, hb⟩
      refine ⟨_, rfl, ?_⟩
      have n0_ := Aside0.mk (Kd.N_mono (Kd.N_told (Kd.N_told (Kd.N_old (nX o9a.out) hb) (Kd.N_base ho0)) (Kd.R_base ho1)) (fun _ h_ => h_.1))
      have y9a := Aside0.mk (Kd.N_lower (Kd.N_mono (ok' := fun k_ => (w.heap.size ≤ k_) ∧ some k_ ≠ (v321 : Value).ownBlock ∧ k_ ≠ g9a ∧ k_ ≠ h9a ∧ k_ ≠ d9a) ho0 (fun k_ hk_ => ⟨Or.elim hk_.1 (fun hs_ => hs_.1) (fun hn_ => (Nat.le_trans (below_size (be HB)) hn_)), hk_.2, Or.elim hk_.1 (fun hs_ => hs_.2.1) (fun hn_ => (Kd.freshB (g := g9a) (o := .cells #[.slice A0_0 l0_0.length c0_0] 26 (0, 0)) kB k_ hn_)), Or.elim hk_.1 (fun hs_ => hs_.2.2.1) (fun hn_ => (Kd.freshB (g := h9a) (o := .cells #[.int .i64 a1_0, .slice A1_1 l1_1.length c1_1] 31 (0, 0)) kB k_ hn_)), Or.elim hk_.1 (fun hs_ => hs_.2.2.2) (fun hn_ => (Kd.freshB (g := d9a) (o := .cells #[.int .i64 0, .slice none 0 0] 31 (0, 0)) kB k_ hn_))⟩)) (below_size (be HB)))
      have z9a := Aside0.mk (Kd.R_lower (Kd.R_newM (M := fun k_ => (w.heap.size ≤ k_)) (Kd.R_mono (ok' := fun k_ => True) ho1 (fun _ hk_ => trivial)) (below_size (be HB)) (fun k_ h_ => h_)) (below_size (be HB)))
      replace a9a := bq a9a hb; replace b9a := bq b9a hb; replace c9a := bq c9a hb; replace HB := bh HB hb
      clear o9a; have o9a := n0_; clear n0_; (try clear hb); (try clear hb2); (try clear hk); (try clear hi); refine hK.out _ _ ⟨bc a9a 0, bc b9a 0, bc b9a 1⟩ (fun hHeld => ?_)
      clear hK K; refine norm_ (a' := ?_) ?_ ?_
      rotate_left
      ·show Act.put _ (some 30) _ = _
       simp only [putL, i64_w, i32_w]; rfl
      refine pu 5 25 (tb 13 63) HT_ ?_
      refine pu 6 31 (tb 13 127) HT_ ?_
      refine pu 7 32 (tb 13 255) HT_ ?_
      refine pu 8 33 (tb 13 511) HT_ ?_
      refine one_ (i := 9) (N := some 9) #[tt,tt,tt,tt,tt,tt,tt,tt,tt,tt,ff,ff,ff] rfl rfl (one_of HT_.out (by kernel_rfl)) (by decide) (fun K hK => ?_)
      refine box_step ?hg (N := 9) ?hd (cs := #[.int .i64 0, .slice none 0 0]) (t := 31) ?hr ?_; (case hd => rfl); (case hg => rfl); (case hr => first | (go_simp; done) | (go_simp; rfl))
      intro e9a hg w23 hbox hb
      have n0_ := Aside0.mk (Kd.N_below (Kd.N_elderB (nX o9a.out) e9a (Nat.le_of_eq hg.symm)) hb)
      have n1_ := Aside0.mk (Kd.N_below (Kd.N_elderB (nX y9a.out) e9a (Nat.le_of_eq hg.symm)) hb)
      have p9a := Aside0.mk (hbox)
      have F9a := bs HB hg; have A9a := bs HB hg; have i9a := bl a9a hg; have l9a := bg a9a hg; have f9a := bl b9a hg; have m9a := bg b9a hg; have j9a := bl c9a hg; have n9a := bg c9a hg; replace z9a := Aside0.mk (Kd.R_below (rr z9a) hb); replace a9a := bq a9a hb; replace b9a := bq b9a hb; replace c9a := bq c9a hb; replace HB := bh HB hb
      clear o9a y9a; have o9a := n0_; have y9a := n1_; clear n0_ n1_; clear hb hbox hg; refine hK.out _ _ ⟨bc a9a 0, bc b9a 0, bc b9a 1⟩ (fun hHeld => ?_)
      clear hK K; refine norm_ (a' := ?_) ?_ ?_
      rotate_left
      ·show Act.put _ (some 9) _ = _
       simp only [putL, i64_w, i32_w]; rfl
      exact norm_ (by simp only [putAll, putL]) (hCont (.slice Ao21 t313.length co21, v318, v321, e9a) _ ⟨hHeld, (nX (Kd.N_mono o9a.out (fun _ hk => ⟨hk.1.1.1.1, ⟨hk.1.1.2, ⟨hk.1.2, ⟨hk.1.1.1.2.1, ⟨hk.1.1.1.2.2.1, ⟨hk.1.1.1.2.2.2, hk.2⟩⟩⟩⟩⟩⟩))), (nX (Kd.N_mono y9a.out (fun _ hk => ⟨hk.1.1, ⟨hk.1.2.1, ⟨hk.1.2.2.1, ⟨hk.1.2.2.2.1, ⟨hk.1.2.2.2.2, hk.2⟩⟩⟩⟩⟩))), (rX (Kd.R_mono z9a.out (fun _ hk => hk.1))), kB, kB, kB, kB, F9a.out, A9a.out, i9a.out, l9a.out, f9a.out, m9a.out, j9a.out, n9a.out, (be HB)⟩)
     ·skip
      refine box_step ?hg (N := 9) ?hd (cs := #[.int .i64 0, .slice none 0 0]) (t := 31) ?hr ?_; (case hd => rfl); (case hg => rfl); (case hr => first | (go_simp; done) | (go_simp; rfl))
      intro e9a hg w21 hbox hb
      have n0_ := Aside0.mk (Kd.N_below (Kd.N_elderB (nX o9a.out) e9a (Nat.le_of_eq hg.symm)) hb)
      have p9a := Aside0.mk (hbox)
      have F9a := bs HB hg; have A9a := bs HB hg; have i9a := bl a9a hg; have l9a := bg a9a hg; have f9a := bl b9a hg; have m9a := bg b9a hg; have j9a := bl c9a hg; have n9a := bg c9a hg; replace a9a := bq a9a hb; replace b9a := bq b9a hb; replace c9a := bq c9a hb; replace HB := bh HB hb
      clear o9a; have o9a := n0_; clear n0_; clear hb hbox hg; obtain ⟨Ao22, co22, eo22⟩ := Kd.N_slice o9a.out
      (first | subst eo22 | (injection eo22 with f1_ f2_ f3_; have f4_ := f1_.symm; have f5_ := f3_.symm; clear f1_ f2_ f3_; subst f4_; subst f5_))
      refine hK.out _ _ ⟨bc a9a 0, bc b9a 0, bc b9a 1⟩ (fun hHeld => ?_)
      clear hK K; refine norm_ (a' := ?_) ?_ ?_
      rotate_left
      ·show Act.put _ (some 9) _ = _
       simp only [putL, i64_w, i32_w]; rfl
      refine one_ (i := 4) (N := some 30) #[tt,tt,tt,tt,tt,ff,ff,ff,ff,tt,ff,ff,ff] rfl rfl (one_of HT_.out (by kernel_rfl)) (by decide) (fun K hK => ?_)
      refine goes_ Try.func45 (by kernel_rfl) rfl #[.agg #[.slice A0_0 l0_0.length c0_0], .agg #[.int .i64 t312, .slice Ao22 t313.length co22], .string a2] (by rfl) rfl rfl (by (try simp only [List.map_toArray, List.map_cons, List.map_nil]); first | done | rfl | (simp only [List.length_drop, List.length_take]; rfl)) ?_
      with_reducible refine (spec_l10Recall.calls k _ _ l0_0 t312 (fun k_ => (((w.heap.size ≤ k_) ∧ (k_ ≠ g9a ∧ (k_ ≠ h9a ∧ k_ ≠ d9a))) ∧ k_ ≠ e9a)) _ _ t313 a2 t316 t317 t320 t323 _ ?side1 ?side2 ?side3 A9.out).mono ?_
      (case side1 => exact cX (Kd.C_below B9a.out HB.out))
      (case side2 => exact C9a.out)
      (case side3 => exact Kd.N_V (o9a.out))
      rintro e w23 ⟨v318, v321, rfl, ho0, ho1, hb⟩
      refine ⟨_, rfl, ?_⟩
      have n0_ := Aside0.mk (Kd.N_mono (Kd.N_told (Kd.N_told (Kd.N_old (nX o9a.out) hb) (Kd.N_base ho0)) (Kd.R_base ho1)) (fun _ h_ => h_.1))
      have y9a := Aside0.mk (Kd.N_lower (Kd.N_mono (ok' := fun k_ => (w.heap.size ≤ k_) ∧ some k_ ≠ (v321 : Value).ownBlock ∧ k_ ≠ g9a ∧ k_ ≠ h9a ∧ k_ ≠ d9a ∧ k_ ≠ e9a) ho0 (fun k_ hk_ => ⟨Or.elim hk_.1 (fun hs_ => hs_.1.1) (fun hn_ => (Nat.le_trans (below_size (be HB)) hn_)), hk_.2, Or.elim hk_.1 (fun hs_ => hs_.1.2.1) (fun hn_ => (Kd.freshB (g := g9a) (o := .cells #[.slice A0_0 l0_0.length c0_0] 26 (0, 0)) kB k_ hn_)), Or.elim hk_.1 (fun hs_ => hs_.1.2.2.1) (fun hn_ => (Kd.freshB (g := h9a) (o := .cells #[.int .i64 a1_0, .slice A1_1 l1_1.length c1_1] 31 (0, 0)) kB k_ hn_)), Or.elim hk_.1 (fun hs_ => hs_.1.2.2.2) (fun hn_ => (Kd.freshB (g := d9a) (o := .cells #[.int .i64 0, .slice none 0 0] 31 (0, 0)) kB k_ hn_)), Or.elim hk_.1 (fun hs_ => hs_.2) (fun hn_ => (Kd.freshB (g := e9a) (o := .cells #[.int .i64 0, .slice none 0 0] 31 (0, 0)) kB k_ hn_))⟩)) (below_size (be HB)))
      have z9a := Aside0.mk (Kd.R_lower (Kd.R_newM (M := fun k_ => (w.heap.size ≤ k_)) (Kd.R_mono (ok' := fun k_ => True) ho1 (fun _ hk_ => trivial)) (below_size (be HB)) (fun k_ h_ => h_)) (below_size (be HB)))
      replace a9a := bq a9a hb; replace b9a := bq b9a hb; replace c9a := bq c9a hb; replace p9a := bq p9a hb; replace HB := bh HB hb
      clear o9a; have o9a := n0_; clear n0_; (try clear hb); (try clear hb2); (try clear hk); (try clear hi); refine hK.out _ _ ⟨bc a9a 0, bc b9a 0, bc b9a 1⟩ (fun hHeld => ?_)
      clear hK K; refine norm_ (a' := ?_) ?_ ?_
      rotate_left
      ·show Act.put _ (some 30) _ = _
       simp only [putL, i64_w, i32_w]; rfl
      refine pu 5 25 (tb 13 575) HT_ ?_
      refine pu 6 31 (tb 13 639) HT_ ?_
      refine pu 7 32 (tb 13 767) HT_ ?_
      refine pu 8 33 (tb 13 1023) HT_ ?_
      exact norm_ (by simp only [putAll, putL]) (hCont (.slice Ao22 t313.length co22, v318, v321, e9a) _ ⟨hHeld, (nX (Kd.N_mono o9a.out (fun _ hk => ⟨hk.1.1.1.1, ⟨hk.1.2, ⟨hk.2, ⟨hk.1.1.1.2.1, ⟨hk.1.1.1.2.2.1, ⟨hk.1.1.1.2.2.2, hk.1.1.2⟩⟩⟩⟩⟩⟩))), (nX y9a.out), (rX (Kd.R_mono z9a.out (fun _ hk => hk.1))), kB, kB, kB, kB, F9a.out, A9a.out, i9a.out, l9a.out, f9a.out, m9a.out, j9a.out, n9a.out, (be HB)⟩)
    ·skip
     refine box_step ?hg (N := 9) ?hd (cs := #[.int .i64 0, .slice none 0 0]) (t := 31) ?hr ?_; (case hd => rfl); (case hg => rfl); (case hr => first | (go_simp; done) | (go_simp; rfl))
     intro e9a hg w20 hbox hb
     have p9a := Aside0.mk (hbox)
     have F9a := bs HB hg; have A9a := bs HB hg; have i9a := bl a9a hg; have l9a := bg a9a hg; have f9a := bl b9a hg; have m9a := bg b9a hg; have j9a := bl c9a hg; have n9a := bg c9a hg; replace a9a := bq a9a hb; replace b9a := bq b9a hb; replace c9a := bq c9a hb; replace HB := bh HB hb
     clear hb hbox hg; refine hK.out _ _ ⟨bc a9a 0, bc b9a 0, bc b9a 1⟩ (fun hHeld => ?_)
     clear hK K; refine norm_ (a' := ?_) ?_ ?_
     rotate_left
     ·show Act.put _ (some 9) _ = _
      simp only [putL, i64_w, i32_w]; rfl
     refine one_ (i := 2) (N := some 28) #[tt,tt,tt,tt,ff,ff,ff,ff,ff,tt,ff,ff,ff] rfl rfl (one_of HT_.out (by kernel_rfl)) (by decide) (fun K hK => ?_)
     refine goes_ Try.func44 (by kernel_rfl) rfl #[.agg #[.int .i64 a1_0, .slice A1_1 l1_1.length c1_1]] (by rfl) rfl rfl (by (try simp only [List.map_toArray, List.map_cons, List.map_nil]); first | done | rfl | (simp only [List.length_drop, List.length_take]; rfl)) ?_
     with_reducible refine (spec_l10Copy.calls k a1_0 _ _ l1_1 t312 t313 _ ?side1 ?side2 A8.out).mono ?_
     (case side1 => exact cX (Kd.C_below D9a.out HB.out))
     (case side2 => exact E9a.out)
     rintro e w21 ⟨v314, rfl, ho0, hb⟩
     refine ⟨_, rfl, ?_⟩
     have o9a := Aside0.mk (Kd.N_lower (Kd.N_mono (ok' := fun k_ => (w.heap.size ≤ k_) ∧ k_ ≠ g9a ∧ k_ ≠ h9a ∧ k_ ≠ d9a ∧ k_ ≠ e9a) (Kd.S_N (Kd.S_bound ho0)) (fun k_ hk_ => ⟨(Nat.le_trans (below_size (be HB)) hk_.2.1), (Kd.freshB (g := g9a) (o := .cells #[.slice A0_0 l0_0.length c0_0] 26 (0, 0)) kB k_ hk_.2.1), (Kd.freshB (g := h9a) (o := .cells #[.int .i64 a1_0, .slice A1_1 l1_1.length c1_1] 31 (0, 0)) kB k_ hk_.2.1), (Kd.freshB (g := d9a) (o := .cells #[.int .i64 0, .slice none 0 0] 31 (0, 0)) kB k_ hk_.2.1), (Kd.freshB (g := e9a) (o := .cells #[.int .i64 0, .slice none 0 0] 31 (0, 0)) kB k_ hk_.2.1)⟩)) (below_size (be HB)))
     replace a9a := bq a9a hb; replace b9a := bq b9a hb; replace c9a := bq c9a hb; replace p9a := bq p9a hb; replace HB := bh HB hb
     (try clear hb); (try clear hb2); (try clear hk); (try clear hi); obtain ⟨Ao22, co22, eo22⟩ := Kd.N_slice o9a.out
     (first | subst eo22 | (injection eo22 with f1_ f2_ f3_; have f4_ := f1_.symm; have f5_ := f3_.symm; clear f1_ f2_ f3_; subst f4_; subst f5_))
     refine hK.out _ _ ⟨bc a9a 0, bc b9a 0, bc b9a 1⟩ (fun hHeld => ?_)
     clear hK K; refine norm_ (a' := ?_) ?_ ?_
     rotate_left
     ·show Act.put _ (some 28) _ = _
      simp only [putL, i64_w, i32_w]; rfl
     refine one_ (i := 4) (N := some 30) #[tt,tt,tt,tt,tt,ff,ff,ff,ff,tt,ff,ff,ff] rfl rfl (one_of HT_.out (by kernel_rfl)) (by decide) (fun K hK => ?_)
     refine goes_ Try.func45 (by kernel_rfl) rfl #[.agg #[.slice A0_0 l0_0.length c0_0], .agg #[.int .i64 t312, .slice Ao22 t313.length co22], .string a2] (by rfl) rfl rfl (by (try simp only [List.map_toArray, List.map_cons, List.map_nil]); first | done | rfl | (simp only [List.length_drop, List.length_take]; rfl)) ?_
     with_reducible refine (spec_l10Recall.calls k _ _ l0_0 t312 (fun k_ => ((w.heap.size ≤ k_) ∧ (k_ ≠ g9a ∧ (k_ ≠ h9a ∧ (k_ ≠ d9a ∧ k_ ≠ e9a))))) _ _ t313 a2 t316 t317 t320 t323 _ ?side1 ?side2 ?side3 A9.out).mono ?_
     (case side1 => exact cX (Kd.C_below B9a.out HB.out))
     (case side2 => exact C9a.out)
     (case side3 => exact Kd.N_V (o9a.out))
     rintro e w23 ⟨v318, v321, rfl, ho0, ho1, hb⟩
     refine ⟨_, rfl, ?_⟩
     have n0_ := Aside0.mk (Kd.N_mono (Kd.N_told (Kd.N_told (Kd.N_old (nX o9a.out) hb) (Kd.N_base ho0)) (Kd.R_base ho1)) (fun _ h_ => h_.1))
     have y9a := Aside0.mk (Kd.N_lower (Kd.N_mono (ok' := fun k_ => (w.heap.size ≤ k_) ∧ some k_ ≠ (v321 : Value).ownBlock ∧ k_ ≠ g9a ∧ k_ ≠ h9a ∧ k_ ≠ d9a ∧ k_ ≠ e9a) ho0 (fun k_ hk_ => ⟨Or.elim hk_.1 (fun hs_ => hs_.1) (fun hn_ => (Nat.le_trans (below_size (be HB)) hn_)), hk_.2, Or.elim hk_.1 (fun hs_ => hs_.2.1) (fun hn_ => (Kd.freshB (g := g9a) (o := .cells #[.slice A0_0 l0_0.length c0_0] 26 (0, 0)) kB k_ hn_)), Or.elim hk_.1 (fun hs_ => hs_.2.2.1) (fun hn_ => (Kd.freshB (g := h9a) (o := .cells #[.int .i64 a1_0, .slice A1_1 l1_1.length c1_1] 31 (0, 0)) kB k_ hn_)), Or.elim hk_.1 (fun hs_ => hs_.2.2.2.1) (fun hn_ => (Kd.freshB (g := d9a) (o := .cells #[.int .i64 0, .slice none 0 0] 31 (0, 0)) kB k_ hn_)), Or.elim hk_.1 (fun hs_ => hs_.2.2.2.2) (fun hn_ => (Kd.freshB (g := e9a) (o := .cells #[.int .i64 0, .slice none 0 0] 31 (0, 0)) kB k_ hn_))⟩)) (below_size (be HB)))
     have z9a := Aside0.mk (Kd.R_lower (Kd.R_newM (M := fun k_ => (w.heap.size ≤ k_)) (Kd.R_mono (ok' := fun k_ => True) ho1 (fun _ hk_ => trivial)) (below_size (be HB)) (fun k_ h_ => h_)) (below_size (be HB)))
     replace a9a := bq a9a hb; replace b9a := bq b9a hb; replace c9a := bq c9a hb; replace p9a := bq p9a hb; replace HB := bh HB hb
     clear o9a; have o9a := n0_; clear n0_; (try clear hb); (try clear hb2); (try clear hk); (try clear hi); refine hK.out _ _ ⟨bc a9a 0, bc b9a 0, bc b9a 1⟩ (fun hHeld => ?_)
     clear hK K; refine norm_ (a' := ?_) ?_ ?_
     rotate_left
     ·show Act.put _ (some 30) _ = _
      simp only [putL, i64_w, i32_w]; rfl
     refine pu 5 25 (tb 13 575) HT_ ?_
     refine pu 6 31 (tb 13 639) HT_ ?_
     refine pu 7 32 (tb 13 767) HT_ ?_
     refine pu 8 33 (tb 13 1023) HT_ ?_
     exact norm_ (by simp only [putAll, putL]) (hCont (.slice Ao22 t313.length co22, v318, v321, e9a) _ ⟨hHeld, (nX (Kd.N_mono o9a.out (fun _ hk => ⟨hk.1.1.1, ⟨hk.1.2, ⟨hk.2, ⟨hk.1.1.2.1, ⟨hk.1.1.2.2.1, ⟨hk.1.1.2.2.2.1, hk.1.1.2.2.2.2⟩⟩⟩⟩⟩⟩))), (nX y9a.out), (rX (Kd.R_mono z9a.out (fun _ hk => hk.1))), kB, kB, kB, kB, F9a.out, A9a.out, i9a.out, l9a.out, f9a.out, m9a.out, j9a.out, n9a.out, (be HB)⟩)
   rintro ⟨v314, v318, v321, e9a⟩ w24 ⟨hS_, h0_, h1_, h2_, h3_, h4_, h5_, h6_, h7_, h8_, h9_, h10_, h11_, h12_, h13_, h14_, h15_⟩
   have n0_ : Aside0 (Kd.N k86 86 w24 w.heap.size (fun k_ => (w.heap.size ≤ k_) ∧ some k_ ≠ (v318 : Value).ownBlock ∧ some k_ ≠ (v321 : Value).ownBlock ∧ k_ ≠ g9a ∧ k_ ≠ h9a ∧ k_ ≠ d9a ∧ k_ ≠ e9a) v314 t313) := ⟨h0_⟩
   have n1_ : Aside0 (Kd.N k86 86 w24 w.heap.size (fun k_ => (w.heap.size ≤ k_) ∧ some k_ ≠ (v321 : Value).ownBlock ∧ k_ ≠ g9a ∧ k_ ≠ h9a ∧ k_ ≠ d9a ∧ k_ ≠ e9a) v318 t317) := ⟨h1_⟩
   have n2_ : Aside0 (Kd.R (Kd.int .i64) 3 w24 w.heap.size (fun k_ => (w.heap.size ≤ k_)) v321 t320) := ⟨h2_⟩
   have n3_ : Aside0 (w24.heap[g9a]? = some (.cells #[.slice A0_0 l0_0.length c0_0] 26 (0, 0))) := ⟨h3_⟩
   have n4_ : Aside0 (w24.heap[h9a]? = some (.cells #[.int .i64 a1_0, .slice A1_1 l1_1.length c1_1] 31 (0, 0))) := ⟨h4_⟩
   have n5_ : Aside0 (w24.heap[d9a]? = some (.cells #[.int .i64 0, .slice none 0 0] 31 (0, 0))) := ⟨h5_⟩
   have n6_ : Aside0 (w24.heap[e9a]? = some (.cells #[.int .i64 0, .slice none 0 0] 31 (0, 0))) := ⟨h6_⟩
   have n7_ : Aside0 (w.heap.size ≤ e9a) := ⟨h7_⟩
   have n8_ : Aside0 (w.heap.size ≤ e9a) := ⟨h8_⟩
   have n9_ : Aside0 (g9a ≠ e9a) := ⟨h9_⟩
   have n10_ : Aside0 (e9a ≠ g9a) := ⟨h10_⟩
   have n11_ : Aside0 (h9a ≠ e9a) := ⟨h11_⟩
   have n12_ : Aside0 (e9a ≠ h9a) := ⟨h12_⟩
   have n13_ : Aside0 (d9a ≠ e9a) := ⟨h13_⟩
   have n14_ : Aside0 (e9a ≠ d9a) := ⟨h14_⟩
   have n15_ : Aside0 (Below w.heap.size w w24) := ⟨h15_⟩
   clear a9a; clear b9a; clear c9a; clear HB; clear h0_ h1_ h2_ h3_ h4_ h5_ h6_ h7_ h8_ h9_ h10_ h11_ h12_ h13_ h14_ h15_; have o9a := n0_; have y9a := n1_; have z9a := n2_; have a9a := n3_; have b9a := n4_; have c9a := n5_; have p9a := n6_; have F9a := n7_; have A9a := n8_; have i9a := n9_; have l9a := n10_; have f9a := n11_; have m9a := n12_; have j9a := n13_; have n9a := n14_; have HB := n15_; clear n0_ n1_ n2_ n3_ n4_ n5_ n6_ n7_ n8_ n9_ n10_ n11_ n12_ n13_ n14_ n15_; have hHeld : w24.cell? ⟨g9a, 0, none⟩ = some (.slice A0_0 l0_0.length c0_0) ∧ w24.cell? ⟨h9a, 0, none⟩ = some (.int .i64 a1_0) ∧ w24.cell? ⟨h9a, 1, none⟩ = some (.slice A1_1 l1_1.length c1_1) := hS_
   obtain ⟨Ao26, co26, eo26⟩ := Kd.N_slice y9a.out
   (first | subst eo26 | (injection eo26 with f1_ f2_ f3_; have f4_ := f1_.symm; have f5_ := f3_.symm; clear f1_ f2_ f3_; subst f4_; subst f5_))
   refine norm_ (a' := ?_) ?_ ?_
   rotate_left
   ·simp only [putAll, putL]; rfl
   refine one_ (i := 10) (N := none) #[tt,tt,tt,tt,tt,tt,tt,tt,tt,tt,tt,ff,ff] rfl rfl (one_of HT_.out (by kernel_rfl)) (by decide) (fun K hK => ?_)
   have hs25 : w24.cell? ⟨e9a, 0, none⟩ = some (.int .i64 0) := bc p9a 0
   have hfs25 := blk_frozen p9a.out 0; have hns25_0 := i9a.out; have hns25_1 := f9a.out; have hns25_2 := j9a.out; have hms25_0 := l9a.out; have hms25_1 := m9a.out; have hms25_2 := n9a.out; have hs27 : w24.cell? ⟨e9a, 1, none⟩ = some (.slice none 0 0) := bc p9a 1
   have hfs27 := blk_frozen p9a.out 1; have hns27_0 := i9a.out; have hns27_1 := f9a.out; have hns27_2 := j9a.out; have hms27_0 := l9a.out; have hms27_1 := m9a.out; have hms27_2 := n9a.out; refine skip_ (w1 := ?_) (by rfl) rfl ?_ ?_
   rotate_left
   ·go_simp; rfl
   refine hK.out _ _ ⟨((cell_far (p := ⟨e9a, _, none⟩) i9a.out _).trans (((cell_far (p := ⟨e9a, _, none⟩) i9a.out _).trans (hHeld.1)))), ((cell_far (p := ⟨e9a, _, none⟩) f9a.out _).trans (((cell_far (p := ⟨e9a, _, none⟩) f9a.out _).trans (hHeld.2.1)))), ((cell_far (p := ⟨e9a, _, none⟩) f9a.out _).trans (((cell_far (p := ⟨e9a, _, none⟩) f9a.out _).trans (hHeld.2.2))))⟩ (fun hHeld => ?_)
   clear hK K; refine pure_ (i := 11) (N := some 10) (v := ?_) (a' := ?_) #[tt,tt,tt,tt,tt,tt,tt,tt,tt,tt,tt,tt,ff] rfl rfl (any_of HT_.out (by kernel_rfl)) (fun _ _ _ h => h) (Or.inl ⟨by rfl, ?_⟩) ?_ ?_
   rotate_left
   ·intro w'; go_simp; with_reducible rfl
   rotate_left
   ·simp only [putL, i64_w, i32_w]; rfl
   refine pu 12 11 (tb 13 8191) HT_ ?_
   refine done_ (done_of HT_.out (by kernel_rfl)) ?_
   have hnb28 := l9a.out; have hnc28 := i9a.out; have hnb29 := m9a.out; have hnc29 := f9a.out; have hnb30 := n9a.out; have hnc30 := j9a.out; obtain ⟨hcz31_0, hcz31_1⟩ := cs2 p9a; obtain ⟨hfz31_0, hfz31_1⟩ := fs2 p9a; obtain ⟨hcz32_0, hcz32_1⟩ := cs2 c9a; obtain ⟨hfz32_0, hfz32_1⟩ := fs2 c9a
   try go_wp2
   refine bodyPost_ret (results_ctt rfl _ _ d9a 31 #[.int .i64 t316, .slice Ao26 t317.length co26] (0, 0) _ rfl (by (with_reducible repeat first | refine bkN ?_ _ | refine bkD ?_ | refine bkA ?_ _); refine blk_put (cs := #[.int .i64 t316, .slice none 0 0]) ?_ 1 _ rfl; (with_reducible repeat first | refine bkN ?_ _ | refine bkD ?_ | refine bkA ?_ _); refine blk_put (cs := #[.int .i64 0, .slice none 0 0]) ?_ 0 _ rfl; (with_reducible repeat first | refine bkN ?_ _ | refine bkD ?_ | refine bkA ?_ _ | refine blk_far ?_ j9a.out _); exact c9a.out) Try.underlying31 rfl (by kernel_rfl)) rfl ?_
   exact ⟨_, _, eR, nX (Kd.N_mono (Kd.N_far (p := ⟨d9a, 1, none⟩) (Kd.N_far (p := ⟨d9a, 0, none⟩) (Kd.N_far (p := ⟨e9a, 1, none⟩) (Kd.N_far (p := ⟨e9a, 0, none⟩) (Kd.N_mono (Kd.N_mono y9a.out (fun k_ hk => (⟨hk, hk.2.2.2.2.2⟩ : _ ∧ k_ ≠ e9a))) (fun k_ hk => (⟨hk, hk.1.2.2.2.2.1⟩ : _ ∧ k_ ≠ d9a))) (fun _ hk => hk.1.2) (.int .i64 t316)) (fun _ hk => hk.1.2) (.slice Ao26 t317.length co26)) (fun _ hk => hk.2) (.int .i64 t316)) (fun _ hk => hk.2) (.slice Ao26 t317.length co26)) (fun _ hk => ⟨hk.1.1.1, hk.1.1.2.1⟩)), rX (Kd.R_mono (Kd.R_far (p := ⟨d9a, 1, none⟩) (Kd.R_far (p := ⟨d9a, 0, none⟩) (Kd.R_far (p := ⟨e9a, 1, none⟩) (Kd.R_far (p := ⟨e9a, 0, none⟩) (Kd.R_types (Kd.R_types z9a.out p9a.out (by decide)) c9a.out (by decide)) (fun _ hk => hk.1.2) (.int .i64 t316)) (fun _ hk => hk.1.2) (.slice Ao26 t317.length co26)) (fun _ hk => hk.2) (.int .i64 t316)) (fun _ hk => hk.2) (.slice Ao26 t317.length co26)) (fun _ hk => hk.1.1)), iB HB⟩
  ·replace c7 := Bool.eq_false_iff.mpr c7
   subst c7
   have H1 : ((spec_l10Copy.f k a1_0 l1_1).bind fun x9a => (some (x9a.1, x9a.2, (([] : List Int)), false))) = some (r1, r2, r3, r4) := by rw [if_neg (show ¬ (false = true) by decide)] at H; exact H
   clear H; have H := H1
   clear H1; replace H := Option.bind_eq_some_iff.mp H
   obtain ⟨⟨t325, t326⟩, A330, H⟩ := H
   replace H : (some (t325, t326, (([] : List Int)), false)) = some (r1, r2, r3, r4) := H
   have A33 := Aside0.mk A330
   clear A330; obtain ⟨y329, hy329⟩ : ∃ y_ : List Int, y_ = (([] : List Int)) := ⟨_, rfl⟩
   replace H : (some (t325, t326, y329, false)) = some (r1, r2, r3, r4) := by first | (rw [hy329]; with_reducible exact H) | (have H2_ := (Option.bind_some _ _).symm.trans H; rw [hy329]; with_reducible exact H2_) | (have H2_ := (Option.bind_some _ _).symm.trans H; with_reducible exact H2_) | with_reducible exact H | (rw [hy329]; exact H) | exact H
   have Ny329 := Aside0.mk hy329
   clear hy329; simp only [Option.some.injEq, Prod.mk.injEq] at H
   obtain ⟨rfl, rfl, rfl, rfl⟩ := H
   go_enter Try.func16, Try.ntmps16
   go_wp2_with (first | ((with_reducible refine gate_dst (N := 3) rfl ?_); refine bX 3 #[.slice A0_0 l0_0.length c0_0] 26 ?_; intro g9a hg w34 hbox hb; have a9a := Aside0.mk (hbox); have GW304 := bs HB hg; have GE304 := bs HB hg; replace HB := bh HB hb; clear hb hbox hg) | ((with_reducible refine gate_dst (N := 4) rfl ?_); refine bX 4 #[.int .i64 a1_0, .slice A1_1 l1_1.length c1_1] 31 ?_; intro h9a hg w35 hbox hb; have b9a := Aside0.mk (hbox); have GW305 := bs HB hg; have GE305 := bs HB hg; have q9a := bl a9a hg; have r9a := bg a9a hg; replace a9a := bq a9a hb; replace HB := bh HB hb; clear hb hbox hg) | ((with_reducible refine gate_dst (N := 6) rfl ?_); refine bX 6 #[.int .i64 0, .slice none 0 0] 31 ?_; intro d9a hg w36 hbox hb; have c9a := Aside0.mk (hbox); have GW306 := bs HB hg; have GE306 := bs HB hg; have s9a := bl a9a hg; have t9a := bg a9a hg; have u9a := bl b9a hg; have v9a := bg b9a hg; replace a9a := bq a9a hb; replace b9a := bq b9a hb; replace HB := bh HB hb; clear hb hbox hg; have hnb37 := q9a.out; have hnc37 := r9a.out; have hnb38 := s9a.out; have hnc38 := t9a.out; have hcz39_0 : w36.cell? ⟨g9a, 0, none⟩ = some (.slice A0_0 l0_0.length c0_0) := bc a9a 0; have hfz39_0 := blk_frozen a9a.out 0; have hnb40 := u9a.out; have hnc40 := v9a.out; obtain ⟨hcz41_0, hcz41_1⟩ := cs2 b9a; obtain ⟨hfz41_0, hfz41_1⟩ := fs2 b9a) | ((with_reducible refine gate_callee (f := 30) rfl ?_); refine goesC_ (some 14) Try.func30 #[.agg #[.slice A0_0 l0_0.length c0_0], .agg #[.int .i64 a1_0, .slice A1_1 l1_1.length c1_1]] ?_; (with_reducible refine (spec_MemoOk.calls k _ _ l0_0 a1_0 _ _ l1_1 true _ ?side1 ?side2 ?side3 ?side4 A4.out).mono ?_); (case side1 => exact cX (Kd.C_below B9a.out HB.out)); (case side2 => exact C9a.out); (case side3 => exact cX (Kd.C_below D9a.out HB.out)); (case side4 => exact E9a.out); rintro e w42 ⟨rfl, hb⟩; refine ⟨_, rfl, ?_⟩; replace a9a := bq a9a hb; replace b9a := bq b9a hb; replace c9a := bq c9a hb; replace HB := bh HB hb; (try clear hb); (try clear hb2); (try clear hk); (try clear hi)) | ((with_reducible refine gate_callee (f := 43) rfl ?_); refine goesC_ (some 20) Try.func43 #[.int .i64 (a2.size : Int), .int .i64 1, .int .i64 64] ?_; (with_reducible refine (spec_l1In.calls (a2.size : Int) 1 64 false _ A6.out).mono ?_); rintro e w' ⟨rfl, ⟨nd, rfl⟩⟩; refine ⟨_, rfl, ?_⟩; (try (rw [drewN_self w42]; generalize hq_ : World.drewN w42 _ = w42; have n0_ : Aside0 (w42.heap[g9a]? = some (.cells #[.slice A0_0 l0_0.length c0_0] 26 (0, 0))) := ⟨by rw [← hq_]; exact kB⟩; have n1_ : Aside0 (w42.heap[h9a]? = some (.cells #[.int .i64 a1_0, .slice A1_1 l1_1.length c1_1] 31 (0, 0))) := ⟨by rw [← hq_]; exact kB⟩; have n2_ : Aside0 (w42.heap[d9a]? = some (.cells #[.int .i64 0, .slice none 0 0] 31 (0, 0))) := ⟨by rw [← hq_]; exact kB⟩; have n3_ : Aside0 (Below w.heap.size w w42) := ⟨by rw [← hq_]; exact (be HB)⟩; clear a9a b9a c9a HB hq_; have a9a := n0_; have b9a := n1_; have c9a := n2_; have HB := n3_; clear n0_ n1_ n2_ n3_)); obtain ⟨hcz43_0, hcz43_1⟩ := cs2 b9a; obtain ⟨hfz43_0, hfz43_1⟩ := fs2 b9a) | ((with_reducible refine gate_callee (f := 44) rfl ?_); refine goesC_ (some 23) Try.func44 #[.agg #[.int .i64 a1_0, .slice A1_1 l1_1.length c1_1]] ?_; (with_reducible refine (spec_l10Copy.calls k a1_0 _ _ l1_1 t325 t326 _ ?side1 ?side2 A33.out).mono ?_); (case side1 => exact cX (Kd.C_below D9a.out HB.out)); (case side2 => exact E9a.out); rintro e w44 ⟨v327, rfl, ho0, hb⟩; refine ⟨_, rfl, ?_⟩; have HO328 := Aside0.mk (Kd.N_lower (Kd.N_mono (ok' := fun k_ => (w.heap.size ≤ k_) ∧ k_ ≠ g9a ∧ k_ ≠ h9a ∧ k_ ≠ d9a) (Kd.S_N (Kd.S_bound ho0)) (fun k_ hk_ => ⟨(Nat.le_trans (below_size (be HB)) hk_.2.1), (Kd.freshB (g := g9a) (o := .cells #[.slice A0_0 l0_0.length c0_0] 26 (0, 0)) kB k_ hk_.2.1), (Kd.freshB (g := h9a) (o := .cells #[.int .i64 a1_0, .slice A1_1 l1_1.length c1_1] 31 (0, 0)) kB k_ hk_.2.1), (Kd.freshB (g := d9a) (o := .cells #[.int .i64 0, .slice none 0 0] 31 (0, 0)) kB k_ hk_.2.1)⟩)) (below_size (be HB))); replace a9a := bq a9a hb; replace b9a := bq b9a hb; replace c9a := bq c9a hb; replace HB := bh HB hb; (try clear hb); (try clear hb2); (try clear hk); (try clear hi)) | ((with_reducible refine gate_dst (N := 24) rfl ?_); refine Kd.R_lit (Kd.int .i64) _ 3 ?hg (N := 24) ?hd (xs := ([] : List Int)) (inner := []) (ok := fun _ => True) (okp := fun _ => True) ?hr ?hp (fun _ hk => hk) trivial (Below.refl _ _) (Nat.le_refl _) (by simp) ?_; (case hd => rfl); (case hg => rfl); (case hr => first | (go_simp; done) | (go_simp; rfl)); (case hp => exact (Reps.none _ _)); intro v330 w45 ho46 hb hg_ hnew_; clear hg_ hnew_; (first | rw [← Ny329.out] at ho46 | (simp only [Int.reduceToNat] at ho46; rw [← Ny329.out] at ho46)); have n0_ := Aside0.mk (Kd.N_elder' (nX HO328.out) (Kd.R_base ho46) hb); have HO331 := Aside0.mk (Kd.R_lower (Kd.R_newM (M := fun k_ => (w.heap.size ≤ k_)) ho46 (below_size (be HB)) (fun k_ h_ => h_)) (below_size (be HB))); replace a9a := bq a9a hb; replace b9a := bq b9a hb; replace c9a := bq c9a hb; replace HB := bh HB hb; clear HO328; have HO328 := n0_; clear n0_; clear hb ho46; obtain ⟨hcz47_0, hcz47_1⟩ := cs2 c9a; obtain ⟨hfz47_0, hfz47_1⟩ := fs2 c9a; obtain ⟨Ao48, co48, eo48⟩ := Kd.N_slice HO328.out; subst eo48))
   refine bodyPost_ret (results_ctt rfl _ _ d9a 31 #[.int .i64 t325, .slice Ao48 t326.length co48] (0, 0) _ rfl (by (with_reducible repeat first | refine bkN ?_ _ | refine bkD ?_ | refine bkA ?_ _); refine blk_put (cs := #[.int .i64 t325, .slice none 0 0]) ?_ 1 _ rfl; (with_reducible repeat first | refine bkN ?_ _ | refine bkD ?_ | refine bkA ?_ _); refine blk_put (cs := #[.int .i64 0, .slice none 0 0]) ?_ 0 _ rfl; (with_reducible repeat first | refine bkN ?_ _ | refine bkD ?_ | refine bkA ?_ _); exact c9a.out) Try.underlying31 rfl (by kernel_rfl)) rfl ?_
   exact ⟨_, _, eR, nX (Kd.N_mono (Kd.N_far (p := ⟨d9a, 1, none⟩) (Kd.N_far (p := ⟨d9a, 0, none⟩) (Kd.N_mono HO328.out (fun k_ hk => (⟨hk, hk.1.2.2.2⟩ : _ ∧ k_ ≠ d9a))) (fun _ hk => hk.2) (.int .i64 t325)) (fun _ hk => hk.2) (.slice Ao48 t326.length co48)) (fun _ hk => ⟨hk.1.1.1, hk.1.2⟩)), rX (Kd.R_mono (Kd.R_far (p := ⟨d9a, 1, none⟩) (Kd.R_far (p := ⟨d9a, 0, none⟩) (Kd.R_types HO331.out c9a.out (by decide)) (fun _ hk => hk.2) (.int .i64 t325)) (fun _ hk => hk.2) (.slice Ao48 t326.length co48)) (fun _ hk => hk.1.1)), iB HB⟩
 ·replace c5 := Bool.eq_false_iff.mpr c5
  subst c5
  have H1 : (some (0, ([] : List (S86)), (([] : List Int)), false)) = some (r1, r2, r3, r4) := by rw [if_neg (show ¬ (false = true) by decide)] at H; exact H
  clear H; have H := H1
  clear H1; obtain ⟨y308, hy308⟩ : ∃ y_ : List Int, y_ = (([] : List Int)) := ⟨_, rfl⟩
  replace H : (some (0, ([] : List (S86)), y308, false)) = some (r1, r2, r3, r4) := by first | (rw [hy308]; with_reducible exact H) | (have H2_ := (Option.bind_some _ _).symm.trans H; rw [hy308]; with_reducible exact H2_) | (have H2_ := (Option.bind_some _ _).symm.trans H; with_reducible exact H2_) | with_reducible exact H | (rw [hy308]; exact H) | exact H
  have Ny308 := Aside0.mk hy308
  clear hy308; simp only [Option.some.injEq, Prod.mk.injEq] at H
  obtain ⟨rfl, rfl, rfl, rfl⟩ := H
  go_enter Try.func16, Try.ntmps16
  go_wp2_with (first | ((with_reducible refine gate_dst (N := 3) rfl ?_); refine bX 3 #[.slice A0_0 l0_0.length c0_0] 26 ?_; intro g9a hg w49 hbox hb; have a9a := Aside0.mk (hbox); have GW304 := bs HB hg; have GE304 := bs HB hg; replace HB := bh HB hb; clear hb hbox hg) | ((with_reducible refine gate_dst (N := 4) rfl ?_); refine bX 4 #[.int .i64 a1_0, .slice A1_1 l1_1.length c1_1] 31 ?_; intro h9a hg w50 hbox hb; have b9a := Aside0.mk (hbox); have GW305 := bs HB hg; have GE305 := bs HB hg; have q9a := bl a9a hg; have r9a := bg a9a hg; replace a9a := bq a9a hb; replace HB := bh HB hb; clear hb hbox hg) | ((with_reducible refine gate_dst (N := 6) rfl ?_); refine bX 6 #[.int .i64 0, .slice none 0 0] 31 ?_; intro d9a hg w51 hbox hb; have c9a := Aside0.mk (hbox); have GW306 := bs HB hg; have GE306 := bs HB hg; have s9a := bl a9a hg; have t9a := bg a9a hg; have u9a := bl b9a hg; have v9a := bg b9a hg; replace a9a := bq a9a hb; replace b9a := bq b9a hb; replace HB := bh HB hb; clear hb hbox hg; have hnb52 := q9a.out; have hnc52 := r9a.out; have hnb53 := s9a.out; have hnc53 := t9a.out; have hcz54_0 : w51.cell? ⟨g9a, 0, none⟩ = some (.slice A0_0 l0_0.length c0_0) := bc a9a 0; have hfz54_0 := blk_frozen a9a.out 0; have hnb55 := u9a.out; have hnc55 := v9a.out; obtain ⟨hcz56_0, hcz56_1⟩ := cs2 b9a; obtain ⟨hfz56_0, hfz56_1⟩ := fs2 b9a) | ((with_reducible refine gate_callee (f := 30) rfl ?_); refine goesC_ (some 14) Try.func30 #[.agg #[.slice A0_0 l0_0.length c0_0], .agg #[.int .i64 a1_0, .slice A1_1 l1_1.length c1_1]] ?_; (with_reducible refine (spec_MemoOk.calls k _ _ l0_0 a1_0 _ _ l1_1 false _ ?side1 ?side2 ?side3 ?side4 A4.out).mono ?_); (case side1 => exact cX (Kd.C_below B9a.out HB.out)); (case side2 => exact C9a.out); (case side3 => exact cX (Kd.C_below D9a.out HB.out)); (case side4 => exact E9a.out); rintro e w57 ⟨rfl, hb⟩; refine ⟨_, rfl, ?_⟩; replace a9a := bq a9a hb; replace b9a := bq b9a hb; replace c9a := bq c9a hb; replace HB := bh HB hb; (try clear hb); (try clear hb2); (try clear hk); (try clear hi)) | ((with_reducible refine gate_dst (N := 17) rfl ?_); refine Kd.R_lit (Kd.int .i64) _ 3 ?hg (N := 17) ?hd (xs := ([] : List Int)) (inner := []) (ok := fun _ => True) (okp := fun _ => True) ?hr ?hp (fun _ hk => hk) trivial (Below.refl _ _) (Nat.le_refl _) (by simp) ?_; (case hd => rfl); (case hg => rfl); (case hr => first | (go_simp; done) | (go_simp; rfl)); (case hp => exact (Reps.none _ _)); intro v309 w58 ho59 hb hg_ hnew_; clear hg_ hnew_; (first | rw [← Ny308.out] at ho59 | (simp only [Int.reduceToNat] at ho59; rw [← Ny308.out] at ho59)); have HO310 := Aside0.mk (Kd.R_lower (Kd.R_newM (M := fun k_ => (w.heap.size ≤ k_)) ho59 (below_size (be HB)) (fun k_ h_ => h_)) (below_size (be HB))); replace a9a := bq a9a hb; replace b9a := bq b9a hb; replace c9a := bq c9a hb; replace HB := bh HB hb; clear hb ho59; obtain ⟨hcz60_0, hcz60_1⟩ := cs2 c9a; obtain ⟨hfz60_0, hfz60_1⟩ := fs2 c9a))
  refine bodyPost_ret (results_ctt rfl _ _ d9a 31 #[.int .i64 0, .slice none 0 0] (0, 0) _ rfl (by (with_reducible repeat first | refine bkN ?_ _ | refine bkD ?_ | refine bkA ?_ _); refine blk_put (cs := #[.int .i64 0, .slice none 0 0]) ?_ 1 _ rfl; (with_reducible repeat first | refine bkN ?_ _ | refine bkD ?_ | refine bkA ?_ _); refine blk_put (cs := #[.int .i64 0, .slice none 0 0]) ?_ 0 _ rfl; (with_reducible repeat first | refine bkN ?_ _ | refine bkD ?_ | refine bkA ?_ _); exact c9a.out) Try.underlying31 rfl (by kernel_rfl)) rfl ?_
  exact ⟨_, _, eR, by first | exact Kd.S_nil _ _ _ _ _ | exact Kd.N_nil _ _ _ _ _ | exact Kd.V_nil _ _ _ _ _ | exact Kd.Q_nil _ _ _ _ _ | exact Kd.R_nil _ _ _ _ _, rX (Kd.R_mono (Kd.R_far (p := ⟨d9a, 1, none⟩) (Kd.R_far (p := ⟨d9a, 0, none⟩) (Kd.R_types HO310.out c9a.out (by decide)) (fun _ hk => hk.2) (.int .i64 0)) (fun _ hk => hk.2) (.slice none 0 0)) (fun _ hk => hk.1.1)), iB HB⟩
def laws_toPair.f (a0_0 : Int) (a0_1 : Int) : Option (Int × Int) := some (a0_0, a0_1)
set_option maxHeartbeats 8000000 in
set_option maxRecDepth 100000 in
theorem laws_toPair.calls (a0_0 : Int) (a0_1 : Int) (r1 : Int) (r2 : Int) (w : World) (h : laws_toPair.f a0_0 a0_1 = some (r1, r2)) :
  Calls Try.prog 73 #[.agg #[.int .i64 a0_0, .int .i64 a0_1]] w fun e w' => e = .returned (.agg #[.int .i64 r1, .int .i64 r2]) ∧ Below w.heap.size w w' := by
 have hu106 := Try.underlying106
 have hu95 := Try.underlying95
 have HB := Aside0.mk (Below.refl w.heap.size w)
 have H : (some (a0_0, a0_1)) = some (r1, r2) := h
 clear h; simp only [Option.some.injEq, Prod.mk.injEq] at H
 obtain ⟨rfl, rfl⟩ := H
 go_enter Try.func73, Try.ntmps73
 go_wp2_with (first | ((with_reducible refine gate_dst (N := 1) rfl ?_); refine bX 1 #[.int .i64 a0_0, .int .i64 a0_1] 106 ?_; intro gb332 hg w2 hbox hb; have a9a := Aside0.mk (hbox); have GW332 := bs HB hg; have GE332 := bs HB hg; replace HB := bh HB hb; clear hb hbox hg) | ((with_reducible refine gate_dst (N := 2) rfl ?_); refine bX 2 #[.int .i64 0, .int .i64 0] 95 ?_; intro gb333 hg w3 hbox hb; have c9a := Aside0.mk (hbox); have GW333 := bs HB hg; have GE333 := bs HB hg; have NB332_333 := bl a9a hg; have NB333_332 := bg a9a hg; replace a9a := bq a9a hb; replace HB := bh HB hb; clear hb hbox hg) | ((with_reducible refine gate_dst (N := 3) rfl ?_); refine bX 3 #[.int .i64 0, .int .i64 0] 95 ?_; intro gb334 hg w4 hbox hb; have BK334 := Aside0.mk (hbox); have GW334 := bs HB hg; have GE334 := bs HB hg; have NB332_334 := bl a9a hg; have NB334_332 := bg a9a hg; have b9a := bl c9a hg; have NB334_333 := bg c9a hg; replace a9a := bq a9a hb; replace c9a := bq c9a hb; replace HB := bh HB hb; clear hb hbox hg; have hnb5 := NB332_333.out; have hnc5 := NB333_332.out; have hnb6 := NB332_334.out; have hnc6 := NB334_332.out; obtain ⟨hcz7_0, hcz7_1⟩ := cs2 a9a; obtain ⟨hfz7_0, hfz7_1⟩ := fs2 a9a; have hnb8 := NB334_333.out; have hnc8 := b9a.out; obtain ⟨hcz9_0, hcz9_1⟩ := cs2 BK334; obtain ⟨hfz9_0, hfz9_1⟩ := fs2 BK334; obtain ⟨hcz10_0, hcz10_1⟩ := cs2 c9a; obtain ⟨hfz10_0, hfz10_1⟩ := fs2 c9a))
 refine bodyPost_ret (results_cell_row rfl _ _ gb333 95 #[.int .i64 a0_0, .int .i64 a0_1] (0, 0) _ rfl (by (with_reducible repeat first | refine bkN ?_ _ | refine bkD ?_ | refine bkA ?_ _); refine blk_put (cs := #[.int .i64 a0_0, .int .i64 0]) ?_ 1 _ rfl; (with_reducible repeat first | refine bkN ?_ _ | refine bkD ?_ | refine bkA ?_ _); refine blk_put (cs := #[.int .i64 0, .int .i64 0]) ?_ 0 _ rfl; (with_reducible repeat first | refine bkN ?_ _ | refine bkD ?_ | refine bkA ?_ _ | refine blk_far ?_ b9a.out _); exact c9a.out) Try.underlying95 rfl (by kernel_rfl)) rfl ?_
 exact ⟨eR, iB HB⟩
def laws_toPairS.l0 : Nat → List (S106) → List (S95) → Int → Option ((List (S95)))
 | 0, _, _, _ => none
 | k + 1, x0, x3, x4 => if x4 < (x0.length : Int) then (if 0 ≤ x4 then ((laws_toPair.f ((rd_T106 x0 x4).f0) ((rd_T106 x0 x4).f1)).bind fun bt339 => (if x4 < (x3.length : Int) then (laws_toPairS.l0 k x0 (x3.set (x4 : Int).toNat (⟨bt339.1, bt339.2⟩ : S95)) (wrap64 (x4 + 1))) else (none))) else (none)) else (some x3)
def laws_toPairS.f (k : Nat) (l0 : List (S106)) : Option ((List (S95))) := if 0 ≤ (l0.length : Int) then (if ((l0.length : Int) : Int).toNat ≤ 17592186044416 then (laws_toPairS.l0 k l0 (List.replicate ((l0.length : Int) : Int).toNat z95) 0) else (none)) else (none)
theorem laws_toPairS.mono_l : ∀ k, (∀ y0 y1 y2, LeO (laws_toPairS.l0 k y0 y1 y2) (laws_toPairS.l0 (k + 1) y0 y1 y2))
 | 0 => fun _ _ _ r h => by simp [laws_toPairS.l0] at h
 | k + 1 => by
  have ih0 := laws_toPairS.mono_l k
  ·intro y0 y1 y2
   unfold laws_toPairS.l0
   repeat' first
   | (with_reducible exact ih0 _ _ _)
   | (with_reducible exact LeO.refl _)
   | (with_reducible exact LeO.none _)
   | (with_reducible refine LeO.ite ?_ ?_)
   | (with_reducible refine LeO.bind ?_ (fun _ => ?_))
   | exact ih0 _ _ _
   | exact LeO.none _
   | refine LeO.ite ?_ ?_
   | refine LeO.bind ?_ (fun _ => ?_)
theorem laws_toPairS.mono : ∀ a0 k, LeO (laws_toPairS.f k a0) (laws_toPairS.f (k + 1) a0) := by
 intro a0 k
 have ih0 := laws_toPairS.mono_l k
 unfold laws_toPairS.f
 repeat' first
   | (with_reducible exact ih0 _ _ _)
   | (with_reducible exact LeO.refl _)
   | (with_reducible exact LeO.none _)
   | (with_reducible refine LeO.ite ?_ ?_)
   | (with_reducible refine LeO.bind ?_ (fun _ => ?_))
   | exact ih0 _ _ _
   | exact LeO.none _
   | refine LeO.ite ?_ ?_
   | refine LeO.bind ?_ (fun _ => ?_)
set_option maxHeartbeats 8000000 in
set_option maxRecDepth 100000 in
theorem laws_toPairS.calls (k : Nat) (A0 : Option Addr) (c0 : Nat) (l0 : List (S106)) (r : List (S95)) (w : World) (hr0 : Kd.C k106 w A0 l0.length l0) (hc0 : l0.length ≤ c0) (h : laws_toPairS.f k l0 = some r) :
  Calls Try.prog 46 #[.slice A0 l0.length c0] w fun e w' => ∃ v0_ : Value, e = .returned (v0_) ∧ Kd.R k95 95 w' w.heap.size (fun _ => True) v0_ r ∧ Below w.heap.size w w' := by
 have hu106 := Try.underlying106
 have hu95 := Try.underlying95
 have HR0 := Aside0.mk hr0
 have HC0 := Aside0.mk hc0
 clear hr0 hc0; have HB := Aside0.mk (Below.refl w.heap.size w)
 have H : (if 0 ≤ (l0.length : Int) then (if ((l0.length : Int) : Int).toNat ≤ 17592186044416 then (laws_toPairS.l0 k l0 (List.replicate ((l0.length : Int) : Int).toNat z95) 0) else (none)) else (none)) = some r := h
 clear h
 by_cases c2 : 0 ≤ (l0.length : Int)
 ·rw [if_pos c2] at H
  have c2b0 := eq_true c2
  have c2b1 : decide (0 ≤ (l0.length : Int)) = true := decide_eq_true c2
  clear c2
  by_cases c3 : ((l0.length : Int) : Int).toNat ≤ 17592186044416
  ·rw [if_pos c3] at H
   have c3b0 := eq_true c3
   have c3b1 : decide (((l0.length : Int) : Int).toNat ≤ 17592186044416) = true := decide_eq_true c3
   clear c3; obtain ⟨y335, hy335⟩ : ∃ y_ : List (S95), y_ = (List.replicate ((l0.length : Int) : Int).toNat z95) := ⟨_, rfl⟩
   replace H : (laws_toPairS.l0 k l0 y335 0) = some r := by first | (rw [hy335]; with_reducible exact H) | (have H2_ := (Option.bind_some _ _).symm.trans H; rw [hy335]; with_reducible exact H2_) | (have H2_ := (Option.bind_some _ _).symm.trans H; with_reducible exact H2_) | with_reducible exact H | (rw [hy335]; exact H) | exact H
   have Ny335 := Aside0.mk hy335
   clear hy335; have H' := Aside0.mk H
   clear H
   go_enter Try.func46, Try.ntmps46
   go_wp2_with (first | ((with_reducible refine gate_dst (N := 7) rfl ?_); refine Kd.R_make k95 _ 95 rfl (N := 7) rfl 24 _ _ rfl (l0.length : Int) rfl rfl Try.underlying24 (.agg #[(.int .i64 0), (.int .i64 0)]) 16 info95 rfl (by decide) (by omega) z95 (ok := fun _ => True) (okp := fun _ => True) (k95_mkM _ _ _ z95 ) (fun _ hk => hk) trivial (oD) (Nat.le_trans (Nat.mul_le_mul_right _ (oD : (l0.length : Int).toNat ≤ 17592186044416)) (by omega)) (Below.refl _ _) (Nat.le_refl _) ?_; intro v336 w4 ho5 hb hg_ hnew_; clear hg_ hnew_; (first | rw [← Ny335.out] at ho5 | (simp only [Int.reduceToNat] at ho5; rw [← Ny335.out] at ho5)); have HO337 := Aside0.mk (Kd.R_lower ho5 (below_size (be HB))); replace HB := bh HB hb; clear hb ho5))
   go_loopg [4] k (fun kq v4 w' => ∃ (x3_1 : List (S95)) (x4_1 : Int), v4 = .int .i64 x4_1 ∧ Aside0 (laws_toPairS.l0 kq l0 x3_1 x4_1 = some r) ∧ Aside0 (kq ≤ k) ∧ Aside0 (Kd.R k95 95 w' w.heap.size (fun _ => True) v336 x3_1) ∧ Aside0 (Below w.heap.size w w'))
   case atStart => exact ⟨(y335), (0), sR, H', ⟨Nat.le_refl _⟩, ⟨rr HO337⟩, ⟨iB HB⟩⟩
   case round =>
    clear H'
    obtain ⟨x3_1, x4_1, rfl, HA, HK1, HO_3, HB⟩ := hrel
    cases gk with
    | zero => exact absurd HA.out (by simp [laws_toPairS.l0])
    | succ k1 =>
     have H := HA.out; clear HA; simp only [laws_toPairS.l0] at H
     by_cases c6 : x4_1 < (l0.length : Int)
     ·rw [if_pos c6] at H
      have c6b0 : decide (x4_1 < (l0.length : Int)) = true := decide_eq_true c6
      clear c6
      by_cases c7 : 0 ≤ x4_1
      ·rw [if_pos c7] at H
       have c7b0 : decide (0 ≤ x4_1) = true := decide_eq_true c7
       clear c7; replace H := Option.bind_eq_some_iff.mp H
       obtain ⟨⟨t339, t340⟩, A80, H⟩ := H
       replace H : (if x4_1 < (x3_1.length : Int) then (laws_toPairS.l0 k1 l0 (x3_1.set (x4_1 : Int).toNat (⟨t339, t340⟩ : S95)) (wrap64 (x4_1 + 1))) else (none)) = some r := H
       have A8 := Aside0.mk A80
       clear A80
       by_cases c9 : x4_1 < (x3_1.length : Int)
       ·rw [if_pos c9] at H
        have c9b0 : decide (x4_1 < (x3_1.length : Int)) = true := decide_eq_true c9
        clear c9; obtain ⟨y341, hy341⟩ : ∃ y_ : List (S95), y_ = (x3_1.set (x4_1 : Int).toNat (⟨t339, t340⟩ : S95)) := ⟨_, rfl⟩
        replace H : (laws_toPairS.l0 k1 l0 y341 (wrap64 (x4_1 + 1))) = some r := by first | (rw [hy341]; with_reducible exact H) | (have H2_ := (Option.bind_some _ _).symm.trans H; rw [hy341]; with_reducible exact H2_) | (have H2_ := (Option.bind_some _ _).symm.trans H; with_reducible exact H2_) | with_reducible exact H | (rw [hy341]; exact H) | exact H
        have Ny341 := Aside0.mk hy341
        clear hy341; have H' := Aside0.mk H
        clear H; have p338 : 0 ≤ (x4_1 : Int) := oD
        have q338 : x4_1 < (l0.length : Int) := oD
        obtain ⟨ad338, e338, a9a, b9a⟩ := at_T106 HR0.out x4_1 p338 q338
        cases e338
        replace a9a := (HB.out.cell (World.block_lt_of_cell? w _ a9a)).trans a9a
        replace b9a := (HB.out.cell (World.block_lt_of_cell? w _ b9a)).trans b9a
        replace p338 := eq_true p338
        replace q338 := eq_true q338
        go_wp2_with (first | ((with_reducible refine gate_callee (f := 73) rfl ?_); refine goesC_ (some 20) Try.func73 #[.agg #[.int .i64 ((rd_T106 l0 x4_1).f0), .int .i64 ((rd_T106 l0 x4_1).f1)]] ?_; (with_reducible refine (laws_toPair.calls ((rd_T106 l0 x4_1).f0) ((rd_T106 l0 x4_1).f1) t339 t340 _ A8.out).mono ?_); rintro e w11 ⟨rfl, hb⟩; refine ⟨_, rfl, ?_⟩; replace HO_3 := Aside0.mk (Kd.R_below (rr HO_3) hb); replace HB := bh HB hb; (try clear hb); (try clear hb2); (try clear hk); (try clear hi); have p10 : 0 ≤ (x4_1 : Int) := oD; have q10 : (x4_1 : Int) < ((x3_1.length : Int) : Int) := oD; obtain ⟨go10, co10, eo10, gb10, gl10, cl10, HG10⟩ := Kd.R_form HO_3.out (by omega); (first | cases eo10 | (injection eo10 with ea_ en_ ec_; (first | subst ea_ | (injection ea_ with ea_; subst ea_)); subst ec_; clear en_)); have GB10 := Aside0.mk gb10; have GG10 := Aside0.mk HG10; clear gb10 gl10 HG10; obtain ⟨ce10, hcl10, hM10, hcc10, hfr10⟩ := Kd.R_elem HO_3.out z95 (x4_1 : Int) p10 q10; obtain rfl := k95_openM hM10; have hx10_0 : w11.cell? ⟨go10, (x4_1 : Int).toNat * 2, none⟩ = some (.int .i64 ((rd_T95 x3_1 x4_1).f0)) := hcc10 0 _ rfl; have hx10_1 : w11.cell? ⟨go10, (x4_1 : Int).toNat * 2 + 1, none⟩ = some (.int .i64 ((rd_T95 x3_1 x4_1).f1)) := hcc10 1 _ rfl; have hf10_0 : w11.frozen? ⟨go10, (x4_1 : Int).toNat * 2, none⟩ = false := hfr10 0; have hf10_1 : w11.frozen? ⟨go10, (x4_1 : Int).toNat * 2 + 1, none⟩ = false := hfr10 1; clear hcl10 hcc10 hfr10 hM10; replace p10 := eq_true p10; replace q10 := eq_true q10; have HX12 := Aside0.mk (show Kd.R k95 95 w11 w.heap.size (fun _ => True) (.slice (some ⟨go10, 0, none⟩) x3_1.length co10) x3_1 from (rr HO_3)); obtain ⟨ce12, hcl12, hM12, hcc12, hfr12⟩ := Kd.R_elem HX12.out z95 (x4_1 : Int) (oD) (by have h_ : (x4_1 : Int) < ((x3_1.length : Int) : Int) := oD; first | exact h_ | (have e_ := (Kd.R_reads' HO_3.out).1; omega) | simpa using h_); obtain rfl := k95_openM hM12; have HP12 := Kd.R_seg HX12.out (x4_1 : Int) (oD) (by have h_ : (x4_1 : Int) < ((x3_1.length : Int) : Int) := oD; first | exact h_ | (have e_ := (Kd.R_reads' HO_3.out).1; omega) | simpa using h_) (seg := [.int .i64 t339, .int .i64 t340]) (j := 0) hcl12 hcc12 (show 2 ≤ 2 from by decide) (x' := (⟨t339, t340⟩ : S95)) (k95_mkM _ _ _ (⟨t339, t340⟩ : S95) ) (fun _ hk => hk); have hx12_0 := hcc12 0 _ rfl; (try simp only [show (k95).sz = 2 from rfl, Nat.mul_one, Nat.add_zero] at hx12_0); have hf12_0 := hfr12 0; (try simp only [show (k95).sz = 2 from rfl, Nat.mul_one, Nat.add_zero] at hf12_0); have hx12_1 := hcc12 1 _ rfl; (try simp only [show (k95).sz = 2 from rfl, Nat.mul_one, Nat.add_zero] at hx12_1); have hf12_1 := hfr12 1; (try simp only [show (k95).sz = 2 from rfl, Nat.mul_one, Nat.add_zero] at hf12_1); clear hcl12 hcc12 hfr12 hM12) | ((with_reducible refine gate_store (t := 95) (p := 21) rfl ?_); refine store_event (t := 95) (p := 21) (v := ?vo_w13) (w1 := ((w11.setCell ⟨go10, (x4_1 : Int).toNat * 2, none⟩ (.int .i64 t339)).setCell ⟨go10, (x4_1 : Int).toNat * 2 + 1, none⟩ (.int .i64 t340))) ?hg ?ho ?hn ?hr ?_; (case ho => rfl); (case hg => rfl); (case hn => rfl); (case hr => first | (go_simp; done) | (go_simp; rfl)); intro w13 hw; have hg : w11.grownBy w13 (some go10) := (by rw [hw]; exact HP12.2); have hp_ : Kd.R k95 95 w13 w.heap.size (fun _ => True) (.slice (some ⟨go10, 0, none⟩) x3_1.length co10) y341 := (by rw [hw, Ny341.out]; exact HP12.1); clear HP12; have n0_ := Aside0.mk (hp_); have n1_ := Aside0.mk ((by rw [hw]; exact below_set (below_set (HB.out) GB10.out) GB10.out : Below w.heap.size w w13)); clear HO_3 HB; have HO_3 := n0_; have HB := n1_; clear n0_ n1_; clear hg hw hp_))
        go_roundg k1
        case measure => have := HK1.out; omega
        case rel => exact ⟨(y341), (wrap64 (x4_1 + 1)), sR, H', ⟨by have := HK1.out; omega⟩, ⟨rr HO_3⟩, ⟨iB HB⟩⟩
       ·rw [if_neg c9] at H
        exact absurd H (by simp)
      ·rw [if_neg c7] at H
       exact absurd H (by simp)
     ·rw [if_neg c6] at H
      have c6b0 : decide (x4_1 < (l0.length : Int)) = false := decide_eq_false c6
      clear c6; obtain rfl := Option.some.inj H
      go_wp2
      go_ret
      exact ⟨_, eR, rX HO_3.out, iB HB⟩
  ·rw [if_neg c3] at H
   exact absurd H (by simp)
 ·rw [if_neg c2] at H
  exact absurd H (by simp)
def laws_toVocab.f (k : Nat) (l0_0 : List (S106)) : Option ((List (S95))) := (laws_toPairS.f k l0_0).bind fun t345 => (some t345)
theorem laws_toVocab.mono : ∀ a0 k, LeO (laws_toVocab.f k a0) (laws_toVocab.f (k + 1) a0) := by
 intro a0 k
 unfold laws_toVocab.f
 repeat' first
   | (with_reducible exact laws_toPairS.mono _ _)
   | (with_reducible exact LeO.refl _)
   | (with_reducible exact LeO.none _)
   | (with_reducible refine LeO.ite ?_ ?_)
   | (with_reducible refine LeO.bind ?_ (fun _ => ?_))
   | exact laws_toPairS.mono _ _
   | exact LeO.none _
   | refine LeO.ite ?_ ?_
   | refine LeO.bind ?_ (fun _ => ?_)
set_option maxHeartbeats 8000000 in
set_option maxRecDepth 100000 in
theorem laws_toVocab.calls (k : Nat) (A0_0 : Option Addr) (c0_0 : Nat) (l0_0 : List (S106)) (r : List (S95)) (w : World) (hr0_0 : Kd.C k106 w A0_0 l0_0.length l0_0) (hc0_0 : l0_0.length ≤ c0_0) (h : laws_toVocab.f k l0_0 = some r) :
  Calls Try.prog 17 #[.agg #[.slice A0_0 l0_0.length c0_0]] w fun e w' => ∃ v0_ : Value, e = .returned (.agg #[v0_]) ∧ Kd.R k95 95 w' w.heap.size (fun _ => True) v0_ r ∧ Below w.heap.size w w' := by
 have hu43 := Try.underlying43
 have hu26 := Try.underlying26
 have HR0_0 := Aside0.mk hr0_0
 have HC0_0 := Aside0.mk hc0_0
 clear hr0_0 hc0_0; have HB := Aside0.mk (Below.refl w.heap.size w)
 have H : ((laws_toPairS.f k l0_0).bind fun t345 => (some t345)) = some r := h
 clear h; replace H := Option.bind_eq_some_iff.mp H
 obtain ⟨t345, A20, H⟩ := H
 replace H : (some t345) = some r := H
 have A2 := Aside0.mk A20
 clear A20; obtain rfl := Option.some.inj H
 go_enter Try.func17, Try.ntmps17
 go_wp2_with (first | ((with_reducible refine gate_dst (N := 1) rfl ?_); refine bX 1 #[.slice A0_0 l0_0.length c0_0] 43 ?_; intro gb342 hg w3 hbox hb; have a9a := Aside0.mk (hbox); have GW342 := bs HB hg; have GE342 := bs HB hg; replace HB := bh HB hb; clear hb hbox hg) | ((with_reducible refine gate_dst (N := 2) rfl ?_); refine bX 2 #[.slice none 0 0] 26 ?_; intro gb343 hg w4 hbox hb; have b9a := Aside0.mk (hbox); have GW343 := bs HB hg; have GE343 := bs HB hg; have NB342_343 := bl a9a hg; have NB343_342 := bg a9a hg; replace a9a := bq a9a hb; replace HB := bh HB hb; clear hb hbox hg) | ((with_reducible refine gate_dst (N := 3) rfl ?_); refine bX 3 #[.slice none 0 0] 26 ?_; intro gb344 hg w5 hbox hb; have BK344 := Aside0.mk (hbox); have GW344 := bs HB hg; have GE344 := bs HB hg; have NB342_344 := bl a9a hg; have NB344_342 := bg a9a hg; have c9a := bl b9a hg; have NB344_343 := bg b9a hg; replace a9a := bq a9a hb; replace b9a := bq b9a hb; replace HB := bh HB hb; clear hb hbox hg; have hnb6 := NB342_343.out; have hnc6 := NB343_342.out; have hnb7 := NB342_344.out; have hnc7 := NB344_342.out; have hcz8_0 : w5.cell? ⟨gb342, 0, none⟩ = some (.slice A0_0 l0_0.length c0_0) := bc a9a 0; have hfz8_0 := blk_frozen a9a.out 0) | ((with_reducible refine gate_callee (f := 46) rfl ?_); refine goesC_ (some 6) Try.func46 #[.slice A0_0 l0_0.length c0_0] ?_; (with_reducible refine (laws_toPairS.calls k _ _ l0_0 t345 _ ?side1 ?side2 A2.out).mono ?_); (case side1 => exact cX (Kd.C_below HR0_0.out HB.out)); (case side2 => exact HC0_0.out); rintro e w9 ⟨v346, rfl, ho0, hb⟩; refine ⟨_, rfl, ?_⟩; have HO347 := Aside0.mk (Kd.R_lower ho0 (below_size (be HB))); replace a9a := bq a9a hb; replace b9a := bq b9a hb; replace BK344 := bq BK344 hb; replace HB := bh HB hb; (try clear hb); (try clear hb2); (try clear hk); (try clear hi); obtain ⟨Ao10, co10, eo10⟩ := Kd.R_slice HO347.out; subst eo10; have hnb11 := NB344_343.out; have hnc11 := c9a.out; have hcz12_0 : w9.cell? ⟨gb344, 0, none⟩ = some (.slice none 0 0) := bc BK344 0; have hfz12_0 := blk_frozen BK344.out 0; have hcz13_0 : w9.cell? ⟨gb343, 0, none⟩ = some (.slice none 0 0) := bc b9a 0; have hfz13_0 := blk_frozen b9a.out 0))
 refine bodyPost_ret (results_cell_row rfl _ _ gb343 26 #[.slice Ao10 t345.length co10] (0, 0) _ rfl (by (with_reducible repeat first | refine bkN ?_ _ | refine bkD ?_ | refine bkA ?_ _); refine blk_put (cs := #[.slice none 0 0]) ?_ 0 _ rfl; (with_reducible repeat first | refine bkN ?_ _ | refine bkD ?_ | refine bkA ?_ _ | refine blk_far ?_ c9a.out _); exact b9a.out) Try.underlying26 rfl (by kernel_rfl)) rfl ?_
 exact ⟨_, eR, rX (Kd.R_mono (Kd.R_far (p := ⟨gb343, 0, none⟩) (Kd.R_far (p := ⟨gb344, 0, none⟩) (Kd.R_types (Kd.R_types HO347.out BK344.out (by decide)) b9a.out (by decide)) (fun _ hk => hk.1.2) (.slice Ao10 t345.length co10)) (fun _ hk => hk.2) (.slice Ao10 t345.length co10)) (fun _ hk => trivial)), iB HB⟩
end Go.Proofs.Ytddebnchbbmbkaa.PFnExactRecall
