-- The machine side of a law: written by a program of this session (wip/tools), a turned print.
import Derived.Test.YtobkmpihjfiihaaPFnExactReplayx0
import Derived.Test.YtobkmpihjfiihaaPFnExactReplayx12
namespace Go.Proofs.Ytobkmpihjfiihaa.PFnExactReplay
open Go.RowKit Go.Proofs.YtobkmpihjfiihaaW.PrintWords Go.Proofs.YtobkmpihjfiihaaW.PrintLast Go.Proofs.YtobkmpihjfiihaaW.PrintMore
attribute [local go_sem] max2_int min2_int max_two min_two max_three min_three max_four min_four   -- for this text's walks alone
set_option linter.unusedVariables false
set_option linter.unusedSimpArgs false

/-! ### impl_ShowRec: function 114 -/
def impl_ShowRec.f (k : Nat) (a0_0 : Int) (a0_1 : Int) (a0_2 : Int) (a0_3 : Int) (a0_4 : ByteArray) : Option (ByteArray) := (impl_RecOk.f a0_0 a0_1 a0_2 a0_3 a0_4).bind fun t292 => (if t292 = true then ((some (([(a0_0) % 256] : List Int) : List Int)).bind fun y293 => ((impl_Var.f k a0_1).bind fun t296 => (if (strOfNums y293).size + t296.size ≤ 9223372036854775807 then ((impl_Var.f k a0_2).bind fun t297 => (if ((strOfNums y293) ++ t296).size + t297.size ≤ 9223372036854775807 then ((impl_Var.f k (wrap64 (a0_3 + 1))).bind fun t298 => (if (((strOfNums y293) ++ t296) ++ t297).size + t298.size ≤ 9223372036854775807 then (if ((((strOfNums y293) ++ t296) ++ t297) ++ t298).size + a0_4.size ≤ 9223372036854775807 then (some (((((strOfNums y293) ++ t296) ++ t297) ++ t298) ++ a0_4)) else (none)) else (none))) else (none))) else (none)))) else (some (⟨#[]⟩ : ByteArray)))
theorem impl_ShowRec.mono : ∀ a0 a1 a2 a3 a4 k, LeO (impl_ShowRec.f k a0 a1 a2 a3 a4) (impl_ShowRec.f (k + 1) a0 a1 a2 a3 a4) := by
 intro a0 a1 a2 a3 a4 k
 unfold impl_ShowRec.f
 repeat' first
   | (with_reducible exact impl_Var.mono _ _)
   | (with_reducible exact LeO.refl _)
   | (with_reducible exact LeO.none _)
   | (with_reducible refine LeO.ite ?_ ?_)
   | (with_reducible refine LeO.bind ?_ (fun _ => ?_))
   | exact impl_Var.mono _ _
   | exact LeO.none _
   | refine LeO.ite ?_ ?_
   | refine LeO.bind ?_ (fun _ => ?_)
def impl_ShowRec.T3 : Bool × List (List Nat × List Nat) := (true, [([], []), ([0], [0]), ([1], [1]), ([2], [2]), ([3], [3]), ([], []), ([5], [5]), ([6], [6]), ([4, 7], [4, 7]), ([], []), ([9], [9]), ([10, 7], [10]), ([8, 11], [8, 11]), ([], []), ([13], [13]), ([14], [14]), ([15, 11], [15]), ([12, 16], [12, 16]), ([], []), ([18], [18]), ([17, 19], [17, 19]), ([20, 16, 0, 1, 2, 3, 4, 5, 6, 7, 8, 9, 10, 11, 12, 13, 14, 15, 16, 17, 18, 19, 20], [20])])
def impl_ShowRec.B3 : List Nat := [0, 1, 3, 7, 15, 0, 32, 96, 255, 0, 512, 1760, 4095, 0, 8192, 24576, 61152, 131071, 0, 262144, 1048575, 2097151]
theorem impl_ShowRec.tab3 : rtab .any (opsOf Try.f114 3) = impl_ShowRec.T3 := by kernel_rfl
theorem impl_ShowRec.bits3 : waitsOk impl_ShowRec.T3.2 impl_ShowRec.B3 = true := by kernel_rfl
set_option maxHeartbeats 8000000 in
set_option maxRecDepth 100000 in
theorem impl_ShowRec.calls (k : Nat) (a0_0 : Int) (a0_1 : Int) (a0_2 : Int) (a0_3 : Int) (a0_4 : ByteArray) (r : ByteArray) (w : World) (h : impl_ShowRec.f k a0_0 a0_1 a0_2 a0_3 a0_4 = some r) :
  Calls Try.prog 114 #[.agg #[.int .i64 a0_0, .int .i64 a0_1, .int .i64 a0_2, .int .i64 a0_3, .string a0_4]] w fun e w' => e = .returned (.string r) ∧ Below w.heap.size w w' := by
 have hu96 := Try.underlying96
 have HB := Aside0.mk (Below.refl w.heap.size w)
 have H : ((impl_RecOk.f a0_0 a0_1 a0_2 a0_3 a0_4).bind fun t292 => (if t292 = true then ((some (([(a0_0) % 256] : List Int) : List Int)).bind fun y293 => ((impl_Var.f k a0_1).bind fun t296 => (if (strOfNums y293).size + t296.size ≤ 9223372036854775807 then ((impl_Var.f k a0_2).bind fun t297 => (if ((strOfNums y293) ++ t296).size + t297.size ≤ 9223372036854775807 then ((impl_Var.f k (wrap64 (a0_3 + 1))).bind fun t298 => (if (((strOfNums y293) ++ t296) ++ t297).size + t298.size ≤ 9223372036854775807 then (if ((((strOfNums y293) ++ t296) ++ t297) ++ t298).size + a0_4.size ≤ 9223372036854775807 then (some (((((strOfNums y293) ++ t296) ++ t297) ++ t298) ++ a0_4)) else (none)) else (none))) else (none))) else (none)))) else (some (⟨#[]⟩ : ByteArray)))) = some r := h
 clear h; replace H := Option.bind_eq_some_iff.mp H
 obtain ⟨t292, A20, H⟩ := H
 replace H : (if t292 = true then ((some (([(a0_0) % 256] : List Int) : List Int)).bind fun y293 => ((impl_Var.f k a0_1).bind fun t296 => (if (strOfNums y293).size + t296.size ≤ 9223372036854775807 then ((impl_Var.f k a0_2).bind fun t297 => (if ((strOfNums y293) ++ t296).size + t297.size ≤ 9223372036854775807 then ((impl_Var.f k (wrap64 (a0_3 + 1))).bind fun t298 => (if (((strOfNums y293) ++ t296) ++ t297).size + t298.size ≤ 9223372036854775807 then (if ((((strOfNums y293) ++ t296) ++ t297) ++ t298).size + a0_4.size ≤ 9223372036854775807 then (some (((((strOfNums y293) ++ t296) ++ t297) ++ t298) ++ a0_4)) else (none)) else (none))) else (none))) else (none)))) else (some (⟨#[]⟩ : ByteArray))) = some r := H
 have A2 := Aside0.mk A20
 clear A20
 by_cases c3 : t292 = true
 ·subst c3
  have H1 : ((some (([(a0_0) % 256] : List Int) : List Int)).bind fun y293 => ((impl_Var.f k a0_1).bind fun t296 => (if (strOfNums y293).size + t296.size ≤ 9223372036854775807 then ((impl_Var.f k a0_2).bind fun t297 => (if ((strOfNums y293) ++ t296).size + t297.size ≤ 9223372036854775807 then ((impl_Var.f k (wrap64 (a0_3 + 1))).bind fun t298 => (if (((strOfNums y293) ++ t296) ++ t297).size + t298.size ≤ 9223372036854775807 then (if ((((strOfNums y293) ++ t296) ++ t297) ++ t298).size + a0_4.size ≤ 9223372036854775807 then (some (((((strOfNums y293) ++ t296) ++ t297) ++ t298) ++ a0_4)) else (none)) else (none))) else (none))) else (none)))) = some r := by rw [if_pos rfl] at H; exact H
  clear H; have H := H1
  clear H1; obtain ⟨y293, hy293⟩ : ∃ y_ : List Int, y_ = (([(a0_0) % 256] : List Int)) := ⟨_, rfl⟩
  replace H : ((impl_Var.f k a0_1).bind fun t296 => (if (strOfNums y293).size + t296.size ≤ 9223372036854775807 then ((impl_Var.f k a0_2).bind fun t297 => (if ((strOfNums y293) ++ t296).size + t297.size ≤ 9223372036854775807 then ((impl_Var.f k (wrap64 (a0_3 + 1))).bind fun t298 => (if (((strOfNums y293) ++ t296) ++ t297).size + t298.size ≤ 9223372036854775807 then (if ((((strOfNums y293) ++ t296) ++ t297) ++ t298).size + a0_4.size ≤ 9223372036854775807 then (some (((((strOfNums y293) ++ t296) ++ t297) ++ t298) ++ a0_4)) else (none)) else (none))) else (none))) else (none))) = some r := by first | (rw [hy293]; with_reducible exact H) | (have H2_ := (Option.bind_some _ _).symm.trans H; rw [hy293]; with_reducible exact H2_) | (have H2_ := (Option.bind_some _ _).symm.trans H; with_reducible exact H2_) | with_reducible exact H | (rw [hy293]; exact H) | exact H
  have Ny293 := Aside0.mk hy293
  clear hy293; replace H := Option.bind_eq_some_iff.mp H
  obtain ⟨t296, A40, H⟩ := H
  replace H : (if (strOfNums y293).size + t296.size ≤ 9223372036854775807 then ((impl_Var.f k a0_2).bind fun t297 => (if ((strOfNums y293) ++ t296).size + t297.size ≤ 9223372036854775807 then ((impl_Var.f k (wrap64 (a0_3 + 1))).bind fun t298 => (if (((strOfNums y293) ++ t296) ++ t297).size + t298.size ≤ 9223372036854775807 then (if ((((strOfNums y293) ++ t296) ++ t297) ++ t298).size + a0_4.size ≤ 9223372036854775807 then (some (((((strOfNums y293) ++ t296) ++ t297) ++ t298) ++ a0_4)) else (none)) else (none))) else (none))) else (none)) = some r := H
  have A4 := Aside0.mk A40
  clear A40
  by_cases c5 : (strOfNums y293).size + t296.size ≤ 9223372036854775807
  ·rw [if_pos c5] at H
   have c5b0 := eq_true c5
   have c5b1 : decide ((strOfNums y293).size + t296.size ≤ 9223372036854775807) = true := decide_eq_true c5
   try have c5b2 : (9223372036854775807 < (strOfNums y293).size + t296.size) = False := eq_false (Nat.not_lt.2 c5)
   replace H := Option.bind_eq_some_iff.mp H
   obtain ⟨t297, A60, H⟩ := H
   replace H : (if ((strOfNums y293) ++ t296).size + t297.size ≤ 9223372036854775807 then ((impl_Var.f k (wrap64 (a0_3 + 1))).bind fun t298 => (if (((strOfNums y293) ++ t296) ++ t297).size + t298.size ≤ 9223372036854775807 then (if ((((strOfNums y293) ++ t296) ++ t297) ++ t298).size + a0_4.size ≤ 9223372036854775807 then (some (((((strOfNums y293) ++ t296) ++ t297) ++ t298) ++ a0_4)) else (none)) else (none))) else (none)) = some r := H
   have A6 := Aside0.mk A60
   clear A60
   by_cases c7 : ((strOfNums y293) ++ t296).size + t297.size ≤ 9223372036854775807
   ·rw [if_pos c7] at H
    have c7b0 := eq_true c7
    have c7b1 : decide (((strOfNums y293) ++ t296).size + t297.size ≤ 9223372036854775807) = true := decide_eq_true c7
    try have c7b2 : (9223372036854775807 < ((strOfNums y293) ++ t296).size + t297.size) = False := eq_false (Nat.not_lt.2 c7)
    try have c7b6 : (9223372036854775807 < ((strOfNums y293).size + t296.size) + t297.size) = False := eq_false (by have h_ := c7; simp only [ByteArray.size_append] at h_; omega)
    replace H := Option.bind_eq_some_iff.mp H
    obtain ⟨t298, A80, H⟩ := H
    replace H : (if (((strOfNums y293) ++ t296) ++ t297).size + t298.size ≤ 9223372036854775807 then (if ((((strOfNums y293) ++ t296) ++ t297) ++ t298).size + a0_4.size ≤ 9223372036854775807 then (some (((((strOfNums y293) ++ t296) ++ t297) ++ t298) ++ a0_4)) else (none)) else (none)) = some r := H
    have A8 := Aside0.mk A80
    clear A80
    by_cases c9 : (((strOfNums y293) ++ t296) ++ t297).size + t298.size ≤ 9223372036854775807
    ·rw [if_pos c9] at H
     have c9b0 := eq_true c9
     have c9b1 : decide ((((strOfNums y293) ++ t296) ++ t297).size + t298.size ≤ 9223372036854775807) = true := decide_eq_true c9
     try have c9b2 : (9223372036854775807 < (((strOfNums y293) ++ t296) ++ t297).size + t298.size) = False := eq_false (Nat.not_lt.2 c9)
     try have c9b6 : (9223372036854775807 < (((strOfNums y293).size + t296.size) + t297.size) + t298.size) = False := eq_false (by have h_ := c9; simp only [ByteArray.size_append] at h_; omega)
     by_cases c10 : ((((strOfNums y293) ++ t296) ++ t297) ++ t298).size + a0_4.size ≤ 9223372036854775807
     ·rw [if_pos c10] at H
      have c10b0 := eq_true c10
      have c10b1 : decide (((((strOfNums y293) ++ t296) ++ t297) ++ t298).size + a0_4.size ≤ 9223372036854775807) = true := decide_eq_true c10
      try have c10b2 : (9223372036854775807 < ((((strOfNums y293) ++ t296) ++ t297) ++ t298).size + a0_4.size) = False := eq_false (Nat.not_lt.2 c10)
      try have c10b6 : (9223372036854775807 < ((((strOfNums y293).size + t296.size) + t297.size) + t298.size) + a0_4.size) = False := eq_false (by have h_ := c10; simp only [ByteArray.size_append] at h_; omega)
      obtain rfl := Option.some.inj H
      go_enter Try.func114, Try.ntmps114
      try go_wp2_with (first | ((with_reducible refine gate_dst (N := 1) rfl ?_); refine box_event ?hg (N := 1) ?hd (cs := #[.int .i64 a0_0, .int .i64 a0_1, .int .i64 a0_2, .int .i64 a0_3, .string a0_4]) (t := 96) ?hr ?_; (case hd => rfl); (case hg => rfl); (case hr => first | (go_simp; done) | (go_simp; rfl)); intro gb291 hg w11 hbox hb; have BK291 := Aside0.mk (hbox); have GW291 := bs HB hg; have GE291 := bs HB hg; replace HB := bh HB hb; clear hb hbox hg; obtain ⟨hcz12_0, hcz12_1, hcz12_2, hcz12_3, hcz12_4⟩ := cs5 BK291; obtain ⟨hfz12_0, hfz12_1, hfz12_2, hfz12_3, hfz12_4⟩ := fs5 BK291) | ((with_reducible refine gate_callee (f := 146) rfl ?_); refine goesL_ (some 4) rfl rfl Try.func146 (by kernel_rfl) rfl #[.agg #[.int .i64 a0_0, .int .i64 a0_1, .int .i64 a0_2, .int .i64 a0_3, .string a0_4]] rfl (by (try simp only [List.map_toArray, List.map_cons, List.map_nil]); first | done | rfl | (simp only [List.length_drop, List.length_take]; rfl)) ?_; (with_reducible refine (impl_RecOk.calls a0_0 a0_1 a0_2 a0_3 a0_4 true _ A2.out).mono ?_); rintro e w13 ⟨rfl, hb⟩; refine ⟨_, rfl, ?_⟩; replace BK291 := bq BK291 hb; replace HB := bh HB hb; (try clear hb); (try clear hb2); (try clear hk); (try clear hi)))
      have n0_ := Aside0.mk (blk_drew BK291.out)
      have n1_ := Aside0.mk (below_drew1 HB.out)
      clear BK291 HB; have BK291 := n0_; have HB := n1_; clear n0_ n1_; refine start_ (n := 22) (S := fun w' => w'.cell? ⟨gb291, 0, none⟩ = some (.int .i64 a0_0) ∧ w'.cell? ⟨gb291, 1, none⟩ = some (.int .i64 a0_1) ∧ w'.cell? ⟨gb291, 2, none⟩ = some (.int .i64 a0_2) ∧ w'.cell? ⟨gb291, 3, none⟩ = some (.int .i64 a0_3) ∧ w'.cell? ⟨gb291, 4, none⟩ = some (.string a0_4)) (ds := []) #[ff,ff,ff,ff,ff,ff,ff,ff,ff,ff,ff,ff,ff,ff,ff,ff,ff,ff,ff,ff,ff,ff] (by kernel_rfl) rfl rfl ⟨bc BK291 0, bc BK291 1, bc BK291 2, bc BK291 3, bc BK291 4⟩ (fun hHeld => ?_); refine with_tabW impl_ShowRec.tab3 impl_ShowRec.bits3 (fun HT_ HW_ => ?_)
      generalize w13.drew = w14 at BK291 HB hHeld ⊢
      refine pu 0 6 (tb 22 1) HT_ ?_
      refine pu 5 11 (tb 22 33) HT_ ?_
      refine pu 9 15 (tb 22 545) HT_ ?_
      refine pu 13 19 (tb 22 8737) HT_ ?_
      refine pu 18 24 (tb 22 270881) HT_ ?_
      refine tk 1 7 (tb 22 270883) rfl rfl HT_ HW_ hHeld (by rintro w' ⟨s0, s1, s2, s3, s4⟩; go_simp; with_reducible rfl) ?_
      refine pu 2 8 (tb 22 270887) HT_ ?_
      refine tk 6 12 (tb 22 270951) rfl rfl HT_ HW_ hHeld (by rintro w' ⟨s0, s1, s2, s3, s4⟩; go_simp; with_reducible rfl) ?_
      refine tk 10 16 (tb 22 271975) rfl rfl HT_ HW_ hHeld (by rintro w' ⟨s0, s1, s2, s3, s4⟩; go_simp; with_reducible rfl) ?_
      refine tk 14 20 (tb 22 288359) rfl rfl HT_ HW_ hHeld (by rintro w' ⟨s0, s1, s2, s3, s4⟩; go_simp; with_reducible rfl) ?_
      refine pu 15 21 (tb 22 321127) HT_ ?_
      refine tk 19 25 (tb 22 845415) rfl rfl HT_ HW_ hHeld (by rintro w' ⟨s0, s1, s2, s3, s4⟩; go_simp; with_reducible rfl) ?_
      refine join_ (σ := Value) 3 #[tt,tt,tt,tt,tt,tt,tt,tt,tt,tt,tt,tt,tt,tt,tt,tt,tt,ff,tt,tt,ff,ff] (fun s_ => [(9, s_), (10, .string (strOfNums y293)), (13, .string t296), (17, .string t297), (22, .string t298), (14, .string ((strOfNums y293) ++ t296)), (18, .string (((strOfNums y293) ++ t296) ++ t297))]) (fun s_ w' => (w'.cell? ⟨gb291, 0, none⟩ = some (.int .i64 a0_0) ∧ w'.cell? ⟨gb291, 1, none⟩ = some (.int .i64 a0_1) ∧ w'.cell? ⟨gb291, 2, none⟩ = some (.int .i64 a0_2) ∧ w'.cell? ⟨gb291, 3, none⟩ = some (.int .i64 a0_3) ∧ w'.cell? ⟨gb291, 4, none⟩ = some (.string a0_4)) ∧ (Kd.R (Kd.int .u8) 5 w' w.heap.size (fun _ => True) s_ y293) ∧ (w'.heap[gb291]? = some (.cells #[.int .i64 a0_0, .int .i64 a0_1, .int .i64 a0_2, .int .i64 a0_3, .string a0_4] 96 (0, 0))) ∧ (Below w.heap.size w w')) ?_ ?_
      rotate_left
      ·intro hJ3_4_7_11_16; refine join_ (σ := Value) 4 #[tt,tt,tt,tt,tt,tt,tt,tt,tt,tt,tt,tt,tt,tt,tt,tt,ff,ff,tt,tt,ff,ff] (fun s_ => [(9, s_), (10, .string (strOfNums y293)), (13, .string t296), (17, .string t297), (14, .string ((strOfNums y293) ++ t296)), (18, .string (((strOfNums y293) ++ t296) ++ t297))]) (fun s_ w' => (w'.cell? ⟨gb291, 0, none⟩ = some (.int .i64 a0_0) ∧ w'.cell? ⟨gb291, 1, none⟩ = some (.int .i64 a0_1) ∧ w'.cell? ⟨gb291, 2, none⟩ = some (.int .i64 a0_2) ∧ w'.cell? ⟨gb291, 3, none⟩ = some (.int .i64 a0_3) ∧ w'.cell? ⟨gb291, 4, none⟩ = some (.string a0_4)) ∧ (Kd.R (Kd.int .u8) 5 w' w.heap.size (fun _ => True) s_ y293) ∧ (w'.heap[gb291]? = some (.cells #[.int .i64 a0_0, .int .i64 a0_1, .int .i64 a0_2, .int .i64 a0_3, .string a0_4] 96 (0, 0))) ∧ (Below w.heap.size w w')) ?_ ?_
       rotate_left
       ·intro hJ3_4_7_11; refine join_ (σ := Value) 6 #[tt,tt,tt,tt,ff,tt,tt,tt,ff,tt,tt,tt,ff,tt,tt,tt,tt,ff,tt,tt,ff,ff] (fun s_ => [(9, s_), (13, .string t296), (17, .string t297), (22, .string t298)]) (fun s_ w' => (w'.cell? ⟨gb291, 0, none⟩ = some (.int .i64 a0_0) ∧ w'.cell? ⟨gb291, 1, none⟩ = some (.int .i64 a0_1) ∧ w'.cell? ⟨gb291, 2, none⟩ = some (.int .i64 a0_2) ∧ w'.cell? ⟨gb291, 3, none⟩ = some (.int .i64 a0_3) ∧ w'.cell? ⟨gb291, 4, none⟩ = some (.string a0_4)) ∧ (Kd.R (Kd.int .u8) 5 w' w.heap.size (fun _ => True) s_ y293) ∧ (w'.heap[gb291]? = some (.cells #[.int .i64 a0_0, .int .i64 a0_1, .int .i64 a0_2, .int .i64 a0_3, .string a0_4] 96 (0, 0))) ∧ (Below w.heap.size w w')) ?_ ?_
        rotate_left
        ·intro hJ3_7_11_16; refine join_ (σ := Value) 6 #[tt,tt,tt,tt,tt,tt,tt,tt,tt,tt,tt,ff,ff,tt,tt,tt,ff,ff,tt,tt,ff,ff] (fun s_ => [(9, s_), (10, .string (strOfNums y293)), (13, .string t296), (14, .string ((strOfNums y293) ++ t296))]) (fun s_ w' => (w'.cell? ⟨gb291, 0, none⟩ = some (.int .i64 a0_0) ∧ w'.cell? ⟨gb291, 1, none⟩ = some (.int .i64 a0_1) ∧ w'.cell? ⟨gb291, 2, none⟩ = some (.int .i64 a0_2) ∧ w'.cell? ⟨gb291, 3, none⟩ = some (.int .i64 a0_3) ∧ w'.cell? ⟨gb291, 4, none⟩ = some (.string a0_4)) ∧ (Kd.R (Kd.int .u8) 5 w' w.heap.size (fun _ => True) s_ y293) ∧ (w'.heap[gb291]? = some (.cells #[.int .i64 a0_0, .int .i64 a0_1, .int .i64 a0_2, .int .i64 a0_3, .string a0_4] 96 (0, 0))) ∧ (Below w.heap.size w w')) ?_ ?_
         rotate_left
         ·intro hJ3_4_7; refine join_ (σ := Value) 7 #[tt,tt,tt,tt,ff,tt,tt,tt,ff,tt,tt,tt,ff,tt,tt,tt,ff,ff,tt,tt,ff,ff] (fun s_ => [(9, s_), (13, .string t296), (17, .string t297)]) (fun s_ w' => (w'.cell? ⟨gb291, 0, none⟩ = some (.int .i64 a0_0) ∧ w'.cell? ⟨gb291, 1, none⟩ = some (.int .i64 a0_1) ∧ w'.cell? ⟨gb291, 2, none⟩ = some (.int .i64 a0_2) ∧ w'.cell? ⟨gb291, 3, none⟩ = some (.int .i64 a0_3) ∧ w'.cell? ⟨gb291, 4, none⟩ = some (.string a0_4)) ∧ (Kd.R (Kd.int .u8) 5 w' w.heap.size (fun _ => True) s_ y293) ∧ (w'.heap[gb291]? = some (.cells #[.int .i64 a0_0, .int .i64 a0_1, .int .i64 a0_2, .int .i64 a0_3, .string a0_4] 96 (0, 0))) ∧ (Below w.heap.size w w')) ?_ ?_
          rotate_left
          ·intro hJ3_7_11; refine join_ (σ := Unit) 7 #[tt,tt,tt,ff,ff,tt,tt,tt,ff,tt,tt,tt,ff,tt,tt,tt,tt,ff,tt,tt,ff,ff] (fun s_ => [(13, .string t296), (17, .string t297), (22, .string t298)]) (fun s_ w' => (w'.cell? ⟨gb291, 0, none⟩ = some (.int .i64 a0_0) ∧ w'.cell? ⟨gb291, 1, none⟩ = some (.int .i64 a0_1) ∧ w'.cell? ⟨gb291, 2, none⟩ = some (.int .i64 a0_2) ∧ w'.cell? ⟨gb291, 3, none⟩ = some (.int .i64 a0_3) ∧ w'.cell? ⟨gb291, 4, none⟩ = some (.string a0_4)) ∧ (w'.heap[gb291]? = some (.cells #[.int .i64 a0_0, .int .i64 a0_1, .int .i64 a0_2, .int .i64 a0_3, .string a0_4] 96 (0, 0))) ∧ (Below w.heap.size w w')) ?_ ?_
           rotate_left
           ·intro hJ7_11_16; refine join_ (σ := Value) 8 #[tt,tt,tt,tt,tt,tt,tt,ff,ff,tt,tt,ff,ff,tt,tt,tt,ff,ff,tt,tt,ff,ff] (fun s_ => [(9, s_), (10, .string (strOfNums y293))]) (fun s_ w' => (w'.cell? ⟨gb291, 0, none⟩ = some (.int .i64 a0_0) ∧ w'.cell? ⟨gb291, 1, none⟩ = some (.int .i64 a0_1) ∧ w'.cell? ⟨gb291, 2, none⟩ = some (.int .i64 a0_2) ∧ w'.cell? ⟨gb291, 3, none⟩ = some (.int .i64 a0_3) ∧ w'.cell? ⟨gb291, 4, none⟩ = some (.string a0_4)) ∧ (Kd.R (Kd.int .u8) 5 w' w.heap.size (fun _ => True) s_ y293) ∧ (w'.heap[gb291]? = some (.cells #[.int .i64 a0_0, .int .i64 a0_1, .int .i64 a0_2, .int .i64 a0_3, .string a0_4] 96 (0, 0))) ∧ (Below w.heap.size w w')) ?_ ?_
            rotate_left
            ·intro hJ3_4; refine join_ (σ := Value) 8 #[tt,tt,tt,tt,ff,tt,tt,tt,ff,tt,tt,ff,ff,tt,tt,tt,ff,ff,tt,tt,ff,ff] (fun s_ => [(9, s_), (13, .string t296)]) (fun s_ w' => (w'.cell? ⟨gb291, 0, none⟩ = some (.int .i64 a0_0) ∧ w'.cell? ⟨gb291, 1, none⟩ = some (.int .i64 a0_1) ∧ w'.cell? ⟨gb291, 2, none⟩ = some (.int .i64 a0_2) ∧ w'.cell? ⟨gb291, 3, none⟩ = some (.int .i64 a0_3) ∧ w'.cell? ⟨gb291, 4, none⟩ = some (.string a0_4)) ∧ (Kd.R (Kd.int .u8) 5 w' w.heap.size (fun _ => True) s_ y293) ∧ (w'.heap[gb291]? = some (.cells #[.int .i64 a0_0, .int .i64 a0_1, .int .i64 a0_2, .int .i64 a0_3, .string a0_4] 96 (0, 0))) ∧ (Below w.heap.size w w')) ?_ ?_
             rotate_left
             ·intro hJ3_7; refine join_ (σ := Unit) 8 #[tt,tt,tt,ff,ff,tt,tt,tt,ff,tt,tt,tt,ff,tt,tt,tt,ff,ff,tt,tt,ff,ff] (fun s_ => [(13, .string t296), (17, .string t297)]) (fun s_ w' => (w'.cell? ⟨gb291, 0, none⟩ = some (.int .i64 a0_0) ∧ w'.cell? ⟨gb291, 1, none⟩ = some (.int .i64 a0_1) ∧ w'.cell? ⟨gb291, 2, none⟩ = some (.int .i64 a0_2) ∧ w'.cell? ⟨gb291, 3, none⟩ = some (.int .i64 a0_3) ∧ w'.cell? ⟨gb291, 4, none⟩ = some (.string a0_4)) ∧ (w'.heap[gb291]? = some (.cells #[.int .i64 a0_0, .int .i64 a0_1, .int .i64 a0_2, .int .i64 a0_3, .string a0_4] 96 (0, 0))) ∧ (Below w.heap.size w w')) ?_ ?_
              rotate_left
              ·intro hJ7_11; refine join_ (σ := Value) 9 #[tt,tt,tt,tt,ff,tt,tt,ff,ff,tt,tt,ff,ff,tt,tt,tt,ff,ff,tt,tt,ff,ff] (fun s_ => [(9, s_)]) (fun s_ w' => (w'.cell? ⟨gb291, 0, none⟩ = some (.int .i64 a0_0) ∧ w'.cell? ⟨gb291, 1, none⟩ = some (.int .i64 a0_1) ∧ w'.cell? ⟨gb291, 2, none⟩ = some (.int .i64 a0_2) ∧ w'.cell? ⟨gb291, 3, none⟩ = some (.int .i64 a0_3) ∧ w'.cell? ⟨gb291, 4, none⟩ = some (.string a0_4)) ∧ (Kd.R (Kd.int .u8) 5 w' w.heap.size (fun _ => True) s_ y293) ∧ (w'.heap[gb291]? = some (.cells #[.int .i64 a0_0, .int .i64 a0_1, .int .i64 a0_2, .int .i64 a0_3, .string a0_4] 96 (0, 0))) ∧ (Below w.heap.size w w')) ?_ ?_
               rotate_left
               ·intro hJ3; refine join_ (σ := Unit) 9 #[tt,tt,tt,ff,ff,tt,tt,tt,ff,tt,tt,ff,ff,tt,tt,tt,ff,ff,tt,tt,ff,ff] (fun s_ => [(13, .string t296)]) (fun s_ w' => (w'.cell? ⟨gb291, 0, none⟩ = some (.int .i64 a0_0) ∧ w'.cell? ⟨gb291, 1, none⟩ = some (.int .i64 a0_1) ∧ w'.cell? ⟨gb291, 2, none⟩ = some (.int .i64 a0_2) ∧ w'.cell? ⟨gb291, 3, none⟩ = some (.int .i64 a0_3) ∧ w'.cell? ⟨gb291, 4, none⟩ = some (.string a0_4)) ∧ (w'.heap[gb291]? = some (.cells #[.int .i64 a0_0, .int .i64 a0_1, .int .i64 a0_2, .int .i64 a0_3, .string a0_4] 96 (0, 0))) ∧ (Below w.heap.size w w')) ?_ ?_
                rotate_left
                ·intro hJ7; refine two_ (i := 3) (j := 7) (Ni := some 9) (Nj := some 13) #[tt,tt,tt,tt,ff,tt,tt,ff,ff,tt,tt,ff,ff,tt,tt,tt,ff,ff,tt,tt,ff,ff] #[tt,tt,tt,ff,ff,tt,tt,tt,ff,tt,tt,ff,ff,tt,tt,tt,ff,ff,tt,tt,ff,ff] rfl rfl rfl rfl (two_of HT_.out (by kernel_rfl)) (by decide) (by decide) (fun K hK => ?_) (fun K hK => ?_)
                 ·skip
                  refine Kd.R_lit_step (Kd.int .u8) _ 5 ?hg (N := 9) ?hd (xs := ([(a0_0) % 256] : List Int)) (inner := [.int .u8 ((a0_0) % 256)]) (ok := fun _ => True) (okp := fun _ => True) ?hr ?hp (fun _ hk => hk) trivial (Below.refl _ _) (Nat.le_refl _) (by simp) ?_; (case hd => rfl); (case hg => rfl); (case hr => first | (go_simp; done) | (go_simp; rfl)); (case hp => exact (Reps.one (show Kd.M (Kd.int .u8) _ _ _ ((a0_0) % 256) [.int .u8 ((a0_0) % 256)] from rfl) (Reps.none _ _)))
                  intro v294 w15 ho16 hb hg_ hnew_
                  clear hg_ hnew_
                  (first | rw [← Ny293.out] at ho16 | (simp only [Int.reduceToNat] at ho16; rw [← Ny293.out] at ho16))
                  have HO295 := Aside0.mk (Kd.R_lower ho16 (below_size (be HB)))
                  replace BK291 := bq BK291 hb; replace HB := bh HB hb
                  clear hb ho16; refine hK.out _ _ ⟨bc BK291 0, bc BK291 1, bc BK291 2, bc BK291 3, bc BK291 4⟩ (fun hHeld => ?_)
                  clear hK K; refine norm_ (a' := ?_) ?_ ?_
                  rotate_left
                  ·show Act.put _ (some 9) _ = _
                   simp only [putL, i64_w, i32_w]; rfl
                  exact norm_ (by first | (simp only [putAll, putL]; done) | (simp only [putAll, putL]; rfl)) (hJ3 (v294) _ ⟨hHeld, (rr HO295), (by (with_reducible repeat first | refine bkN ?_ _ | refine bkD ?_ | refine bkA ?_ _); exact BK291.out), (be HB)⟩)
                 ·skip
                  refine goes_ Try.func149 (by kernel_rfl) rfl #[.int .i64 a0_1] (by rfl) rfl rfl (by (try simp only [List.map_toArray, List.map_cons, List.map_nil]); first | done | rfl | (simp only [List.length_drop, List.length_take]; rfl)) ?_
                  with_reducible refine (impl_Var.calls k a0_1 t296 _ A4.out).mono ?_
                  rintro e w15 ⟨rfl, hb⟩
                  refine ⟨_, rfl, ?_⟩
                  replace BK291 := bq BK291 hb; replace HB := bh HB hb
                  (try clear hb); (try clear hb2); (try clear hk); (try clear hi); refine hK.out _ _ ⟨bc BK291 0, bc BK291 1, bc BK291 2, bc BK291 3, bc BK291 4⟩ (fun hHeld => ?_)
                  clear hK K; refine norm_ (a' := ?_) ?_ ?_
                  rotate_left
                  ·show Act.put _ (some 13) _ = _
                   simp only [putL, i64_w, i32_w]; rfl
                  exact norm_ (by first | (simp only [putAll, putL]; done) | (simp only [putAll, putL]; rfl)) (hJ7 () _ ⟨hHeld, (by (with_reducible repeat first | refine bkN ?_ _ | refine bkD ?_ | refine bkA ?_ _); exact BK291.out), (be HB)⟩)
                ·skip
                 rintro _ w16 ⟨hS_, h0_, h1_⟩
                 have n0_ : Aside0 (w16.heap[gb291]? = some (.cells #[.int .i64 a0_0, .int .i64 a0_1, .int .i64 a0_2, .int .i64 a0_3, .string a0_4] 96 (0, 0))) := ⟨h0_⟩
                 have n1_ : Aside0 (Below w.heap.size w w16) := ⟨h1_⟩
                 clear BK291; clear HB; clear h0_ h1_; have BK291 := n0_; have HB := n1_; clear n0_ n1_; have hHeld : w16.cell? ⟨gb291, 0, none⟩ = some (.int .i64 a0_0) ∧ w16.cell? ⟨gb291, 1, none⟩ = some (.int .i64 a0_1) ∧ w16.cell? ⟨gb291, 2, none⟩ = some (.int .i64 a0_2) ∧ w16.cell? ⟨gb291, 3, none⟩ = some (.int .i64 a0_3) ∧ w16.cell? ⟨gb291, 4, none⟩ = some (.string a0_4) := hS_
                 refine norm_ (a' := ?_) ?_ ?_
                 rotate_left
                 ·simp only [putAll, putL]; rfl
                 refine two_ (i := 3) (j := 11) (Ni := some 9) (Nj := some 17) #[tt,tt,tt,tt,ff,tt,tt,tt,ff,tt,tt,ff,ff,tt,tt,tt,ff,ff,tt,tt,ff,ff] #[tt,tt,tt,ff,ff,tt,tt,tt,ff,tt,tt,tt,ff,tt,tt,tt,ff,ff,tt,tt,ff,ff] rfl rfl rfl rfl (two_of HT_.out (by kernel_rfl)) (by decide) (by decide) (fun K hK => ?_) (fun K hK => ?_)
                 ·skip
                  refine Kd.R_lit_step (Kd.int .u8) _ 5 ?hg (N := 9) ?hd (xs := ([(a0_0) % 256] : List Int)) (inner := [.int .u8 ((a0_0) % 256)]) (ok := fun _ => True) (okp := fun _ => True) ?hr ?hp (fun _ hk => hk) trivial (Below.refl _ _) (Nat.le_refl _) (by simp) ?_; (case hd => rfl); (case hg => rfl); (case hr => first | (go_simp; done) | (go_simp; rfl)); (case hp => exact (Reps.one (show Kd.M (Kd.int .u8) _ _ _ ((a0_0) % 256) [.int .u8 ((a0_0) % 256)] from rfl) (Reps.none _ _)))
                  intro v294 w17 ho18 hb hg_ hnew_
                  clear hg_ hnew_
                  (first | rw [← Ny293.out] at ho18 | (simp only [Int.reduceToNat] at ho18; rw [← Ny293.out] at ho18))
                  have HO295 := Aside0.mk (Kd.R_lower ho18 (below_size (be HB)))
                  replace BK291 := bq BK291 hb; replace HB := bh HB hb
                  clear hb ho18; refine hK.out _ _ ⟨bc BK291 0, bc BK291 1, bc BK291 2, bc BK291 3, bc BK291 4⟩ (fun hHeld => ?_)
                  clear hK K; refine norm_ (a' := ?_) ?_ ?_
                  rotate_left
                  ·show Act.put _ (some 9) _ = _
                   simp only [putL, i64_w, i32_w]; rfl
                  exact norm_ (by first | (simp only [putAll, putL]; done) | (simp only [putAll, putL]; rfl)) (hJ3_7 (v294) _ ⟨hHeld, (rr HO295), (by (with_reducible repeat first | refine bkN ?_ _ | refine bkD ?_ | refine bkA ?_ _); exact BK291.out), (be HB)⟩)
                 ·skip
                  refine goes_ Try.func149 (by kernel_rfl) rfl #[.int .i64 a0_2] (by rfl) rfl rfl (by (try simp only [List.map_toArray, List.map_cons, List.map_nil]); first | done | rfl | (simp only [List.length_drop, List.length_take]; rfl)) ?_
                  with_reducible refine (impl_Var.calls k a0_2 t297 _ A6.out).mono ?_
                  rintro e w17 ⟨rfl, hb⟩
                  refine ⟨_, rfl, ?_⟩
                  replace BK291 := bq BK291 hb; replace HB := bh HB hb
                  (try clear hb); (try clear hb2); (try clear hk); (try clear hi); refine hK.out _ _ ⟨bc BK291 0, bc BK291 1, bc BK291 2, bc BK291 3, bc BK291 4⟩ (fun hHeld => ?_)
                  clear hK K; refine norm_ (a' := ?_) ?_ ?_
                  rotate_left
                  ·show Act.put _ (some 17) _ = _
                   simp only [putL, i64_w, i32_w]; rfl
                  exact norm_ (by first | (simp only [putAll, putL]; done) | (simp only [putAll, putL]; rfl)) (hJ7_11 () _ ⟨hHeld, (by (with_reducible repeat first | refine bkN ?_ _ | refine bkD ?_ | refine bkA ?_ _); exact BK291.out), (be HB)⟩)
               ·skip
                rintro v294 w17 ⟨hS_, h0_, h1_, h2_⟩
                have n0_ : Aside0 (Kd.R (Kd.int .u8) 5 w17 w.heap.size (fun _ => True) v294 y293) := ⟨h0_⟩
                have n1_ : Aside0 (w17.heap[gb291]? = some (.cells #[.int .i64 a0_0, .int .i64 a0_1, .int .i64 a0_2, .int .i64 a0_3, .string a0_4] 96 (0, 0))) := ⟨h1_⟩
                have n2_ : Aside0 (Below w.heap.size w w17) := ⟨h2_⟩
                clear BK291; clear HB; clear h0_ h1_ h2_; have HO295 := n0_; have BK291 := n1_; have HB := n2_; clear n0_ n1_ n2_; have hHeld : w17.cell? ⟨gb291, 0, none⟩ = some (.int .i64 a0_0) ∧ w17.cell? ⟨gb291, 1, none⟩ = some (.int .i64 a0_1) ∧ w17.cell? ⟨gb291, 2, none⟩ = some (.int .i64 a0_2) ∧ w17.cell? ⟨gb291, 3, none⟩ = some (.int .i64 a0_3) ∧ w17.cell? ⟨gb291, 4, none⟩ = some (.string a0_4) := hS_
                refine norm_ (a' := ?_) ?_ ?_
                rotate_left
                ·simp only [putAll, putL]; rfl
                refine two_ (i := 4) (j := 7) (Ni := some 10) (Nj := some 13) #[tt,tt,tt,tt,tt,tt,tt,ff,ff,tt,tt,ff,ff,tt,tt,tt,ff,ff,tt,tt,ff,ff] #[tt,tt,tt,tt,ff,tt,tt,tt,ff,tt,tt,ff,ff,tt,tt,tt,ff,ff,tt,tt,ff,ff] rfl rfl rfl rfl (two_of HT_.out (by kernel_rfl)) (by decide) (by decide) (fun K hK => ?_) (fun K hK => ?_)
                ·skip
                 have hcv18 := own_string (P := Try.prog) Try.underlying68 Try.underlying5 Try.underlying9 (Kd.own_of_R HO295.out)
                 refine value_ (w1 := ?_) (v := ?_) (by rfl) rfl ?_ ?_
                 rotate_left 2
                 ·go_simp
                  constructor
                  ·rfl
                  ·rfl
                 clear hcv18; refine hK.out _ _ ⟨bc BK291 0, bc BK291 1, bc BK291 2, bc BK291 3, bc BK291 4⟩ (fun hHeld => ?_)
                 clear hK K; refine norm_ (a' := ?_) ?_ ?_
                 rotate_left
                 ·show Act.put _ (some 10) _ = _
                  simp only [putL, i64_w, i32_w]; rfl
                 exact norm_ (by first | (simp only [putAll, putL]; done) | (simp only [putAll, putL]; rfl)) (hJ3_4 (v294) _ ⟨hHeld, (rr HO295), (by (with_reducible repeat first | refine bkN ?_ _ | refine bkD ?_ | refine bkA ?_ _); exact BK291.out), (be HB)⟩)
                ·skip
                 refine goes_ Try.func149 (by kernel_rfl) rfl #[.int .i64 a0_1] (by rfl) rfl rfl (by (try simp only [List.map_toArray, List.map_cons, List.map_nil]); first | done | rfl | (simp only [List.length_drop, List.length_take]; rfl)) ?_
                 with_reducible refine (impl_Var.calls k a0_1 t296 _ A4.out).mono ?_
                 rintro e w18 ⟨rfl, hb⟩
                 refine ⟨_, rfl, ?_⟩
                 replace HO295 := Aside0.mk (Kd.R_below (rr HO295) hb); replace BK291 := bq BK291 hb; replace HB := bh HB hb
                 (try clear hb); (try clear hb2); (try clear hk); (try clear hi); refine hK.out _ _ ⟨bc BK291 0, bc BK291 1, bc BK291 2, bc BK291 3, bc BK291 4⟩ (fun hHeld => ?_)
                 clear hK K; refine norm_ (a' := ?_) ?_ ?_
                 rotate_left
                 ·show Act.put _ (some 13) _ = _
                  simp only [putL, i64_w, i32_w]; rfl
                 exact norm_ (by first | (simp only [putAll, putL]; done) | (simp only [putAll, putL]; rfl)) (hJ3_7 (v294) _ ⟨hHeld, (rr HO295), (by (with_reducible repeat first | refine bkN ?_ _ | refine bkD ?_ | refine bkA ?_ _); exact BK291.out), (be HB)⟩)
              ·skip
               rintro _ w17 ⟨hS_, h0_, h1_⟩
               have n0_ : Aside0 (w17.heap[gb291]? = some (.cells #[.int .i64 a0_0, .int .i64 a0_1, .int .i64 a0_2, .int .i64 a0_3, .string a0_4] 96 (0, 0))) := ⟨h0_⟩
               have n1_ : Aside0 (Below w.heap.size w w17) := ⟨h1_⟩
               clear BK291; clear HB; clear h0_ h1_; have BK291 := n0_; have HB := n1_; clear n0_ n1_; have hHeld : w17.cell? ⟨gb291, 0, none⟩ = some (.int .i64 a0_0) ∧ w17.cell? ⟨gb291, 1, none⟩ = some (.int .i64 a0_1) ∧ w17.cell? ⟨gb291, 2, none⟩ = some (.int .i64 a0_2) ∧ w17.cell? ⟨gb291, 3, none⟩ = some (.int .i64 a0_3) ∧ w17.cell? ⟨gb291, 4, none⟩ = some (.string a0_4) := hS_
               refine norm_ (a' := ?_) ?_ ?_
               rotate_left
               ·simp only [putAll, putL]; rfl
               refine two_ (i := 3) (j := 16) (Ni := some 9) (Nj := some 22) #[tt,tt,tt,tt,ff,tt,tt,tt,ff,tt,tt,tt,ff,tt,tt,tt,ff,ff,tt,tt,ff,ff] #[tt,tt,tt,ff,ff,tt,tt,tt,ff,tt,tt,tt,ff,tt,tt,tt,tt,ff,tt,tt,ff,ff] rfl rfl rfl rfl (two_of HT_.out (by kernel_rfl)) (by decide) (by decide) (fun K hK => ?_) (fun K hK => ?_)
               ·skip
                refine Kd.R_lit_step (Kd.int .u8) _ 5 ?hg (N := 9) ?hd (xs := ([(a0_0) % 256] : List Int)) (inner := [.int .u8 ((a0_0) % 256)]) (ok := fun _ => True) (okp := fun _ => True) ?hr ?hp (fun _ hk => hk) trivial (Below.refl _ _) (Nat.le_refl _) (by simp) ?_; (case hd => rfl); (case hg => rfl); (case hr => first | (go_simp; done) | (go_simp; rfl)); (case hp => exact (Reps.one (show Kd.M (Kd.int .u8) _ _ _ ((a0_0) % 256) [.int .u8 ((a0_0) % 256)] from rfl) (Reps.none _ _)))
                intro v294 w18 ho19 hb hg_ hnew_
                clear hg_ hnew_
                (first | rw [← Ny293.out] at ho19 | (simp only [Int.reduceToNat] at ho19; rw [← Ny293.out] at ho19))
                have HO295 := Aside0.mk (Kd.R_lower ho19 (below_size (be HB)))
                replace BK291 := bq BK291 hb; replace HB := bh HB hb
                clear hb ho19; refine hK.out _ _ ⟨bc BK291 0, bc BK291 1, bc BK291 2, bc BK291 3, bc BK291 4⟩ (fun hHeld => ?_)
                clear hK K; refine norm_ (a' := ?_) ?_ ?_
                rotate_left
                ·show Act.put _ (some 9) _ = _
                 simp only [putL, i64_w, i32_w]; rfl
                exact norm_ (by first | (simp only [putAll, putL]; done) | (simp only [putAll, putL]; rfl)) (hJ3_7_11 (v294) _ ⟨hHeld, (rr HO295), (by (with_reducible repeat first | refine bkN ?_ _ | refine bkD ?_ | refine bkA ?_ _); exact BK291.out), (be HB)⟩)
               ·skip
                refine goes_ Try.func149 (by kernel_rfl) rfl #[.int .i64 (wrap64 (a0_3 + 1))] (by rfl) rfl rfl (by (try simp only [List.map_toArray, List.map_cons, List.map_nil]); first | done | rfl | (simp only [List.length_drop, List.length_take]; rfl)) ?_
                with_reducible refine (impl_Var.calls k (wrap64 (a0_3 + 1)) t298 _ A8.out).mono ?_
                rintro e w18 ⟨rfl, hb⟩
                refine ⟨_, rfl, ?_⟩
                replace BK291 := bq BK291 hb; replace HB := bh HB hb
                (try clear hb); (try clear hb2); (try clear hk); (try clear hi); refine hK.out _ _ ⟨bc BK291 0, bc BK291 1, bc BK291 2, bc BK291 3, bc BK291 4⟩ (fun hHeld => ?_)
                clear hK K; refine norm_ (a' := ?_) ?_ ?_
                rotate_left
                ·show Act.put _ (some 22) _ = _
                 simp only [putL, i64_w, i32_w]; rfl
                exact norm_ (by first | (simp only [putAll, putL]; done) | (simp only [putAll, putL]; rfl)) (hJ7_11_16 () _ ⟨hHeld, (by (with_reducible repeat first | refine bkN ?_ _ | refine bkD ?_ | refine bkA ?_ _); exact BK291.out), (be HB)⟩)
             ·skip
              rintro v294 w18 ⟨hS_, h0_, h1_, h2_⟩
              have n0_ : Aside0 (Kd.R (Kd.int .u8) 5 w18 w.heap.size (fun _ => True) v294 y293) := ⟨h0_⟩
              have n1_ : Aside0 (w18.heap[gb291]? = some (.cells #[.int .i64 a0_0, .int .i64 a0_1, .int .i64 a0_2, .int .i64 a0_3, .string a0_4] 96 (0, 0))) := ⟨h1_⟩
              have n2_ : Aside0 (Below w.heap.size w w18) := ⟨h2_⟩
              clear BK291; clear HB; clear h0_ h1_ h2_; have HO295 := n0_; have BK291 := n1_; have HB := n2_; clear n0_ n1_ n2_; have hHeld : w18.cell? ⟨gb291, 0, none⟩ = some (.int .i64 a0_0) ∧ w18.cell? ⟨gb291, 1, none⟩ = some (.int .i64 a0_1) ∧ w18.cell? ⟨gb291, 2, none⟩ = some (.int .i64 a0_2) ∧ w18.cell? ⟨gb291, 3, none⟩ = some (.int .i64 a0_3) ∧ w18.cell? ⟨gb291, 4, none⟩ = some (.string a0_4) := hS_
              refine norm_ (a' := ?_) ?_ ?_
              rotate_left
              ·simp only [putAll, putL]; rfl
              refine two_ (i := 4) (j := 11) (Ni := some 10) (Nj := some 17) #[tt,tt,tt,tt,tt,tt,tt,tt,ff,tt,tt,ff,ff,tt,tt,tt,ff,ff,tt,tt,ff,ff] #[tt,tt,tt,tt,ff,tt,tt,tt,ff,tt,tt,tt,ff,tt,tt,tt,ff,ff,tt,tt,ff,ff] rfl rfl rfl rfl (two_of HT_.out (by kernel_rfl)) (by decide) (by decide) (fun K hK => ?_) (fun K hK => ?_)
              ·skip
               have hcv19 := own_string (P := Try.prog) Try.underlying68 Try.underlying5 Try.underlying9 (Kd.own_of_R HO295.out)
               refine value_ (w1 := ?_) (v := ?_) (by rfl) rfl ?_ ?_
               rotate_left 2
               ·go_simp
                constructor
                ·rfl
                ·rfl
               clear hcv19; refine hK.out _ _ ⟨bc BK291 0, bc BK291 1, bc BK291 2, bc BK291 3, bc BK291 4⟩ (fun hHeld => ?_)
               clear hK K; refine norm_ (a' := ?_) ?_ ?_
               rotate_left
               ·show Act.put _ (some 10) _ = _
                simp only [putL, i64_w, i32_w]; rfl
               refine pu 8 14 (tb 22 845823) HT_ ?_
               exact norm_ (by first | (simp only [putAll, putL]; done) | (simp only [putAll, putL]; rfl)) (hJ3_4_7 (v294) _ ⟨hHeld, (rr HO295), (by (with_reducible repeat first | refine bkN ?_ _ | refine bkD ?_ | refine bkA ?_ _); exact BK291.out), (be HB)⟩)
              ·skip
               refine goes_ Try.func149 (by kernel_rfl) rfl #[.int .i64 a0_2] (by rfl) rfl rfl (by (try simp only [List.map_toArray, List.map_cons, List.map_nil]); first | done | rfl | (simp only [List.length_drop, List.length_take]; rfl)) ?_
               with_reducible refine (impl_Var.calls k a0_2 t297 _ A6.out).mono ?_
               rintro e w19 ⟨rfl, hb⟩
               refine ⟨_, rfl, ?_⟩
               replace HO295 := Aside0.mk (Kd.R_below (rr HO295) hb); replace BK291 := bq BK291 hb; replace HB := bh HB hb
               (try clear hb); (try clear hb2); (try clear hk); (try clear hi); refine hK.out _ _ ⟨bc BK291 0, bc BK291 1, bc BK291 2, bc BK291 3, bc BK291 4⟩ (fun hHeld => ?_)
               clear hK K; refine norm_ (a' := ?_) ?_ ?_
               rotate_left
               ·show Act.put _ (some 17) _ = _
                simp only [putL, i64_w, i32_w]; rfl
               exact norm_ (by first | (simp only [putAll, putL]; done) | (simp only [putAll, putL]; rfl)) (hJ3_7_11 (v294) _ ⟨hHeld, (rr HO295), (by (with_reducible repeat first | refine bkN ?_ _ | refine bkD ?_ | refine bkA ?_ _); exact BK291.out), (be HB)⟩)
            ·skip
             rintro v294 w18 ⟨hS_, h0_, h1_, h2_⟩
             have n0_ : Aside0 (Kd.R (Kd.int .u8) 5 w18 w.heap.size (fun _ => True) v294 y293) := ⟨h0_⟩
             have n1_ : Aside0 (w18.heap[gb291]? = some (.cells #[.int .i64 a0_0, .int .i64 a0_1, .int .i64 a0_2, .int .i64 a0_3, .string a0_4] 96 (0, 0))) := ⟨h1_⟩
             have n2_ : Aside0 (Below w.heap.size w w18) := ⟨h2_⟩
             clear BK291; clear HB; clear h0_ h1_ h2_; have HO295 := n0_; have BK291 := n1_; have HB := n2_; clear n0_ n1_ n2_; have hHeld : w18.cell? ⟨gb291, 0, none⟩ = some (.int .i64 a0_0) ∧ w18.cell? ⟨gb291, 1, none⟩ = some (.int .i64 a0_1) ∧ w18.cell? ⟨gb291, 2, none⟩ = some (.int .i64 a0_2) ∧ w18.cell? ⟨gb291, 3, none⟩ = some (.int .i64 a0_3) ∧ w18.cell? ⟨gb291, 4, none⟩ = some (.string a0_4) := hS_
             refine norm_ (a' := ?_) ?_ ?_
             rotate_left
             ·simp only [putAll, putL]; rfl
             refine one_ (i := 7) (N := some 13) #[tt,tt,tt,tt,tt,tt,tt,tt,ff,tt,tt,ff,ff,tt,tt,tt,ff,ff,tt,tt,ff,ff] rfl rfl (one_of HT_.out (by kernel_rfl)) (by decide) (fun K hK => ?_)
             refine goes_ Try.func149 (by kernel_rfl) rfl #[.int .i64 a0_1] (by rfl) rfl rfl (by (try simp only [List.map_toArray, List.map_cons, List.map_nil]); first | done | rfl | (simp only [List.length_drop, List.length_take]; rfl)) ?_
             with_reducible refine (impl_Var.calls k a0_1 t296 _ A4.out).mono ?_
             rintro e w19 ⟨rfl, hb⟩
             refine ⟨_, rfl, ?_⟩
             replace HO295 := Aside0.mk (Kd.R_below (rr HO295) hb); replace BK291 := bq BK291 hb; replace HB := bh HB hb
             (try clear hb); (try clear hb2); (try clear hk); (try clear hi); refine hK.out _ _ ⟨bc BK291 0, bc BK291 1, bc BK291 2, bc BK291 3, bc BK291 4⟩ (fun hHeld => ?_)
             clear hK K; refine norm_ (a' := ?_) ?_ ?_
             rotate_left
             ·show Act.put _ (some 13) _ = _
              simp only [putL, i64_w, i32_w]; rfl
             refine pu 8 14 (tb 22 845823) HT_ ?_
             exact norm_ (by first | (simp only [putAll, putL]; done) | (simp only [putAll, putL]; rfl)) (hJ3_4_7 (v294) _ ⟨hHeld, (rr HO295), (by (with_reducible repeat first | refine bkN ?_ _ | refine bkD ?_ | refine bkA ?_ _); exact BK291.out), (be HB)⟩)
           ·skip
            rintro _ w18 ⟨hS_, h0_, h1_⟩
            have n0_ : Aside0 (w18.heap[gb291]? = some (.cells #[.int .i64 a0_0, .int .i64 a0_1, .int .i64 a0_2, .int .i64 a0_3, .string a0_4] 96 (0, 0))) := ⟨h0_⟩
            have n1_ : Aside0 (Below w.heap.size w w18) := ⟨h1_⟩
            clear BK291; clear HB; clear h0_ h1_; have BK291 := n0_; have HB := n1_; clear n0_ n1_; have hHeld : w18.cell? ⟨gb291, 0, none⟩ = some (.int .i64 a0_0) ∧ w18.cell? ⟨gb291, 1, none⟩ = some (.int .i64 a0_1) ∧ w18.cell? ⟨gb291, 2, none⟩ = some (.int .i64 a0_2) ∧ w18.cell? ⟨gb291, 3, none⟩ = some (.int .i64 a0_3) ∧ w18.cell? ⟨gb291, 4, none⟩ = some (.string a0_4) := hS_
            refine norm_ (a' := ?_) ?_ ?_
            rotate_left
            ·simp only [putAll, putL]; rfl
            refine one_ (i := 3) (N := some 9) #[tt,tt,tt,tt,ff,tt,tt,tt,ff,tt,tt,tt,ff,tt,tt,tt,tt,ff,tt,tt,ff,ff] rfl rfl (one_of HT_.out (by kernel_rfl)) (by decide) (fun K hK => ?_)
            refine Kd.R_lit_step (Kd.int .u8) _ 5 ?hg (N := 9) ?hd (xs := ([(a0_0) % 256] : List Int)) (inner := [.int .u8 ((a0_0) % 256)]) (ok := fun _ => True) (okp := fun _ => True) ?hr ?hp (fun _ hk => hk) trivial (Below.refl _ _) (Nat.le_refl _) (by simp) ?_; (case hd => rfl); (case hg => rfl); (case hr => first | (go_simp; done) | (go_simp; rfl)); (case hp => exact (Reps.one (show Kd.M (Kd.int .u8) _ _ _ ((a0_0) % 256) [.int .u8 ((a0_0) % 256)] from rfl) (Reps.none _ _)))
            intro v294 w19 ho20 hb hg_ hnew_
            clear hg_ hnew_
            (first | rw [← Ny293.out] at ho20 | (simp only [Int.reduceToNat] at ho20; rw [← Ny293.out] at ho20))
            have HO295 := Aside0.mk (Kd.R_lower ho20 (below_size (be HB)))
            replace BK291 := bq BK291 hb; replace HB := bh HB hb
            clear hb ho20; refine hK.out _ _ ⟨bc BK291 0, bc BK291 1, bc BK291 2, bc BK291 3, bc BK291 4⟩ (fun hHeld => ?_)
            clear hK K; refine norm_ (a' := ?_) ?_ ?_
            rotate_left
            ·show Act.put _ (some 9) _ = _
             simp only [putL, i64_w, i32_w]; rfl
            exact norm_ (by first | (simp only [putAll, putL]; done) | (simp only [putAll, putL]; rfl)) (hJ3_7_11_16 (v294) _ ⟨hHeld, (rr HO295), (by (with_reducible repeat first | refine bkN ?_ _ | refine bkD ?_ | refine bkA ?_ _); exact BK291.out), (be HB)⟩)
          ·skip
           rintro v294 w19 ⟨hS_, h0_, h1_, h2_⟩
           have n0_ : Aside0 (Kd.R (Kd.int .u8) 5 w19 w.heap.size (fun _ => True) v294 y293) := ⟨h0_⟩
           have n1_ : Aside0 (w19.heap[gb291]? = some (.cells #[.int .i64 a0_0, .int .i64 a0_1, .int .i64 a0_2, .int .i64 a0_3, .string a0_4] 96 (0, 0))) := ⟨h1_⟩
           have n2_ : Aside0 (Below w.heap.size w w19) := ⟨h2_⟩
           clear BK291; clear HB; clear h0_ h1_ h2_; have HO295 := n0_; have BK291 := n1_; have HB := n2_; clear n0_ n1_ n2_; have hHeld : w19.cell? ⟨gb291, 0, none⟩ = some (.int .i64 a0_0) ∧ w19.cell? ⟨gb291, 1, none⟩ = some (.int .i64 a0_1) ∧ w19.cell? ⟨gb291, 2, none⟩ = some (.int .i64 a0_2) ∧ w19.cell? ⟨gb291, 3, none⟩ = some (.int .i64 a0_3) ∧ w19.cell? ⟨gb291, 4, none⟩ = some (.string a0_4) := hS_
           refine norm_ (a' := ?_) ?_ ?_
           rotate_left
           ·simp only [putAll, putL]; rfl
           refine two_ (i := 4) (j := 16) (Ni := some 10) (Nj := some 22) #[tt,tt,tt,tt,tt,tt,tt,tt,ff,tt,tt,tt,ff,tt,tt,tt,ff,ff,tt,tt,ff,ff] #[tt,tt,tt,tt,ff,tt,tt,tt,ff,tt,tt,tt,ff,tt,tt,tt,tt,ff,tt,tt,ff,ff] rfl rfl rfl rfl (two_of HT_.out (by kernel_rfl)) (by decide) (by decide) (fun K hK => ?_) (fun K hK => ?_)
           ·skip
            have hcv20 := own_string (P := Try.prog) Try.underlying68 Try.underlying5 Try.underlying9 (Kd.own_of_R HO295.out)
            refine value_ (w1 := ?_) (v := ?_) (by rfl) rfl ?_ ?_
            rotate_left 2
            ·go_simp
             constructor
             ·rfl
             ·rfl
            clear hcv20; refine hK.out _ _ ⟨bc BK291 0, bc BK291 1, bc BK291 2, bc BK291 3, bc BK291 4⟩ (fun hHeld => ?_)
            clear hK K; refine norm_ (a' := ?_) ?_ ?_
            rotate_left
            ·show Act.put _ (some 10) _ = _
             simp only [putL, i64_w, i32_w]; rfl
            refine pu 8 14 (tb 22 847871) HT_ ?_
            refine pu 12 18 (tb 22 851967) HT_ ?_
            exact norm_ (by first | (simp only [putAll, putL]; done) | (simp only [putAll, putL]; rfl)) (hJ3_4_7_11 (v294) _ ⟨hHeld, (rr HO295), (by (with_reducible repeat first | refine bkN ?_ _ | refine bkD ?_ | refine bkA ?_ _); exact BK291.out), (be HB)⟩)
           ·skip
            refine goes_ Try.func149 (by kernel_rfl) rfl #[.int .i64 (wrap64 (a0_3 + 1))] (by rfl) rfl rfl (by (try simp only [List.map_toArray, List.map_cons, List.map_nil]); first | done | rfl | (simp only [List.length_drop, List.length_take]; rfl)) ?_
            with_reducible refine (impl_Var.calls k (wrap64 (a0_3 + 1)) t298 _ A8.out).mono ?_
            rintro e w20 ⟨rfl, hb⟩
            refine ⟨_, rfl, ?_⟩
            replace HO295 := Aside0.mk (Kd.R_below (rr HO295) hb); replace BK291 := bq BK291 hb; replace HB := bh HB hb
            (try clear hb); (try clear hb2); (try clear hk); (try clear hi); refine hK.out _ _ ⟨bc BK291 0, bc BK291 1, bc BK291 2, bc BK291 3, bc BK291 4⟩ (fun hHeld => ?_)
            clear hK K; refine norm_ (a' := ?_) ?_ ?_
            rotate_left
            ·show Act.put _ (some 22) _ = _
             simp only [putL, i64_w, i32_w]; rfl
            exact norm_ (by first | (simp only [putAll, putL]; done) | (simp only [putAll, putL]; rfl)) (hJ3_7_11_16 (v294) _ ⟨hHeld, (rr HO295), (by (with_reducible repeat first | refine bkN ?_ _ | refine bkD ?_ | refine bkA ?_ _); exact BK291.out), (be HB)⟩)
         ·skip
          rintro v294 w19 ⟨hS_, h0_, h1_, h2_⟩
          have n0_ : Aside0 (Kd.R (Kd.int .u8) 5 w19 w.heap.size (fun _ => True) v294 y293) := ⟨h0_⟩
          have n1_ : Aside0 (w19.heap[gb291]? = some (.cells #[.int .i64 a0_0, .int .i64 a0_1, .int .i64 a0_2, .int .i64 a0_3, .string a0_4] 96 (0, 0))) := ⟨h1_⟩
          have n2_ : Aside0 (Below w.heap.size w w19) := ⟨h2_⟩
          clear BK291; clear HB; clear h0_ h1_ h2_; have HO295 := n0_; have BK291 := n1_; have HB := n2_; clear n0_ n1_ n2_; have hHeld : w19.cell? ⟨gb291, 0, none⟩ = some (.int .i64 a0_0) ∧ w19.cell? ⟨gb291, 1, none⟩ = some (.int .i64 a0_1) ∧ w19.cell? ⟨gb291, 2, none⟩ = some (.int .i64 a0_2) ∧ w19.cell? ⟨gb291, 3, none⟩ = some (.int .i64 a0_3) ∧ w19.cell? ⟨gb291, 4, none⟩ = some (.string a0_4) := hS_
          refine norm_ (a' := ?_) ?_ ?_
          rotate_left
          ·simp only [putAll, putL]; rfl
          refine one_ (i := 11) (N := some 17) #[tt,tt,tt,tt,tt,tt,tt,tt,tt,tt,tt,tt,ff,tt,tt,tt,ff,ff,tt,tt,ff,ff] rfl rfl (one_of HT_.out (by kernel_rfl)) (by decide) (fun K hK => ?_)
          refine goes_ Try.func149 (by kernel_rfl) rfl #[.int .i64 a0_2] (by rfl) rfl rfl (by (try simp only [List.map_toArray, List.map_cons, List.map_nil]); first | done | rfl | (simp only [List.length_drop, List.length_take]; rfl)) ?_
          with_reducible refine (impl_Var.calls k a0_2 t297 _ A6.out).mono ?_
          rintro e w20 ⟨rfl, hb⟩
          refine ⟨_, rfl, ?_⟩
          replace HO295 := Aside0.mk (Kd.R_below (rr HO295) hb); replace BK291 := bq BK291 hb; replace HB := bh HB hb
          (try clear hb); (try clear hb2); (try clear hk); (try clear hi); refine hK.out _ _ ⟨bc BK291 0, bc BK291 1, bc BK291 2, bc BK291 3, bc BK291 4⟩ (fun hHeld => ?_)
          clear hK K; refine norm_ (a' := ?_) ?_ ?_
          rotate_left
          ·show Act.put _ (some 17) _ = _
           simp only [putL, i64_w, i32_w]; rfl
          refine pu 12 18 (tb 22 851967) HT_ ?_
          exact norm_ (by first | (simp only [putAll, putL]; done) | (simp only [putAll, putL]; rfl)) (hJ3_4_7_11 (v294) _ ⟨hHeld, (rr HO295), (by (with_reducible repeat first | refine bkN ?_ _ | refine bkD ?_ | refine bkA ?_ _); exact BK291.out), (be HB)⟩)
        ·skip
         rintro v294 w20 ⟨hS_, h0_, h1_, h2_⟩
         have n0_ : Aside0 (Kd.R (Kd.int .u8) 5 w20 w.heap.size (fun _ => True) v294 y293) := ⟨h0_⟩
         have n1_ : Aside0 (w20.heap[gb291]? = some (.cells #[.int .i64 a0_0, .int .i64 a0_1, .int .i64 a0_2, .int .i64 a0_3, .string a0_4] 96 (0, 0))) := ⟨h1_⟩
         have n2_ : Aside0 (Below w.heap.size w w20) := ⟨h2_⟩
         clear BK291; clear HB; clear h0_ h1_ h2_; have HO295 := n0_; have BK291 := n1_; have HB := n2_; clear n0_ n1_ n2_; have hHeld : w20.cell? ⟨gb291, 0, none⟩ = some (.int .i64 a0_0) ∧ w20.cell? ⟨gb291, 1, none⟩ = some (.int .i64 a0_1) ∧ w20.cell? ⟨gb291, 2, none⟩ = some (.int .i64 a0_2) ∧ w20.cell? ⟨gb291, 3, none⟩ = some (.int .i64 a0_3) ∧ w20.cell? ⟨gb291, 4, none⟩ = some (.string a0_4) := hS_
         refine norm_ (a' := ?_) ?_ ?_
         rotate_left
         ·simp only [putAll, putL]; rfl
         refine one_ (i := 4) (N := some 10) #[tt,tt,tt,tt,tt,tt,tt,tt,ff,tt,tt,tt,ff,tt,tt,tt,tt,ff,tt,tt,ff,ff] rfl rfl (one_of HT_.out (by kernel_rfl)) (by decide) (fun K hK => ?_)
         have hcv21 := own_string (P := Try.prog) Try.underlying68 Try.underlying5 Try.underlying9 (Kd.own_of_R HO295.out)
         refine value_ (w1 := ?_) (v := ?_) (by rfl) rfl ?_ ?_
         rotate_left 2
         ·go_simp
          constructor
          ·rfl
          ·rfl
         clear hcv21; refine hK.out _ _ ⟨bc BK291 0, bc BK291 1, bc BK291 2, bc BK291 3, bc BK291 4⟩ (fun hHeld => ?_)
         clear hK K; refine norm_ (a' := ?_) ?_ ?_
         rotate_left
         ·show Act.put _ (some 10) _ = _
          simp only [putL, i64_w, i32_w]; rfl
         refine pu 8 14 (tb 22 913407) HT_ ?_
         refine pu 12 18 (tb 22 917503) HT_ ?_
         exact norm_ (by first | (simp only [putAll, putL]; done) | (simp only [putAll, putL]; rfl)) (hJ3_4_7_11_16 (v294) _ ⟨hHeld, (rr HO295), (by (with_reducible repeat first | refine bkN ?_ _ | refine bkD ?_ | refine bkA ?_ _); exact BK291.out), (be HB)⟩)
       ·skip
        rintro v294 w20 ⟨hS_, h0_, h1_, h2_⟩
        have n0_ : Aside0 (Kd.R (Kd.int .u8) 5 w20 w.heap.size (fun _ => True) v294 y293) := ⟨h0_⟩
        have n1_ : Aside0 (w20.heap[gb291]? = some (.cells #[.int .i64 a0_0, .int .i64 a0_1, .int .i64 a0_2, .int .i64 a0_3, .string a0_4] 96 (0, 0))) := ⟨h1_⟩
        have n2_ : Aside0 (Below w.heap.size w w20) := ⟨h2_⟩
        clear BK291; clear HB; clear h0_ h1_ h2_; have HO295 := n0_; have BK291 := n1_; have HB := n2_; clear n0_ n1_ n2_; have hHeld : w20.cell? ⟨gb291, 0, none⟩ = some (.int .i64 a0_0) ∧ w20.cell? ⟨gb291, 1, none⟩ = some (.int .i64 a0_1) ∧ w20.cell? ⟨gb291, 2, none⟩ = some (.int .i64 a0_2) ∧ w20.cell? ⟨gb291, 3, none⟩ = some (.int .i64 a0_3) ∧ w20.cell? ⟨gb291, 4, none⟩ = some (.string a0_4) := hS_
        refine norm_ (a' := ?_) ?_ ?_
        rotate_left
        ·simp only [putAll, putL]; rfl
        refine one_ (i := 16) (N := some 22) #[tt,tt,tt,tt,tt,tt,tt,tt,tt,tt,tt,tt,tt,tt,tt,tt,tt,ff,tt,tt,ff,ff] rfl rfl (one_of HT_.out (by kernel_rfl)) (by decide) (fun K hK => ?_)
        refine goes_ Try.func149 (by kernel_rfl) rfl #[.int .i64 (wrap64 (a0_3 + 1))] (by rfl) rfl rfl (by (try simp only [List.map_toArray, List.map_cons, List.map_nil]); first | done | rfl | (simp only [List.length_drop, List.length_take]; rfl)) ?_
        with_reducible refine (impl_Var.calls k (wrap64 (a0_3 + 1)) t298 _ A8.out).mono ?_
        rintro e w21 ⟨rfl, hb⟩
        refine ⟨_, rfl, ?_⟩
        replace HO295 := Aside0.mk (Kd.R_below (rr HO295) hb); replace BK291 := bq BK291 hb; replace HB := bh HB hb
        (try clear hb); (try clear hb2); (try clear hk); (try clear hi); refine hK.out _ _ ⟨bc BK291 0, bc BK291 1, bc BK291 2, bc BK291 3, bc BK291 4⟩ (fun hHeld => ?_)
        clear hK K; refine norm_ (a' := ?_) ?_ ?_
        rotate_left
        ·show Act.put _ (some 22) _ = _
         simp only [putL, i64_w, i32_w]; rfl
        exact norm_ (by first | (simp only [putAll, putL]; done) | (simp only [putAll, putL]; rfl)) (hJ3_4_7_11_16 (v294) _ ⟨hHeld, (rr HO295), (by (with_reducible repeat first | refine bkN ?_ _ | refine bkD ?_ | refine bkA ?_ _); exact BK291.out), (be HB)⟩)
      rintro v294 w21 ⟨hS_, h0_, h1_, h2_⟩
      have n0_ : Aside0 (Kd.R (Kd.int .u8) 5 w21 w.heap.size (fun _ => True) v294 y293) := ⟨h0_⟩
      have n1_ : Aside0 (w21.heap[gb291]? = some (.cells #[.int .i64 a0_0, .int .i64 a0_1, .int .i64 a0_2, .int .i64 a0_3, .string a0_4] 96 (0, 0))) := ⟨h1_⟩
      have n2_ : Aside0 (Below w.heap.size w w21) := ⟨h2_⟩
      clear BK291; clear HB; clear h0_ h1_ h2_; have HO295 := n0_; have BK291 := n1_; have HB := n2_; clear n0_ n1_ n2_; have hHeld : w21.cell? ⟨gb291, 0, none⟩ = some (.int .i64 a0_0) ∧ w21.cell? ⟨gb291, 1, none⟩ = some (.int .i64 a0_1) ∧ w21.cell? ⟨gb291, 2, none⟩ = some (.int .i64 a0_2) ∧ w21.cell? ⟨gb291, 3, none⟩ = some (.int .i64 a0_3) ∧ w21.cell? ⟨gb291, 4, none⟩ = some (.string a0_4) := hS_
      refine norm_ (a' := ?_) ?_ ?_
      rotate_left
      ·simp only [putAll, putL]; rfl
      refine pu 17 23 (tb 22 1048575) HT_ ?_
      refine pu 20 26 (tb 22 2097151) HT_ ?_
      refine pu 21 2 (tb 22 4194303) HT_ ?_
      refine done_ (done_of HT_.out (by kernel_rfl)) ?_
      try go_wp2
      go_ret
      exact ⟨by first | rfl | (simp [errW_none, errW_some] <;> rfl) | (simp [*, errW_none, errW_some] <;> rfl), by repeat (first | (with_reducible first | exact HB.out | apply below_alloc | apply pw_below_drewN | apply below_drew1 | refine below_set ?_ GE291.out) | exact HB.out)⟩
     ·rw [if_neg c10] at H
      exact absurd H (by simp)
    ·rw [if_neg c9] at H
     exact absurd H (by simp)
   ·rw [if_neg c7] at H
    exact absurd H (by simp)
  ·rw [if_neg c5] at H
   exact absurd H (by simp)
 ·replace c3 := Bool.eq_false_iff.mpr c3
  subst c3
  have H1 : (some (⟨#[]⟩ : ByteArray)) = some r := by rw [if_neg (show ¬ (false = true) by decide)] at H; exact H
  clear H; have H := H1
  clear H1; obtain rfl := Option.some.inj H
  go_enter Try.func114, Try.ntmps114
  go_wp2_with (first | ((with_reducible refine gate_dst (N := 1) rfl ?_); refine box_event ?hg (N := 1) ?hd (cs := #[.int .i64 a0_0, .int .i64 a0_1, .int .i64 a0_2, .int .i64 a0_3, .string a0_4]) (t := 96) ?hr ?_; (case hd => rfl); (case hg => rfl); (case hr => first | (go_simp; done) | (go_simp; rfl)); intro gb291 hg w22 hbox hb; have BK291 := Aside0.mk (hbox); have GW291 := bs HB hg; have GE291 := bs HB hg; replace HB := bh HB hb; clear hb hbox hg; obtain ⟨hcz23_0, hcz23_1, hcz23_2, hcz23_3, hcz23_4⟩ := cs5 BK291; obtain ⟨hfz23_0, hfz23_1, hfz23_2, hfz23_3, hfz23_4⟩ := fs5 BK291) | ((with_reducible refine gate_callee (f := 146) rfl ?_); refine goesL_ (some 4) rfl rfl Try.func146 (by kernel_rfl) rfl #[.agg #[.int .i64 a0_0, .int .i64 a0_1, .int .i64 a0_2, .int .i64 a0_3, .string a0_4]] rfl (by (try simp only [List.map_toArray, List.map_cons, List.map_nil]); first | done | rfl | (simp only [List.length_drop, List.length_take]; rfl)) ?_; (with_reducible refine (impl_RecOk.calls a0_0 a0_1 a0_2 a0_3 a0_4 false _ A2.out).mono ?_); rintro e w24 ⟨rfl, hb⟩; refine ⟨_, rfl, ?_⟩; replace BK291 := bq BK291 hb; replace HB := bh HB hb; (try clear hb); (try clear hb2); (try clear hk); (try clear hi)))
  go_ret
  exact ⟨by first | rfl | (simp [errW_none, errW_some] <;> rfl) | (simp [*, errW_none, errW_some] <;> rfl), by repeat (first | (with_reducible first | exact HB.out | apply below_alloc | apply pw_below_drewN | apply below_drew1 | refine below_set ?_ GE291.out) | exact HB.out)⟩

end Go.Proofs.Ytobkmpihjfiihaa.PFnExactReplay
