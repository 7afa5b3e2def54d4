-- The machine side of a law: its first third written by a program of this session (wip/tools), a turned print; the rest by hand.
import Derived.Test.YtddebnchbbmbkaaPFnExactRecallx0
import Derived.Test.YtddebnchbbmbkaaPFnExactRecallx9
import Derived.Test.YtddebnchbbmbkaaPFnExactRecallx10
import Derived.Test.YtddebnchbbmbkaaPFnExactRecallx16
import Derived.Test.YtddebnchbbmbkaaPFnExactRecallx17
import Derived.Test.YtddebnchbbmbkaaPFnExactRecallx18
import Derived.Test.YtddebnchbbmbkaaPFnExactRecallx19
namespace Go.Proofs.Ytddebnchbbmbkaa.PFnExactRecall
open Go.RowKit Go.Proofs.YtddebnchbbmbkaaW.PrintWords Go.Proofs.YtddebnchbbmbkaaW.PrintLast Go.Proofs.YtddebnchbbmbkaaW.PrintMore
attribute [local go_sem] max2_int min2_int max_two min_two max_three min_three max_four min_four   -- for this text's walks alone
set_option linter.unusedVariables false
set_option linter.unusedSimpArgs false
def laws_FnExactRecall.j0 (k : Nat) (_a2 : ByteArray) (_tw : List Int) (_bw : Bool) (tg : List Int) (_bg : Bool) (x71 : Bool) (_l0 : List (S106)) (_a1 : Int) (_l1 : List (S104)) (_rw : Int) (_lw : List (S86)) (v : List (S95)) (rm : Int) (m : List (S86)) (rg : Int) (lg : List (S86)) : Option Bool :=
  if x71 = true then none else (laws_eqVocab.f k v v).bind fun t1 => if t1 = true then ((laws_eqMemo.f k rm m rm m).bind fun t2 => if t2 = true then ((laws_markVocab.f k v 1).bind fun p1 => (laws_markMemo.f k rm m p1.1).bind fun p2 => if p2.1 < 0 then none else (laws_markMemo.f k rg lg 1).bind fun p3 => (laws_markIntS.f k tg p3.1).bind fun p4 => (laws_heldMemo.f k rg p3.2 1).bind fun h1 => if h1 < 0 then none else (laws_heldIntS.f k p4.2 h1).bind fun h2 => if h2 < 0 then none else if h2 = p4.1 then some true else none) else none) else none
theorem laws_FnExactRecall.facts {k : Nat} {a2 : ByteArray} {tw tg : List Int} {bw bg r : Bool} {l0 : List (S106)} {a1 : Int} {l1 : List (S104)} {rw_ rm rg : Int} {lw m lg : List (S86)} {v : List (S95)}
  (H : ((laws_eqMemo.f k rg lg rw_ lw).bind fun t => (if t = true then ((laws_eqIntS.f k tg tw).bind fun t' => (if t' = true then (laws_FnExactRecall.j0 k a2 tw bw tg bg (bg != bw) l0 a1 l1 rw_ lw v rm m rg lg) else (laws_FnExactRecall.j0 k a2 tw bw tg bg true l0 a1 l1 rw_ lw v rm m rg lg))) else (laws_FnExactRecall.j0 k a2 tw bw tg bg true l0 a1 l1 rw_ lw v rm m rg lg))) = some r) :
  r = true ∧ bg = bw ∧ laws_eqMemo.f k rg lg rw_ lw = some true ∧ laws_eqIntS.f k tg tw = some true ∧ laws_eqVocab.f k v v = some true ∧ laws_eqMemo.f k rm m rm m = some true ∧ ∃ p1 v' p2 m' p3 lg' p4 tg' h1, laws_markVocab.f k v 1 = some (p1, v') ∧ laws_markMemo.f k rm m p1 = some (p2, m') ∧ ¬ p2 < 0 ∧ laws_markMemo.f k rg lg 1 = some (p3, lg') ∧ laws_markIntS.f k tg p3 = some (p4, tg') ∧ laws_heldMemo.f k rg lg' 1 = some h1 ∧ ¬ h1 < 0 ∧ laws_heldIntS.f k tg' h1 = some p4 ∧ ¬ p4 < 0 := by
  have jt : ∀ x, x = true → laws_FnExactRecall.j0 k a2 tw bw tg bg x l0 a1 l1 rw_ lw v rm m rg lg = some r → False := fun x hx h => by
    unfold laws_FnExactRecall.j0 at h
    rw [if_pos hx] at h
    cases h
  obtain ⟨t, e1, H⟩ := Option.bind_eq_some_iff.mp H
  cases t with
  | false => exact (jt true rfl (by simpa using H)).elim
  | true =>
  rw [if_pos rfl] at H
  obtain ⟨t', e2, H⟩ := Option.bind_eq_some_iff.mp H
  cases t' with
  | false => exact (jt true rfl (by simpa using H)).elim
  | true =>
  rw [if_pos rfl] at H
  by_cases hb : (bg != bw) = true
  · exact (jt _ hb H).elim
  · unfold laws_FnExactRecall.j0 at H
    rw [if_neg hb] at H
    obtain ⟨t1, e3, H⟩ := Option.bind_eq_some_iff.mp H
    cases t1 with
    | false => simp at H
    | true =>
    rw [if_pos rfl] at H
    obtain ⟨t2, e4, H⟩ := Option.bind_eq_some_iff.mp H
    cases t2 with
    | false => simp at H
    | true =>
    rw [if_pos rfl] at H
    obtain ⟨⟨p1, v'⟩, e5, H⟩ := Option.bind_eq_some_iff.mp H
    obtain ⟨⟨p2, m'⟩, e6, H⟩ := Option.bind_eq_some_iff.mp H
    by_cases c1 : p2 < 0
    · rw [if_pos c1] at H; cases H
    rw [if_neg c1] at H
    obtain ⟨⟨p3, lg'⟩, e7, H⟩ := Option.bind_eq_some_iff.mp H
    obtain ⟨⟨p4, tg'⟩, e8, H⟩ := Option.bind_eq_some_iff.mp H
    obtain ⟨h1, e9, H⟩ := Option.bind_eq_some_iff.mp H
    by_cases c2 : h1 < 0
    · rw [if_pos c2] at H; cases H
    rw [if_neg c2] at H
    obtain ⟨h2, e10, H⟩ := Option.bind_eq_some_iff.mp H
    by_cases c3 : h2 < 0
    · rw [if_pos c3] at H; cases H
    rw [if_neg c3] at H
    by_cases c4 : h2 = p4
    · rw [if_pos c4] at H
      have hr := Option.some.inj H
      clear H
      subst c4
      exact ⟨hr.symm, by simpa using hb, e1, e2, e3, e4, p1, v', p2, m', p3, lg', h2, tg', h1, e5, e6, c1, e7, e8, e9, c2, e10, c3⟩
    · rw [if_neg c4] at H; cases H
theorem heldIntS_n (k : Nat) (A0 : Option Addr) (c0 n : Nat) (l0 : List Int) (a1 r : Int) (w : World) (hn : n = l0.length) (hr0 : Kd.C (Kd.int .i64) w A0 l0.length l0) (hc0 : n ≤ c0) (h : laws_heldIntS.f k l0 a1 = some r) :
  Calls Try.prog 26 #[.slice A0 n c0, .int .i64 a1] w fun e w' => e = .returned (.int .i64 r) ∧ Drawn0 w w' := by subst hn; exact laws_heldIntS.calls k A0 c0 l0 a1 r w hr0 hc0 h
theorem heldMemo_n (k : Nat) (a0_0 : Int) (A0_1 : Option Addr) (c0_1 n : Nat) (l0_1 : List (S86)) (a1 r : Int) (w : World) (hn : n = l0_1.length) (hr0_1 : Kd.C k86 w A0_1 l0_1.length l0_1) (hc0_1 : n ≤ c0_1) (h : laws_heldMemo.f k a0_0 l0_1 a1 = some r) :
  Calls Try.prog 25 #[.agg #[.int .i64 a0_0, .slice A0_1 n c0_1], .int .i64 a1] w fun e w' => e = .returned (.int .i64 r) ∧ Below w.heap.size w w' := by subst hn; exact laws_heldMemo.calls k a0_0 A0_1 c0_1 l0_1 a1 r w hr0_1 hc0_1 h
def laws_FnExactRecall.f (k : Nat) (l0_0 : List (S106)) (a1_0 : Int) (l1_1 : List (S104)) (a2 : ByteArray) : Option (Bool) := if (a2.size : Int) > 1048576 then (some true) else ((laws_szVocab.f l0_0 1048576).bind fun t411 => (if t411 < 0 then (some true) else ((laws_szMemo.f k a1_0 l1_1 t411).bind fun t412 => (if t412 < 0 then (some true) else ((laws_toVocab.f k l0_0).bind fun t413 => ((laws_toMemo.f k a1_0 l1_1).bind fun bt416 => ((spec_Recall.f k t413 bt416.1 bt416.2 a2).bind fun bt420 => ((laws_toVocab.f k l0_0).bind fun t429 => ((laws_toMemo.f k a1_0 l1_1).bind fun bt433 => ((impl_Recall.f k t429 bt433.1 bt433.2 a2).bind fun bt438 => ((laws_eqMemo.f k bt438.1 bt438.2.1 bt420.1 bt420.2.1).bind fun t447 => (if t447 = true then ((laws_eqIntS.f k bt438.2.2.1 bt420.2.2.1).bind fun t448 => (if t448 = true then (laws_FnExactRecall.j0 k a2 bt420.2.2.1 bt420.2.2.2 bt438.2.2.1 bt438.2.2.2 (bt438.2.2.2 != bt420.2.2.2) l0_0 a1_0 l1_1 bt420.1 bt420.2.1 t429 bt433.1 bt433.2 bt438.1 bt438.2.1) else (laws_FnExactRecall.j0 k a2 bt420.2.2.1 bt420.2.2.2 bt438.2.2.1 bt438.2.2.2 true l0_0 a1_0 l1_1 bt420.1 bt420.2.1 t429 bt433.1 bt433.2 bt438.1 bt438.2.1))) else (laws_FnExactRecall.j0 k a2 bt420.2.2.1 bt420.2.2.2 bt438.2.2.1 bt438.2.2.2 true l0_0 a1_0 l1_1 bt420.1 bt420.2.1 t429 bt433.1 bt433.2 bt438.1 bt438.2.1)))))))))))))
def laws_FnExactRecall.Pure : Prop := ∀ (l0_0 : List (S106)) (a1_0 : Int) (l1_1 : List (S104)) (a2 : ByteArray), (l0_0.length ≤ 9223372036854775807 ∧ ∀ y ∈ l0_0, ((Lit.int .i64 y.f0).wf = true ∧ (Lit.int .i64 y.f1).wf = true)) → (Lit.int .i64 a1_0).wf = true → (l1_1.length ≤ 9223372036854775807 ∧ ∀ y ∈ l1_1, (y.f0.size ≤ 9223372036854775807 ∧ (y.f1.length ≤ 9223372036854775807 ∧ ∀ y1 ∈ y.f1, (Lit.int .i64 y1).wf = true))) → a2.size ≤ 9223372036854775807 → ∃ k, laws_FnExactRecall.f k l0_0 a1_0 l1_1 a2 = some true
def laws_FnExactRecall.T10 : Bool × List (List Nat × List Nat) := (true, [([], []), ([0], [0]), ([], []), ([2, 1], [2]), ([], []), ([1, 3, 4, 3], [1, 3, 4]), ([5], [5]), ([6], [6]), ([6], [6]), ([6], [6]), ([], []), ([10, 7, 5, 0, 1, 2, 3, 4, 5, 6, 7, 10], [7, 10]), ([8, 11, 0, 1, 2, 3, 4, 5, 6, 7, 8, 10, 11], [8]), ([9, 12, 0, 1, 2, 3, 4, 5, 6, 7, 8, 9, 10, 11, 12], [9])])
def laws_FnExactRecall.B10 : List Nat := [0, 1, 0, 7, 0, 31, 63, 127, 127, 127, 0, 1279, 3583, 8191]
theorem laws_FnExactRecall.tab10 : rtab .any (opsOf Try.f4 10) = laws_FnExactRecall.T10 := by kernel_rfl
theorem laws_FnExactRecall.bits10 : waitsOk laws_FnExactRecall.T10.2 laws_FnExactRecall.B10 = true := by kernel_rfl
def laws_FnExactRecall.T37 : Bool × List (List Nat × List Nat) := (true, [([], []), ([0], [0]), ([], []), ([2, 1], [2]), ([], []), ([1, 3, 4, 3], [1, 3, 4]), ([5], [5]), ([6], [6]), ([6], [6]), ([6], [6]), ([], []), ([10, 7, 5, 0, 1, 2, 3, 4, 5, 6, 7, 10], [7, 10]), ([8, 11, 0, 1, 2, 3, 4, 5, 6, 7, 8, 10, 11], [8]), ([9, 12, 0, 1, 2, 3, 4, 5, 6, 7, 8, 9, 10, 11, 12], [9])])
def laws_FnExactRecall.B37 : List Nat := [0, 1, 0, 7, 0, 31, 63, 127, 127, 127, 0, 1279, 3583, 8191]
theorem laws_FnExactRecall.tab37 : rtab .any (opsOf Try.f4 37) = laws_FnExactRecall.T37 := by kernel_rfl
theorem laws_FnExactRecall.bits37 : waitsOk laws_FnExactRecall.T37.2 laws_FnExactRecall.B37 = true := by kernel_rfl
set_option maxHeartbeats 8000000 in
set_option maxRecDepth 100000 in
theorem laws_FnExactRecall.calls (k : Nat) (A0_0 : Option Addr) (c0_0 : Nat) (l0_0 : List (S106)) (a1_0 : Int) (A1_1 : Option Addr) (c1_1 : Nat) (l1_1 : List (S104)) (a2 : ByteArray) (r : Bool) (w : World) (hr0_0 : Kd.C k106 w A0_0 l0_0.length l0_0) (hc0_0 : l0_0.length ≤ c0_0) (hr1_1 : Kd.C k104 w A1_1 l1_1.length l1_1) (hc1_1 : l1_1.length ≤ c1_1) (h : laws_FnExactRecall.f k l0_0 a1_0 l1_1 a2 = some r) :
  Calls Try.prog 4 #[.agg #[.slice A0_0 l0_0.length c0_0], .agg #[.int .i64 a1_0, .slice A1_1 l1_1.length c1_1], .string a2] w fun e w' => e = .returned (.bool r) ∧ Below w.heap.size w w' := by
 have hu43 := Try.underlying43
 have hu46 := Try.underlying46
 have hu31 := Try.underlying31
 have hu26 := Try.underlying26
 have HR0_0 := Aside0.mk hr0_0
 have HC0_0 := Aside0.mk hc0_0
 clear hr0_0 hc0_0
 have HR1_1 := Aside0.mk hr1_1
 have HC1_1 := Aside0.mk hc1_1
 clear hr1_1 hc1_1
 have HB := Aside0.mk (Below.refl w.heap.size w)
 have H : (if (a2.size : Int) > 1048576 then (some true) else ((laws_szVocab.f l0_0 1048576).bind fun t411 => (if t411 < 0 then (some true) else ((laws_szMemo.f k a1_0 l1_1 t411).bind fun t412 => (if t412 < 0 then (some true) else ((laws_toVocab.f k l0_0).bind fun t413 => ((laws_toMemo.f k a1_0 l1_1).bind fun bt416 => ((spec_Recall.f k t413 bt416.1 bt416.2 a2).bind fun bt420 => ((laws_toVocab.f k l0_0).bind fun t429 => ((laws_toMemo.f k a1_0 l1_1).bind fun bt433 => ((impl_Recall.f k t429 bt433.1 bt433.2 a2).bind fun bt438 => ((laws_eqMemo.f k bt438.1 bt438.2.1 bt420.1 bt420.2.1).bind fun t447 => (if t447 = true then ((laws_eqIntS.f k bt438.2.2.1 bt420.2.2.1).bind fun t448 => (if t448 = true then (laws_FnExactRecall.j0 k a2 bt420.2.2.1 bt420.2.2.2 bt438.2.2.1 bt438.2.2.2 (bt438.2.2.2 != bt420.2.2.2) l0_0 a1_0 l1_1 bt420.1 bt420.2.1 t429 bt433.1 bt433.2 bt438.1 bt438.2.1) else (laws_FnExactRecall.j0 k a2 bt420.2.2.1 bt420.2.2.2 bt438.2.2.1 bt438.2.2.2 true l0_0 a1_0 l1_1 bt420.1 bt420.2.1 t429 bt433.1 bt433.2 bt438.1 bt438.2.1))) else (laws_FnExactRecall.j0 k a2 bt420.2.2.1 bt420.2.2.2 bt438.2.2.1 bt438.2.2.2 true l0_0 a1_0 l1_1 bt420.1 bt420.2.1 t429 bt433.1 bt433.2 bt438.1 bt438.2.1)))))))))))))) = some r := h
 clear h
 by_cases c4 : (a2.size : Int) > 1048576
 ·rw [if_pos c4] at H
  have c4b0 : decide (1048576 < (a2.size : Int)) = true := decide_eq_true c4
  have c4b1 : decide (1048576 < a2.size) = true := decide_eq_true (by omega)
  clear c4
  obtain rfl := Option.some.inj H
  go_enter Try.func4, Try.ntmps4
  go_wp2_with (first | ((with_reducible refine gate_dst (N := 3) rfl ?_); refine box_event ?hg (N := 3) ?hd (cs := #[.slice A0_0 l0_0.length c0_0]) (t := 43) ?hr ?_; (case hd => rfl); (case hg => rfl); (case hr => first | (go_simp; done) | (go_simp; rfl)); intro gb409 hg w5 hbox hb; have n0_ := Aside0.mk (below_step (by repeat (first | (with_reducible first | exact HB.out | apply below_alloc | apply pw_below_drewN | apply below_drew1) | exact HB.out)) hb); have n1_ := Aside0.mk (hbox); have n2_ := Aside0.mk ((by rw [hg]; exact (below_size (by repeat (first | (with_reducible first | exact HB.out | apply below_alloc | apply pw_below_drewN | apply below_drew1) | exact HB.out))) : w.heap.size ≤ gb409)); have n3_ := Aside0.mk ((by rw [hg]; exact (below_size (by repeat (first | (with_reducible first | exact HB.out | apply below_alloc | apply pw_below_drewN | apply below_drew1) | exact HB.out))) : w.heap.size ≤ gb409)); clear HB; have HB := n0_; have BK409 := n1_; have GW409 := n2_; have GE409 := n3_; clear n0_ n1_ n2_ n3_; clear hb hbox hg) | ((with_reducible refine gate_dst (N := 4) rfl ?_); refine box_event ?hg (N := 4) ?hd (cs := #[.int .i64 a1_0, .slice A1_1 l1_1.length c1_1]) (t := 46) ?hr ?_; (case hd => rfl); (case hg => rfl); (case hr => first | (go_simp; done) | (go_simp; rfl)); intro gb410 hg w6 hbox hb; have n0_ := Aside0.mk (blk_below (g := gb409) (o := .cells #[.slice A0_0 l0_0.length c0_0] 43 (0, 0)) (by (with_reducible repeat first | refine bkN ?_ _ | refine bkD ?_ | refine bkA ?_ _); exact BK409.out) hb); have n1_ := Aside0.mk (below_step (by repeat (first | (with_reducible first | exact HB.out | apply below_alloc | apply pw_below_drewN | apply below_drew1 | refine below_set ?_ GE409.out) | exact HB.out)) hb); have n2_ := Aside0.mk (hbox); have n3_ := Aside0.mk ((by rw [hg]; exact (below_size (by repeat (first | (with_reducible first | exact HB.out | apply below_alloc | apply pw_below_drewN | apply below_drew1 | refine below_set ?_ GE409.out) | exact HB.out))) : w.heap.size ≤ gb410)); have n4_ := Aside0.mk ((by rw [hg]; exact (below_size (by repeat (first | (with_reducible first | exact HB.out | apply below_alloc | apply pw_below_drewN | apply below_drew1 | refine below_set ?_ GE409.out) | exact HB.out))) : w.heap.size ≤ gb410)); have n5_ := Aside0.mk ((by rw [hg]; exact Nat.ne_of_lt (blk_lt (g := gb409) (o := .cells #[.slice A0_0 l0_0.length c0_0] 43 (0, 0)) (by (with_reducible repeat first | refine bkN ?_ _ | refine bkD ?_ | refine bkA ?_ _); exact BK409.out)) : gb409 ≠ gb410)); have n6_ := Aside0.mk ((by rw [hg]; exact Nat.ne_of_gt (blk_lt (g := gb409) (o := .cells #[.slice A0_0 l0_0.length c0_0] 43 (0, 0)) (by (with_reducible repeat first | refine bkN ?_ _ | refine bkD ?_ | refine bkA ?_ _); exact BK409.out)) : gb410 ≠ gb409)); clear BK409; clear HB; have BK409 := n0_; have HB := n1_; have BK410 := n2_; have GW410 := n3_; have GE410 := n4_; have NB409_410 := n5_; have NB410_409 := n6_; clear n0_ n1_ n2_ n3_ n4_ n5_ n6_; clear hb hbox hg))
  go_ret
  exact ⟨by first | rfl | (simp [errW_none, errW_some] <;> rfl) | (simp [*, errW_none, errW_some] <;> rfl), by repeat (first | (with_reducible first | exact HB.out | apply below_alloc | apply pw_below_drewN | apply below_drew1 | refine below_set ?_ GE409.out | refine below_set ?_ GE410.out) | exact HB.out)⟩
 ·rw [if_neg c4] at H
  have c4b0 : decide (1048576 < (a2.size : Int)) = false := decide_eq_false c4
  have c4b1 : decide (1048576 < a2.size) = false := decide_eq_false (by omega)
  clear c4
  replace H := Option.bind_eq_some_iff.mp H
  obtain ⟨t411, A70, H⟩ := H
  replace H : (if t411 < 0 then (some true) else ((laws_szMemo.f k a1_0 l1_1 t411).bind fun t412 => (if t412 < 0 then (some true) else ((laws_toVocab.f k l0_0).bind fun t413 => ((laws_toMemo.f k a1_0 l1_1).bind fun bt416 => ((spec_Recall.f k t413 bt416.1 bt416.2 a2).bind fun bt420 => ((laws_toVocab.f k l0_0).bind fun t429 => ((laws_toMemo.f k a1_0 l1_1).bind fun bt433 => ((impl_Recall.f k t429 bt433.1 bt433.2 a2).bind fun bt438 => ((laws_eqMemo.f k bt438.1 bt438.2.1 bt420.1 bt420.2.1).bind fun t447 => (if t447 = true then ((laws_eqIntS.f k bt438.2.2.1 bt420.2.2.1).bind fun t448 => (if t448 = true then (laws_FnExactRecall.j0 k a2 bt420.2.2.1 bt420.2.2.2 bt438.2.2.1 bt438.2.2.2 (bt438.2.2.2 != bt420.2.2.2) l0_0 a1_0 l1_1 bt420.1 bt420.2.1 t429 bt433.1 bt433.2 bt438.1 bt438.2.1) else (laws_FnExactRecall.j0 k a2 bt420.2.2.1 bt420.2.2.2 bt438.2.2.1 bt438.2.2.2 true l0_0 a1_0 l1_1 bt420.1 bt420.2.1 t429 bt433.1 bt433.2 bt438.1 bt438.2.1))) else (laws_FnExactRecall.j0 k a2 bt420.2.2.1 bt420.2.2.2 bt438.2.2.1 bt438.2.2.2 true l0_0 a1_0 l1_1 bt420.1 bt420.2.1 t429 bt433.1 bt433.2 bt438.1 bt438.2.1)))))))))))) = some r := H
  have A7 := Aside0.mk A70
  clear A70
  by_cases c8 : t411 < 0
  ·rw [if_pos c8] at H
   have c8b0 : decide (t411 < 0) = true := decide_eq_true c8
   clear c8
   obtain rfl := Option.some.inj H
   go_enter Try.func4, Try.ntmps4
   go_wp2_with (first | ((with_reducible refine gate_dst (N := 3) rfl ?_); refine box_event ?hg (N := 3) ?hd (cs := #[.slice A0_0 l0_0.length c0_0]) (t := 43) ?hr ?_; (case hd => rfl); (case hg => rfl); (case hr => first | (go_simp; done) | (go_simp; rfl)); intro gb409 hg w9 hbox hb; have n0_ := Aside0.mk (below_step (by repeat (first | (with_reducible first | exact HB.out | apply below_alloc | apply pw_below_drewN | apply below_drew1) | exact HB.out)) hb); have n1_ := Aside0.mk (hbox); have n2_ := Aside0.mk ((by rw [hg]; exact (below_size (by repeat (first | (with_reducible first | exact HB.out | apply below_alloc | apply pw_below_drewN | apply below_drew1) | exact HB.out))) : w.heap.size ≤ gb409)); have n3_ := Aside0.mk ((by rw [hg]; exact (below_size (by repeat (first | (with_reducible first | exact HB.out | apply below_alloc | apply pw_below_drewN | apply below_drew1) | exact HB.out))) : w.heap.size ≤ gb409)); clear HB; have HB := n0_; have BK409 := n1_; have GW409 := n2_; have GE409 := n3_; clear n0_ n1_ n2_ n3_; clear hb hbox hg) | ((with_reducible refine gate_dst (N := 4) rfl ?_); refine box_event ?hg (N := 4) ?hd (cs := #[.int .i64 a1_0, .slice A1_1 l1_1.length c1_1]) (t := 46) ?hr ?_; (case hd => rfl); (case hg => rfl); (case hr => first | (go_simp; done) | (go_simp; rfl)); intro gb410 hg w10 hbox hb; have n0_ := Aside0.mk (blk_below (g := gb409) (o := .cells #[.slice A0_0 l0_0.length c0_0] 43 (0, 0)) (by (with_reducible repeat first | refine bkN ?_ _ | refine bkD ?_ | refine bkA ?_ _); exact BK409.out) hb); have n1_ := Aside0.mk (below_step (by repeat (first | (with_reducible first | exact HB.out | apply below_alloc | apply pw_below_drewN | apply below_drew1 | refine below_set ?_ GE409.out) | exact HB.out)) hb); have n2_ := Aside0.mk (hbox); have n3_ := Aside0.mk ((by rw [hg]; exact (below_size (by repeat (first | (with_reducible first | exact HB.out | apply below_alloc | apply pw_below_drewN | apply below_drew1 | refine below_set ?_ GE409.out) | exact HB.out))) : w.heap.size ≤ gb410)); have n4_ := Aside0.mk ((by rw [hg]; exact (below_size (by repeat (first | (with_reducible first | exact HB.out | apply below_alloc | apply pw_below_drewN | apply below_drew1 | refine below_set ?_ GE409.out) | exact HB.out))) : w.heap.size ≤ gb410)); have n5_ := Aside0.mk ((by rw [hg]; exact Nat.ne_of_lt (blk_lt (g := gb409) (o := .cells #[.slice A0_0 l0_0.length c0_0] 43 (0, 0)) (by (with_reducible repeat first | refine bkN ?_ _ | refine bkD ?_ | refine bkA ?_ _); exact BK409.out)) : gb409 ≠ gb410)); have n6_ := Aside0.mk ((by rw [hg]; exact Nat.ne_of_gt (blk_lt (g := gb409) (o := .cells #[.slice A0_0 l0_0.length c0_0] 43 (0, 0)) (by (with_reducible repeat first | refine bkN ?_ _ | refine bkD ?_ | refine bkA ?_ _); exact BK409.out)) : gb410 ≠ gb409)); clear BK409; clear HB; have BK409 := n0_; have HB := n1_; have BK410 := n2_; have GW410 := n3_; have GE410 := n4_; have NB409_410 := n5_; have NB410_409 := n6_; clear n0_ n1_ n2_ n3_ n4_ n5_ n6_; clear hb hbox hg; have hnb11 := NB409_410.out; have hnc11 := NB410_409.out; have hcz12_0 : w10.cell? ⟨gb409, 0, none⟩ = some (.slice A0_0 l0_0.length c0_0) := (blk_cell BK409.out 0).trans rfl; have hfz12_0 := blk_frozen BK409.out 0) | ((with_reducible refine gate_callee (f := 14) rfl ?_); refine goesL_ (some 27) rfl rfl Try.func14 (by kernel_rfl) rfl #[.agg #[.slice A0_0 l0_0.length c0_0], .int .i64 1048576] rfl (by (try simp only [List.map_toArray, List.map_cons, List.map_nil]); first | done | rfl | (simp only [List.length_drop, List.length_take]; rfl)) ?_; (with_reducible refine (laws_szVocab.calls _ _ l0_0 1048576 t411 _ ?side1 ?side2 A7.out).mono ?_); (case side1 => repeat (first | exact (Kd.C_below HR0_0.out HB.out) | (with_reducible refine Kd.C_alloc ?_ _) | (with_reducible refine Kd.C_drewN ?_ _) | (with_reducible refine Kd.C_drew ?_))); (case side2 => exact HC0_0.out); rintro e w13 ⟨rfl, hb⟩; refine ⟨_, rfl, ?_⟩; have n0_ := Aside0.mk (blk_below (g := gb409) (o := .cells #[.slice A0_0 l0_0.length c0_0] 43 (0, 0)) (by (with_reducible repeat first | refine bkN ?_ _ | refine bkD ?_ | refine bkA ?_ _); exact BK409.out) hb); have n1_ := Aside0.mk (blk_below (g := gb410) (o := .cells #[.int .i64 a1_0, .slice A1_1 l1_1.length c1_1] 46 (0, 0)) (by (with_reducible repeat first | refine bkN ?_ _ | refine bkD ?_ | refine bkA ?_ _); exact BK410.out) hb); have n2_ := Aside0.mk (below_step (by repeat (first | (with_reducible first | exact HB.out | apply below_alloc | apply pw_below_drewN | apply below_drew1 | refine below_set ?_ GE409.out | refine below_set ?_ GE410.out) | exact HB.out)) hb); clear BK409; clear BK410; clear HB; have BK409 := n0_; have BK410 := n1_; have HB := n2_; clear n0_ n1_ n2_; (try clear hb); (try clear hb2); (try clear hk); (try clear hi)))
   go_ret
   exact ⟨by first | rfl | (simp [errW_none, errW_some] <;> rfl) | (simp [*, errW_none, errW_some] <;> rfl), by repeat (first | (with_reducible first | exact HB.out | apply below_alloc | apply pw_below_drewN | apply below_drew1 | refine below_set ?_ GE409.out | refine below_set ?_ GE410.out) | exact HB.out)⟩
  ·rw [if_neg c8] at H
   have c8b0 : decide (t411 < 0) = false := decide_eq_false c8
   clear c8
   replace H := Option.bind_eq_some_iff.mp H
   obtain ⟨t412, A140, H⟩ := H
   replace H : (if t412 < 0 then (some true) else ((laws_toVocab.f k l0_0).bind fun t413 => ((laws_toMemo.f k a1_0 l1_1).bind fun bt416 => ((spec_Recall.f k t413 bt416.1 bt416.2 a2).bind fun bt420 => ((laws_toVocab.f k l0_0).bind fun t429 => ((laws_toMemo.f k a1_0 l1_1).bind fun bt433 => ((impl_Recall.f k t429 bt433.1 bt433.2 a2).bind fun bt438 => ((laws_eqMemo.f k bt438.1 bt438.2.1 bt420.1 bt420.2.1).bind fun t447 => (if t447 = true then ((laws_eqIntS.f k bt438.2.2.1 bt420.2.2.1).bind fun t448 => (if t448 = true then (laws_FnExactRecall.j0 k a2 bt420.2.2.1 bt420.2.2.2 bt438.2.2.1 bt438.2.2.2 (bt438.2.2.2 != bt420.2.2.2) l0_0 a1_0 l1_1 bt420.1 bt420.2.1 t429 bt433.1 bt433.2 bt438.1 bt438.2.1) else (laws_FnExactRecall.j0 k a2 bt420.2.2.1 bt420.2.2.2 bt438.2.2.1 bt438.2.2.2 true l0_0 a1_0 l1_1 bt420.1 bt420.2.1 t429 bt433.1 bt433.2 bt438.1 bt438.2.1))) else (laws_FnExactRecall.j0 k a2 bt420.2.2.1 bt420.2.2.2 bt438.2.2.1 bt438.2.2.2 true l0_0 a1_0 l1_1 bt420.1 bt420.2.1 t429 bt433.1 bt433.2 bt438.1 bt438.2.1)))))))))) = some r := H
   have A14 := Aside0.mk A140
   clear A140
   by_cases c15 : t412 < 0
   ·rw [if_pos c15] at H
    have c15b0 : decide (t412 < 0) = true := decide_eq_true c15
    clear c15
    obtain rfl := Option.some.inj H
    go_enter Try.func4, Try.ntmps4
    go_wp2_with (first | ((with_reducible refine gate_dst (N := 3) rfl ?_); refine box_event ?hg (N := 3) ?hd (cs := #[.slice A0_0 l0_0.length c0_0]) (t := 43) ?hr ?_; (case hd => rfl); (case hg => rfl); (case hr => first | (go_simp; done) | (go_simp; rfl)); intro gb409 hg w16 hbox hb; have n0_ := Aside0.mk (below_step (by repeat (first | (with_reducible first | exact HB.out | apply below_alloc | apply pw_below_drewN | apply below_drew1) | exact HB.out)) hb); have n1_ := Aside0.mk (hbox); have n2_ := Aside0.mk ((by rw [hg]; exact (below_size (by repeat (first | (with_reducible first | exact HB.out | apply below_alloc | apply pw_below_drewN | apply below_drew1) | exact HB.out))) : w.heap.size ≤ gb409)); have n3_ := Aside0.mk ((by rw [hg]; exact (below_size (by repeat (first | (with_reducible first | exact HB.out | apply below_alloc | apply pw_below_drewN | apply below_drew1) | exact HB.out))) : w.heap.size ≤ gb409)); clear HB; have HB := n0_; have BK409 := n1_; have GW409 := n2_; have GE409 := n3_; clear n0_ n1_ n2_ n3_; clear hb hbox hg) | ((with_reducible refine gate_dst (N := 4) rfl ?_); refine box_event ?hg (N := 4) ?hd (cs := #[.int .i64 a1_0, .slice A1_1 l1_1.length c1_1]) (t := 46) ?hr ?_; (case hd => rfl); (case hg => rfl); (case hr => first | (go_simp; done) | (go_simp; rfl)); intro gb410 hg w17 hbox hb; have n0_ := Aside0.mk (blk_below (g := gb409) (o := .cells #[.slice A0_0 l0_0.length c0_0] 43 (0, 0)) (by (with_reducible repeat first | refine bkN ?_ _ | refine bkD ?_ | refine bkA ?_ _); exact BK409.out) hb); have n1_ := Aside0.mk (below_step (by repeat (first | (with_reducible first | exact HB.out | apply below_alloc | apply pw_below_drewN | apply below_drew1 | refine below_set ?_ GE409.out) | exact HB.out)) hb); have n2_ := Aside0.mk (hbox); have n3_ := Aside0.mk ((by rw [hg]; exact (below_size (by repeat (first | (with_reducible first | exact HB.out | apply below_alloc | apply pw_below_drewN | apply below_drew1 | refine below_set ?_ GE409.out) | exact HB.out))) : w.heap.size ≤ gb410)); have n4_ := Aside0.mk ((by rw [hg]; exact (below_size (by repeat (first | (with_reducible first | exact HB.out | apply below_alloc | apply pw_below_drewN | apply below_drew1 | refine below_set ?_ GE409.out) | exact HB.out))) : w.heap.size ≤ gb410)); have n5_ := Aside0.mk ((by rw [hg]; exact Nat.ne_of_lt (blk_lt (g := gb409) (o := .cells #[.slice A0_0 l0_0.length c0_0] 43 (0, 0)) (by (with_reducible repeat first | refine bkN ?_ _ | refine bkD ?_ | refine bkA ?_ _); exact BK409.out)) : gb409 ≠ gb410)); have n6_ := Aside0.mk ((by rw [hg]; exact Nat.ne_of_gt (blk_lt (g := gb409) (o := .cells #[.slice A0_0 l0_0.length c0_0] 43 (0, 0)) (by (with_reducible repeat first | refine bkN ?_ _ | refine bkD ?_ | refine bkA ?_ _); exact BK409.out)) : gb410 ≠ gb409)); clear BK409; clear HB; have BK409 := n0_; have HB := n1_; have BK410 := n2_; have GW410 := n3_; have GE410 := n4_; have NB409_410 := n5_; have NB410_409 := n6_; clear n0_ n1_ n2_ n3_ n4_ n5_ n6_; clear hb hbox hg; have hnb18 := NB409_410.out; have hnc18 := NB410_409.out; have hcz19_0 : w17.cell? ⟨gb409, 0, none⟩ = some (.slice A0_0 l0_0.length c0_0) := (blk_cell BK409.out 0).trans rfl; have hfz19_0 := blk_frozen BK409.out 0) | ((with_reducible refine gate_callee (f := 14) rfl ?_); refine goesL_ (some 27) rfl rfl Try.func14 (by kernel_rfl) rfl #[.agg #[.slice A0_0 l0_0.length c0_0], .int .i64 1048576] rfl (by (try simp only [List.map_toArray, List.map_cons, List.map_nil]); first | done | rfl | (simp only [List.length_drop, List.length_take]; rfl)) ?_; (with_reducible refine (laws_szVocab.calls _ _ l0_0 1048576 t411 _ ?side1 ?side2 A7.out).mono ?_); (case side1 => repeat (first | exact (Kd.C_below HR0_0.out HB.out) | (with_reducible refine Kd.C_alloc ?_ _) | (with_reducible refine Kd.C_drewN ?_ _) | (with_reducible refine Kd.C_drew ?_))); (case side2 => exact HC0_0.out); rintro e w20 ⟨rfl, hb⟩; refine ⟨_, rfl, ?_⟩; have n0_ := Aside0.mk (blk_below (g := gb409) (o := .cells #[.slice A0_0 l0_0.length c0_0] 43 (0, 0)) (by (with_reducible repeat first | refine bkN ?_ _ | refine bkD ?_ | refine bkA ?_ _); exact BK409.out) hb); have n1_ := Aside0.mk (blk_below (g := gb410) (o := .cells #[.int .i64 a1_0, .slice A1_1 l1_1.length c1_1] 46 (0, 0)) (by (with_reducible repeat first | refine bkN ?_ _ | refine bkD ?_ | refine bkA ?_ _); exact BK410.out) hb); have n2_ := Aside0.mk (below_step (by repeat (first | (with_reducible first | exact HB.out | apply below_alloc | apply pw_below_drewN | apply below_drew1 | refine below_set ?_ GE409.out | refine below_set ?_ GE410.out) | exact HB.out)) hb); clear BK409; clear BK410; clear HB; have BK409 := n0_; have BK410 := n1_; have HB := n2_; clear n0_ n1_ n2_; (try clear hb); (try clear hb2); (try clear hk); (try clear hi); have hcz21_0 : w20.cell? ⟨gb410, 0, none⟩ = some (.int .i64 a1_0) := (blk_cell BK410.out 0).trans rfl; have hcz21_1 : w20.cell? ⟨gb410, 1, none⟩ = some (.slice A1_1 l1_1.length c1_1) := (blk_cell BK410.out 1).trans rfl; have hfz21_0 := blk_frozen BK410.out 0; have hfz21_1 := blk_frozen BK410.out 1) | ((with_reducible refine gate_callee (f := 15) rfl ?_); refine goesL_ (some 32) rfl rfl Try.func15 (by kernel_rfl) rfl #[.agg #[.int .i64 a1_0, .slice A1_1 l1_1.length c1_1], .int .i64 t411] rfl (by (try simp only [List.map_toArray, List.map_cons, List.map_nil]); first | done | rfl | (simp only [List.length_drop, List.length_take]; rfl)) ?_; (with_reducible refine (laws_szMemo.calls k a1_0 _ _ l1_1 t411 t412 _ ?side1 ?side2 A14.out).mono ?_); (case side1 => repeat (first | exact (Kd.C_below HR1_1.out HB.out) | (with_reducible refine Kd.C_alloc ?_ _) | (with_reducible refine Kd.C_drewN ?_ _) | (with_reducible refine Kd.C_drew ?_))); (case side2 => exact HC1_1.out); rintro e w22 ⟨rfl, hb⟩; refine ⟨_, rfl, ?_⟩; have n0_ := Aside0.mk (blk_below (g := gb409) (o := .cells #[.slice A0_0 l0_0.length c0_0] 43 (0, 0)) (by (with_reducible repeat first | refine bkN ?_ _ | refine bkD ?_ | refine bkA ?_ _); exact BK409.out) hb); have n1_ := Aside0.mk (blk_below (g := gb410) (o := .cells #[.int .i64 a1_0, .slice A1_1 l1_1.length c1_1] 46 (0, 0)) (by (with_reducible repeat first | refine bkN ?_ _ | refine bkD ?_ | refine bkA ?_ _); exact BK410.out) hb); have n2_ := Aside0.mk (below_step (by repeat (first | (with_reducible first | exact HB.out | apply below_alloc | apply pw_below_drewN | apply below_drew1 | refine below_set ?_ GE409.out | refine below_set ?_ GE410.out) | exact HB.out)) hb); clear BK409; clear BK410; clear HB; have BK409 := n0_; have BK410 := n1_; have HB := n2_; clear n0_ n1_ n2_; (try clear hb); (try clear hb2); (try clear hk); (try clear hi)))
    go_ret
    exact ⟨by first | rfl | (simp [errW_none, errW_some] <;> rfl) | (simp [*, errW_none, errW_some] <;> rfl), by repeat (first | (with_reducible first | exact HB.out | apply below_alloc | apply pw_below_drewN | apply below_drew1 | refine below_set ?_ GE409.out | refine below_set ?_ GE410.out) | exact HB.out)⟩
   ·rw [if_neg c15] at H
    have c15b0 : decide (t412 < 0) = false := decide_eq_false c15
    clear c15
    replace H := Option.bind_eq_some_iff.mp H
    obtain ⟨t413, A230, H⟩ := H
    replace H : ((laws_toMemo.f k a1_0 l1_1).bind fun bt416 => ((spec_Recall.f k t413 bt416.1 bt416.2 a2).bind fun bt420 => ((laws_toVocab.f k l0_0).bind fun t429 => ((laws_toMemo.f k a1_0 l1_1).bind fun bt433 => ((impl_Recall.f k t429 bt433.1 bt433.2 a2).bind fun bt438 => ((laws_eqMemo.f k bt438.1 bt438.2.1 bt420.1 bt420.2.1).bind fun t447 => (if t447 = true then ((laws_eqIntS.f k bt438.2.2.1 bt420.2.2.1).bind fun t448 => (if t448 = true then (laws_FnExactRecall.j0 k a2 bt420.2.2.1 bt420.2.2.2 bt438.2.2.1 bt438.2.2.2 (bt438.2.2.2 != bt420.2.2.2) l0_0 a1_0 l1_1 bt420.1 bt420.2.1 t429 bt433.1 bt433.2 bt438.1 bt438.2.1) else (laws_FnExactRecall.j0 k a2 bt420.2.2.1 bt420.2.2.2 bt438.2.2.1 bt438.2.2.2 true l0_0 a1_0 l1_1 bt420.1 bt420.2.1 t429 bt433.1 bt433.2 bt438.1 bt438.2.1))) else (laws_FnExactRecall.j0 k a2 bt420.2.2.1 bt420.2.2.2 bt438.2.2.1 bt438.2.2.2 true l0_0 a1_0 l1_1 bt420.1 bt420.2.1 t429 bt433.1 bt433.2 bt438.1 bt438.2.1)))))))) = some r := H
    have A23 := Aside0.mk A230
    clear A230
    replace H := Option.bind_eq_some_iff.mp H
    obtain ⟨⟨t416, t417⟩, A240, H⟩ := H
    replace H : ((spec_Recall.f k t413 t416 t417 a2).bind fun bt420 => ((laws_toVocab.f k l0_0).bind fun t429 => ((laws_toMemo.f k a1_0 l1_1).bind fun bt433 => ((impl_Recall.f k t429 bt433.1 bt433.2 a2).bind fun bt438 => ((laws_eqMemo.f k bt438.1 bt438.2.1 bt420.1 bt420.2.1).bind fun t447 => (if t447 = true then ((laws_eqIntS.f k bt438.2.2.1 bt420.2.2.1).bind fun t448 => (if t448 = true then (laws_FnExactRecall.j0 k a2 bt420.2.2.1 bt420.2.2.2 bt438.2.2.1 bt438.2.2.2 (bt438.2.2.2 != bt420.2.2.2) l0_0 a1_0 l1_1 bt420.1 bt420.2.1 t429 bt433.1 bt433.2 bt438.1 bt438.2.1) else (laws_FnExactRecall.j0 k a2 bt420.2.2.1 bt420.2.2.2 bt438.2.2.1 bt438.2.2.2 true l0_0 a1_0 l1_1 bt420.1 bt420.2.1 t429 bt433.1 bt433.2 bt438.1 bt438.2.1))) else (laws_FnExactRecall.j0 k a2 bt420.2.2.1 bt420.2.2.2 bt438.2.2.1 bt438.2.2.2 true l0_0 a1_0 l1_1 bt420.1 bt420.2.1 t429 bt433.1 bt433.2 bt438.1 bt438.2.1))))))) = some r := H
    have A24 := Aside0.mk A240
    clear A240
    replace H := Option.bind_eq_some_iff.mp H
    obtain ⟨⟨t420, t421, t424, t427⟩, A250, H⟩ := H
    replace H : ((laws_toVocab.f k l0_0).bind fun t429 => ((laws_toMemo.f k a1_0 l1_1).bind fun bt433 => ((impl_Recall.f k t429 bt433.1 bt433.2 a2).bind fun bt438 => ((laws_eqMemo.f k bt438.1 bt438.2.1 t420 t421).bind fun t447 => (if t447 = true then ((laws_eqIntS.f k bt438.2.2.1 t424).bind fun t448 => (if t448 = true then (laws_FnExactRecall.j0 k a2 t424 t427 bt438.2.2.1 bt438.2.2.2 (bt438.2.2.2 != t427) l0_0 a1_0 l1_1 t420 t421 t429 bt433.1 bt433.2 bt438.1 bt438.2.1) else (laws_FnExactRecall.j0 k a2 t424 t427 bt438.2.2.1 bt438.2.2.2 true l0_0 a1_0 l1_1 t420 t421 t429 bt433.1 bt433.2 bt438.1 bt438.2.1))) else (laws_FnExactRecall.j0 k a2 t424 t427 bt438.2.2.1 bt438.2.2.2 true l0_0 a1_0 l1_1 t420 t421 t429 bt433.1 bt433.2 bt438.1 bt438.2.1)))))) = some r := H
    have A25 := Aside0.mk A250
    clear A250
    replace H := Option.bind_eq_some_iff.mp H
    obtain ⟨t429, A260, H⟩ := H
    replace H : ((laws_toMemo.f k a1_0 l1_1).bind fun bt433 => ((impl_Recall.f k t429 bt433.1 bt433.2 a2).bind fun bt438 => ((laws_eqMemo.f k bt438.1 bt438.2.1 t420 t421).bind fun t447 => (if t447 = true then ((laws_eqIntS.f k bt438.2.2.1 t424).bind fun t448 => (if t448 = true then (laws_FnExactRecall.j0 k a2 t424 t427 bt438.2.2.1 bt438.2.2.2 (bt438.2.2.2 != t427) l0_0 a1_0 l1_1 t420 t421 t429 bt433.1 bt433.2 bt438.1 bt438.2.1) else (laws_FnExactRecall.j0 k a2 t424 t427 bt438.2.2.1 bt438.2.2.2 true l0_0 a1_0 l1_1 t420 t421 t429 bt433.1 bt433.2 bt438.1 bt438.2.1))) else (laws_FnExactRecall.j0 k a2 t424 t427 bt438.2.2.1 bt438.2.2.2 true l0_0 a1_0 l1_1 t420 t421 t429 bt433.1 bt433.2 bt438.1 bt438.2.1))))) = some r := H
    have A26 := Aside0.mk A260
    clear A260
    replace H := Option.bind_eq_some_iff.mp H
    obtain ⟨⟨t433, t434⟩, A270, H⟩ := H
    replace H : ((impl_Recall.f k t429 t433 t434 a2).bind fun bt438 => ((laws_eqMemo.f k bt438.1 bt438.2.1 t420 t421).bind fun t447 => (if t447 = true then ((laws_eqIntS.f k bt438.2.2.1 t424).bind fun t448 => (if t448 = true then (laws_FnExactRecall.j0 k a2 t424 t427 bt438.2.2.1 bt438.2.2.2 (bt438.2.2.2 != t427) l0_0 a1_0 l1_1 t420 t421 t429 t433 t434 bt438.1 bt438.2.1) else (laws_FnExactRecall.j0 k a2 t424 t427 bt438.2.2.1 bt438.2.2.2 true l0_0 a1_0 l1_1 t420 t421 t429 t433 t434 bt438.1 bt438.2.1))) else (laws_FnExactRecall.j0 k a2 t424 t427 bt438.2.2.1 bt438.2.2.2 true l0_0 a1_0 l1_1 t420 t421 t429 t433 t434 bt438.1 bt438.2.1)))) = some r := H
    have A27 := Aside0.mk A270
    clear A270
    replace H := Option.bind_eq_some_iff.mp H
    obtain ⟨⟨t438, t439, t442, t445⟩, A280, H⟩ := H
    replace H : ((laws_eqMemo.f k t438 t439 t420 t421).bind fun t447 => (if t447 = true then ((laws_eqIntS.f k t442 t424).bind fun t448 => (if t448 = true then (laws_FnExactRecall.j0 k a2 t424 t427 t442 t445 (t445 != t427) l0_0 a1_0 l1_1 t420 t421 t429 t433 t434 t438 t439) else (laws_FnExactRecall.j0 k a2 t424 t427 t442 t445 true l0_0 a1_0 l1_1 t420 t421 t429 t433 t434 t438 t439))) else (laws_FnExactRecall.j0 k a2 t424 t427 t442 t445 true l0_0 a1_0 l1_1 t420 t421 t429 t433 t434 t438 t439))) = some r := H
    have A28 := Aside0.mk A280
    clear A280
    have HC29 := Aside0.mk H
    clear H
    go_enter Try.func4, Try.ntmps4
    try go_wp2_with (first | ((with_reducible refine gate_dst (N := 3) rfl ?_); refine box_event ?hg (N := 3) ?hd (cs := #[.slice A0_0 l0_0.length c0_0]) (t := 43) ?hr ?_; (case hd => rfl); (case hg => rfl); (case hr => first | (go_simp; done) | (go_simp; rfl)); intro gb409 hg w30 hbox hb; have n0_ := Aside0.mk (below_step (by repeat (first | (with_reducible first | exact HB.out | apply below_alloc | apply pw_below_drewN | apply below_drew1) | exact HB.out)) hb); have n1_ := Aside0.mk (hbox); have n2_ := Aside0.mk ((by rw [hg]; exact (below_size (by repeat (first | (with_reducible first | exact HB.out | apply below_alloc | apply pw_below_drewN | apply below_drew1) | exact HB.out))) : w.heap.size ≤ gb409)); have n3_ := Aside0.mk ((by rw [hg]; exact (below_size (by repeat (first | (with_reducible first | exact HB.out | apply below_alloc | apply pw_below_drewN | apply below_drew1) | exact HB.out))) : w.heap.size ≤ gb409)); clear HB; have HB := n0_; have BK409 := n1_; have GW409 := n2_; have GE409 := n3_; clear n0_ n1_ n2_ n3_; clear hb hbox hg) | ((with_reducible refine gate_dst (N := 4) rfl ?_); refine box_event ?hg (N := 4) ?hd (cs := #[.int .i64 a1_0, .slice A1_1 l1_1.length c1_1]) (t := 46) ?hr ?_; (case hd => rfl); (case hg => rfl); (case hr => first | (go_simp; done) | (go_simp; rfl)); intro gb410 hg w31 hbox hb; have n0_ := Aside0.mk (blk_below (g := gb409) (o := .cells #[.slice A0_0 l0_0.length c0_0] 43 (0, 0)) (by (with_reducible repeat first | refine bkN ?_ _ | refine bkD ?_ | refine bkA ?_ _); exact BK409.out) hb); have n1_ := Aside0.mk (below_step (by repeat (first | (with_reducible first | exact HB.out | apply below_alloc | apply pw_below_drewN | apply below_drew1 | refine below_set ?_ GE409.out) | exact HB.out)) hb); have n2_ := Aside0.mk (hbox); have n3_ := Aside0.mk ((by rw [hg]; exact (below_size (by repeat (first | (with_reducible first | exact HB.out | apply below_alloc | apply pw_below_drewN | apply below_drew1 | refine below_set ?_ GE409.out) | exact HB.out))) : w.heap.size ≤ gb410)); have n4_ := Aside0.mk ((by rw [hg]; exact (below_size (by repeat (first | (with_reducible first | exact HB.out | apply below_alloc | apply pw_below_drewN | apply below_drew1 | refine below_set ?_ GE409.out) | exact HB.out))) : w.heap.size ≤ gb410)); have n5_ := Aside0.mk ((by rw [hg]; exact Nat.ne_of_lt (blk_lt (g := gb409) (o := .cells #[.slice A0_0 l0_0.length c0_0] 43 (0, 0)) (by (with_reducible repeat first | refine bkN ?_ _ | refine bkD ?_ | refine bkA ?_ _); exact BK409.out)) : gb409 ≠ gb410)); have n6_ := Aside0.mk ((by rw [hg]; exact Nat.ne_of_gt (blk_lt (g := gb409) (o := .cells #[.slice A0_0 l0_0.length c0_0] 43 (0, 0)) (by (with_reducible repeat first | refine bkN ?_ _ | refine bkD ?_ | refine bkA ?_ _); exact BK409.out)) : gb410 ≠ gb409)); clear BK409; clear HB; have BK409 := n0_; have HB := n1_; have BK410 := n2_; have GW410 := n3_; have GE410 := n4_; have NB409_410 := n5_; have NB410_409 := n6_; clear n0_ n1_ n2_ n3_ n4_ n5_ n6_; clear hb hbox hg; have hnb32 := NB409_410.out; have hnc32 := NB410_409.out; have hcz33_0 : w31.cell? ⟨gb409, 0, none⟩ = some (.slice A0_0 l0_0.length c0_0) := (blk_cell BK409.out 0).trans rfl; have hfz33_0 := blk_frozen BK409.out 0) | ((with_reducible refine gate_callee (f := 14) rfl ?_); refine goesL_ (some 27) rfl rfl Try.func14 (by kernel_rfl) rfl #[.agg #[.slice A0_0 l0_0.length c0_0], .int .i64 1048576] rfl (by (try simp only [List.map_toArray, List.map_cons, List.map_nil]); first | done | rfl | (simp only [List.length_drop, List.length_take]; rfl)) ?_; (with_reducible refine (laws_szVocab.calls _ _ l0_0 1048576 t411 _ ?side1 ?side2 A7.out).mono ?_); (case side1 => repeat (first | exact (Kd.C_below HR0_0.out HB.out) | (with_reducible refine Kd.C_alloc ?_ _) | (with_reducible refine Kd.C_drewN ?_ _) | (with_reducible refine Kd.C_drew ?_))); (case side2 => exact HC0_0.out); rintro e w34 ⟨rfl, hb⟩; refine ⟨_, rfl, ?_⟩; have n0_ := Aside0.mk (blk_below (g := gb409) (o := .cells #[.slice A0_0 l0_0.length c0_0] 43 (0, 0)) (by (with_reducible repeat first | refine bkN ?_ _ | refine bkD ?_ | refine bkA ?_ _); exact BK409.out) hb); have n1_ := Aside0.mk (blk_below (g := gb410) (o := .cells #[.int .i64 a1_0, .slice A1_1 l1_1.length c1_1] 46 (0, 0)) (by (with_reducible repeat first | refine bkN ?_ _ | refine bkD ?_ | refine bkA ?_ _); exact BK410.out) hb); have n2_ := Aside0.mk (below_step (by repeat (first | (with_reducible first | exact HB.out | apply below_alloc | apply pw_below_drewN | apply below_drew1 | refine below_set ?_ GE409.out | refine below_set ?_ GE410.out) | exact HB.out)) hb); clear BK409; clear BK410; clear HB; have BK409 := n0_; have BK410 := n1_; have HB := n2_; clear n0_ n1_ n2_; (try clear hb); (try clear hb2); (try clear hk); (try clear hi); have hcz35_0 : w34.cell? ⟨gb410, 0, none⟩ = some (.int .i64 a1_0) := (blk_cell BK410.out 0).trans rfl; have hcz35_1 : w34.cell? ⟨gb410, 1, none⟩ = some (.slice A1_1 l1_1.length c1_1) := (blk_cell BK410.out 1).trans rfl; have hfz35_0 := blk_frozen BK410.out 0; have hfz35_1 := blk_frozen BK410.out 1) | ((with_reducible refine gate_callee (f := 15) rfl ?_); refine goesL_ (some 32) rfl rfl Try.func15 (by kernel_rfl) rfl #[.agg #[.int .i64 a1_0, .slice A1_1 l1_1.length c1_1], .int .i64 t411] rfl (by (try simp only [List.map_toArray, List.map_cons, List.map_nil]); first | done | rfl | (simp only [List.length_drop, List.length_take]; rfl)) ?_; (with_reducible refine (laws_szMemo.calls k a1_0 _ _ l1_1 t411 t412 _ ?side1 ?side2 A14.out).mono ?_); (case side1 => repeat (first | exact (Kd.C_below HR1_1.out HB.out) | (with_reducible refine Kd.C_alloc ?_ _) | (with_reducible refine Kd.C_drewN ?_ _) | (with_reducible refine Kd.C_drew ?_))); (case side2 => exact HC1_1.out); rintro e w36 ⟨rfl, hb⟩; refine ⟨_, rfl, ?_⟩; have n0_ := Aside0.mk (blk_below (g := gb409) (o := .cells #[.slice A0_0 l0_0.length c0_0] 43 (0, 0)) (by (with_reducible repeat first | refine bkN ?_ _ | refine bkD ?_ | refine bkA ?_ _); exact BK409.out) hb); have n1_ := Aside0.mk (blk_below (g := gb410) (o := .cells #[.int .i64 a1_0, .slice A1_1 l1_1.length c1_1] 46 (0, 0)) (by (with_reducible repeat first | refine bkN ?_ _ | refine bkD ?_ | refine bkA ?_ _); exact BK410.out) hb); have n2_ := Aside0.mk (below_step (by repeat (first | (with_reducible first | exact HB.out | apply below_alloc | apply pw_below_drewN | apply below_drew1 | refine below_set ?_ GE409.out | refine below_set ?_ GE410.out) | exact HB.out)) hb); clear BK409; clear BK410; clear HB; have BK409 := n0_; have BK410 := n1_; have HB := n2_; clear n0_ n1_ n2_; (try clear hb); (try clear hb2); (try clear hk); (try clear hi)))
    have n0_ := Aside0.mk (blk_drew BK409.out)
    have n1_ := Aside0.mk (blk_drew BK410.out)
    have n2_ := Aside0.mk (below_drew1 HB.out)
    clear BK409
    clear BK410
    clear HB
    have BK409 := n0_
    have BK410 := n1_
    have HB := n2_
    clear n0_ n1_ n2_
    refine start_ (n := 14) (S := fun w' => w'.cell? ⟨gb409, 0, none⟩ = some (.slice A0_0 l0_0.length c0_0) ∧ w'.cell? ⟨gb410, 0, none⟩ = some (.int .i64 a1_0) ∧ w'.cell? ⟨gb410, 1, none⟩ = some (.slice A1_1 l1_1.length c1_1)) (ds := []) #[false, false, false, false, false, false, false, false, false, false, false, false, false, false] (by kernel_rfl) rfl rfl ⟨(blk_cell BK409.out 0).trans rfl, (blk_cell BK410.out 0).trans rfl, (blk_cell BK410.out 1).trans rfl⟩ (fun hHeld => ?_); refine with_tabW laws_FnExactRecall.tab10 laws_FnExactRecall.bits10 (fun HT_ HW_ => ?_)
    generalize w36.drew = w37 at BK409 BK410 HB hHeld ⊢
    refine pure_ (i := 4) (N := some 40) (v := ?_) (a' := ?_) #[false, false, false, false, true, false, false, false, false, false, false, false, false, false] rfl rfl (any_of HT_.out (by kernel_rfl)) (fun _ _ _ h => h) (Or.inl ⟨by rfl, ?_⟩) ?_ ?_
    rotate_left
    ·intro w'
     go_simp
     with_reducible rfl
    rotate_left
    ·simp only [Act.put, List.setIfInBounds_toArray, List.set_cons_zero, List.set_cons_succ, i64_w, i32_w]
     rfl
    refine take_ (i := 0) (N := some 36) (v := ?_) (a' := ?_) #[true, false, false, false, true, false, false, false, false, false, false, false, false, false] rfl rfl (take_ofW HT_.out HW_.out (by kernel_rfl)) (fun _ _ _ h => h) (Or.inl ⟨by rfl, ?_⟩) hHeld ?_ ?_
    rotate_left
    ·rintro w' ⟨s0, s1, s2⟩
     go_simp
     with_reducible rfl
    rotate_left
    ·simp only [Act.put, List.setIfInBounds_toArray, List.set_cons_zero, List.set_cons_succ, i64_w, i32_w]
     rfl
    refine take_ (i := 2) (N := some 38) (v := ?_) (a' := ?_) #[true, false, true, false, true, false, false, false, false, false, false, false, false, false] rfl rfl (take_ofW HT_.out HW_.out (by kernel_rfl)) (fun _ _ _ h => h) (Or.inl ⟨by rfl, ?_⟩) hHeld ?_ ?_
    rotate_left
    ·rintro w' ⟨s0, s1, s2⟩
     go_simp
     with_reducible rfl
    rotate_left
    ·simp only [Act.put, List.setIfInBounds_toArray, List.set_cons_zero, List.set_cons_succ, i64_w, i32_w]
     rfl
    refine join_ (σ := Value × Value × Value × Value × Nat) 3 #[true, true, true, true, true, true, true, true, true, true, true, false, false, false] (fun s_ => [(37, .agg #[s_.1]), (39, .agg #[.int .i64 t416, s_.2.1]), (41, .tuple #[.agg #[.int .i64 t420, s_.2.2.1], s_.2.2.2.1, .bool t427]), (8, .pointer (some ⟨s_.2.2.2.2, 0, none⟩)), (35, .tuple #[.agg #[.int .i64 t420, s_.2.2.1], s_.2.2.2.1, .bool t427]), (42, .agg #[.int .i64 t420, s_.2.2.1]), (43, s_.2.2.2.1), (44, .bool t427)]) (fun s_ w' => (w'.cell? ⟨gb409, 0, none⟩ = some (.slice A0_0 l0_0.length c0_0) ∧ w'.cell? ⟨gb410, 0, none⟩ = some (.int .i64 a1_0) ∧ w'.cell? ⟨gb410, 1, none⟩ = some (.slice A1_1 l1_1.length c1_1)) ∧ (Kd.R k95 95 w' w.heap.size (fun _ => True) s_.1 t413) ∧ (Kd.N k86 86 w' w.heap.size (fun k_ => some k_ ≠ (s_.1 : Value).ownBlock ∧ some k_ ≠ (s_.2.2.1 : Value).ownBlock ∧ some k_ ≠ (s_.2.2.2.1 : Value).ownBlock ∧ k_ ≠ gb409 ∧ k_ ≠ gb410 ∧ k_ ≠ s_.2.2.2.2) s_.2.1 t417) ∧ (Kd.N k86 86 w' w.heap.size (fun k_ => some k_ ≠ (s_.1 : Value).ownBlock ∧ some k_ ≠ (s_.2.1 : Value).ownBlock ∧ some k_ ≠ (s_.2.2.2.1 : Value).ownBlock ∧ k_ ≠ gb409 ∧ k_ ≠ gb410 ∧ k_ ≠ s_.2.2.2.2) s_.2.2.1 t421) ∧ (Kd.R (Kd.int .i64) 3 w' w.heap.size (fun _ => True) s_.2.2.2.1 t424) ∧ (w'.heap[gb409]? = some (.cells #[.slice A0_0 l0_0.length c0_0] 43 (0, 0))) ∧ (w'.heap[gb410]? = some (.cells #[.int .i64 a1_0, .slice A1_1 l1_1.length c1_1] 46 (0, 0))) ∧ (w'.heap[s_.2.2.2.2]? = some (.cells #[.int .i64 0, .slice none 0 0] 31 (0, 0))) ∧ (w.heap.size ≤ s_.2.2.2.2) ∧ (w.heap.size ≤ s_.2.2.2.2) ∧ (gb409 ≠ s_.2.2.2.2) ∧ (s_.2.2.2.2 ≠ gb409) ∧ (gb410 ≠ s_.2.2.2.2) ∧ (s_.2.2.2.2 ≠ gb410) ∧ (Below w.heap.size w w')) ?_ ?_
    rotate_left
    ·intro hCont
     refine two_ (i := 1) (j := 10) (Ni := some 37) (Nj := some 8) #[true, true, true, false, true, false, false, false, false, false, false, false, false, false] #[true, false, true, false, true, false, false, false, false, false, true, false, false, false] rfl rfl rfl rfl (two_of HT_.out (by kernel_rfl)) (by decide) (by decide) (fun K hK => ?_) (fun K hK => ?_)
     ·skip
      refine goes_ Try.func17 (by kernel_rfl) rfl #[.agg #[.slice A0_0 l0_0.length c0_0]] (by rfl) rfl rfl (by (try simp only [List.map_toArray, List.map_cons, List.map_nil]); first | done | rfl | (simp only [List.length_drop, List.length_take]; rfl)) ?_
      with_reducible refine (laws_toVocab.calls k _ _ l0_0 t413 _ ?side1 ?side2 A23.out).mono ?_
      (case side1 => repeat (first | exact (Kd.C_below HR0_0.out HB.out) | (with_reducible refine Kd.C_alloc ?_ _) | (with_reducible refine Kd.C_drewN ?_ _) | (with_reducible refine Kd.C_drew ?_)))
      (case side2 => exact HC0_0.out)
      rintro e w38 ⟨v414, rfl, ho0, hb⟩
      refine ⟨_, rfl, ?_⟩
      have n0_ := Aside0.mk (Kd.R_lower ho0 (below_size (by repeat (first | (with_reducible first | exact HB.out | apply below_alloc | apply pw_below_drewN | apply below_drew1 | refine below_set ?_ GE409.out | refine below_set ?_ GE410.out) | exact HB.out))))
      have n1_ := Aside0.mk (blk_below (g := gb409) (o := .cells #[.slice A0_0 l0_0.length c0_0] 43 (0, 0)) (by (with_reducible repeat first | refine bkN ?_ _ | refine bkD ?_ | refine bkA ?_ _); exact BK409.out) hb)
      have n2_ := Aside0.mk (blk_below (g := gb410) (o := .cells #[.int .i64 a1_0, .slice A1_1 l1_1.length c1_1] 46 (0, 0)) (by (with_reducible repeat first | refine bkN ?_ _ | refine bkD ?_ | refine bkA ?_ _); exact BK410.out) hb)
      have n3_ := Aside0.mk (below_step (by repeat (first | (with_reducible first | exact HB.out | apply below_alloc | apply pw_below_drewN | apply below_drew1 | refine below_set ?_ GE409.out | refine below_set ?_ GE410.out) | exact HB.out)) hb)
      clear BK409
      clear BK410
      clear HB
      have HO415 := n0_
      have BK409 := n1_
      have BK410 := n2_
      have HB := n3_
      clear n0_ n1_ n2_ n3_
      (try clear hb)
      (try clear hb2)
      (try clear hk)
      (try clear hi)
      (try clear ho0)
      refine hK.out _ _ ⟨(blk_cell BK409.out 0).trans rfl, (blk_cell BK410.out 0).trans rfl, (blk_cell BK410.out 1).trans rfl⟩ (fun hHeld => ?_)
      clear hK K
      refine norm_ (a' := ?_) ?_ ?_
      rotate_left
      ·show Act.put _ (some 37) _ = _
       simp only [Act.put, List.setIfInBounds_toArray, List.set_cons_zero, List.set_cons_succ, i64_w, i32_w]
       rfl
      refine two_ (i := 3) (j := 10) (Ni := some 39) (Nj := some 8) #[true, true, true, true, true, false, false, false, false, false, false, false, false, false] #[true, true, true, false, true, false, false, false, false, false, true, false, false, false] rfl rfl rfl rfl (two_of HT_.out (by kernel_rfl)) (by decide) (by decide) (fun K hK => ?_) (fun K hK => ?_)
      ·skip
       refine goes_ Try.func18 (by kernel_rfl) rfl #[.agg #[.int .i64 a1_0, .slice A1_1 l1_1.length c1_1]] (by rfl) rfl rfl (by (try simp only [List.map_toArray, List.map_cons, List.map_nil]); first | done | rfl | (simp only [List.length_drop, List.length_take]; rfl)) ?_
       with_reducible refine (laws_toMemo.calls k a1_0 _ _ l1_1 t416 t417 _ ?side1 ?side2 A24.out).mono ?_
       (case side1 => repeat (first | exact (Kd.C_below HR1_1.out HB.out) | (with_reducible refine Kd.C_alloc ?_ _) | (with_reducible refine Kd.C_drewN ?_ _) | (with_reducible refine Kd.C_drew ?_)))
       (case side2 => exact HC1_1.out)
       rintro e w39 ⟨v418, rfl, ho0, hb⟩
       refine ⟨_, rfl, ?_⟩
       have n0_ := Aside0.mk (Kd.R_below (by (with_reducible repeat (first | apply Kd.R_alloc | apply Kd.R_drewN | apply Kd.R_drew)); exact HO415.out) hb)
       have n1_ := Aside0.mk (Kd.N_lower (Kd.N_mono (ok' := fun k_ => some k_ ≠ (v414 : Value).ownBlock ∧ k_ ≠ gb409 ∧ k_ ≠ gb410) (Kd.S_N (Kd.S_bound ho0)) (fun k_ hk_ => ⟨(Kd.fresh' (Kd.R_lt (by (with_reducible repeat (first | apply Kd.R_alloc | apply Kd.R_drewN | apply Kd.R_drew)); exact HO415.out)) k_ hk_.2.1), (Kd.freshB (g := gb409) (o := .cells #[.slice A0_0 l0_0.length c0_0] 43 (0, 0)) (by (with_reducible repeat first | refine bkN ?_ _ | refine bkD ?_ | refine bkA ?_ _); exact BK409.out) k_ hk_.2.1), (Kd.freshB (g := gb410) (o := .cells #[.int .i64 a1_0, .slice A1_1 l1_1.length c1_1] 46 (0, 0)) (by (with_reducible repeat first | refine bkN ?_ _ | refine bkD ?_ | refine bkA ?_ _); exact BK410.out) k_ hk_.2.1)⟩)) (below_size (by repeat (first | (with_reducible first | exact HB.out | apply below_alloc | apply pw_below_drewN | apply below_drew1 | refine below_set ?_ GE409.out | refine below_set ?_ GE410.out) | exact HB.out))))
       have n2_ := Aside0.mk (blk_below (g := gb409) (o := .cells #[.slice A0_0 l0_0.length c0_0] 43 (0, 0)) (by (with_reducible repeat first | refine bkN ?_ _ | refine bkD ?_ | refine bkA ?_ _); exact BK409.out) hb)
       have n3_ := Aside0.mk (blk_below (g := gb410) (o := .cells #[.int .i64 a1_0, .slice A1_1 l1_1.length c1_1] 46 (0, 0)) (by (with_reducible repeat first | refine bkN ?_ _ | refine bkD ?_ | refine bkA ?_ _); exact BK410.out) hb)
       have n4_ := Aside0.mk (below_step (by repeat (first | (with_reducible first | exact HB.out | apply below_alloc | apply pw_below_drewN | apply below_drew1 | refine below_set ?_ GE409.out | refine below_set ?_ GE410.out) | exact HB.out)) hb)
       clear HO415
       clear BK409
       clear BK410
       clear HB
       have HO415 := n0_
       have HO419 := n1_
       have BK409 := n2_
       have BK410 := n3_
       have HB := n4_
       clear n0_ n1_ n2_ n3_ n4_
       (try clear hb)
       (try clear hb2)
       (try clear hk)
       (try clear hi)
       (try clear ho0)
       obtain ⟨Ao40, co40, eo40⟩ := Kd.R_slice HO415.out
       (first | subst eo40 | (injection eo40 with f1_ f2_ f3_; have f4_ := f1_.symm; have f5_ := f3_.symm; clear f1_ f2_ f3_; subst f4_; subst f5_))
       obtain ⟨Ao41, co41, eo41⟩ := Kd.N_slice HO419.out
       (first | subst eo41 | (injection eo41 with f1_ f2_ f3_; have f4_ := f1_.symm; have f5_ := f3_.symm; clear f1_ f2_ f3_; subst f4_; subst f5_))
       refine hK.out _ _ ⟨(blk_cell BK409.out 0).trans rfl, (blk_cell BK410.out 0).trans rfl, (blk_cell BK410.out 1).trans rfl⟩ (fun hHeld => ?_)
       clear hK K
       refine norm_ (a' := ?_) ?_ ?_
       rotate_left
       ·show Act.put _ (some 39) _ = _
        simp only [Act.put, List.setIfInBounds_toArray, List.set_cons_zero, List.set_cons_succ, i64_w, i32_w]
        rfl
       refine two_ (i := 5) (j := 10) (Ni := some 41) (Nj := some 8) #[true, true, true, true, true, true, false, false, false, false, false, false, false, false] #[true, true, true, true, true, false, false, false, false, false, true, false, false, false] rfl rfl rfl rfl (two_of HT_.out (by kernel_rfl)) (by decide) (by decide) (fun K hK => ?_) (fun K hK => ?_)
       ·skip
        refine goes_ Try.func16 (by kernel_rfl) rfl #[.agg #[.slice Ao40 t413.length co40], .agg #[.int .i64 t416, .slice Ao41 t417.length co41], .string a2] (by rfl) rfl rfl (by (try simp only [List.map_toArray, List.map_cons, List.map_nil]); first | done | rfl | (simp only [List.length_drop, List.length_take]; rfl)) ?_
        with_reducible refine (spec_Recall.calls k _ _ t413 t416 _ _ t417 a2 t420 t421 t424 t427 _ ?side1 ?side2 ?side3 ?side4 A25.out).mono ?_
        (case side1 => repeat (first | exact (Kd.R_reads' HO415.out).2.2 | (with_reducible refine Kd.C_alloc ?_ _) | (with_reducible refine Kd.C_drewN ?_ _) | (with_reducible refine Kd.C_drew ?_)))
        (case side2 => exact (Kd.R_reads' HO415.out).2.1)
        (case side3 => repeat (first | exact (Kd.N_reads' HO419.out).2.2 | (with_reducible refine Kd.C_alloc ?_ _) | (with_reducible refine Kd.C_drewN ?_ _) | (with_reducible refine Kd.C_drew ?_)))
        (case side4 => exact (Kd.N_reads' HO419.out).2.1)
        rintro e w42 ⟨v422, v425, rfl, ho0, ho1, hb⟩
        refine ⟨_, rfl, ?_⟩
        have n0_ := Aside0.mk (Kd.R_below (by (with_reducible repeat (first | apply Kd.R_alloc | apply Kd.R_drewN | apply Kd.R_drew)); exact HO415.out) hb)
        have n1_ := Aside0.mk (Kd.N_mono (Kd.N_told (Kd.N_told (Kd.N_old (by (with_reducible repeat (first | apply Kd.N_alloc | apply Kd.N_drewN | apply Kd.N_drew)); exact HO419.out) hb) (Kd.N_base ho0)) (Kd.R_base ho1)) (fun _ h_ => h_.1))
        have n2_ := Aside0.mk (Kd.N_lower (Kd.N_mono (ok' := fun k_ => some k_ ≠ (v425 : Value).ownBlock ∧ some k_ ≠ (.slice Ao40 t413.length co40 : Value).ownBlock ∧ some k_ ≠ (.slice Ao41 t417.length co41 : Value).ownBlock ∧ k_ ≠ gb409 ∧ k_ ≠ gb410) ho0 (fun k_ hk_ => ⟨hk_.2, (Kd.fresh' (Kd.R_lt (by (with_reducible repeat (first | apply Kd.R_alloc | apply Kd.R_drewN | apply Kd.R_drew)); exact HO415.out)) k_ hk_.1), (Kd.fresh' (Kd.N_lt (by (with_reducible repeat (first | apply Kd.N_alloc | apply Kd.N_drewN | apply Kd.N_drew)); exact HO419.out)) k_ hk_.1), (Kd.freshB (g := gb409) (o := .cells #[.slice A0_0 l0_0.length c0_0] 43 (0, 0)) (by (with_reducible repeat first | refine bkN ?_ _ | refine bkD ?_ | refine bkA ?_ _); exact BK409.out) k_ hk_.1), (Kd.freshB (g := gb410) (o := .cells #[.int .i64 a1_0, .slice A1_1 l1_1.length c1_1] 46 (0, 0)) (by (with_reducible repeat first | refine bkN ?_ _ | refine bkD ?_ | refine bkA ?_ _); exact BK410.out) k_ hk_.1)⟩)) (below_size (by repeat (first | (with_reducible first | exact HB.out | apply below_alloc | apply pw_below_drewN | apply below_drew1 | refine below_set ?_ GE409.out | refine below_set ?_ GE410.out) | exact HB.out))))
        have n3_ := Aside0.mk (Kd.R_lower (Kd.R_mono (ok' := fun k_ => True) ho1 (fun _ hk_ => trivial)) (below_size (by repeat (first | (with_reducible first | exact HB.out | apply below_alloc | apply pw_below_drewN | apply below_drew1 | refine below_set ?_ GE409.out | refine below_set ?_ GE410.out) | exact HB.out))))
        have n4_ := Aside0.mk (blk_below (g := gb409) (o := .cells #[.slice A0_0 l0_0.length c0_0] 43 (0, 0)) (by (with_reducible repeat first | refine bkN ?_ _ | refine bkD ?_ | refine bkA ?_ _); exact BK409.out) hb)
        have n5_ := Aside0.mk (blk_below (g := gb410) (o := .cells #[.int .i64 a1_0, .slice A1_1 l1_1.length c1_1] 46 (0, 0)) (by (with_reducible repeat first | refine bkN ?_ _ | refine bkD ?_ | refine bkA ?_ _); exact BK410.out) hb)
        have n6_ := Aside0.mk (below_step (by repeat (first | (with_reducible first | exact HB.out | apply below_alloc | apply pw_below_drewN | apply below_drew1 | refine below_set ?_ GE409.out | refine below_set ?_ GE410.out) | exact HB.out)) hb)
        clear HO415
        clear HO419
        clear BK409
        clear BK410
        clear HB
        have HO415 := n0_
        have HO419 := n1_
        have HO423 := n2_
        have HO426 := n3_
        have BK409 := n4_
        have BK410 := n5_
        have HB := n6_
        clear n0_ n1_ n2_ n3_ n4_ n5_ n6_
        (try clear hb)
        (try clear hb2)
        (try clear hk)
        (try clear hi)
        (try clear ho0)
        (try clear ho1)
        refine hK.out _ _ ⟨(blk_cell BK409.out 0).trans rfl, (blk_cell BK410.out 0).trans rfl, (blk_cell BK410.out 1).trans rfl⟩ (fun hHeld => ?_)
        clear hK K
        refine norm_ (a' := ?_) ?_ ?_
        rotate_left
        ·show Act.put _ (some 41) _ = _
         simp only [Act.put, List.setIfInBounds_toArray, List.set_cons_zero, List.set_cons_succ, i64_w, i32_w]
         rfl
        refine pure_ (i := 6) (N := some 35) (v := ?_) (a' := ?_) #[true, true, true, true, true, true, true, false, false, false, false, false, false, false] rfl rfl (any_of HT_.out (by kernel_rfl)) (fun _ _ _ h => h) (Or.inl ⟨by rfl, ?_⟩) ?_ ?_
        rotate_left
        ·intro w'
         go_simp
         with_reducible rfl
        rotate_left
        ·simp only [Act.put, List.setIfInBounds_toArray, List.set_cons_zero, List.set_cons_succ, i64_w, i32_w]
         rfl
        refine pure_ (i := 7) (N := some 42) (v := ?_) (a' := ?_) #[true, true, true, true, true, true, true, true, false, false, false, false, false, false] rfl rfl (any_of HT_.out (by kernel_rfl)) (fun _ _ _ h => h) (Or.inl ⟨by rfl, ?_⟩) ?_ ?_
        rotate_left
        ·intro w'
         go_simp
         with_reducible rfl
        rotate_left
        ·simp only [Act.put, List.setIfInBounds_toArray, List.set_cons_zero, List.set_cons_succ, i64_w, i32_w]
         rfl
        refine pure_ (i := 8) (N := some 43) (v := ?_) (a' := ?_) #[true, true, true, true, true, true, true, true, true, false, false, false, false, false] rfl rfl (any_of HT_.out (by kernel_rfl)) (fun _ _ _ h => h) (Or.inl ⟨by rfl, ?_⟩) ?_ ?_
        rotate_left
        ·intro w'
         go_simp
         with_reducible rfl
        rotate_left
        ·simp only [Act.put, List.setIfInBounds_toArray, List.set_cons_zero, List.set_cons_succ, i64_w, i32_w]
         rfl
        refine pure_ (i := 9) (N := some 44) (v := ?_) (a' := ?_) #[true, true, true, true, true, true, true, true, true, true, false, false, false, false] rfl rfl (any_of HT_.out (by kernel_rfl)) (fun _ _ _ h => h) (Or.inl ⟨by rfl, ?_⟩) ?_ ?_
        rotate_left
        ·intro w'
         go_simp
         with_reducible rfl
        rotate_left
        ·simp only [Act.put, List.setIfInBounds_toArray, List.set_cons_zero, List.set_cons_succ, i64_w, i32_w]
         rfl
        refine one_ (i := 10) (N := some 8) #[true, true, true, true, true, true, true, true, true, true, true, false, false, false] rfl rfl (one_of HT_.out (by kernel_rfl)) (by decide) (fun K hK => ?_)
        refine box_step ?hg (N := 8) ?hd (cs := #[.int .i64 0, .slice none 0 0]) (t := 31) ?hr ?_; (case hd => rfl); (case hg => rfl); (case hr => first | (go_simp; done) | (go_simp; rfl))
        intro gb428 hg w43 hbox hb
        have n0_ := Aside0.mk (Kd.R_below (by (with_reducible repeat (first | apply Kd.R_alloc | apply Kd.R_drewN | apply Kd.R_drew)); exact HO415.out) hb)
        have n1_ := Aside0.mk (Kd.N_below (Kd.N_elderB (by (with_reducible repeat (first | apply Kd.N_alloc | apply Kd.N_drewN | apply Kd.N_drew)); exact HO419.out) gb428 (Nat.le_of_eq hg.symm)) hb)
        have n2_ := Aside0.mk (Kd.N_below (Kd.N_elderB (by (with_reducible repeat (first | apply Kd.N_alloc | apply Kd.N_drewN | apply Kd.N_drew)); exact HO423.out) gb428 (Nat.le_of_eq hg.symm)) hb)
        have n3_ := Aside0.mk (Kd.R_below (by (with_reducible repeat (first | apply Kd.R_alloc | apply Kd.R_drewN | apply Kd.R_drew)); exact HO426.out) hb)
        have n4_ := Aside0.mk (blk_below (g := gb409) (o := .cells #[.slice A0_0 l0_0.length c0_0] 43 (0, 0)) (by (with_reducible repeat first | refine bkN ?_ _ | refine bkD ?_ | refine bkA ?_ _); exact BK409.out) hb)
        have n5_ := Aside0.mk (blk_below (g := gb410) (o := .cells #[.int .i64 a1_0, .slice A1_1 l1_1.length c1_1] 46 (0, 0)) (by (with_reducible repeat first | refine bkN ?_ _ | refine bkD ?_ | refine bkA ?_ _); exact BK410.out) hb)
        have n6_ := Aside0.mk (below_step (by repeat (first | (with_reducible first | exact HB.out | apply below_alloc | apply pw_below_drewN | apply below_drew1 | refine below_set ?_ GE409.out | refine below_set ?_ GE410.out) | exact HB.out)) hb)
        have n7_ := Aside0.mk (hbox)
        have n8_ := Aside0.mk ((by rw [hg]; exact (below_size (by repeat (first | (with_reducible first | exact HB.out | apply below_alloc | apply pw_below_drewN | apply below_drew1 | refine below_set ?_ GE409.out | refine below_set ?_ GE410.out) | exact HB.out))) : w.heap.size ≤ gb428))
        have n9_ := Aside0.mk ((by rw [hg]; exact (below_size (by repeat (first | (with_reducible first | exact HB.out | apply below_alloc | apply pw_below_drewN | apply below_drew1 | refine below_set ?_ GE409.out | refine below_set ?_ GE410.out) | exact HB.out))) : w.heap.size ≤ gb428))
        have n10_ := Aside0.mk ((by rw [hg]; exact Nat.ne_of_lt (blk_lt (g := gb409) (o := .cells #[.slice A0_0 l0_0.length c0_0] 43 (0, 0)) (by (with_reducible repeat first | refine bkN ?_ _ | refine bkD ?_ | refine bkA ?_ _); exact BK409.out)) : gb409 ≠ gb428))
        have n11_ := Aside0.mk ((by rw [hg]; exact Nat.ne_of_gt (blk_lt (g := gb409) (o := .cells #[.slice A0_0 l0_0.length c0_0] 43 (0, 0)) (by (with_reducible repeat first | refine bkN ?_ _ | refine bkD ?_ | refine bkA ?_ _); exact BK409.out)) : gb428 ≠ gb409))
        have n12_ := Aside0.mk ((by rw [hg]; exact Nat.ne_of_lt (blk_lt (g := gb410) (o := .cells #[.int .i64 a1_0, .slice A1_1 l1_1.length c1_1] 46 (0, 0)) (by (with_reducible repeat first | refine bkN ?_ _ | refine bkD ?_ | refine bkA ?_ _); exact BK410.out)) : gb410 ≠ gb428))
        have n13_ := Aside0.mk ((by rw [hg]; exact Nat.ne_of_gt (blk_lt (g := gb410) (o := .cells #[.int .i64 a1_0, .slice A1_1 l1_1.length c1_1] 46 (0, 0)) (by (with_reducible repeat first | refine bkN ?_ _ | refine bkD ?_ | refine bkA ?_ _); exact BK410.out)) : gb428 ≠ gb410))
        clear HO415
        clear HO419
        clear HO423
        clear HO426
        clear BK409
        clear BK410
        clear HB
        have HO415 := n0_
        have HO419 := n1_
        have HO423 := n2_
        have HO426 := n3_
        have BK409 := n4_
        have BK410 := n5_
        have HB := n6_
        have BK428 := n7_
        have GW428 := n8_
        have GE428 := n9_
        have NB409_428 := n10_
        have NB428_409 := n11_
        have NB410_428 := n12_
        have NB428_410 := n13_
        clear n0_ n1_ n2_ n3_ n4_ n5_ n6_ n7_ n8_ n9_ n10_ n11_ n12_ n13_
        clear hb hbox hg
        refine hK.out _ _ ⟨(blk_cell BK409.out 0).trans rfl, (blk_cell BK410.out 0).trans rfl, (blk_cell BK410.out 1).trans rfl⟩ (fun hHeld => ?_)
        clear hK K
        refine norm_ (a' := ?_) ?_ ?_
        rotate_left
        ·show Act.put _ (some 8) _ = _
         simp only [Act.put, List.setIfInBounds_toArray, List.set_cons_zero, List.set_cons_succ, i64_w, i32_w]
         rfl
        exact norm_ (by simp only [putAll, Act.put, List.setIfInBounds_toArray, List.set_cons_zero, List.set_cons_succ]) (hCont (.slice Ao40 t413.length co40, .slice Ao41 t417.length co41, v422, v425, gb428) _ ⟨hHeld, (by (with_reducible repeat (first | apply Kd.R_alloc | apply Kd.R_drewN | apply Kd.R_drew)); exact HO415.out), (by (with_reducible repeat (first | apply Kd.N_alloc | apply Kd.N_drewN | apply Kd.N_drew)); exact Kd.N_mono HO419.out (fun _ hk => ⟨hk.1.1.1.1, ⟨hk.1.1.2, ⟨hk.1.2, ⟨hk.1.1.1.2.1, ⟨hk.1.1.1.2.2, hk.2⟩⟩⟩⟩⟩)), (by (with_reducible repeat (first | apply Kd.N_alloc | apply Kd.N_drewN | apply Kd.N_drew)); exact Kd.N_mono HO423.out (fun _ hk => ⟨hk.1.2.1, ⟨hk.1.2.2.1, ⟨hk.1.1, ⟨hk.1.2.2.2.1, ⟨hk.1.2.2.2.2, hk.2⟩⟩⟩⟩⟩)), (by (with_reducible repeat (first | apply Kd.R_alloc | apply Kd.R_drewN | apply Kd.R_drew)); exact HO426.out), (by (with_reducible repeat first | refine bkN ?_ _ | refine bkD ?_ | refine bkA ?_ _); exact BK409.out), (by (with_reducible repeat first | refine bkN ?_ _ | refine bkD ?_ | refine bkA ?_ _); exact BK410.out), (by (with_reducible repeat first | refine bkN ?_ _ | refine bkD ?_ | refine bkA ?_ _); exact BK428.out), GW428.out, GE428.out, NB409_428.out, NB428_409.out, NB410_428.out, NB428_410.out, (by repeat (first | (with_reducible first | exact HB.out | apply below_alloc | apply pw_below_drewN | apply below_drew1 | refine below_set ?_ GE409.out | refine below_set ?_ GE410.out | refine below_set ?_ GE428.out) | exact HB.out))⟩)
       ·skip
        refine box_step ?hg (N := 8) ?hd (cs := #[.int .i64 0, .slice none 0 0]) (t := 31) ?hr ?_; (case hd => rfl); (case hg => rfl); (case hr => first | (go_simp; done) | (go_simp; rfl))
        intro gb428 hg w40 hbox hb
        have n0_ := Aside0.mk (Kd.R_below (by (with_reducible repeat (first | apply Kd.R_alloc | apply Kd.R_drewN | apply Kd.R_drew)); exact HO415.out) hb)
        have n1_ := Aside0.mk (Kd.N_below (Kd.N_elderB (by (with_reducible repeat (first | apply Kd.N_alloc | apply Kd.N_drewN | apply Kd.N_drew)); exact HO419.out) gb428 (Nat.le_of_eq hg.symm)) hb)
        have n2_ := Aside0.mk (blk_below (g := gb409) (o := .cells #[.slice A0_0 l0_0.length c0_0] 43 (0, 0)) (by (with_reducible repeat first | refine bkN ?_ _ | refine bkD ?_ | refine bkA ?_ _); exact BK409.out) hb)
        have n3_ := Aside0.mk (blk_below (g := gb410) (o := .cells #[.int .i64 a1_0, .slice A1_1 l1_1.length c1_1] 46 (0, 0)) (by (with_reducible repeat first | refine bkN ?_ _ | refine bkD ?_ | refine bkA ?_ _); exact BK410.out) hb)
        have n4_ := Aside0.mk (below_step (by repeat (first | (with_reducible first | exact HB.out | apply below_alloc | apply pw_below_drewN | apply below_drew1 | refine below_set ?_ GE409.out | refine below_set ?_ GE410.out) | exact HB.out)) hb)
        have n5_ := Aside0.mk (hbox)
        have n6_ := Aside0.mk ((by rw [hg]; exact (below_size (by repeat (first | (with_reducible first | exact HB.out | apply below_alloc | apply pw_below_drewN | apply below_drew1 | refine below_set ?_ GE409.out | refine below_set ?_ GE410.out) | exact HB.out))) : w.heap.size ≤ gb428))
        have n7_ := Aside0.mk ((by rw [hg]; exact (below_size (by repeat (first | (with_reducible first | exact HB.out | apply below_alloc | apply pw_below_drewN | apply below_drew1 | refine below_set ?_ GE409.out | refine below_set ?_ GE410.out) | exact HB.out))) : w.heap.size ≤ gb428))
        have n8_ := Aside0.mk ((by rw [hg]; exact Nat.ne_of_lt (blk_lt (g := gb409) (o := .cells #[.slice A0_0 l0_0.length c0_0] 43 (0, 0)) (by (with_reducible repeat first | refine bkN ?_ _ | refine bkD ?_ | refine bkA ?_ _); exact BK409.out)) : gb409 ≠ gb428))
        have n9_ := Aside0.mk ((by rw [hg]; exact Nat.ne_of_gt (blk_lt (g := gb409) (o := .cells #[.slice A0_0 l0_0.length c0_0] 43 (0, 0)) (by (with_reducible repeat first | refine bkN ?_ _ | refine bkD ?_ | refine bkA ?_ _); exact BK409.out)) : gb428 ≠ gb409))
        have n10_ := Aside0.mk ((by rw [hg]; exact Nat.ne_of_lt (blk_lt (g := gb410) (o := .cells #[.int .i64 a1_0, .slice A1_1 l1_1.length c1_1] 46 (0, 0)) (by (with_reducible repeat first | refine bkN ?_ _ | refine bkD ?_ | refine bkA ?_ _); exact BK410.out)) : gb410 ≠ gb428))
        have n11_ := Aside0.mk ((by rw [hg]; exact Nat.ne_of_gt (blk_lt (g := gb410) (o := .cells #[.int .i64 a1_0, .slice A1_1 l1_1.length c1_1] 46 (0, 0)) (by (with_reducible repeat first | refine bkN ?_ _ | refine bkD ?_ | refine bkA ?_ _); exact BK410.out)) : gb428 ≠ gb410))
        clear HO415
        clear HO419
        clear BK409
        clear BK410
        clear HB
        have HO415 := n0_
        have HO419 := n1_
        have BK409 := n2_
        have BK410 := n3_
        have HB := n4_
        have BK428 := n5_
        have GW428 := n6_
        have GE428 := n7_
        have NB409_428 := n8_
        have NB428_409 := n9_
        have NB410_428 := n10_
        have NB428_410 := n11_
        clear n0_ n1_ n2_ n3_ n4_ n5_ n6_ n7_ n8_ n9_ n10_ n11_
        clear hb hbox hg
        obtain ⟨Ao41, co41, eo41⟩ := Kd.R_slice HO415.out
        (first | subst eo41 | (injection eo41 with f1_ f2_ f3_; have f4_ := f1_.symm; have f5_ := f3_.symm; clear f1_ f2_ f3_; subst f4_; subst f5_))
        obtain ⟨Ao42, co42, eo42⟩ := Kd.N_slice HO419.out
        (first | subst eo42 | (injection eo42 with f1_ f2_ f3_; have f4_ := f1_.symm; have f5_ := f3_.symm; clear f1_ f2_ f3_; subst f4_; subst f5_))
        refine hK.out _ _ ⟨(blk_cell BK409.out 0).trans rfl, (blk_cell BK410.out 0).trans rfl, (blk_cell BK410.out 1).trans rfl⟩ (fun hHeld => ?_)
        clear hK K
        refine norm_ (a' := ?_) ?_ ?_
        rotate_left
        ·show Act.put _ (some 8) _ = _
         simp only [Act.put, List.setIfInBounds_toArray, List.set_cons_zero, List.set_cons_succ, i64_w, i32_w]
         rfl
        refine one_ (i := 5) (N := some 41) #[true, true, true, true, true, true, false, false, false, false, true, false, false, false] rfl rfl (one_of HT_.out (by kernel_rfl)) (by decide) (fun K hK => ?_)
        refine goes_ Try.func16 (by kernel_rfl) rfl #[.agg #[.slice Ao41 t413.length co41], .agg #[.int .i64 t416, .slice Ao42 t417.length co42], .string a2] (by rfl) rfl rfl (by (try simp only [List.map_toArray, List.map_cons, List.map_nil]); first | done | rfl | (simp only [List.length_drop, List.length_take]; rfl)) ?_
        with_reducible refine (spec_Recall.calls k _ _ t413 t416 _ _ t417 a2 t420 t421 t424 t427 _ ?side1 ?side2 ?side3 ?side4 A25.out).mono ?_
        (case side1 => repeat (first | exact (Kd.R_reads' HO415.out).2.2 | (with_reducible refine Kd.C_alloc ?_ _) | (with_reducible refine Kd.C_drewN ?_ _) | (with_reducible refine Kd.C_drew ?_)))
        (case side2 => exact (Kd.R_reads' HO415.out).2.1)
        (case side3 => repeat (first | exact (Kd.N_reads' HO419.out).2.2 | (with_reducible refine Kd.C_alloc ?_ _) | (with_reducible refine Kd.C_drewN ?_ _) | (with_reducible refine Kd.C_drew ?_)))
        (case side4 => exact (Kd.N_reads' HO419.out).2.1)
        rintro e w43 ⟨v422, v425, rfl, ho0, ho1, hb⟩
        refine ⟨_, rfl, ?_⟩
        have n0_ := Aside0.mk (Kd.R_below (by (with_reducible repeat (first | apply Kd.R_alloc | apply Kd.R_drewN | apply Kd.R_drew)); exact HO415.out) hb)
        have n1_ := Aside0.mk (Kd.N_mono (Kd.N_told (Kd.N_told (Kd.N_old (by (with_reducible repeat (first | apply Kd.N_alloc | apply Kd.N_drewN | apply Kd.N_drew)); exact HO419.out) hb) (Kd.N_base ho0)) (Kd.R_base ho1)) (fun _ h_ => h_.1))
        have n2_ := Aside0.mk (Kd.N_lower (Kd.N_mono (ok' := fun k_ => some k_ ≠ (v425 : Value).ownBlock ∧ some k_ ≠ (.slice Ao41 t413.length co41 : Value).ownBlock ∧ some k_ ≠ (.slice Ao42 t417.length co42 : Value).ownBlock ∧ k_ ≠ gb409 ∧ k_ ≠ gb410 ∧ k_ ≠ gb428) ho0 (fun k_ hk_ => ⟨hk_.2, (Kd.fresh' (Kd.R_lt (by (with_reducible repeat (first | apply Kd.R_alloc | apply Kd.R_drewN | apply Kd.R_drew)); exact HO415.out)) k_ hk_.1), (Kd.fresh' (Kd.N_lt (by (with_reducible repeat (first | apply Kd.N_alloc | apply Kd.N_drewN | apply Kd.N_drew)); exact HO419.out)) k_ hk_.1), (Kd.freshB (g := gb409) (o := .cells #[.slice A0_0 l0_0.length c0_0] 43 (0, 0)) (by (with_reducible repeat first | refine bkN ?_ _ | refine bkD ?_ | refine bkA ?_ _); exact BK409.out) k_ hk_.1), (Kd.freshB (g := gb410) (o := .cells #[.int .i64 a1_0, .slice A1_1 l1_1.length c1_1] 46 (0, 0)) (by (with_reducible repeat first | refine bkN ?_ _ | refine bkD ?_ | refine bkA ?_ _); exact BK410.out) k_ hk_.1), (Kd.freshB (g := gb428) (o := .cells #[.int .i64 0, .slice none 0 0] 31 (0, 0)) (by (with_reducible repeat first | refine bkN ?_ _ | refine bkD ?_ | refine bkA ?_ _); exact BK428.out) k_ hk_.1)⟩)) (below_size (by repeat (first | (with_reducible first | exact HB.out | apply below_alloc | apply pw_below_drewN | apply below_drew1 | refine below_set ?_ GE409.out | refine below_set ?_ GE410.out | refine below_set ?_ GE428.out) | exact HB.out))))
        have n3_ := Aside0.mk (Kd.R_lower (Kd.R_mono (ok' := fun k_ => True) ho1 (fun _ hk_ => trivial)) (below_size (by repeat (first | (with_reducible first | exact HB.out | apply below_alloc | apply pw_below_drewN | apply below_drew1 | refine below_set ?_ GE409.out | refine below_set ?_ GE410.out | refine below_set ?_ GE428.out) | exact HB.out))))
        have n4_ := Aside0.mk (blk_below (g := gb409) (o := .cells #[.slice A0_0 l0_0.length c0_0] 43 (0, 0)) (by (with_reducible repeat first | refine bkN ?_ _ | refine bkD ?_ | refine bkA ?_ _); exact BK409.out) hb)
        have n5_ := Aside0.mk (blk_below (g := gb410) (o := .cells #[.int .i64 a1_0, .slice A1_1 l1_1.length c1_1] 46 (0, 0)) (by (with_reducible repeat first | refine bkN ?_ _ | refine bkD ?_ | refine bkA ?_ _); exact BK410.out) hb)
        have n6_ := Aside0.mk (blk_below (g := gb428) (o := .cells #[.int .i64 0, .slice none 0 0] 31 (0, 0)) (by (with_reducible repeat first | refine bkN ?_ _ | refine bkD ?_ | refine bkA ?_ _); exact BK428.out) hb)
        have n7_ := Aside0.mk (below_step (by repeat (first | (with_reducible first | exact HB.out | apply below_alloc | apply pw_below_drewN | apply below_drew1 | refine below_set ?_ GE409.out | refine below_set ?_ GE410.out | refine below_set ?_ GE428.out) | exact HB.out)) hb)
        clear HO415
        clear HO419
        clear BK409
        clear BK410
        clear BK428
        clear HB
        have HO415 := n0_
        have HO419 := n1_
        have HO423 := n2_
        have HO426 := n3_
        have BK409 := n4_
        have BK410 := n5_
        have BK428 := n6_
        have HB := n7_
        clear n0_ n1_ n2_ n3_ n4_ n5_ n6_ n7_
        (try clear hb)
        (try clear hb2)
        (try clear hk)
        (try clear hi)
        (try clear ho0)
        (try clear ho1)
        refine hK.out _ _ ⟨(blk_cell BK409.out 0).trans rfl, (blk_cell BK410.out 0).trans rfl, (blk_cell BK410.out 1).trans rfl⟩ (fun hHeld => ?_)
        clear hK K
        refine norm_ (a' := ?_) ?_ ?_
        rotate_left
        ·show Act.put _ (some 41) _ = _
         simp only [Act.put, List.setIfInBounds_toArray, List.set_cons_zero, List.set_cons_succ, i64_w, i32_w]
         rfl
        refine pure_ (i := 6) (N := some 35) (v := ?_) (a' := ?_) #[true, true, true, true, true, true, true, false, false, false, true, false, false, false] rfl rfl (any_of HT_.out (by kernel_rfl)) (fun _ _ _ h => h) (Or.inl ⟨by rfl, ?_⟩) ?_ ?_
        rotate_left
        ·intro w'
         go_simp
         with_reducible rfl
        rotate_left
        ·simp only [Act.put, List.setIfInBounds_toArray, List.set_cons_zero, List.set_cons_succ, i64_w, i32_w]
         rfl
        refine pure_ (i := 7) (N := some 42) (v := ?_) (a' := ?_) #[true, true, true, true, true, true, true, true, false, false, true, false, false, false] rfl rfl (any_of HT_.out (by kernel_rfl)) (fun _ _ _ h => h) (Or.inl ⟨by rfl, ?_⟩) ?_ ?_
        rotate_left
        ·intro w'
         go_simp
         with_reducible rfl
        rotate_left
        ·simp only [Act.put, List.setIfInBounds_toArray, List.set_cons_zero, List.set_cons_succ, i64_w, i32_w]
         rfl
        refine pure_ (i := 8) (N := some 43) (v := ?_) (a' := ?_) #[true, true, true, true, true, true, true, true, true, false, true, false, false, false] rfl rfl (any_of HT_.out (by kernel_rfl)) (fun _ _ _ h => h) (Or.inl ⟨by rfl, ?_⟩) ?_ ?_
        rotate_left
        ·intro w'
         go_simp
         with_reducible rfl
        rotate_left
        ·simp only [Act.put, List.setIfInBounds_toArray, List.set_cons_zero, List.set_cons_succ, i64_w, i32_w]
         rfl
        refine pure_ (i := 9) (N := some 44) (v := ?_) (a' := ?_) #[true, true, true, true, true, true, true, true, true, true, true, false, false, false] rfl rfl (any_of HT_.out (by kernel_rfl)) (fun _ _ _ h => h) (Or.inl ⟨by rfl, ?_⟩) ?_ ?_
        rotate_left
        ·intro w'
         go_simp
         with_reducible rfl
        rotate_left
        ·simp only [Act.put, List.setIfInBounds_toArray, List.set_cons_zero, List.set_cons_succ, i64_w, i32_w]
         rfl
        exact norm_ (by simp only [putAll, Act.put, List.setIfInBounds_toArray, List.set_cons_zero, List.set_cons_succ]) (hCont (.slice Ao41 t413.length co41, .slice Ao42 t417.length co42, v422, v425, gb428) _ ⟨hHeld, (by (with_reducible repeat (first | apply Kd.R_alloc | apply Kd.R_drewN | apply Kd.R_drew)); exact HO415.out), (by (with_reducible repeat (first | apply Kd.N_alloc | apply Kd.N_drewN | apply Kd.N_drew)); exact Kd.N_mono HO419.out (fun _ hk => ⟨hk.1.1.1.1, ⟨hk.1.2, ⟨hk.2, ⟨hk.1.1.1.2.1, ⟨hk.1.1.1.2.2, hk.1.1.2⟩⟩⟩⟩⟩)), (by (with_reducible repeat (first | apply Kd.N_alloc | apply Kd.N_drewN | apply Kd.N_drew)); exact Kd.N_mono HO423.out (fun _ hk => ⟨hk.2.1, ⟨hk.2.2.1, ⟨hk.1, ⟨hk.2.2.2.1, ⟨hk.2.2.2.2.1, hk.2.2.2.2.2⟩⟩⟩⟩⟩)), (by (with_reducible repeat (first | apply Kd.R_alloc | apply Kd.R_drewN | apply Kd.R_drew)); exact HO426.out), (by (with_reducible repeat first | refine bkN ?_ _ | refine bkD ?_ | refine bkA ?_ _); exact BK409.out), (by (with_reducible repeat first | refine bkN ?_ _ | refine bkD ?_ | refine bkA ?_ _); exact BK410.out), (by (with_reducible repeat first | refine bkN ?_ _ | refine bkD ?_ | refine bkA ?_ _); exact BK428.out), GW428.out, GE428.out, NB409_428.out, NB428_409.out, NB410_428.out, NB428_410.out, (by repeat (first | (with_reducible first | exact HB.out | apply below_alloc | apply pw_below_drewN | apply below_drew1 | refine below_set ?_ GE409.out | refine below_set ?_ GE410.out | refine below_set ?_ GE428.out) | exact HB.out))⟩)
      ·skip
       refine box_step ?hg (N := 8) ?hd (cs := #[.int .i64 0, .slice none 0 0]) (t := 31) ?hr ?_; (case hd => rfl); (case hg => rfl); (case hr => first | (go_simp; done) | (go_simp; rfl))
       intro gb428 hg w39 hbox hb
       have n0_ := Aside0.mk (Kd.R_below (by (with_reducible repeat (first | apply Kd.R_alloc | apply Kd.R_drewN | apply Kd.R_drew)); exact HO415.out) hb)
       have n1_ := Aside0.mk (blk_below (g := gb409) (o := .cells #[.slice A0_0 l0_0.length c0_0] 43 (0, 0)) (by (with_reducible repeat first | refine bkN ?_ _ | refine bkD ?_ | refine bkA ?_ _); exact BK409.out) hb)
       have n2_ := Aside0.mk (blk_below (g := gb410) (o := .cells #[.int .i64 a1_0, .slice A1_1 l1_1.length c1_1] 46 (0, 0)) (by (with_reducible repeat first | refine bkN ?_ _ | refine bkD ?_ | refine bkA ?_ _); exact BK410.out) hb)
       have n3_ := Aside0.mk (below_step (by repeat (first | (with_reducible first | exact HB.out | apply below_alloc | apply pw_below_drewN | apply below_drew1 | refine below_set ?_ GE409.out | refine below_set ?_ GE410.out) | exact HB.out)) hb)
       have n4_ := Aside0.mk (hbox)
       have n5_ := Aside0.mk ((by rw [hg]; exact (below_size (by repeat (first | (with_reducible first | exact HB.out | apply below_alloc | apply pw_below_drewN | apply below_drew1 | refine below_set ?_ GE409.out | refine below_set ?_ GE410.out) | exact HB.out))) : w.heap.size ≤ gb428))
       have n6_ := Aside0.mk ((by rw [hg]; exact (below_size (by repeat (first | (with_reducible first | exact HB.out | apply below_alloc | apply pw_below_drewN | apply below_drew1 | refine below_set ?_ GE409.out | refine below_set ?_ GE410.out) | exact HB.out))) : w.heap.size ≤ gb428))
       have n7_ := Aside0.mk ((by rw [hg]; exact Nat.ne_of_lt (blk_lt (g := gb409) (o := .cells #[.slice A0_0 l0_0.length c0_0] 43 (0, 0)) (by (with_reducible repeat first | refine bkN ?_ _ | refine bkD ?_ | refine bkA ?_ _); exact BK409.out)) : gb409 ≠ gb428))
       have n8_ := Aside0.mk ((by rw [hg]; exact Nat.ne_of_gt (blk_lt (g := gb409) (o := .cells #[.slice A0_0 l0_0.length c0_0] 43 (0, 0)) (by (with_reducible repeat first | refine bkN ?_ _ | refine bkD ?_ | refine bkA ?_ _); exact BK409.out)) : gb428 ≠ gb409))
       have n9_ := Aside0.mk ((by rw [hg]; exact Nat.ne_of_lt (blk_lt (g := gb410) (o := .cells #[.int .i64 a1_0, .slice A1_1 l1_1.length c1_1] 46 (0, 0)) (by (with_reducible repeat first | refine bkN ?_ _ | refine bkD ?_ | refine bkA ?_ _); exact BK410.out)) : gb410 ≠ gb428))
       have n10_ := Aside0.mk ((by rw [hg]; exact Nat.ne_of_gt (blk_lt (g := gb410) (o := .cells #[.int .i64 a1_0, .slice A1_1 l1_1.length c1_1] 46 (0, 0)) (by (with_reducible repeat first | refine bkN ?_ _ | refine bkD ?_ | refine bkA ?_ _); exact BK410.out)) : gb428 ≠ gb410))
       clear HO415
       clear BK409
       clear BK410
       clear HB
       have HO415 := n0_
       have BK409 := n1_
       have BK410 := n2_
       have HB := n3_
       have BK428 := n4_
       have GW428 := n5_
       have GE428 := n6_
       have NB409_428 := n7_
       have NB428_409 := n8_
       have NB410_428 := n9_
       have NB428_410 := n10_
       clear n0_ n1_ n2_ n3_ n4_ n5_ n6_ n7_ n8_ n9_ n10_
       clear hb hbox hg
       refine hK.out _ _ ⟨(blk_cell BK409.out 0).trans rfl, (blk_cell BK410.out 0).trans rfl, (blk_cell BK410.out 1).trans rfl⟩ (fun hHeld => ?_)
       clear hK K
       refine norm_ (a' := ?_) ?_ ?_
       rotate_left
       ·show Act.put _ (some 8) _ = _
        simp only [Act.put, List.setIfInBounds_toArray, List.set_cons_zero, List.set_cons_succ, i64_w, i32_w]
        rfl
       refine one_ (i := 3) (N := some 39) #[true, true, true, true, true, false, false, false, false, false, true, false, false, false] rfl rfl (one_of HT_.out (by kernel_rfl)) (by decide) (fun K hK => ?_)
       refine goes_ Try.func18 (by kernel_rfl) rfl #[.agg #[.int .i64 a1_0, .slice A1_1 l1_1.length c1_1]] (by rfl) rfl rfl (by (try simp only [List.map_toArray, List.map_cons, List.map_nil]); first | done | rfl | (simp only [List.length_drop, List.length_take]; rfl)) ?_
       with_reducible refine (laws_toMemo.calls k a1_0 _ _ l1_1 t416 t417 _ ?side1 ?side2 A24.out).mono ?_
       (case side1 => repeat (first | exact (Kd.C_below HR1_1.out HB.out) | (with_reducible refine Kd.C_alloc ?_ _) | (with_reducible refine Kd.C_drewN ?_ _) | (with_reducible refine Kd.C_drew ?_)))
       (case side2 => exact HC1_1.out)
       rintro e w40 ⟨v418, rfl, ho0, hb⟩
       refine ⟨_, rfl, ?_⟩
       have n0_ := Aside0.mk (Kd.R_below (by (with_reducible repeat (first | apply Kd.R_alloc | apply Kd.R_drewN | apply Kd.R_drew)); exact HO415.out) hb)
       have n1_ := Aside0.mk (Kd.N_lower (Kd.N_mono (ok' := fun k_ => some k_ ≠ (v414 : Value).ownBlock ∧ k_ ≠ gb409 ∧ k_ ≠ gb410 ∧ k_ ≠ gb428) (Kd.S_N (Kd.S_bound ho0)) (fun k_ hk_ => ⟨(Kd.fresh' (Kd.R_lt (by (with_reducible repeat (first | apply Kd.R_alloc | apply Kd.R_drewN | apply Kd.R_drew)); exact HO415.out)) k_ hk_.2.1), (Kd.freshB (g := gb409) (o := .cells #[.slice A0_0 l0_0.length c0_0] 43 (0, 0)) (by (with_reducible repeat first | refine bkN ?_ _ | refine bkD ?_ | refine bkA ?_ _); exact BK409.out) k_ hk_.2.1), (Kd.freshB (g := gb410) (o := .cells #[.int .i64 a1_0, .slice A1_1 l1_1.length c1_1] 46 (0, 0)) (by (with_reducible repeat first | refine bkN ?_ _ | refine bkD ?_ | refine bkA ?_ _); exact BK410.out) k_ hk_.2.1), (Kd.freshB (g := gb428) (o := .cells #[.int .i64 0, .slice none 0 0] 31 (0, 0)) (by (with_reducible repeat first | refine bkN ?_ _ | refine bkD ?_ | refine bkA ?_ _); exact BK428.out) k_ hk_.2.1)⟩)) (below_size (by repeat (first | (with_reducible first | exact HB.out | apply below_alloc | apply pw_below_drewN | apply below_drew1 | refine below_set ?_ GE409.out | refine below_set ?_ GE410.out | refine below_set ?_ GE428.out) | exact HB.out))))
       have n2_ := Aside0.mk (blk_below (g := gb409) (o := .cells #[.slice A0_0 l0_0.length c0_0] 43 (0, 0)) (by (with_reducible repeat first | refine bkN ?_ _ | refine bkD ?_ | refine bkA ?_ _); exact BK409.out) hb)
       have n3_ := Aside0.mk (blk_below (g := gb410) (o := .cells #[.int .i64 a1_0, .slice A1_1 l1_1.length c1_1] 46 (0, 0)) (by (with_reducible repeat first | refine bkN ?_ _ | refine bkD ?_ | refine bkA ?_ _); exact BK410.out) hb)
       have n4_ := Aside0.mk (blk_below (g := gb428) (o := .cells #[.int .i64 0, .slice none 0 0] 31 (0, 0)) (by (with_reducible repeat first | refine bkN ?_ _ | refine bkD ?_ | refine bkA ?_ _); exact BK428.out) hb)
       have n5_ := Aside0.mk (below_step (by repeat (first | (with_reducible first | exact HB.out | apply below_alloc | apply pw_below_drewN | apply below_drew1 | refine below_set ?_ GE409.out | refine below_set ?_ GE410.out | refine below_set ?_ GE428.out) | exact HB.out)) hb)
       clear HO415
       clear BK409
       clear BK410
       clear BK428
       clear HB
       have HO415 := n0_
       have HO419 := n1_
       have BK409 := n2_
       have BK410 := n3_
       have BK428 := n4_
       have HB := n5_
       clear n0_ n1_ n2_ n3_ n4_ n5_
       (try clear hb)
       (try clear hb2)
       (try clear hk)
       (try clear hi)
       (try clear ho0)
       obtain ⟨Ao41, co41, eo41⟩ := Kd.R_slice HO415.out
       (first | subst eo41 | (injection eo41 with f1_ f2_ f3_; have f4_ := f1_.symm; have f5_ := f3_.symm; clear f1_ f2_ f3_; subst f4_; subst f5_))
       obtain ⟨Ao42, co42, eo42⟩ := Kd.N_slice HO419.out
       (first | subst eo42 | (injection eo42 with f1_ f2_ f3_; have f4_ := f1_.symm; have f5_ := f3_.symm; clear f1_ f2_ f3_; subst f4_; subst f5_))
       refine hK.out _ _ ⟨(blk_cell BK409.out 0).trans rfl, (blk_cell BK410.out 0).trans rfl, (blk_cell BK410.out 1).trans rfl⟩ (fun hHeld => ?_)
       clear hK K
       refine norm_ (a' := ?_) ?_ ?_
       rotate_left
       ·show Act.put _ (some 39) _ = _
        simp only [Act.put, List.setIfInBounds_toArray, List.set_cons_zero, List.set_cons_succ, i64_w, i32_w]
        rfl
       refine one_ (i := 5) (N := some 41) #[true, true, true, true, true, true, false, false, false, false, true, false, false, false] rfl rfl (one_of HT_.out (by kernel_rfl)) (by decide) (fun K hK => ?_)
       refine goes_ Try.func16 (by kernel_rfl) rfl #[.agg #[.slice Ao41 t413.length co41], .agg #[.int .i64 t416, .slice Ao42 t417.length co42], .string a2] (by rfl) rfl rfl (by (try simp only [List.map_toArray, List.map_cons, List.map_nil]); first | done | rfl | (simp only [List.length_drop, List.length_take]; rfl)) ?_
       with_reducible refine (spec_Recall.calls k _ _ t413 t416 _ _ t417 a2 t420 t421 t424 t427 _ ?side1 ?side2 ?side3 ?side4 A25.out).mono ?_
       (case side1 => repeat (first | exact (Kd.R_reads' HO415.out).2.2 | (with_reducible refine Kd.C_alloc ?_ _) | (with_reducible refine Kd.C_drewN ?_ _) | (with_reducible refine Kd.C_drew ?_)))
       (case side2 => exact (Kd.R_reads' HO415.out).2.1)
       (case side3 => repeat (first | exact (Kd.N_reads' HO419.out).2.2 | (with_reducible refine Kd.C_alloc ?_ _) | (with_reducible refine Kd.C_drewN ?_ _) | (with_reducible refine Kd.C_drew ?_)))
       (case side4 => exact (Kd.N_reads' HO419.out).2.1)
       rintro e w43 ⟨v422, v425, rfl, ho0, ho1, hb⟩
       refine ⟨_, rfl, ?_⟩
       have n0_ := Aside0.mk (Kd.R_below (by (with_reducible repeat (first | apply Kd.R_alloc | apply Kd.R_drewN | apply Kd.R_drew)); exact HO415.out) hb)
       have n1_ := Aside0.mk (Kd.N_mono (Kd.N_told (Kd.N_told (Kd.N_old (by (with_reducible repeat (first | apply Kd.N_alloc | apply Kd.N_drewN | apply Kd.N_drew)); exact HO419.out) hb) (Kd.N_base ho0)) (Kd.R_base ho1)) (fun _ h_ => h_.1))
       have n2_ := Aside0.mk (Kd.N_lower (Kd.N_mono (ok' := fun k_ => some k_ ≠ (v425 : Value).ownBlock ∧ some k_ ≠ (.slice Ao41 t413.length co41 : Value).ownBlock ∧ some k_ ≠ (.slice Ao42 t417.length co42 : Value).ownBlock ∧ k_ ≠ gb409 ∧ k_ ≠ gb410 ∧ k_ ≠ gb428) ho0 (fun k_ hk_ => ⟨hk_.2, (Kd.fresh' (Kd.R_lt (by (with_reducible repeat (first | apply Kd.R_alloc | apply Kd.R_drewN | apply Kd.R_drew)); exact HO415.out)) k_ hk_.1), (Kd.fresh' (Kd.N_lt (by (with_reducible repeat (first | apply Kd.N_alloc | apply Kd.N_drewN | apply Kd.N_drew)); exact HO419.out)) k_ hk_.1), (Kd.freshB (g := gb409) (o := .cells #[.slice A0_0 l0_0.length c0_0] 43 (0, 0)) (by (with_reducible repeat first | refine bkN ?_ _ | refine bkD ?_ | refine bkA ?_ _); exact BK409.out) k_ hk_.1), (Kd.freshB (g := gb410) (o := .cells #[.int .i64 a1_0, .slice A1_1 l1_1.length c1_1] 46 (0, 0)) (by (with_reducible repeat first | refine bkN ?_ _ | refine bkD ?_ | refine bkA ?_ _); exact BK410.out) k_ hk_.1), (Kd.freshB (g := gb428) (o := .cells #[.int .i64 0, .slice none 0 0] 31 (0, 0)) (by (with_reducible repeat first | refine bkN ?_ _ | refine bkD ?_ | refine bkA ?_ _); exact BK428.out) k_ hk_.1)⟩)) (below_size (by repeat (first | (with_reducible first | exact HB.out | apply below_alloc | apply pw_below_drewN | apply below_drew1 | refine below_set ?_ GE409.out | refine below_set ?_ GE410.out | refine below_set ?_ GE428.out) | exact HB.out))))
       have n3_ := Aside0.mk (Kd.R_lower (Kd.R_mono (ok' := fun k_ => True) ho1 (fun _ hk_ => trivial)) (below_size (by repeat (first | (with_reducible first | exact HB.out | apply below_alloc | apply pw_below_drewN | apply below_drew1 | refine below_set ?_ GE409.out | refine below_set ?_ GE410.out | refine below_set ?_ GE428.out) | exact HB.out))))
       have n4_ := Aside0.mk (blk_below (g := gb409) (o := .cells #[.slice A0_0 l0_0.length c0_0] 43 (0, 0)) (by (with_reducible repeat first | refine bkN ?_ _ | refine bkD ?_ | refine bkA ?_ _); exact BK409.out) hb)
       have n5_ := Aside0.mk (blk_below (g := gb410) (o := .cells #[.int .i64 a1_0, .slice A1_1 l1_1.length c1_1] 46 (0, 0)) (by (with_reducible repeat first | refine bkN ?_ _ | refine bkD ?_ | refine bkA ?_ _); exact BK410.out) hb)
       have n6_ := Aside0.mk (blk_below (g := gb428) (o := .cells #[.int .i64 0, .slice none 0 0] 31 (0, 0)) (by (with_reducible repeat first | refine bkN ?_ _ | refine bkD ?_ | refine bkA ?_ _); exact BK428.out) hb)
       have n7_ := Aside0.mk (below_step (by repeat (first | (with_reducible first | exact HB.out | apply below_alloc | apply pw_below_drewN | apply below_drew1 | refine below_set ?_ GE409.out | refine below_set ?_ GE410.out | refine below_set ?_ GE428.out) | exact HB.out)) hb)
       clear HO415
       clear HO419
       clear BK409
       clear BK410
       clear BK428
       clear HB
       have HO415 := n0_
       have HO419 := n1_
       have HO423 := n2_
       have HO426 := n3_
       have BK409 := n4_
       have BK410 := n5_
       have BK428 := n6_
       have HB := n7_
       clear n0_ n1_ n2_ n3_ n4_ n5_ n6_ n7_
       (try clear hb)
       (try clear hb2)
       (try clear hk)
       (try clear hi)
       (try clear ho0)
       (try clear ho1)
       refine hK.out _ _ ⟨(blk_cell BK409.out 0).trans rfl, (blk_cell BK410.out 0).trans rfl, (blk_cell BK410.out 1).trans rfl⟩ (fun hHeld => ?_)
       clear hK K
       refine norm_ (a' := ?_) ?_ ?_
       rotate_left
       ·show Act.put _ (some 41) _ = _
        simp only [Act.put, List.setIfInBounds_toArray, List.set_cons_zero, List.set_cons_succ, i64_w, i32_w]
        rfl
       refine pure_ (i := 6) (N := some 35) (v := ?_) (a' := ?_) #[true, true, true, true, true, true, true, false, false, false, true, false, false, false] rfl rfl (any_of HT_.out (by kernel_rfl)) (fun _ _ _ h => h) (Or.inl ⟨by rfl, ?_⟩) ?_ ?_
       rotate_left
       ·intro w'
        go_simp
        with_reducible rfl
       rotate_left
       ·simp only [Act.put, List.setIfInBounds_toArray, List.set_cons_zero, List.set_cons_succ, i64_w, i32_w]
        rfl
       refine pure_ (i := 7) (N := some 42) (v := ?_) (a' := ?_) #[true, true, true, true, true, true, true, true, false, false, true, false, false, false] rfl rfl (any_of HT_.out (by kernel_rfl)) (fun _ _ _ h => h) (Or.inl ⟨by rfl, ?_⟩) ?_ ?_
       rotate_left
       ·intro w'
        go_simp
        with_reducible rfl
       rotate_left
       ·simp only [Act.put, List.setIfInBounds_toArray, List.set_cons_zero, List.set_cons_succ, i64_w, i32_w]
        rfl
       refine pure_ (i := 8) (N := some 43) (v := ?_) (a' := ?_) #[true, true, true, true, true, true, true, true, true, false, true, false, false, false] rfl rfl (any_of HT_.out (by kernel_rfl)) (fun _ _ _ h => h) (Or.inl ⟨by rfl, ?_⟩) ?_ ?_
       rotate_left
       ·intro w'
        go_simp
        with_reducible rfl
       rotate_left
       ·simp only [Act.put, List.setIfInBounds_toArray, List.set_cons_zero, List.set_cons_succ, i64_w, i32_w]
        rfl
       refine pure_ (i := 9) (N := some 44) (v := ?_) (a' := ?_) #[true, true, true, true, true, true, true, true, true, true, true, false, false, false] rfl rfl (any_of HT_.out (by kernel_rfl)) (fun _ _ _ h => h) (Or.inl ⟨by rfl, ?_⟩) ?_ ?_
       rotate_left
       ·intro w'
        go_simp
        with_reducible rfl
       rotate_left
       ·simp only [Act.put, List.setIfInBounds_toArray, List.set_cons_zero, List.set_cons_succ, i64_w, i32_w]
        rfl
       exact norm_ (by simp only [putAll, Act.put, List.setIfInBounds_toArray, List.set_cons_zero, List.set_cons_succ]) (hCont (.slice Ao41 t413.length co41, .slice Ao42 t417.length co42, v422, v425, gb428) _ ⟨hHeld, (by (with_reducible repeat (first | apply Kd.R_alloc | apply Kd.R_drewN | apply Kd.R_drew)); exact HO415.out), (by (with_reducible repeat (first | apply Kd.N_alloc | apply Kd.N_drewN | apply Kd.N_drew)); exact Kd.N_mono HO419.out (fun _ hk => ⟨hk.1.1.1, ⟨hk.1.2, ⟨hk.2, ⟨hk.1.1.2.1, ⟨hk.1.1.2.2.1, hk.1.1.2.2.2⟩⟩⟩⟩⟩)), (by (with_reducible repeat (first | apply Kd.N_alloc | apply Kd.N_drewN | apply Kd.N_drew)); exact Kd.N_mono HO423.out (fun _ hk => ⟨hk.2.1, ⟨hk.2.2.1, ⟨hk.1, ⟨hk.2.2.2.1, ⟨hk.2.2.2.2.1, hk.2.2.2.2.2⟩⟩⟩⟩⟩)), (by (with_reducible repeat (first | apply Kd.R_alloc | apply Kd.R_drewN | apply Kd.R_drew)); exact HO426.out), (by (with_reducible repeat first | refine bkN ?_ _ | refine bkD ?_ | refine bkA ?_ _); exact BK409.out), (by (with_reducible repeat first | refine bkN ?_ _ | refine bkD ?_ | refine bkA ?_ _); exact BK410.out), (by (with_reducible repeat first | refine bkN ?_ _ | refine bkD ?_ | refine bkA ?_ _); exact BK428.out), GW428.out, GE428.out, NB409_428.out, NB428_409.out, NB410_428.out, NB428_410.out, (by repeat (first | (with_reducible first | exact HB.out | apply below_alloc | apply pw_below_drewN | apply below_drew1 | refine below_set ?_ GE409.out | refine below_set ?_ GE410.out | refine below_set ?_ GE428.out) | exact HB.out))⟩)
     ·skip
      refine box_step ?hg (N := 8) ?hd (cs := #[.int .i64 0, .slice none 0 0]) (t := 31) ?hr ?_; (case hd => rfl); (case hg => rfl); (case hr => first | (go_simp; done) | (go_simp; rfl))
      intro gb428 hg w38 hbox hb
      have n0_ := Aside0.mk (blk_below (g := gb409) (o := .cells #[.slice A0_0 l0_0.length c0_0] 43 (0, 0)) (by (with_reducible repeat first | refine bkN ?_ _ | refine bkD ?_ | refine bkA ?_ _); exact BK409.out) hb)
      have n1_ := Aside0.mk (blk_below (g := gb410) (o := .cells #[.int .i64 a1_0, .slice A1_1 l1_1.length c1_1] 46 (0, 0)) (by (with_reducible repeat first | refine bkN ?_ _ | refine bkD ?_ | refine bkA ?_ _); exact BK410.out) hb)
      have n2_ := Aside0.mk (below_step (by repeat (first | (with_reducible first | exact HB.out | apply below_alloc | apply pw_below_drewN | apply below_drew1 | refine below_set ?_ GE409.out | refine below_set ?_ GE410.out) | exact HB.out)) hb)
      have n3_ := Aside0.mk (hbox)
      have n4_ := Aside0.mk ((by rw [hg]; exact (below_size (by repeat (first | (with_reducible first | exact HB.out | apply below_alloc | apply pw_below_drewN | apply below_drew1 | refine below_set ?_ GE409.out | refine below_set ?_ GE410.out) | exact HB.out))) : w.heap.size ≤ gb428))
      have n5_ := Aside0.mk ((by rw [hg]; exact (below_size (by repeat (first | (with_reducible first | exact HB.out | apply below_alloc | apply pw_below_drewN | apply below_drew1 | refine below_set ?_ GE409.out | refine below_set ?_ GE410.out) | exact HB.out))) : w.heap.size ≤ gb428))
      have n6_ := Aside0.mk ((by rw [hg]; exact Nat.ne_of_lt (blk_lt (g := gb409) (o := .cells #[.slice A0_0 l0_0.length c0_0] 43 (0, 0)) (by (with_reducible repeat first | refine bkN ?_ _ | refine bkD ?_ | refine bkA ?_ _); exact BK409.out)) : gb409 ≠ gb428))
      have n7_ := Aside0.mk ((by rw [hg]; exact Nat.ne_of_gt (blk_lt (g := gb409) (o := .cells #[.slice A0_0 l0_0.length c0_0] 43 (0, 0)) (by (with_reducible repeat first | refine bkN ?_ _ | refine bkD ?_ | refine bkA ?_ _); exact BK409.out)) : gb428 ≠ gb409))
      have n8_ := Aside0.mk ((by rw [hg]; exact Nat.ne_of_lt (blk_lt (g := gb410) (o := .cells #[.int .i64 a1_0, .slice A1_1 l1_1.length c1_1] 46 (0, 0)) (by (with_reducible repeat first | refine bkN ?_ _ | refine bkD ?_ | refine bkA ?_ _); exact BK410.out)) : gb410 ≠ gb428))
      have n9_ := Aside0.mk ((by rw [hg]; exact Nat.ne_of_gt (blk_lt (g := gb410) (o := .cells #[.int .i64 a1_0, .slice A1_1 l1_1.length c1_1] 46 (0, 0)) (by (with_reducible repeat first | refine bkN ?_ _ | refine bkD ?_ | refine bkA ?_ _); exact BK410.out)) : gb428 ≠ gb410))
      clear BK409
      clear BK410
      clear HB
      have BK409 := n0_
      have BK410 := n1_
      have HB := n2_
      have BK428 := n3_
      have GW428 := n4_
      have GE428 := n5_
      have NB409_428 := n6_
      have NB428_409 := n7_
      have NB410_428 := n8_
      have NB428_410 := n9_
      clear n0_ n1_ n2_ n3_ n4_ n5_ n6_ n7_ n8_ n9_
      clear hb hbox hg
      refine hK.out _ _ ⟨(blk_cell BK409.out 0).trans rfl, (blk_cell BK410.out 0).trans rfl, (blk_cell BK410.out 1).trans rfl⟩ (fun hHeld => ?_)
      clear hK K
      refine norm_ (a' := ?_) ?_ ?_
      rotate_left
      ·show Act.put _ (some 8) _ = _
       simp only [Act.put, List.setIfInBounds_toArray, List.set_cons_zero, List.set_cons_succ, i64_w, i32_w]
       rfl
      refine one_ (i := 1) (N := some 37) #[true, true, true, false, true, false, false, false, false, false, true, false, false, false] rfl rfl (one_of HT_.out (by kernel_rfl)) (by decide) (fun K hK => ?_)
      refine goes_ Try.func17 (by kernel_rfl) rfl #[.agg #[.slice A0_0 l0_0.length c0_0]] (by rfl) rfl rfl (by (try simp only [List.map_toArray, List.map_cons, List.map_nil]); first | done | rfl | (simp only [List.length_drop, List.length_take]; rfl)) ?_
      with_reducible refine (laws_toVocab.calls k _ _ l0_0 t413 _ ?side1 ?side2 A23.out).mono ?_
      (case side1 => repeat (first | exact (Kd.C_below HR0_0.out HB.out) | (with_reducible refine Kd.C_alloc ?_ _) | (with_reducible refine Kd.C_drewN ?_ _) | (with_reducible refine Kd.C_drew ?_)))
      (case side2 => exact HC0_0.out)
      rintro e w39 ⟨v414, rfl, ho0, hb⟩
      refine ⟨_, rfl, ?_⟩
      have n0_ := Aside0.mk (Kd.R_lower ho0 (below_size (by repeat (first | (with_reducible first | exact HB.out | apply below_alloc | apply pw_below_drewN | apply below_drew1 | refine below_set ?_ GE409.out | refine below_set ?_ GE410.out | refine below_set ?_ GE428.out) | exact HB.out))))
      have n1_ := Aside0.mk (blk_below (g := gb409) (o := .cells #[.slice A0_0 l0_0.length c0_0] 43 (0, 0)) (by (with_reducible repeat first | refine bkN ?_ _ | refine bkD ?_ | refine bkA ?_ _); exact BK409.out) hb)
      have n2_ := Aside0.mk (blk_below (g := gb410) (o := .cells #[.int .i64 a1_0, .slice A1_1 l1_1.length c1_1] 46 (0, 0)) (by (with_reducible repeat first | refine bkN ?_ _ | refine bkD ?_ | refine bkA ?_ _); exact BK410.out) hb)
      have n3_ := Aside0.mk (blk_below (g := gb428) (o := .cells #[.int .i64 0, .slice none 0 0] 31 (0, 0)) (by (with_reducible repeat first | refine bkN ?_ _ | refine bkD ?_ | refine bkA ?_ _); exact BK428.out) hb)
      have n4_ := Aside0.mk (below_step (by repeat (first | (with_reducible first | exact HB.out | apply below_alloc | apply pw_below_drewN | apply below_drew1 | refine below_set ?_ GE409.out | refine below_set ?_ GE410.out | refine below_set ?_ GE428.out) | exact HB.out)) hb)
      clear BK409
      clear BK410
      clear BK428
      clear HB
      have HO415 := n0_
      have BK409 := n1_
      have BK410 := n2_
      have BK428 := n3_
      have HB := n4_
      clear n0_ n1_ n2_ n3_ n4_
      (try clear hb)
      (try clear hb2)
      (try clear hk)
      (try clear hi)
      (try clear ho0)
      refine hK.out _ _ ⟨(blk_cell BK409.out 0).trans rfl, (blk_cell BK410.out 0).trans rfl, (blk_cell BK410.out 1).trans rfl⟩ (fun hHeld => ?_)
      clear hK K
      refine norm_ (a' := ?_) ?_ ?_
      rotate_left
      ·show Act.put _ (some 37) _ = _
       simp only [Act.put, List.setIfInBounds_toArray, List.set_cons_zero, List.set_cons_succ, i64_w, i32_w]
       rfl
      refine one_ (i := 3) (N := some 39) #[true, true, true, true, true, false, false, false, false, false, true, false, false, false] rfl rfl (one_of HT_.out (by kernel_rfl)) (by decide) (fun K hK => ?_)
      refine goes_ Try.func18 (by kernel_rfl) rfl #[.agg #[.int .i64 a1_0, .slice A1_1 l1_1.length c1_1]] (by rfl) rfl rfl (by (try simp only [List.map_toArray, List.map_cons, List.map_nil]); first | done | rfl | (simp only [List.length_drop, List.length_take]; rfl)) ?_
      with_reducible refine (laws_toMemo.calls k a1_0 _ _ l1_1 t416 t417 _ ?side1 ?side2 A24.out).mono ?_
      (case side1 => repeat (first | exact (Kd.C_below HR1_1.out HB.out) | (with_reducible refine Kd.C_alloc ?_ _) | (with_reducible refine Kd.C_drewN ?_ _) | (with_reducible refine Kd.C_drew ?_)))
      (case side2 => exact HC1_1.out)
      rintro e w40 ⟨v418, rfl, ho0, hb⟩
      refine ⟨_, rfl, ?_⟩
      have n0_ := Aside0.mk (Kd.R_below (by (with_reducible repeat (first | apply Kd.R_alloc | apply Kd.R_drewN | apply Kd.R_drew)); exact HO415.out) hb)
      have n1_ := Aside0.mk (Kd.N_lower (Kd.N_mono (ok' := fun k_ => some k_ ≠ (v414 : Value).ownBlock ∧ k_ ≠ gb409 ∧ k_ ≠ gb410 ∧ k_ ≠ gb428) (Kd.S_N (Kd.S_bound ho0)) (fun k_ hk_ => ⟨(Kd.fresh' (Kd.R_lt (by (with_reducible repeat (first | apply Kd.R_alloc | apply Kd.R_drewN | apply Kd.R_drew)); exact HO415.out)) k_ hk_.2.1), (Kd.freshB (g := gb409) (o := .cells #[.slice A0_0 l0_0.length c0_0] 43 (0, 0)) (by (with_reducible repeat first | refine bkN ?_ _ | refine bkD ?_ | refine bkA ?_ _); exact BK409.out) k_ hk_.2.1), (Kd.freshB (g := gb410) (o := .cells #[.int .i64 a1_0, .slice A1_1 l1_1.length c1_1] 46 (0, 0)) (by (with_reducible repeat first | refine bkN ?_ _ | refine bkD ?_ | refine bkA ?_ _); exact BK410.out) k_ hk_.2.1), (Kd.freshB (g := gb428) (o := .cells #[.int .i64 0, .slice none 0 0] 31 (0, 0)) (by (with_reducible repeat first | refine bkN ?_ _ | refine bkD ?_ | refine bkA ?_ _); exact BK428.out) k_ hk_.2.1)⟩)) (below_size (by repeat (first | (with_reducible first | exact HB.out | apply below_alloc | apply pw_below_drewN | apply below_drew1 | refine below_set ?_ GE409.out | refine below_set ?_ GE410.out | refine below_set ?_ GE428.out) | exact HB.out))))
      have n2_ := Aside0.mk (blk_below (g := gb409) (o := .cells #[.slice A0_0 l0_0.length c0_0] 43 (0, 0)) (by (with_reducible repeat first | refine bkN ?_ _ | refine bkD ?_ | refine bkA ?_ _); exact BK409.out) hb)
      have n3_ := Aside0.mk (blk_below (g := gb410) (o := .cells #[.int .i64 a1_0, .slice A1_1 l1_1.length c1_1] 46 (0, 0)) (by (with_reducible repeat first | refine bkN ?_ _ | refine bkD ?_ | refine bkA ?_ _); exact BK410.out) hb)
      have n4_ := Aside0.mk (blk_below (g := gb428) (o := .cells #[.int .i64 0, .slice none 0 0] 31 (0, 0)) (by (with_reducible repeat first | refine bkN ?_ _ | refine bkD ?_ | refine bkA ?_ _); exact BK428.out) hb)
      have n5_ := Aside0.mk (below_step (by repeat (first | (with_reducible first | exact HB.out | apply below_alloc | apply pw_below_drewN | apply below_drew1 | refine below_set ?_ GE409.out | refine below_set ?_ GE410.out | refine below_set ?_ GE428.out) | exact HB.out)) hb)
      clear HO415
      clear BK409
      clear BK410
      clear BK428
      clear HB
      have HO415 := n0_
      have HO419 := n1_
      have BK409 := n2_
      have BK410 := n3_
      have BK428 := n4_
      have HB := n5_
      clear n0_ n1_ n2_ n3_ n4_ n5_
      (try clear hb)
      (try clear hb2)
      (try clear hk)
      (try clear hi)
      (try clear ho0)
      obtain ⟨Ao41, co41, eo41⟩ := Kd.R_slice HO415.out
      (first | subst eo41 | (injection eo41 with f1_ f2_ f3_; have f4_ := f1_.symm; have f5_ := f3_.symm; clear f1_ f2_ f3_; subst f4_; subst f5_))
      obtain ⟨Ao42, co42, eo42⟩ := Kd.N_slice HO419.out
      (first | subst eo42 | (injection eo42 with f1_ f2_ f3_; have f4_ := f1_.symm; have f5_ := f3_.symm; clear f1_ f2_ f3_; subst f4_; subst f5_))
      refine hK.out _ _ ⟨(blk_cell BK409.out 0).trans rfl, (blk_cell BK410.out 0).trans rfl, (blk_cell BK410.out 1).trans rfl⟩ (fun hHeld => ?_)
      clear hK K
      refine norm_ (a' := ?_) ?_ ?_
      rotate_left
      ·show Act.put _ (some 39) _ = _
       simp only [Act.put, List.setIfInBounds_toArray, List.set_cons_zero, List.set_cons_succ, i64_w, i32_w]
       rfl
      refine one_ (i := 5) (N := some 41) #[true, true, true, true, true, true, false, false, false, false, true, false, false, false] rfl rfl (one_of HT_.out (by kernel_rfl)) (by decide) (fun K hK => ?_)
      refine goes_ Try.func16 (by kernel_rfl) rfl #[.agg #[.slice Ao41 t413.length co41], .agg #[.int .i64 t416, .slice Ao42 t417.length co42], .string a2] (by rfl) rfl rfl (by (try simp only [List.map_toArray, List.map_cons, List.map_nil]); first | done | rfl | (simp only [List.length_drop, List.length_take]; rfl)) ?_
      with_reducible refine (spec_Recall.calls k _ _ t413 t416 _ _ t417 a2 t420 t421 t424 t427 _ ?side1 ?side2 ?side3 ?side4 A25.out).mono ?_
      (case side1 => repeat (first | exact (Kd.R_reads' HO415.out).2.2 | (with_reducible refine Kd.C_alloc ?_ _) | (with_reducible refine Kd.C_drewN ?_ _) | (with_reducible refine Kd.C_drew ?_)))
      (case side2 => exact (Kd.R_reads' HO415.out).2.1)
      (case side3 => repeat (first | exact (Kd.N_reads' HO419.out).2.2 | (with_reducible refine Kd.C_alloc ?_ _) | (with_reducible refine Kd.C_drewN ?_ _) | (with_reducible refine Kd.C_drew ?_)))
      (case side4 => exact (Kd.N_reads' HO419.out).2.1)
      rintro e w43 ⟨v422, v425, rfl, ho0, ho1, hb⟩
      refine ⟨_, rfl, ?_⟩
      have n0_ := Aside0.mk (Kd.R_below (by (with_reducible repeat (first | apply Kd.R_alloc | apply Kd.R_drewN | apply Kd.R_drew)); exact HO415.out) hb)
      have n1_ := Aside0.mk (Kd.N_mono (Kd.N_told (Kd.N_told (Kd.N_old (by (with_reducible repeat (first | apply Kd.N_alloc | apply Kd.N_drewN | apply Kd.N_drew)); exact HO419.out) hb) (Kd.N_base ho0)) (Kd.R_base ho1)) (fun _ h_ => h_.1))
      have n2_ := Aside0.mk (Kd.N_lower (Kd.N_mono (ok' := fun k_ => some k_ ≠ (v425 : Value).ownBlock ∧ some k_ ≠ (.slice Ao41 t413.length co41 : Value).ownBlock ∧ some k_ ≠ (.slice Ao42 t417.length co42 : Value).ownBlock ∧ k_ ≠ gb409 ∧ k_ ≠ gb410 ∧ k_ ≠ gb428) ho0 (fun k_ hk_ => ⟨hk_.2, (Kd.fresh' (Kd.R_lt (by (with_reducible repeat (first | apply Kd.R_alloc | apply Kd.R_drewN | apply Kd.R_drew)); exact HO415.out)) k_ hk_.1), (Kd.fresh' (Kd.N_lt (by (with_reducible repeat (first | apply Kd.N_alloc | apply Kd.N_drewN | apply Kd.N_drew)); exact HO419.out)) k_ hk_.1), (Kd.freshB (g := gb409) (o := .cells #[.slice A0_0 l0_0.length c0_0] 43 (0, 0)) (by (with_reducible repeat first | refine bkN ?_ _ | refine bkD ?_ | refine bkA ?_ _); exact BK409.out) k_ hk_.1), (Kd.freshB (g := gb410) (o := .cells #[.int .i64 a1_0, .slice A1_1 l1_1.length c1_1] 46 (0, 0)) (by (with_reducible repeat first | refine bkN ?_ _ | refine bkD ?_ | refine bkA ?_ _); exact BK410.out) k_ hk_.1), (Kd.freshB (g := gb428) (o := .cells #[.int .i64 0, .slice none 0 0] 31 (0, 0)) (by (with_reducible repeat first | refine bkN ?_ _ | refine bkD ?_ | refine bkA ?_ _); exact BK428.out) k_ hk_.1)⟩)) (below_size (by repeat (first | (with_reducible first | exact HB.out | apply below_alloc | apply pw_below_drewN | apply below_drew1 | refine below_set ?_ GE409.out | refine below_set ?_ GE410.out | refine below_set ?_ GE428.out) | exact HB.out))))
      have n3_ := Aside0.mk (Kd.R_lower (Kd.R_mono (ok' := fun k_ => True) ho1 (fun _ hk_ => trivial)) (below_size (by repeat (first | (with_reducible first | exact HB.out | apply below_alloc | apply pw_below_drewN | apply below_drew1 | refine below_set ?_ GE409.out | refine below_set ?_ GE410.out | refine below_set ?_ GE428.out) | exact HB.out))))
      have n4_ := Aside0.mk (blk_below (g := gb409) (o := .cells #[.slice A0_0 l0_0.length c0_0] 43 (0, 0)) (by (with_reducible repeat first | refine bkN ?_ _ | refine bkD ?_ | refine bkA ?_ _); exact BK409.out) hb)
      have n5_ := Aside0.mk (blk_below (g := gb410) (o := .cells #[.int .i64 a1_0, .slice A1_1 l1_1.length c1_1] 46 (0, 0)) (by (with_reducible repeat first | refine bkN ?_ _ | refine bkD ?_ | refine bkA ?_ _); exact BK410.out) hb)
      have n6_ := Aside0.mk (blk_below (g := gb428) (o := .cells #[.int .i64 0, .slice none 0 0] 31 (0, 0)) (by (with_reducible repeat first | refine bkN ?_ _ | refine bkD ?_ | refine bkA ?_ _); exact BK428.out) hb)
      have n7_ := Aside0.mk (below_step (by repeat (first | (with_reducible first | exact HB.out | apply below_alloc | apply pw_below_drewN | apply below_drew1 | refine below_set ?_ GE409.out | refine below_set ?_ GE410.out | refine below_set ?_ GE428.out) | exact HB.out)) hb)
      clear HO415
      clear HO419
      clear BK409
      clear BK410
      clear BK428
      clear HB
      have HO415 := n0_
      have HO419 := n1_
      have HO423 := n2_
      have HO426 := n3_
      have BK409 := n4_
      have BK410 := n5_
      have BK428 := n6_
      have HB := n7_
      clear n0_ n1_ n2_ n3_ n4_ n5_ n6_ n7_
      (try clear hb)
      (try clear hb2)
      (try clear hk)
      (try clear hi)
      (try clear ho0)
      (try clear ho1)
      refine hK.out _ _ ⟨(blk_cell BK409.out 0).trans rfl, (blk_cell BK410.out 0).trans rfl, (blk_cell BK410.out 1).trans rfl⟩ (fun hHeld => ?_)
      clear hK K
      refine norm_ (a' := ?_) ?_ ?_
      rotate_left
      ·show Act.put _ (some 41) _ = _
       simp only [Act.put, List.setIfInBounds_toArray, List.set_cons_zero, List.set_cons_succ, i64_w, i32_w]
       rfl
      refine pure_ (i := 6) (N := some 35) (v := ?_) (a' := ?_) #[true, true, true, true, true, true, true, false, false, false, true, false, false, false] rfl rfl (any_of HT_.out (by kernel_rfl)) (fun _ _ _ h => h) (Or.inl ⟨by rfl, ?_⟩) ?_ ?_
      rotate_left
      ·intro w'
       go_simp
       with_reducible rfl
      rotate_left
      ·simp only [Act.put, List.setIfInBounds_toArray, List.set_cons_zero, List.set_cons_succ, i64_w, i32_w]
       rfl
      refine pure_ (i := 7) (N := some 42) (v := ?_) (a' := ?_) #[true, true, true, true, true, true, true, true, false, false, true, false, false, false] rfl rfl (any_of HT_.out (by kernel_rfl)) (fun _ _ _ h => h) (Or.inl ⟨by rfl, ?_⟩) ?_ ?_
      rotate_left
      ·intro w'
       go_simp
       with_reducible rfl
      rotate_left
      ·simp only [Act.put, List.setIfInBounds_toArray, List.set_cons_zero, List.set_cons_succ, i64_w, i32_w]
       rfl
      refine pure_ (i := 8) (N := some 43) (v := ?_) (a' := ?_) #[true, true, true, true, true, true, true, true, true, false, true, false, false, false] rfl rfl (any_of HT_.out (by kernel_rfl)) (fun _ _ _ h => h) (Or.inl ⟨by rfl, ?_⟩) ?_ ?_
      rotate_left
      ·intro w'
       go_simp
       with_reducible rfl
      rotate_left
      ·simp only [Act.put, List.setIfInBounds_toArray, List.set_cons_zero, List.set_cons_succ, i64_w, i32_w]
       rfl
      refine pure_ (i := 9) (N := some 44) (v := ?_) (a' := ?_) #[true, true, true, true, true, true, true, true, true, true, true, false, false, false] rfl rfl (any_of HT_.out (by kernel_rfl)) (fun _ _ _ h => h) (Or.inl ⟨by rfl, ?_⟩) ?_ ?_
      rotate_left
      ·intro w'
       go_simp
       with_reducible rfl
      rotate_left
      ·simp only [Act.put, List.setIfInBounds_toArray, List.set_cons_zero, List.set_cons_succ, i64_w, i32_w]
       rfl
      exact norm_ (by simp only [putAll, Act.put, List.setIfInBounds_toArray, List.set_cons_zero, List.set_cons_succ]) (hCont (.slice Ao41 t413.length co41, .slice Ao42 t417.length co42, v422, v425, gb428) _ ⟨hHeld, (by (with_reducible repeat (first | apply Kd.R_alloc | apply Kd.R_drewN | apply Kd.R_drew)); exact HO415.out), (by (with_reducible repeat (first | apply Kd.N_alloc | apply Kd.N_drewN | apply Kd.N_drew)); exact Kd.N_mono HO419.out (fun _ hk => ⟨hk.1.1.1, ⟨hk.1.2, ⟨hk.2, ⟨hk.1.1.2.1, ⟨hk.1.1.2.2.1, hk.1.1.2.2.2⟩⟩⟩⟩⟩)), (by (with_reducible repeat (first | apply Kd.N_alloc | apply Kd.N_drewN | apply Kd.N_drew)); exact Kd.N_mono HO423.out (fun _ hk => ⟨hk.2.1, ⟨hk.2.2.1, ⟨hk.1, ⟨hk.2.2.2.1, ⟨hk.2.2.2.2.1, hk.2.2.2.2.2⟩⟩⟩⟩⟩)), (by (with_reducible repeat (first | apply Kd.R_alloc | apply Kd.R_drewN | apply Kd.R_drew)); exact HO426.out), (by (with_reducible repeat first | refine bkN ?_ _ | refine bkD ?_ | refine bkA ?_ _); exact BK409.out), (by (with_reducible repeat first | refine bkN ?_ _ | refine bkD ?_ | refine bkA ?_ _); exact BK410.out), (by (with_reducible repeat first | refine bkN ?_ _ | refine bkD ?_ | refine bkA ?_ _); exact BK428.out), GW428.out, GE428.out, NB409_428.out, NB428_409.out, NB410_428.out, NB428_410.out, (by repeat (first | (with_reducible first | exact HB.out | apply below_alloc | apply pw_below_drewN | apply below_drew1 | refine below_set ?_ GE409.out | refine below_set ?_ GE410.out | refine below_set ?_ GE428.out) | exact HB.out))⟩)
    rintro ⟨v414, v418, v422, v425, gb428⟩ w44 ⟨hS_, h0_, h1_, h2_, h3_, h4_, h5_, h6_, h7_, h8_, h9_, h10_, h11_, h12_, h13_⟩
    have n0_ : Aside0 (Kd.R k95 95 w44 w.heap.size (fun _ => True) v414 t413) := ⟨h0_⟩
    have n1_ : Aside0 (Kd.N k86 86 w44 w.heap.size (fun k_ => some k_ ≠ (v414 : Value).ownBlock ∧ some k_ ≠ (v422 : Value).ownBlock ∧ some k_ ≠ (v425 : Value).ownBlock ∧ k_ ≠ gb409 ∧ k_ ≠ gb410 ∧ k_ ≠ gb428) v418 t417) := ⟨h1_⟩
    have n2_ : Aside0 (Kd.N k86 86 w44 w.heap.size (fun k_ => some k_ ≠ (v414 : Value).ownBlock ∧ some k_ ≠ (v418 : Value).ownBlock ∧ some k_ ≠ (v425 : Value).ownBlock ∧ k_ ≠ gb409 ∧ k_ ≠ gb410 ∧ k_ ≠ gb428) v422 t421) := ⟨h2_⟩
    have n3_ : Aside0 (Kd.R (Kd.int .i64) 3 w44 w.heap.size (fun _ => True) v425 t424) := ⟨h3_⟩
    have n4_ : Aside0 (w44.heap[gb409]? = some (.cells #[.slice A0_0 l0_0.length c0_0] 43 (0, 0))) := ⟨h4_⟩
    have n5_ : Aside0 (w44.heap[gb410]? = some (.cells #[.int .i64 a1_0, .slice A1_1 l1_1.length c1_1] 46 (0, 0))) := ⟨h5_⟩
    have n6_ : Aside0 (w44.heap[gb428]? = some (.cells #[.int .i64 0, .slice none 0 0] 31 (0, 0))) := ⟨h6_⟩
    have n7_ : Aside0 (w.heap.size ≤ gb428) := ⟨h7_⟩
    have n8_ : Aside0 (w.heap.size ≤ gb428) := ⟨h8_⟩
    have n9_ : Aside0 (gb409 ≠ gb428) := ⟨h9_⟩
    have n10_ : Aside0 (gb428 ≠ gb409) := ⟨h10_⟩
    have n11_ : Aside0 (gb410 ≠ gb428) := ⟨h11_⟩
    have n12_ : Aside0 (gb428 ≠ gb410) := ⟨h12_⟩
    have n13_ : Aside0 (Below w.heap.size w w44) := ⟨h13_⟩
    clear BK409
    clear BK410
    clear HB
    clear h0_ h1_ h2_ h3_ h4_ h5_ h6_ h7_ h8_ h9_ h10_ h11_ h12_ h13_
    have HO415 := n0_
    have HO419 := n1_
    have HO423 := n2_
    have HO426 := n3_
    have BK409 := n4_
    have BK410 := n5_
    have BK428 := n6_
    have GW428 := n7_
    have GE428 := n8_
    have NB409_428 := n9_
    have NB428_409 := n10_
    have NB410_428 := n11_
    have NB428_410 := n12_
    have HB := n13_
    clear n0_ n1_ n2_ n3_ n4_ n5_ n6_ n7_ n8_ n9_ n10_ n11_ n12_ n13_
    have hHeld : w44.cell? ⟨gb409, 0, none⟩ = some (.slice A0_0 l0_0.length c0_0) ∧ w44.cell? ⟨gb410, 0, none⟩ = some (.int .i64 a1_0) ∧ w44.cell? ⟨gb410, 1, none⟩ = some (.slice A1_1 l1_1.length c1_1) := hS_
    obtain ⟨Ao46, co46, eo46⟩ := Kd.N_slice HO423.out
    (first | subst eo46 | (injection eo46 with f1_ f2_ f3_; have f4_ := f1_.symm; have f5_ := f3_.symm; clear f1_ f2_ f3_; subst f4_; subst f5_))
    refine norm_ (a' := ?_) ?_ ?_
    rotate_left
    ·simp only [putAll, Act.put, List.setIfInBounds_toArray, List.set_cons_zero, List.set_cons_succ]
     rfl
    refine one_ (i := 11) (N := none) #[true, true, true, true, true, true, true, true, true, true, true, true, false, false] rfl rfl (one_of HT_.out (by kernel_rfl)) (by decide) (fun K hK => ?_)
    have hs45 : w44.cell? ⟨gb428, 0, none⟩ = some (.int .i64 0) := (blk_cell BK428.out 0).trans rfl
    have hfs45 := blk_frozen BK428.out 0
    have hns45_0 := NB409_428.out
    have hns45_1 := NB410_428.out
    have hms45_0 := NB428_409.out
    have hms45_1 := NB428_410.out
    have hs47 : w44.cell? ⟨gb428, 1, none⟩ = some (.slice none 0 0) := (blk_cell BK428.out 1).trans rfl
    have hfs47 := blk_frozen BK428.out 1
    have hns47_0 := NB409_428.out
    have hns47_1 := NB410_428.out
    have hms47_0 := NB428_409.out
    have hms47_1 := NB428_410.out
    refine skip_ (w1 := ?_) (by rfl) rfl ?_ ?_
    rotate_left
    ·go_simp
     rfl
    refine hK.out _ _ ⟨((cell_far (p := ⟨gb428, _, none⟩) NB409_428.out _).trans (((cell_far (p := ⟨gb428, _, none⟩) NB409_428.out _).trans (hHeld.1)))), ((cell_far (p := ⟨gb428, _, none⟩) NB410_428.out _).trans (((cell_far (p := ⟨gb428, _, none⟩) NB410_428.out _).trans (hHeld.2.1)))), ((cell_far (p := ⟨gb428, _, none⟩) NB410_428.out _).trans (((cell_far (p := ⟨gb428, _, none⟩) NB410_428.out _).trans (hHeld.2.2))))⟩ (fun hHeld => ?_)
    clear hK K
    refine pure_ (i := 12) (N := some 9) (v := ?_) (a' := ?_) #[true, true, true, true, true, true, true, true, true, true, true, true, true, false] rfl rfl (any_of HT_.out (by kernel_rfl)) (fun _ _ _ h => h) (Or.inl ⟨by rfl, ?_⟩) ?_ ?_
    rotate_left
    ·intro w'
     go_simp
     with_reducible rfl
    rotate_left
    ·simp only [Act.put, List.setIfInBounds_toArray, List.set_cons_zero, List.set_cons_succ, i64_w, i32_w]
     rfl
    refine pure_ (i := 13) (N := some 10) (v := ?_) (a' := ?_) #[true, true, true, true, true, true, true, true, true, true, true, true, true, true] rfl rfl (any_of HT_.out (by kernel_rfl)) (fun _ _ _ h => h) (Or.inl ⟨by rfl, ?_⟩) ?_ ?_
    rotate_left
    ·intro w'
     go_simp
     with_reducible rfl
    rotate_left
    ·simp only [Act.put, List.setIfInBounds_toArray, List.set_cons_zero, List.set_cons_succ, i64_w, i32_w]
     rfl
    refine done_ (done_of HT_.out (by kernel_rfl)) ?_
    have hnb48 := NB409_428.out
    have hnc48 := NB428_409.out
    have hcz49_0 : w44.cell? ⟨gb409, 0, none⟩ = some (.slice A0_0 l0_0.length c0_0) := (blk_cell BK409.out 0).trans rfl
    have hfz49_0 := blk_frozen BK409.out 0
    generalize hW10 : ((w44.setCell ⟨gb428, 0, none⟩ (.int .i64 t420)).setCell ⟨gb428, 1, none⟩ (.slice Ao46 t421.length co46)) = W10
    have BKV : Aside0 (W10.heap[gb409]? = some (.cells #[.slice A0_0 l0_0.length c0_0] 43 (0, 0))) := ⟨hW10 ▸ blk_far (blk_far BK409.out (p := ⟨gb428, 0, none⟩) NB409_428.out _) (p := ⟨gb428, 1, none⟩) NB409_428.out _⟩
    have BKM : Aside0 (W10.heap[gb410]? = some (.cells #[.int .i64 a1_0, .slice A1_1 l1_1.length c1_1] 46 (0, 0))) := ⟨hW10 ▸ blk_far (blk_far BK410.out (p := ⟨gb428, 0, none⟩) NB410_428.out _) (p := ⟨gb428, 1, none⟩) NB410_428.out _⟩
    have BK8 : Aside0 (W10.heap[gb428]? = some (.cells #[.int .i64 t420, .slice Ao46 t421.length co46] 31 (0, 0))) := ⟨hW10 ▸ blk_put (cs := #[.int .i64 t420, .slice none 0 0]) (blk_put (cs := #[.int .i64 0, .slice none 0 0]) BK428.out 0 _ rfl) 1 _ rfl⟩
    have HB10 : Aside0 (Below w.heap.size w W10) := ⟨hW10 ▸ below_set (below_set HB.out GE428.out) GE428.out⟩
    have HW0 : Aside0 (Kd.N k86 86 W10 w.heap.size (fun k_ => k_ ≠ gb428) (.slice Ao46 t421.length co46) t421) := ⟨hW10 ▸ Kd.N_far (p := ⟨gb428, 1, none⟩) (Kd.N_far (p := ⟨gb428, 0, none⟩) (Kd.N_mono HO423.out (fun _ hk => hk.2.2.2.2.2)) (fun _ hk => hk) _) (fun _ hk => hk) _⟩
    have HW1 : Aside0 (Kd.R (Kd.int .i64) 3 W10 w.heap.size (fun k_ => some k_ = v425.ownBlock) v425 t424) := ⟨hW10 ▸ Kd.R_step (Kd.R_tight rfl HO426.out) (fun k hk _ => have hne : k ≠ gb428 := fun e => Kd.R_ne HO426.out BK428.out (by decide) (by rw [← e]; exact hk); (Below.heap_setCell _ _ _ k hne).trans (Below.heap_setCell _ _ _ k hne))⟩
    obtain ⟨A9, c9, e9⟩ := Kd.R_slice HW1.out
    subst e9
    obtain ⟨OLD, hOLD⟩ : ∃ OLD : World → Prop, ∀ W, OLD W ↔ (W.heap[gb409]? = some (.cells #[.slice A0_0 l0_0.length c0_0] 43 (0, 0)) ∧ W.heap[gb410]? = some (.cells #[.int .i64 a1_0, .slice A1_1 l1_1.length c1_1] 46 (0, 0)) ∧ W.heap[gb428]? = some (.cells #[.int .i64 t420, .slice Ao46 t421.length co46] 31 (0, 0)) ∧ Kd.C k86 W Ao46 t421.length t421 ∧ Kd.C (Kd.int .i64) W A9 t424.length t424) := ⟨_, fun _ => Iff.rfl⟩
    have HO10 : Aside0 (OLD W10) := ⟨(hOLD _).2 ⟨BKV.out, BKM.out, BK8.out, (Kd.N_reads' HW0.out).2.2, (Kd.R_reads' HW1.out).2.2⟩⟩
    have HOM : Aside0 (∀ W, Below W10.heap.size W10 W → W.heap[gb409]? = some (.cells #[.slice A0_0 l0_0.length c0_0] 43 (0, 0)) ∧ W.heap[gb410]? = some (.cells #[.int .i64 a1_0, .slice A1_1 l1_1.length c1_1] 46 (0, 0)) ∧ W.heap[gb428]? = some (.cells #[.int .i64 t420, .slice Ao46 t421.length co46] 31 (0, 0)) ∧ Kd.C k86 W Ao46 t421.length t421 ∧ Kd.C (Kd.int .i64) W A9 t424.length t424) := ⟨fun W hb => by
      have h := (hOLD _).1 HO10.out
      exact ⟨blk_below h.1 hb, blk_below h.2.1 hb, blk_below h.2.2.1 hb, Kd.C_below h.2.2.2.1 hb, Kd.C_below h.2.2.2.2 hb⟩⟩
    have L8 := Aside0.mk ((Kd.N_reads' HW0.out).2.1)
    have L9 := Aside0.mk ((Kd.R_reads' HW1.out).2.1)
    have FA := laws_FnExactRecall.facts HC29.out
    obtain ⟨rfl, hbb, f1, f2, f3, f4, p1, v', p2, m', p3, lg', p4, tg', h1, f5, f6, f7, f8, f9, f10, f11, f12, f13⟩ := FA
    have F1 := Aside0.mk f1
    have F2 := Aside0.mk f2
    have F3 := Aside0.mk f3
    have F4 := Aside0.mk f4
    have F5 := Aside0.mk f5
    have F6 := Aside0.mk f6
    have F7 := Aside0.mk f7
    have F8 := Aside0.mk f8
    have F9 := Aside0.mk f9
    have F10 := Aside0.mk f10
    have F11 := Aside0.mk f11
    have F12 := Aside0.mk f12
    have F13 := Aside0.mk f13
    subst hbb
    clear f1 f2 f3 f4 f5 f6 f7 f8 f9 f10 f11 f12 f13 HC29 hOLD hW10 hHeld hcz49_0 hfz49_0 HB BK409 BK410 BK428
    have hcV : W10.cell? ⟨gb409, 0, none⟩ = some (.slice A0_0 l0_0.length c0_0) := bc BKV 0
    go_upto_region 12 with (first
     | (go_at_call 17; refine (laws_toVocab.calls k A0_0 c0_0 l0_0 t429 _ (Kd.C_below HR0_0.out HB10.out) HC0_0.out A26.out).mono ?_; rintro e wa ⟨va, rfl, ho, hb⟩; obtain ⟨A11, c11, rfl⟩ := Kd.R_slice ho; have HXa := Aside0.mk ho; have HCa := Aside0.mk hb; clear ho hb)
     | ((with_reducible refine gate_dst (N := 11) rfl ?_); refine box_event ?hg (N := 11) ?hd (cs := #[.slice none 0 0]) (t := 26) ?hr ?_; (case hd => rfl); (case hg => rfl); (case hr => first | (go_simp; done) | (go_simp; rfl)); intro g11 hg wb hbox hb; have BKb := Aside0.mk hbox; have HXb := Aside0.mk (Kd.R_below HXa.out hb); have HCb := Aside0.mk (below_step HCa.out hb); have G11 : Aside0 (W10.heap.size ≤ g11) := ⟨by rw [hg]; exact HCa.out.size⟩; clear hbox hb hg; have hz11 : wb.cell? ⟨g11, 0, none⟩ = some (.slice none 0 0) := bc BKb 0; have hf11 := blk_frozen BKb.out 0))
    generalize hW11 : wb.setCell ⟨g11, 0, none⟩ (.slice A11 t429.length c11) = W11
    have HC11 : Aside0 (Below W10.heap.size W10 W11) := ⟨hW11 ▸ below_set HCb.out G11.out⟩
    have BK11 : Aside0 (W11.heap[g11]? = some (.cells #[.slice A11 t429.length c11] 26 (0, 0))) := ⟨hW11 ▸ blk_put (cs := #[.slice none 0 0]) BKb.out 0 _ rfl⟩
    have HX11 : Aside0 (Kd.R k95 95 W11 W10.heap.size (fun k_ => some k_ = (.slice A11 t429.length c11 : Value).ownBlock) (.slice A11 t429.length c11) t429) := ⟨hW11 ▸ Kd.R_step (Kd.R_tight rfl HXb.out) (fun k hk _ => have hne : k ≠ g11 := fun e => Kd.R_ne HXb.out BKb.out (by decide) (by rw [← e]; exact hk); Below.heap_setCell _ _ _ k hne)⟩
    clear hW11 BKb HXb HCb HXa HCa hz11 hf11 hcV
    have BKM11 := Aside0.mk (HOM.out _ HC11.out).2.1
    have hcM0 : W11.cell? ⟨gb410, 0, none⟩ = some (.int .i64 a1_0) := bc BKM11 0
    have hcM1 : W11.cell? ⟨gb410, 1, none⟩ = some (.slice A1_1 l1_1.length c1_1) := bc BKM11 1
    have HBw11 : Aside0 (Below w.heap.size w W11) := ⟨HB10.out.trans ⟨HC11.out.os, HC11.out.tape, HC11.out.output, HC11.out.size, fun k hk => HC11.out.block k (Nat.lt_of_lt_of_le hk HB10.out.size)⟩⟩
    go_upto_region 13 with (first
     | (go_at_call 18; refine (laws_toMemo.calls k a1_0 A1_1 c1_1 l1_1 t433 t434 _ (Kd.C_below HR1_1.out HBw11.out) HC1_1.out A27.out).mono ?_; rintro e wa ⟨va, rfl, ho, hb⟩; obtain ⟨A12, c12, rfl⟩ := Kd.S_slice ho; have HXa := Aside0.mk ho; have HCa := Aside0.mk hb; clear ho hb hcM0 hcM1)
     | ((with_reducible refine gate_dst (N := 12) rfl ?_); refine box_event ?hg (N := 12) ?hd (cs := #[.int .i64 0, .slice none 0 0]) (t := 31) ?hr ?_; (case hd => rfl); (case hg => rfl); (case hr => first | (go_simp; done) | (go_simp; rfl)); intro g12 hg wb hbox hb; have BKb := Aside0.mk hbox; have HXb := Aside0.mk (Kd.S_below (Kd.S_elderB HXa.out g12 (Nat.le_of_eq hg.symm)) hb); have HCb := Aside0.mk (below_step HCa.out hb); have G12 : Aside0 (W11.heap.size ≤ g12) := ⟨by rw [hg]; exact HCa.out.size⟩; clear hbox hb hg; have hz0 : wb.cell? ⟨g12, 0, none⟩ = some (.int .i64 0) := bc BKb 0; have hz1 : wb.cell? ⟨g12, 1, none⟩ = some (.slice none 0 0) := bc BKb 1; have hf0 := blk_frozen BKb.out 0; have hf1 := blk_frozen BKb.out 1))
    generalize hW12 : (wb.setCell ⟨g12, 0, none⟩ (.int .i64 t433)).setCell ⟨g12, 1, none⟩ (.slice A12 t434.length c12) = W12
    have HC12 : Aside0 (Below W11.heap.size W11 W12) := ⟨hW12 ▸ below_set (below_set HCb.out G12.out) G12.out⟩
    have BK12 : Aside0 (W12.heap[g12]? = some (.cells #[.int .i64 t433, .slice A12 t434.length c12] 31 (0, 0))) := ⟨hW12 ▸ blk_put (cs := #[.int .i64 t433, .slice none 0 0]) (blk_put (cs := #[.int .i64 0, .slice none 0 0]) BKb.out 0 _ rfl) 1 _ rfl⟩
    have HX12 : Aside0 (Kd.S k86 86 W12 W11.heap.size (fun k_ => True ∧ k_ ≠ g12) (.slice A12 t434.length c12) t434) := ⟨hW12 ▸ Kd.S_far (Kd.S_far HXb.out (p := ⟨g12, 0, none⟩) (fun _ hk => hk.2) _) (p := ⟨g12, 1, none⟩) (fun _ hk => hk.2) _⟩
    clear hW12 BKb HXb HCb HXa HCa hz0 hz1 hf0 hf1
    have HC1012 : Aside0 (Below W10.heap.size W10 W12) := ⟨below_step HC11.out HC12.out⟩
    have BK11' := Aside0.mk (blk_below BK11.out HC12.out)
    have h11 : W12.cell? ⟨g11, 0, none⟩ = some (.slice A11 t429.length c11) := bc BK11' 0
    have h120 : W12.cell? ⟨g12, 0, none⟩ = some (.int .i64 t433) := bc BK12 0
    have h121 : W12.cell? ⟨g12, 1, none⟩ = some (.slice A12 t434.length c12) := bc BK12 1
    go_upto_region 14 with (first
     | (go_at_call 11; refine (impl_Recall.calls k A11 c11 t429 t433 A12 c12 t434 a2 t438 t439 t442 t445 _ (Kd.C_below (Kd.R_reads' HX11.out).2.2 HC12.out) (Kd.R_reads' HX11.out).2.1 (Kd.S_reads' HX12.out).2.2 (Kd.S_reads' HX12.out).2.1 A28.out).mono ?_; rintro e wa ⟨va, vb, rfl, ho, ho2, hb⟩; obtain ⟨A13, c13, rfl⟩ := Kd.S_slice ho; obtain ⟨A14, c14, rfl⟩ := Kd.R_slice ho2; have HGa := Aside0.mk (Kd.S_bound ho); have HTa := Aside0.mk ho2; have HCa := Aside0.mk hb; clear ho ho2 hb h11 h120 h121)
     | ((with_reducible refine gate_dst (N := 13) rfl ?_); refine box_event ?hg (N := 13) ?hd (cs := #[.int .i64 0, .slice none 0 0]) (t := 31) ?hr ?_; (case hd => rfl); (case hg => rfl); (case hr => first | (go_simp; done) | (go_simp; rfl)); intro g13 hg wb hbox hb; have BKb := Aside0.mk hbox; have HGb := Aside0.mk (Kd.S_below HGa.out hb); have HTb := Aside0.mk (Kd.R_below HTa.out hb); have HCb := Aside0.mk (below_step HCa.out hb); have G13 : Aside0 (g13 = wa.heap.size) := ⟨hg⟩; clear hbox hb hg; have hz0 : wb.cell? ⟨g13, 0, none⟩ = some (.int .i64 0) := bc BKb 0; have hz1 : wb.cell? ⟨g13, 1, none⟩ = some (.slice none 0 0) := bc BKb 1; have hf0 := blk_frozen BKb.out 0; have hf1 := blk_frozen BKb.out 1))
    generalize hW13 : (wb.setCell ⟨g13, 0, none⟩ (.int .i64 t438)).setCell ⟨g13, 1, none⟩ (.slice A13 t439.length c13) = W13
    have HC13 : Aside0 (Below W12.heap.size W12 W13) := ⟨hW13 ▸ below_set (below_set HCb.out (by rw [G13.out]; exact HCa.out.size)) (by rw [G13.out]; exact HCa.out.size)⟩
    have BK13 : Aside0 (W13.heap[g13]? = some (.cells #[.int .i64 t438, .slice A13 t439.length c13] 31 (0, 0))) := ⟨hW13 ▸ blk_put (cs := #[.int .i64 t438, .slice none 0 0]) (blk_put (cs := #[.int .i64 0, .slice none 0 0]) BKb.out 0 _ rfl) 1 _ rfl⟩
    have HG13 : Aside0 (Kd.S k86 86 W13 W12.heap.size (fun k_ => some k_ ≠ (.slice A14 t442.length c14 : Value).ownBlock ∧ W12.heap.size ≤ k_ ∧ k_ < g13) (.slice A13 t439.length c13) t439) := ⟨by
      have h := Kd.S_mono HGb.out (fun k hk => (⟨hk.1, hk.2.1, by have := hk.2.2.1; have := G13.out; omega⟩ : some k ≠ (.slice A14 t442.length c14 : Value).ownBlock ∧ W12.heap.size ≤ k ∧ k < g13))
      rw [← hW13]
      exact Kd.S_far (Kd.S_far h (p := ⟨g13, 0, none⟩) (fun _ hk => Nat.ne_of_lt hk.2.2) _) (p := ⟨g13, 1, none⟩) (fun _ hk => Nat.ne_of_lt hk.2.2) _⟩
    have HT13 : Aside0 (Kd.R (Kd.int .i64) 3 W13 W12.heap.size (fun k_ => some k_ = (.slice A14 t442.length c14 : Value).ownBlock) (.slice A14 t442.length c14) t442) := ⟨hW13 ▸ Kd.R_step (Kd.R_tight rfl HTb.out) (fun k hk _ => have hne : k ≠ g13 := fun e => Kd.R_ne HTb.out BKb.out (by decide) (by rw [← e]; exact hk); (Below.heap_setCell _ _ _ k hne).trans (Below.heap_setCell _ _ _ k hne))⟩
    have G13b : Aside0 (W12.heap.size ≤ g13) := ⟨by rw [G13.out]; exact HCa.out.size⟩
    clear hW13 BKb HGb HTb HCb HGa HTa HCa hz0 hz1 hf0 hf1 G13
    have HC1013 : Aside0 (Below W10.heap.size W10 W13) := ⟨below_step HC1012.out HC13.out⟩
    have BK8' := Aside0.mk (HOM.out _ HC1013.out).2.2.1
    have h130 : W13.cell? ⟨g13, 0, none⟩ = some (.int .i64 t438) := bc BK13 0
    have h131 : W13.cell? ⟨g13, 1, none⟩ = some (.slice A13 t439.length c13) := bc BK13 1
    have h80 : W13.cell? ⟨gb428, 0, none⟩ = some (.int .i64 t420) := bc BK8' 0
    have h81 : W13.cell? ⟨gb428, 1, none⟩ = some (.slice Ao46 t421.length co46) := bc BK8' 1
    go_upto_region 16 with (first
     | (go_at_call 19; refine (laws_eqMemo.calls k t438 A13 c13 t439 t420 Ao46 co46 t421 true _ (Kd.S_reads' HG13.out).2.2 (Kd.S_reads' HG13.out).2.1 (HOM.out _ HC1013.out).2.2.2.1 L8.out F1.out).mono ?_; rintro e wa ⟨rfl, hb⟩; have HCa := Aside0.mk hb; clear hb h130 h131 h80 h81)
     | (go_at_call 20; refine (laws_eqIntS.calls k A14 c14 t442 A9 c9 t424 true _ (Kd.C_below (Kd.R_reads' HT13.out).2.2 HCa.out) (Kd.R_reads' HT13.out).2.1 (Kd.C_below (HOM.out _ HC1013.out).2.2.2.2 HCa.out) L9.out F2.out).mono ?_; rintro e wb ⟨rfl, nd, rfl⟩))
    generalize hW15 : wa.drewN nd = W15
    have HC15 : Aside0 (Below W13.heap.size W13 W15) := ⟨hW15 ▸ pw_below_drewN HCa.out nd⟩
    clear hW15 HCa
    have HC1115 : Aside0 (Below W11.heap.size W11 W15) := ⟨below_step (below_step HC12.out HC13.out) HC15.out⟩
    have HC1015 : Aside0 (Below W10.heap.size W10 W15) := ⟨below_step HC1013.out HC15.out⟩
    go_wp2
    refine start_ (n := 5) (S := fun w' => w'.cell? ⟨g11, 0, none⟩ = some (.slice A11 t429.length c11) ∧ w'.cell? ⟨gb409, 0, none⟩ = some (.slice A0_0 l0_0.length c0_0)) (ds := []) #[false, false, false, false, false] (by kernel_rfl) rfl rfl ⟨(blk_cell (blk_below BK11.out HC1115.out) 0).trans rfl, (blk_cell (HOM.out _ HC1015.out).1 0).trans rfl⟩ (fun hHeld => ?_)
    generalize hW16 : W15.drew = W16 at hHeld ⊢
    have HC16 : Aside0 (Below W13.heap.size W13 W16) := ⟨hW16 ▸ below_drew1 HC15.out⟩
    clear hW16 HC15 HC1115 HC1015
    refine take_ (i := 0) (N := some 72) (v := ?_) (a' := ?_) #[true, false, false, false, false] rfl rfl (by kernel_rfl) (fun _ _ _ h => h) (Or.inl ⟨by rfl, ?_⟩) hHeld ?_ ?_
    rotate_left
    ·rintro w' ⟨s0, s1⟩
     go_simp
     with_reducible rfl
    rotate_left
    ·simp only [Act.put, List.setIfInBounds_toArray, List.set_cons_zero, List.set_cons_succ, i64_w, i32_w]
     rfl
    refine take_ (i := 1) (N := some 73) (v := ?_) (a' := ?_) #[true, true, false, false, false] rfl rfl (by kernel_rfl) (fun _ _ _ h => h) (Or.inl ⟨by rfl, ?_⟩) hHeld ?_ ?_
    rotate_left
    ·rintro w' ⟨s0, s1⟩
     go_simp
     with_reducible rfl
    rotate_left
    ·simp only [Act.put, List.setIfInBounds_toArray, List.set_cons_zero, List.set_cons_succ, i64_w, i32_w]
     rfl
    refine one_ (i := 2) (N := some 74) #[true, true, true, false, false] rfl rfl (by kernel_rfl) (by decide) (fun K hK => ?_)
    have HBw16 : Aside0 (Below w.heap.size w W16) := ⟨below_step HB10.out (below_step HC1013.out HC16.out)⟩
    refine goes_ Try.func17 (by kernel_rfl) rfl #[.agg #[.slice A0_0 l0_0.length c0_0]] (by rfl) rfl rfl (by (try simp only [List.map_toArray, List.map_cons, List.map_nil]); first | done | rfl | (simp only [List.length_drop, List.length_take]; rfl)) ?_
    refine (laws_toVocab.calls k A0_0 c0_0 l0_0 t429 _ (Kd.C_below HR0_0.out HBw16.out) HC0_0.out A26.out).mono ?_
    rintro e w17 ⟨v17, rfl, ho, hb⟩
    refine ⟨_, rfl, ?_⟩
    obtain ⟨A17, c17, rfl⟩ := Kd.R_slice ho
    have HV17 := Aside0.mk ho
    have HC17 : Aside0 (Below W13.heap.size W13 w17) := ⟨below_step HC16.out hb⟩
    clear ho hb HBw16 HC16
    refine hK.out _ _ ⟨(blk_cell (blk_below BK11.out (below_step (below_step HC12.out HC13.out) HC17.out)) 0).trans rfl, (blk_cell (HOM.out _ (below_step HC1013.out HC17.out)).1 0).trans rfl⟩ (fun hHeld => ?_)
    clear hK K
    refine norm_ (a' := ?_) ?_ ?_
    rotate_left
    ·show Act.put _ (some 74) _ = _
     simp only [Act.put, List.setIfInBounds_toArray, List.set_cons_zero, List.set_cons_succ, i64_w, i32_w]
     rfl
    refine one_ (i := 3) (N := some 75) #[true, true, true, true, false] rfl rfl (by kernel_rfl) (by decide) (fun K hK => ?_)
    refine goes_ Try.func21 (by kernel_rfl) rfl #[.agg #[.slice A11 t429.length c11], .agg #[.slice A17 t429.length c17]] (by rfl) rfl rfl (by (try simp only [List.map_toArray, List.map_cons, List.map_nil]); first | done | rfl | (simp only [List.length_drop, List.length_take]; rfl)) ?_
    refine (laws_eqVocab.calls k A11 c11 t429 A17 c17 t429 true _ (Kd.C_below (Kd.R_reads' HX11.out).2.2 (below_step (below_step HC12.out HC13.out) HC17.out)) (Kd.R_reads' HX11.out).2.1 (Kd.R_reads' HV17.out).2.2 (Kd.R_reads' HV17.out).2.1 F3.out).mono ?_
    rintro e w18 ⟨rfl, hb⟩
    refine ⟨_, rfl, ?_⟩
    have HC18 : Aside0 (Below W13.heap.size W13 w18) := ⟨below_step HC17.out hb⟩
    clear hb HC17 HV17
    refine hK.out _ _ ⟨(blk_cell (blk_below BK11.out (below_step (below_step HC12.out HC13.out) HC18.out)) 0).trans rfl, (blk_cell (HOM.out _ (below_step HC1013.out HC18.out)).1 0).trans rfl⟩ (fun hHeld => ?_)
    clear hK K
    refine norm_ (a' := ?_) ?_ ?_
    rotate_left
    ·show Act.put _ (some 75) _ = _
     simp only [Act.put, List.setIfInBounds_toArray, List.set_cons_zero, List.set_cons_succ, i64_w, i32_w]
     rfl
    refine pure_ (i := 4) (N := some 76) (v := ?_) (a' := ?_) #[true, true, true, true, true] rfl rfl (by kernel_rfl) (fun _ _ _ h => h) (Or.inl ⟨by rfl, ?_⟩) ?_ ?_
    rotate_left
    ·intro w'
     go_simp
     with_reducible rfl
    rotate_left
    ·simp only [Act.put, List.setIfInBounds_toArray, List.set_cons_zero, List.set_cons_succ, i64_w, i32_w]
     rfl
    refine done_ (by kernel_rfl) ?_
    go_wp2
    refine start_ (n := 5) (S := fun w' => w'.cell? ⟨g12, 0, none⟩ = some (.int .i64 t433) ∧ w'.cell? ⟨g12, 1, none⟩ = some (.slice A12 t434.length c12) ∧ w'.cell? ⟨gb410, 0, none⟩ = some (.int .i64 a1_0) ∧ w'.cell? ⟨gb410, 1, none⟩ = some (.slice A1_1 l1_1.length c1_1)) (ds := []) #[false, false, false, false, false] (by kernel_rfl) rfl rfl ⟨(blk_cell (blk_below BK12.out (below_step HC13.out HC18.out)) 0).trans rfl, (blk_cell (blk_below BK12.out (below_step HC13.out HC18.out)) 1).trans rfl, (blk_cell (HOM.out _ (below_step HC1013.out HC18.out)).2.1 0).trans rfl, (blk_cell (HOM.out _ (below_step HC1013.out HC18.out)).2.1 1).trans rfl⟩ (fun hHeld => ?_)
    generalize hW19 : w18.drew = W19 at hHeld ⊢
    have HC19 : Aside0 (Below W13.heap.size W13 W19) := ⟨hW19 ▸ below_drew1 HC18.out⟩
    clear hW19 HC18
    refine take_ (i := 0) (N := some 77) (v := ?_) (a' := ?_) #[true, false, false, false, false] rfl rfl (by kernel_rfl) (fun _ _ _ h => h) (Or.inl ⟨by rfl, ?_⟩) hHeld ?_ ?_
    rotate_left
    ·rintro w' ⟨s0, s1, s2, s3⟩
     go_simp
     with_reducible rfl
    rotate_left
    ·simp only [Act.put, List.setIfInBounds_toArray, List.set_cons_zero, List.set_cons_succ, i64_w, i32_w]
     rfl
    refine take_ (i := 1) (N := some 78) (v := ?_) (a' := ?_) #[true, true, false, false, false] rfl rfl (by kernel_rfl) (fun _ _ _ h => h) (Or.inl ⟨by rfl, ?_⟩) hHeld ?_ ?_
    rotate_left
    ·rintro w' ⟨s0, s1, s2, s3⟩
     go_simp
     with_reducible rfl
    rotate_left
    ·simp only [Act.put, List.setIfInBounds_toArray, List.set_cons_zero, List.set_cons_succ, i64_w, i32_w]
     rfl
    refine one_ (i := 2) (N := some 79) #[true, true, true, false, false] rfl rfl (by kernel_rfl) (by decide) (fun K hK => ?_)
    have HBw19 : Aside0 (Below w.heap.size w W19) := ⟨below_step HB10.out (below_step HC1013.out HC19.out)⟩
    refine goes_ Try.func18 (by kernel_rfl) rfl #[.agg #[.int .i64 a1_0, .slice A1_1 l1_1.length c1_1]] (by rfl) rfl rfl (by (try simp only [List.map_toArray, List.map_cons, List.map_nil]); first | done | rfl | (simp only [List.length_drop, List.length_take]; rfl)) ?_
    refine (laws_toMemo.calls k a1_0 A1_1 c1_1 l1_1 t433 t434 _ (Kd.C_below HR1_1.out HBw19.out) HC1_1.out A27.out).mono ?_
    rintro e w20 ⟨v20, rfl, ho, hb⟩
    refine ⟨_, rfl, ?_⟩
    obtain ⟨A20, c20, rfl⟩ := Kd.S_slice ho
    have HV20 := Aside0.mk ho
    have HC20 : Aside0 (Below W13.heap.size W13 w20) := ⟨below_step HC19.out hb⟩
    clear ho hb HBw19 HC19
    refine hK.out _ _ ⟨(blk_cell (blk_below BK12.out (below_step HC13.out HC20.out)) 0).trans rfl, (blk_cell (blk_below BK12.out (below_step HC13.out HC20.out)) 1).trans rfl, (blk_cell (HOM.out _ (below_step HC1013.out HC20.out)).2.1 0).trans rfl, (blk_cell (HOM.out _ (below_step HC1013.out HC20.out)).2.1 1).trans rfl⟩ (fun hHeld => ?_)
    clear hK K
    refine norm_ (a' := ?_) ?_ ?_
    rotate_left
    ·show Act.put _ (some 79) _ = _
     simp only [Act.put, List.setIfInBounds_toArray, List.set_cons_zero, List.set_cons_succ, i64_w, i32_w]
     rfl
    refine one_ (i := 3) (N := some 80) #[true, true, true, true, false] rfl rfl (by kernel_rfl) (by decide) (fun K hK => ?_)
    refine goes_ Try.func19 (by kernel_rfl) rfl #[.agg #[.int .i64 t433, .slice A12 t434.length c12], .agg #[.int .i64 t433, .slice A20 t434.length c20]] (by rfl) rfl rfl (by (try simp only [List.map_toArray, List.map_cons, List.map_nil]); first | done | rfl | (simp only [List.length_drop, List.length_take]; rfl)) ?_
    refine (laws_eqMemo.calls k t433 A12 c12 t434 t433 A20 c20 t434 true _ (Kd.C_below (Kd.S_reads' HX12.out).2.2 (below_step HC13.out HC20.out)) (Kd.S_reads' HX12.out).2.1 (Kd.S_reads' HV20.out).2.2 (Kd.S_reads' HV20.out).2.1 F4.out).mono ?_
    rintro e w21 ⟨rfl, hb⟩
    refine ⟨_, rfl, ?_⟩
    have HC21 : Aside0 (Below W13.heap.size W13 w21) := ⟨below_step HC20.out hb⟩
    clear hb HC20 HV20
    refine hK.out _ _ ⟨(blk_cell (blk_below BK12.out (below_step HC13.out HC21.out)) 0).trans rfl, (blk_cell (blk_below BK12.out (below_step HC13.out HC21.out)) 1).trans rfl, (blk_cell (HOM.out _ (below_step HC1013.out HC21.out)).2.1 0).trans rfl, (blk_cell (HOM.out _ (below_step HC1013.out HC21.out)).2.1 1).trans rfl⟩ (fun hHeld => ?_)
    clear hK K
    refine norm_ (a' := ?_) ?_ ?_
    rotate_left
    ·show Act.put _ (some 80) _ = _
     simp only [Act.put, List.setIfInBounds_toArray, List.set_cons_zero, List.set_cons_succ, i64_w, i32_w]
     rfl
    refine pure_ (i := 4) (N := some 81) (v := ?_) (a' := ?_) #[true, true, true, true, true] rfl rfl (by kernel_rfl) (fun _ _ _ h => h) (Or.inl ⟨by rfl, ?_⟩) ?_ ?_
    rotate_left
    ·intro w'
     go_simp
     with_reducible rfl
    rotate_left
    ·simp only [Act.put, List.setIfInBounds_toArray, List.set_cons_zero, List.set_cons_succ, i64_w, i32_w]
     rfl
    refine done_ (by kernel_rfl) ?_
    have HX21 : Aside0 (Kd.R k95 95 w21 W10.heap.size (fun k_ => some k_ = (.slice A11 t429.length c11 : Value).ownBlock) (.slice A11 t429.length c11) t429) := ⟨Kd.R_below HX11.out (below_step (below_step HC12.out HC13.out) HC21.out)⟩
    have h11 : w21.cell? ⟨g11, 0, none⟩ = some (.slice A11 t429.length c11) := (blk_cell (blk_below BK11.out (below_step (below_step HC12.out HC13.out) HC21.out)) 0).trans rfl
    clear hHeld
    go_upto_region 22 with (go_at_call 22; refine (laws_markVocab.calls k (fun k_ => some k_ = (.slice A11 t429.length c11 : Value).ownBlock) (.slice A11 t429.length c11) t429 1 p1 v' W10 _ (below_step HC1013.out HC21.out) HX21.out F5.out).mono ?_; rintro e w22 ⟨rfl, hr22, hb22, hk22⟩)
    have HB22 := Aside0.mk hb22
    have HL13 : Aside0 (W13.heap.size ≤ w21.heap.size) := ⟨HC21.out.size⟩
    have CH22 : Aside0 (∀ k, W11.heap.size ≤ k → k < W13.heap.size → w22.heap[k]? = W13.heap[k]?) := ⟨fun k h1 h2 => (hk22.2 k (Nat.lt_of_lt_of_le h2 HL13.out) (fun e => by have := Kd.R_lt HX11.out k e.symm; omega)).trans (HC21.out.block k h2)⟩
    have HX22 : Aside0 (Kd.S k86 86 w22 W10.heap.size (fun k_ => W11.heap.size ≤ k_ ∧ k_ < W12.heap.size) (.slice A12 t434.length c12) t434) := ⟨Kd.S_step (Kd.S_lower (Kd.S_mono (Kd.S_bound HX12.out) (fun k hk => (⟨hk.2.1, hk.2.2.1⟩ : W11.heap.size ≤ k ∧ k < W12.heap.size))) HC11.out.size) (fun k hk hlt => (CH22.out k hk.1 (Nat.lt_of_lt_of_le hk.2 HC13.out.size)).trans (HC13.out.block k hk.2))⟩
    have BK12b : Aside0 (w22.heap[g12]? = some (.cells #[.int .i64 t433, .slice A12 t434.length c12] 31 (0, 0))) := ⟨((CH22.out g12 G12.out (Nat.lt_of_lt_of_le (blk_lt BK12.out) HC13.out.size)).trans (HC13.out.block g12 (blk_lt BK12.out))).trans BK12.out⟩
    have h120 : w22.cell? ⟨g12, 0, none⟩ = some (.int .i64 t433) := bc BK12b 0
    have h121 : w22.cell? ⟨g12, 1, none⟩ = some (.slice A12 t434.length c12) := bc BK12b 1
    have hsz22 := hk22.1
    have HS22 : Aside0 (W13.heap.size ≤ w22.heap.size) := ⟨Nat.le_trans HL13.out hsz22⟩
    clear hr22 hb22 hk22 h11 hsz22
    go_upto_region 23 with (go_at_call 23; refine (laws_markMemo.calls k (fun k_ => W11.heap.size ≤ k_ ∧ k_ < W12.heap.size) (.slice A12 t434.length c12) t433 t434 p1 p2 m' W10 _ HB22.out HX22.out F6.out).mono ?_; rintro e w23 ⟨rfl, hr23, hb23, hk23⟩)
    have HB23 := Aside0.mk hb23
    have CH23 : Aside0 (∀ k, W12.heap.size ≤ k → k < W13.heap.size → w23.heap[k]? = W13.heap[k]?) := ⟨fun k h1 h2 => (hk23.2 k (Nat.lt_of_lt_of_le h2 HS22.out) (fun e => by have := e.2; omega)).trans (CH22.out k (Nat.le_trans HC12.out.size h1) h2)⟩
    have HS23 : Aside0 (W13.heap.size ≤ w23.heap.size) := ⟨Nat.le_trans HS22.out hk23.1⟩
    clear hr23 hb23 hk23 h120 h121 CH22 HX22 BK12b HB22
    have HG23 : Aside0 (Kd.S k86 86 w23 W12.heap.size (fun k_ => some k_ ≠ (.slice A14 t442.length c14 : Value).ownBlock ∧ W12.heap.size ≤ k_ ∧ k_ < g13) (.slice A13 t439.length c13) t439) := ⟨Kd.S_step HG13.out (fun k hk hlt => CH23.out k hk.2.1 hlt)⟩
    have HT23 : Aside0 (Kd.R (Kd.int .i64) 3 w23 W12.heap.size (fun k_ => some k_ = (.slice A14 t442.length c14 : Value).ownBlock) (.slice A14 t442.length c14) t442) := ⟨Kd.R_step HT13.out (fun k hk hlt => CH23.out k (Kd.R_base HT13.out k hk.symm) hlt)⟩
    have BK23 : Aside0 (w23.heap[g13]? = some (.cells #[.int .i64 t438, .slice A13 t439.length c13] 31 (0, 0))) := ⟨(CH23.out g13 G13b.out (blk_lt BK13.out)).trans BK13.out⟩
    have BK8' := Aside0.mk (HOM.out _ HB23.out).2.2.1
    have h130 : w23.cell? ⟨g13, 0, none⟩ = some (.int .i64 t438) := bc BK23 0
    have h131 : w23.cell? ⟨g13, 1, none⟩ = some (.slice A13 t439.length c13) := bc BK23 1
    have h80 : w23.cell? ⟨gb428, 0, none⟩ = some (.int .i64 t420) := bc BK8' 0
    have h81 : w23.cell? ⟨gb428, 1, none⟩ = some (.slice Ao46 t421.length co46) := bc BK8' 1
    have hp2 : decide (p2 < 0) = false := decide_eq_false (by have := F7.out; omega)
    go_upto_region 26 with (first
     | (go_at_call 19; refine (laws_eqMemo.calls k t438 A13 c13 t439 t420 Ao46 co46 t421 true _ (Kd.S_reads' HG23.out).2.2 (Kd.S_reads' HG23.out).2.1 (HOM.out _ HB23.out).2.2.2.1 L8.out F1.out).mono ?_; rintro e wa ⟨rfl, hb⟩; have HCa := Aside0.mk hb; clear hb h130 h131 h80 h81)
     | (go_at_call 20; refine (laws_eqIntS.calls k A14 c14 t442 A9 c9 t424 true _ (Kd.C_below (Kd.R_reads' HT23.out).2.2 HCa.out) (Kd.R_reads' HT23.out).2.1 (Kd.C_below (HOM.out _ HB23.out).2.2.2.2 HCa.out) L9.out F2.out).mono ?_; rintro e wb ⟨rfl, nd, rfl⟩))
    generalize hW25 : wa.drewN nd = W25
    have HC25 : Aside0 (Below w23.heap.size w23 W25) := ⟨hW25 ▸ pw_below_drewN HCa.out nd⟩
    clear hW25 HCa hp2
    have HB25 : Aside0 (Below W10.heap.size W10 W25) := ⟨below_step HB23.out HC25.out⟩
    have HG25 := Aside0.mk (Kd.S_lower (Kd.S_below HG23.out HC25.out) HC1012.out.size)
    have HT25 := Aside0.mk (Kd.R_below HT23.out HC25.out)
    have BK25 := Aside0.mk (blk_below BK23.out HC25.out)
    have h130 : W25.cell? ⟨g13, 0, none⟩ = some (.int .i64 t438) := bc BK25 0
    have h131 : W25.cell? ⟨g13, 1, none⟩ = some (.slice A13 t439.length c13) := bc BK25 1
    go_upto_region 27 with (go_at_call 23; refine (laws_markMemo.calls k (fun k_ => some k_ ≠ (.slice A14 t442.length c14 : Value).ownBlock ∧ W12.heap.size ≤ k_ ∧ k_ < g13) (.slice A13 t439.length c13) t438 t439 1 p3 lg' W10 _ HB25.out HG25.out F8.out).mono ?_; rintro e w26 ⟨rfl, hr26, hb26, hk26⟩)
    have HB26 := Aside0.mk hb26
    have HG26 := Aside0.mk hr26
    have HT26 : Aside0 (Kd.R (Kd.int .i64) 3 w26 W10.heap.size (fun k_ => some k_ = (.slice A14 t442.length c14 : Value).ownBlock) (.slice A14 t442.length c14) t442) := ⟨Kd.R_lower (Kd.R_step HT25.out (fun k hk hlt => hk26.2 k hlt (fun e => e.1 hk))) HC1012.out.size⟩
    have BK26 : Aside0 (w26.heap[g13]? = some (.cells #[.int .i64 t438, .slice A13 t439.length c13] 31 (0, 0))) := ⟨(hk26.2 g13 (blk_lt BK25.out) (fun e => Nat.lt_irrefl _ e.2.2)).trans BK25.out⟩
    clear hr26 hb26 hk26 h130 h131
    go_upto_region 28 with (go_at_call 24; refine (laws_markIntS.calls k (fun k_ => some k_ = (.slice A14 t442.length c14 : Value).ownBlock) (.slice A14 t442.length c14) t442 p3 p4 tg' W10 _ HB26.out HT26.out F9.out).mono ?_; rintro e w27 ⟨rfl, hr27, hb27, hk27⟩)
    have HB27 := Aside0.mk hb27
    have HG27 := Aside0.mk (Kd.S_step HG26.out (fun k hk hlt => hk27.2 k hlt (fun e => hk.1 e)))
    have HT27 := Aside0.mk hr27
    have BK27 : Aside0 (w27.heap[g13]? = some (.cells #[.int .i64 t438, .slice A13 t439.length c13] 31 (0, 0))) := ⟨(hk27.2 g13 (blk_lt BK26.out) (fun e => Kd.R_ne HT26.out BK26.out (by decide) e)).trans BK26.out⟩
    clear hr27 hb27 hk27 HG26 HT26 BK26 HB26 HG25 HT25 BK25 HB25 HC25 HG23 HT23 BK23 HB23 CH23 HS23 HS22 HL13 BK8' HX21 HC21 HX12 HX11 HG13 HT13 BK11 BK12 BK13
    have N13 := Aside0.mk (Kd.S_reads' HG27.out)
    have N14 := Aside0.mk (Kd.R_reads' HT27.out)
    have h130 : w27.cell? ⟨g13, 0, none⟩ = some (.int .i64 t438) := bc BK27 0
    have h131 : w27.cell? ⟨g13, 1, none⟩ = some (.slice A13 t439.length c13) := bc BK27 1
    have hh1 : decide (h1 < 0) = false := decide_eq_false (by have := F11.out; omega)
    have hp4 : decide (p4 < 0) = false := decide_eq_false (by have := F13.out; omega)
    go_upto_region 37 with (first
     | (go_at_call 25; refine (heldMemo_n k t438 A13 c13 t439.length lg' 1 h1 _ N13.out.1 N13.out.2.2 N13.out.2.1 F10.out).mono ?_; rintro e wa ⟨rfl, hb⟩; have HCa := Aside0.mk hb; clear hb h130 h131)
     | (go_at_call 26; refine (heldIntS_n k A14 c14 t442.length tg' h1 p4 _ N14.out.1 (Kd.C_below N14.out.2.2 HCa.out) N14.out.2.1 F12.out).mono ?_; rintro e wb ⟨rfl, nd, rfl⟩))
    generalize hW36 : wa.drewN nd = W36
    have HC36 : Aside0 (Below w27.heap.size w27 W36) := ⟨hW36 ▸ pw_below_drewN HCa.out nd⟩
    clear hW36 HCa hh1 hp4
    go_wp2
    refine start_ (n := 14) (S := fun w' => w'.cell? ⟨gb409, 0, none⟩ = some (.slice A0_0 l0_0.length c0_0) ∧ w'.cell? ⟨gb410, 0, none⟩ = some (.int .i64 a1_0) ∧ w'.cell? ⟨gb410, 1, none⟩ = some (.slice A1_1 l1_1.length c1_1)) (ds := []) #[false, false, false, false, false, false, false, false, false, false, false, false, false, false] (by kernel_rfl) rfl rfl ⟨(blk_cell (HOM.out _ (below_step HB27.out HC36.out)).1 0).trans rfl, (blk_cell (HOM.out _ (below_step HB27.out HC36.out)).2.1 0).trans rfl, (blk_cell (HOM.out _ (below_step HB27.out HC36.out)).2.1 1).trans rfl⟩ (fun hHeld => ?_); refine with_tabW laws_FnExactRecall.tab37 laws_FnExactRecall.bits37 (fun HT_ HW_ => ?_)
    generalize hW37 : W36.drew = W37 at hHeld ⊢
    have HC37 : Aside0 (Below w27.heap.size w27 W37) := ⟨hW37 ▸ below_drew1 HC36.out⟩
    clear hW37 HC36
    have HB37 : Aside0 (Below W10.heap.size W10 W37) := ⟨below_step HB27.out HC37.out⟩
    have HBw37 : Aside0 (Below w.heap.size w W37) := ⟨below_step HB10.out HB37.out⟩
    refine pure_ (i := 4) (N := some 131) (v := ?_) (a' := ?_) #[false, false, false, false, true, false, false, false, false, false, false, false, false, false] rfl rfl (any_of HT_.out (by kernel_rfl)) (fun _ _ _ h => h) (Or.inl ⟨by rfl, ?_⟩) ?_ ?_
    rotate_left
    ·intro w'
     go_simp
     with_reducible rfl
    rotate_left
    ·simp only [Act.put, List.setIfInBounds_toArray, List.set_cons_zero, List.set_cons_succ, i64_w, i32_w]
     rfl
    refine take_ (i := 0) (N := some 127) (v := ?_) (a' := ?_) #[true, false, false, false, true, false, false, false, false, false, false, false, false, false] rfl rfl (take_ofW HT_.out HW_.out (by kernel_rfl)) (fun _ _ _ h => h) (Or.inl ⟨by rfl, ?_⟩) hHeld ?_ ?_
    rotate_left
    ·rintro w' ⟨s0, s1, s2⟩
     go_simp
     with_reducible rfl
    rotate_left
    ·simp only [Act.put, List.setIfInBounds_toArray, List.set_cons_zero, List.set_cons_succ, i64_w, i32_w]
     rfl
    refine take_ (i := 2) (N := some 129) (v := ?_) (a' := ?_) #[true, false, true, false, true, false, false, false, false, false, false, false, false, false] rfl rfl (take_ofW HT_.out HW_.out (by kernel_rfl)) (fun _ _ _ h => h) (Or.inl ⟨by rfl, ?_⟩) hHeld ?_ ?_
    rotate_left
    ·rintro w' ⟨s0, s1, s2⟩
     go_simp
     with_reducible rfl
    rotate_left
    ·simp only [Act.put, List.setIfInBounds_toArray, List.set_cons_zero, List.set_cons_succ, i64_w, i32_w]
     rfl
    refine join_ (σ := Value × Value × Value × Value × Nat) 3 #[true, true, true, true, true, true, true, true, true, true, true, false, false, false] (fun s_ => [(128, .agg #[s_.1]), (130, .agg #[.int .i64 t433, s_.2.1]), (132, .tuple #[.agg #[.int .i64 t438, s_.2.2.1], s_.2.2.2.1, .bool t445]), (19, .pointer (some ⟨s_.2.2.2.2, 0, none⟩)), (126, .tuple #[.agg #[.int .i64 t438, s_.2.2.1], s_.2.2.2.1, .bool t445]), (133, .agg #[.int .i64 t438, s_.2.2.1]), (134, s_.2.2.2.1), (135, .bool t445)]) (fun s_ w' => (w'.cell? ⟨gb409, 0, none⟩ = some (.slice A0_0 l0_0.length c0_0) ∧ w'.cell? ⟨gb410, 0, none⟩ = some (.int .i64 a1_0) ∧ w'.cell? ⟨gb410, 1, none⟩ = some (.slice A1_1 l1_1.length c1_1)) ∧ Below W37.heap.size W37 w' ∧ W37.heap.size ≤ s_.2.2.2.2 ∧ w'.heap[s_.2.2.2.2]? = some (.cells #[.int .i64 0, .slice none 0 0] 31 (0, 0)) ∧ (∃ (Ah : Option Addr) (ch bs : Nat) (ok : Nat → Prop), s_.2.2.1 = .slice Ah t439.length ch ∧ Kd.S k86 86 w' bs ok (.slice Ah t439.length ch) t439) ∧ (∃ (At : Option Addr) (ct bs : Nat) (ok : Nat → Prop), s_.2.2.2.1 = .slice At t442.length ct ∧ Kd.R (Kd.int .i64) 3 w' bs ok (.slice At t442.length ct) t442)) ?_ ?_
    rotate_left
    ·intro hCont
     have HC := Aside0.mk (Below.refl W37.heap.size W37)
     refine two_ (i := 1) (j := 10) (Ni := some 128) (Nj := some 19) #[true, true, true, false, true, false, false, false, false, false, false, false, false, false] #[true, false, true, false, true, false, false, false, false, false, true, false, false, false] rfl rfl rfl rfl (two_of HT_.out (by kernel_rfl)) (by decide) (by decide) (fun K hK => ?_) (fun K hK => ?_)
     ·skip
      refine goes_ Try.func17 (by kernel_rfl) rfl #[.agg #[.slice A0_0 l0_0.length c0_0]] (by rfl) rfl rfl (by (try simp only [List.map_toArray, List.map_cons, List.map_nil]); first | done | rfl | (simp only [List.length_drop, List.length_take]; rfl)) ?_
      refine (laws_toVocab.calls k A0_0 c0_0 l0_0 t429 _ (Kd.C_below HR0_0.out (below_step HBw37.out HC.out)) HC0_0.out A26.out).mono ?_
      rintro e wn ⟨vn, rfl, ho, hb⟩
      refine ⟨_, rfl, ?_⟩
      obtain ⟨Av, cv, rfl⟩ := Kd.R_slice ho
      have HV := Aside0.mk ho
      clear ho
      have HC' : Aside0 (Below W37.heap.size W37 wn) := ⟨below_step HC.out hb⟩
      clear hb HC; have HC := HC'; clear HC'
      refine hK.out _ _ ⟨(blk_cell (HOM.out _ (below_step HB37.out HC.out)).1 0).trans rfl, (blk_cell (HOM.out _ (below_step HB37.out HC.out)).2.1 0).trans rfl, (blk_cell (HOM.out _ (below_step HB37.out HC.out)).2.1 1).trans rfl⟩ (fun hHeld => ?_)
      clear hK K
      refine norm_ (a' := ?_) ?_ ?_
      rotate_left
      ·show Act.put _ (some 128) _ = _
       simp only [Act.put, List.setIfInBounds_toArray, List.set_cons_zero, List.set_cons_succ, i64_w, i32_w]
       rfl
      refine two_ (i := 3) (j := 10) (Ni := some 130) (Nj := some 19) #[true, true, true, true, true, false, false, false, false, false, false, false, false, false] #[true, true, true, false, true, false, false, false, false, false, true, false, false, false] rfl rfl rfl rfl (two_of HT_.out (by kernel_rfl)) (by decide) (by decide) (fun K hK => ?_) (fun K hK => ?_)
      ·skip
       refine goes_ Try.func18 (by kernel_rfl) rfl #[.agg #[.int .i64 a1_0, .slice A1_1 l1_1.length c1_1]] (by rfl) rfl rfl (by (try simp only [List.map_toArray, List.map_cons, List.map_nil]); first | done | rfl | (simp only [List.length_drop, List.length_take]; rfl)) ?_
       refine (laws_toMemo.calls k a1_0 A1_1 c1_1 l1_1 t433 t434 _ (Kd.C_below HR1_1.out (below_step HBw37.out HC.out)) HC1_1.out A27.out).mono ?_
       rintro e wn ⟨vn, rfl, ho, hb⟩
       refine ⟨_, rfl, ?_⟩
       obtain ⟨Am, cm, rfl⟩ := Kd.S_slice ho
       have HM := Aside0.mk ho
       clear ho
       have HC' : Aside0 (Below W37.heap.size W37 wn) := ⟨below_step HC.out hb⟩
       have HV' := Aside0.mk (Kd.R_below HV.out hb); clear HV; have HV := HV'; clear HV'
       clear hb HC; have HC := HC'; clear HC'
       refine hK.out _ _ ⟨(blk_cell (HOM.out _ (below_step HB37.out HC.out)).1 0).trans rfl, (blk_cell (HOM.out _ (below_step HB37.out HC.out)).2.1 0).trans rfl, (blk_cell (HOM.out _ (below_step HB37.out HC.out)).2.1 1).trans rfl⟩ (fun hHeld => ?_)
       clear hK K
       refine norm_ (a' := ?_) ?_ ?_
       rotate_left
       ·show Act.put _ (some 130) _ = _
        simp only [Act.put, List.setIfInBounds_toArray, List.set_cons_zero, List.set_cons_succ, i64_w, i32_w]
        rfl
       refine two_ (i := 5) (j := 10) (Ni := some 132) (Nj := some 19) #[true, true, true, true, true, true, false, false, false, false, false, false, false, false] #[true, true, true, true, true, false, false, false, false, false, true, false, false, false] rfl rfl rfl rfl (two_of HT_.out (by kernel_rfl)) (by decide) (by decide) (fun K hK => ?_) (fun K hK => ?_)
       ·skip
        refine goes_ Try.func11 (by kernel_rfl) rfl #[.agg #[.slice Av t429.length cv], .agg #[.int .i64 t433, .slice Am t434.length cm], .string a2] (by rfl) rfl rfl (by (try simp only [List.map_toArray, List.map_cons, List.map_nil]); first | done | rfl | (simp only [List.length_drop, List.length_take]; rfl)) ?_
        refine (impl_Recall.calls k Av cv t429 t433 Am cm t434 a2 t438 t439 t442 t445 _ (Kd.R_reads' HV.out).2.2 (Kd.R_reads' HV.out).2.1 (Kd.S_reads' HM.out).2.2 (Kd.S_reads' HM.out).2.1 A28.out).mono ?_
        rintro e wn ⟨vn, vn2, rfl, ho, ho2, hb⟩
        refine ⟨_, rfl, ?_⟩
        obtain ⟨Ah, ch, rfl⟩ := Kd.S_slice ho
        obtain ⟨At, ct, rfl⟩ := Kd.R_slice ho2
        have HG := Aside0.mk ho
        have HT := Aside0.mk ho2
        clear ho ho2
        have HC' : Aside0 (Below W37.heap.size W37 wn) := ⟨below_step HC.out hb⟩
        clear hb HC; have HC := HC'; clear HC'
        refine hK.out _ _ ⟨(blk_cell (HOM.out _ (below_step HB37.out HC.out)).1 0).trans rfl, (blk_cell (HOM.out _ (below_step HB37.out HC.out)).2.1 0).trans rfl, (blk_cell (HOM.out _ (below_step HB37.out HC.out)).2.1 1).trans rfl⟩ (fun hHeld => ?_)
        clear hK K
        refine norm_ (a' := ?_) ?_ ?_
        rotate_left
        ·show Act.put _ (some 132) _ = _
         simp only [Act.put, List.setIfInBounds_toArray, List.set_cons_zero, List.set_cons_succ, i64_w, i32_w]
         rfl
        refine pure_ (i := 6) (N := some 126) (v := ?_) (a' := ?_) #[true, true, true, true, true, true, true, false, false, false, false, false, false, false] rfl rfl (any_of HT_.out (by kernel_rfl)) (fun _ _ _ h => h) (Or.inl ⟨by rfl, ?_⟩) ?_ ?_
        rotate_left
        ·intro w'
         go_simp
         with_reducible rfl
        rotate_left
        ·simp only [Act.put, List.setIfInBounds_toArray, List.set_cons_zero, List.set_cons_succ, i64_w, i32_w]
         rfl
        refine pure_ (i := 7) (N := some 133) (v := ?_) (a' := ?_) #[true, true, true, true, true, true, true, true, false, false, false, false, false, false] rfl rfl (any_of HT_.out (by kernel_rfl)) (fun _ _ _ h => h) (Or.inl ⟨by rfl, ?_⟩) ?_ ?_
        rotate_left
        ·intro w'
         go_simp
         with_reducible rfl
        rotate_left
        ·simp only [Act.put, List.setIfInBounds_toArray, List.set_cons_zero, List.set_cons_succ, i64_w, i32_w]
         rfl
        refine pure_ (i := 8) (N := some 134) (v := ?_) (a' := ?_) #[true, true, true, true, true, true, true, true, true, false, false, false, false, false] rfl rfl (any_of HT_.out (by kernel_rfl)) (fun _ _ _ h => h) (Or.inl ⟨by rfl, ?_⟩) ?_ ?_
        rotate_left
        ·intro w'
         go_simp
         with_reducible rfl
        rotate_left
        ·simp only [Act.put, List.setIfInBounds_toArray, List.set_cons_zero, List.set_cons_succ, i64_w, i32_w]
         rfl
        refine pure_ (i := 9) (N := some 135) (v := ?_) (a' := ?_) #[true, true, true, true, true, true, true, true, true, true, false, false, false, false] rfl rfl (any_of HT_.out (by kernel_rfl)) (fun _ _ _ h => h) (Or.inl ⟨by rfl, ?_⟩) ?_ ?_
        rotate_left
        ·intro w'
         go_simp
         with_reducible rfl
        rotate_left
        ·simp only [Act.put, List.setIfInBounds_toArray, List.set_cons_zero, List.set_cons_succ, i64_w, i32_w]
         rfl
        refine one_ (i := 10) (N := some 19) #[true, true, true, true, true, true, true, true, true, true, true, false, false, false] rfl rfl (one_of HT_.out (by kernel_rfl)) (by decide) (fun K hK => ?_)
        refine box_step ?hg (N := 19) ?hd (cs := #[.int .i64 0, .slice none 0 0]) (t := 31) ?hr ?_; (case hd => rfl); (case hg => rfl); (case hr => first | (go_simp; done) | (go_simp; rfl))
        intro g19 hg wn hbox hb
        have G19 : Aside0 (W37.heap.size ≤ g19) := ⟨by rw [hg]; exact HC.out.size⟩
        have BK19 := Aside0.mk hbox
        have HC' : Aside0 (Below W37.heap.size W37 wn) := ⟨below_step HC.out hb⟩
        have HG' := Aside0.mk (Kd.S_below HG.out hb); clear HG; have HG := HG'; clear HG'; have HT' := Aside0.mk (Kd.R_below HT.out hb); clear HT; have HT := HT'; clear HT'
        clear hb HC; have HC := HC'; clear HC'
        clear hbox hg
        refine hK.out _ _ ⟨(blk_cell (HOM.out _ (below_step HB37.out HC.out)).1 0).trans rfl, (blk_cell (HOM.out _ (below_step HB37.out HC.out)).2.1 0).trans rfl, (blk_cell (HOM.out _ (below_step HB37.out HC.out)).2.1 1).trans rfl⟩ (fun hHeld => ?_)
        clear hK K
        refine norm_ (a' := ?_) ?_ ?_
        rotate_left
        ·show Act.put _ (some 19) _ = _
         simp only [Act.put, List.setIfInBounds_toArray, List.set_cons_zero, List.set_cons_succ, i64_w, i32_w]
         rfl
        exact norm_ (by simp only [putAll, Act.put, List.setIfInBounds_toArray, List.set_cons_zero, List.set_cons_succ]) (hCont (.slice Av t429.length cv, .slice Am t434.length cm, .slice Ah t439.length ch, .slice At t442.length ct, g19) _ ⟨hHeld, HC.out, G19.out, BK19.out, ⟨Ah, ch, _, _, rfl, HG.out⟩, ⟨At, ct, _, _, rfl, HT.out⟩⟩)
       ·skip
        refine box_step ?hg (N := 19) ?hd (cs := #[.int .i64 0, .slice none 0 0]) (t := 31) ?hr ?_; (case hd => rfl); (case hg => rfl); (case hr => first | (go_simp; done) | (go_simp; rfl))
        intro g19 hg wn hbox hb
        have G19 : Aside0 (W37.heap.size ≤ g19) := ⟨by rw [hg]; exact HC.out.size⟩
        have BK19 := Aside0.mk hbox
        have HC' : Aside0 (Below W37.heap.size W37 wn) := ⟨below_step HC.out hb⟩
        have HV' := Aside0.mk (Kd.R_below HV.out hb); clear HV; have HV := HV'; clear HV'
        have HM' := Aside0.mk (Kd.S_below HM.out hb); clear HM; have HM := HM'; clear HM'
        clear hb HC; have HC := HC'; clear HC'
        clear hbox hg
        refine hK.out _ _ ⟨(blk_cell (HOM.out _ (below_step HB37.out HC.out)).1 0).trans rfl, (blk_cell (HOM.out _ (below_step HB37.out HC.out)).2.1 0).trans rfl, (blk_cell (HOM.out _ (below_step HB37.out HC.out)).2.1 1).trans rfl⟩ (fun hHeld => ?_)
        clear hK K
        refine norm_ (a' := ?_) ?_ ?_
        rotate_left
        ·show Act.put _ (some 19) _ = _
         simp only [Act.put, List.setIfInBounds_toArray, List.set_cons_zero, List.set_cons_succ, i64_w, i32_w]
         rfl
        refine one_ (i := 5) (N := some 132) #[true, true, true, true, true, true, false, false, false, false, true, false, false, false] rfl rfl (one_of HT_.out (by kernel_rfl)) (by decide) (fun K hK => ?_)
        refine goes_ Try.func11 (by kernel_rfl) rfl #[.agg #[.slice Av t429.length cv], .agg #[.int .i64 t433, .slice Am t434.length cm], .string a2] (by rfl) rfl rfl (by (try simp only [List.map_toArray, List.map_cons, List.map_nil]); first | done | rfl | (simp only [List.length_drop, List.length_take]; rfl)) ?_
        refine (impl_Recall.calls k Av cv t429 t433 Am cm t434 a2 t438 t439 t442 t445 _ (Kd.R_reads' HV.out).2.2 (Kd.R_reads' HV.out).2.1 (Kd.S_reads' HM.out).2.2 (Kd.S_reads' HM.out).2.1 A28.out).mono ?_
        rintro e wn ⟨vn, vn2, rfl, ho, ho2, hb⟩
        refine ⟨_, rfl, ?_⟩
        obtain ⟨Ah, ch, rfl⟩ := Kd.S_slice ho
        obtain ⟨At, ct, rfl⟩ := Kd.R_slice ho2
        have HG := Aside0.mk ho
        have HT := Aside0.mk ho2
        clear ho ho2
        have HC' : Aside0 (Below W37.heap.size W37 wn) := ⟨below_step HC.out hb⟩
        have BK19' := Aside0.mk (blk_below BK19.out hb); clear BK19; have BK19 := BK19'; clear BK19'
        clear hb HC; have HC := HC'; clear HC'
        refine hK.out _ _ ⟨(blk_cell (HOM.out _ (below_step HB37.out HC.out)).1 0).trans rfl, (blk_cell (HOM.out _ (below_step HB37.out HC.out)).2.1 0).trans rfl, (blk_cell (HOM.out _ (below_step HB37.out HC.out)).2.1 1).trans rfl⟩ (fun hHeld => ?_)
        clear hK K
        refine norm_ (a' := ?_) ?_ ?_
        rotate_left
        ·show Act.put _ (some 132) _ = _
         simp only [Act.put, List.setIfInBounds_toArray, List.set_cons_zero, List.set_cons_succ, i64_w, i32_w]
         rfl
        refine pure_ (i := 6) (N := some 126) (v := ?_) (a' := ?_) #[true, true, true, true, true, true, true, false, false, false, true, false, false, false] rfl rfl (any_of HT_.out (by kernel_rfl)) (fun _ _ _ h => h) (Or.inl ⟨by rfl, ?_⟩) ?_ ?_
        rotate_left
        ·intro w'
         go_simp
         with_reducible rfl
        rotate_left
        ·simp only [Act.put, List.setIfInBounds_toArray, List.set_cons_zero, List.set_cons_succ, i64_w, i32_w]
         rfl
        refine pure_ (i := 7) (N := some 133) (v := ?_) (a' := ?_) #[true, true, true, true, true, true, true, true, false, false, true, false, false, false] rfl rfl (any_of HT_.out (by kernel_rfl)) (fun _ _ _ h => h) (Or.inl ⟨by rfl, ?_⟩) ?_ ?_
        rotate_left
        ·intro w'
         go_simp
         with_reducible rfl
        rotate_left
        ·simp only [Act.put, List.setIfInBounds_toArray, List.set_cons_zero, List.set_cons_succ, i64_w, i32_w]
         rfl
        refine pure_ (i := 8) (N := some 134) (v := ?_) (a' := ?_) #[true, true, true, true, true, true, true, true, true, false, true, false, false, false] rfl rfl (any_of HT_.out (by kernel_rfl)) (fun _ _ _ h => h) (Or.inl ⟨by rfl, ?_⟩) ?_ ?_
        rotate_left
        ·intro w'
         go_simp
         with_reducible rfl
        rotate_left
        ·simp only [Act.put, List.setIfInBounds_toArray, List.set_cons_zero, List.set_cons_succ, i64_w, i32_w]
         rfl
        refine pure_ (i := 9) (N := some 135) (v := ?_) (a' := ?_) #[true, true, true, true, true, true, true, true, true, true, true, false, false, false] rfl rfl (any_of HT_.out (by kernel_rfl)) (fun _ _ _ h => h) (Or.inl ⟨by rfl, ?_⟩) ?_ ?_
        rotate_left
        ·intro w'
         go_simp
         with_reducible rfl
        rotate_left
        ·simp only [Act.put, List.setIfInBounds_toArray, List.set_cons_zero, List.set_cons_succ, i64_w, i32_w]
         rfl
        exact norm_ (by simp only [putAll, Act.put, List.setIfInBounds_toArray, List.set_cons_zero, List.set_cons_succ]) (hCont (.slice Av t429.length cv, .slice Am t434.length cm, .slice Ah t439.length ch, .slice At t442.length ct, g19) _ ⟨hHeld, HC.out, G19.out, BK19.out, ⟨Ah, ch, _, _, rfl, HG.out⟩, ⟨At, ct, _, _, rfl, HT.out⟩⟩)
      ·skip
       refine box_step ?hg (N := 19) ?hd (cs := #[.int .i64 0, .slice none 0 0]) (t := 31) ?hr ?_; (case hd => rfl); (case hg => rfl); (case hr => first | (go_simp; done) | (go_simp; rfl))
       intro g19 hg wn hbox hb
       have G19 : Aside0 (W37.heap.size ≤ g19) := ⟨by rw [hg]; exact HC.out.size⟩
       have BK19 := Aside0.mk hbox
       have HC' : Aside0 (Below W37.heap.size W37 wn) := ⟨below_step HC.out hb⟩
       have HV' := Aside0.mk (Kd.R_below HV.out hb); clear HV; have HV := HV'; clear HV'
       clear hb HC; have HC := HC'; clear HC'
       clear hbox hg
       refine hK.out _ _ ⟨(blk_cell (HOM.out _ (below_step HB37.out HC.out)).1 0).trans rfl, (blk_cell (HOM.out _ (below_step HB37.out HC.out)).2.1 0).trans rfl, (blk_cell (HOM.out _ (below_step HB37.out HC.out)).2.1 1).trans rfl⟩ (fun hHeld => ?_)
       clear hK K
       refine norm_ (a' := ?_) ?_ ?_
       rotate_left
       ·show Act.put _ (some 19) _ = _
        simp only [Act.put, List.setIfInBounds_toArray, List.set_cons_zero, List.set_cons_succ, i64_w, i32_w]
        rfl
       refine one_ (i := 3) (N := some 130) #[true, true, true, true, true, false, false, false, false, false, true, false, false, false] rfl rfl (one_of HT_.out (by kernel_rfl)) (by decide) (fun K hK => ?_)
       refine goes_ Try.func18 (by kernel_rfl) rfl #[.agg #[.int .i64 a1_0, .slice A1_1 l1_1.length c1_1]] (by rfl) rfl rfl (by (try simp only [List.map_toArray, List.map_cons, List.map_nil]); first | done | rfl | (simp only [List.length_drop, List.length_take]; rfl)) ?_
       refine (laws_toMemo.calls k a1_0 A1_1 c1_1 l1_1 t433 t434 _ (Kd.C_below HR1_1.out (below_step HBw37.out HC.out)) HC1_1.out A27.out).mono ?_
       rintro e wn ⟨vn, rfl, ho, hb⟩
       refine ⟨_, rfl, ?_⟩
       obtain ⟨Am, cm, rfl⟩ := Kd.S_slice ho
       have HM := Aside0.mk ho
       clear ho
       have HC' : Aside0 (Below W37.heap.size W37 wn) := ⟨below_step HC.out hb⟩
       have BK19' := Aside0.mk (blk_below BK19.out hb); clear BK19; have BK19 := BK19'; clear BK19'
       have HV' := Aside0.mk (Kd.R_below HV.out hb); clear HV; have HV := HV'; clear HV'
       clear hb HC; have HC := HC'; clear HC'
       refine hK.out _ _ ⟨(blk_cell (HOM.out _ (below_step HB37.out HC.out)).1 0).trans rfl, (blk_cell (HOM.out _ (below_step HB37.out HC.out)).2.1 0).trans rfl, (blk_cell (HOM.out _ (below_step HB37.out HC.out)).2.1 1).trans rfl⟩ (fun hHeld => ?_)
       clear hK K
       refine norm_ (a' := ?_) ?_ ?_
       rotate_left
       ·show Act.put _ (some 130) _ = _
        simp only [Act.put, List.setIfInBounds_toArray, List.set_cons_zero, List.set_cons_succ, i64_w, i32_w]
        rfl
       refine one_ (i := 5) (N := some 132) #[true, true, true, true, true, true, false, false, false, false, true, false, false, false] rfl rfl (one_of HT_.out (by kernel_rfl)) (by decide) (fun K hK => ?_)
       refine goes_ Try.func11 (by kernel_rfl) rfl #[.agg #[.slice Av t429.length cv], .agg #[.int .i64 t433, .slice Am t434.length cm], .string a2] (by rfl) rfl rfl (by (try simp only [List.map_toArray, List.map_cons, List.map_nil]); first | done | rfl | (simp only [List.length_drop, List.length_take]; rfl)) ?_
       refine (impl_Recall.calls k Av cv t429 t433 Am cm t434 a2 t438 t439 t442 t445 _ (Kd.R_reads' HV.out).2.2 (Kd.R_reads' HV.out).2.1 (Kd.S_reads' HM.out).2.2 (Kd.S_reads' HM.out).2.1 A28.out).mono ?_
       rintro e wn ⟨vn, vn2, rfl, ho, ho2, hb⟩
       refine ⟨_, rfl, ?_⟩
       obtain ⟨Ah, ch, rfl⟩ := Kd.S_slice ho
       obtain ⟨At, ct, rfl⟩ := Kd.R_slice ho2
       have HG := Aside0.mk ho
       have HT := Aside0.mk ho2
       clear ho ho2
       have HC' : Aside0 (Below W37.heap.size W37 wn) := ⟨below_step HC.out hb⟩
       have BK19' := Aside0.mk (blk_below BK19.out hb); clear BK19; have BK19 := BK19'; clear BK19'
       clear hb HC; have HC := HC'; clear HC'
       refine hK.out _ _ ⟨(blk_cell (HOM.out _ (below_step HB37.out HC.out)).1 0).trans rfl, (blk_cell (HOM.out _ (below_step HB37.out HC.out)).2.1 0).trans rfl, (blk_cell (HOM.out _ (below_step HB37.out HC.out)).2.1 1).trans rfl⟩ (fun hHeld => ?_)
       clear hK K
       refine norm_ (a' := ?_) ?_ ?_
       rotate_left
       ·show Act.put _ (some 132) _ = _
        simp only [Act.put, List.setIfInBounds_toArray, List.set_cons_zero, List.set_cons_succ, i64_w, i32_w]
        rfl
       refine pure_ (i := 6) (N := some 126) (v := ?_) (a' := ?_) #[true, true, true, true, true, true, true, false, false, false, true, false, false, false] rfl rfl (any_of HT_.out (by kernel_rfl)) (fun _ _ _ h => h) (Or.inl ⟨by rfl, ?_⟩) ?_ ?_
       rotate_left
       ·intro w'
        go_simp
        with_reducible rfl
       rotate_left
       ·simp only [Act.put, List.setIfInBounds_toArray, List.set_cons_zero, List.set_cons_succ, i64_w, i32_w]
        rfl
       refine pure_ (i := 7) (N := some 133) (v := ?_) (a' := ?_) #[true, true, true, true, true, true, true, true, false, false, true, false, false, false] rfl rfl (any_of HT_.out (by kernel_rfl)) (fun _ _ _ h => h) (Or.inl ⟨by rfl, ?_⟩) ?_ ?_
       rotate_left
       ·intro w'
        go_simp
        with_reducible rfl
       rotate_left
       ·simp only [Act.put, List.setIfInBounds_toArray, List.set_cons_zero, List.set_cons_succ, i64_w, i32_w]
        rfl
       refine pure_ (i := 8) (N := some 134) (v := ?_) (a' := ?_) #[true, true, true, true, true, true, true, true, true, false, true, false, false, false] rfl rfl (any_of HT_.out (by kernel_rfl)) (fun _ _ _ h => h) (Or.inl ⟨by rfl, ?_⟩) ?_ ?_
       rotate_left
       ·intro w'
        go_simp
        with_reducible rfl
       rotate_left
       ·simp only [Act.put, List.setIfInBounds_toArray, List.set_cons_zero, List.set_cons_succ, i64_w, i32_w]
        rfl
       refine pure_ (i := 9) (N := some 135) (v := ?_) (a' := ?_) #[true, true, true, true, true, true, true, true, true, true, true, false, false, false] rfl rfl (any_of HT_.out (by kernel_rfl)) (fun _ _ _ h => h) (Or.inl ⟨by rfl, ?_⟩) ?_ ?_
       rotate_left
       ·intro w'
        go_simp
        with_reducible rfl
       rotate_left
       ·simp only [Act.put, List.setIfInBounds_toArray, List.set_cons_zero, List.set_cons_succ, i64_w, i32_w]
        rfl
       exact norm_ (by simp only [putAll, Act.put, List.setIfInBounds_toArray, List.set_cons_zero, List.set_cons_succ]) (hCont (.slice Av t429.length cv, .slice Am t434.length cm, .slice Ah t439.length ch, .slice At t442.length ct, g19) _ ⟨hHeld, HC.out, G19.out, BK19.out, ⟨Ah, ch, _, _, rfl, HG.out⟩, ⟨At, ct, _, _, rfl, HT.out⟩⟩)
     ·skip
      refine box_step ?hg (N := 19) ?hd (cs := #[.int .i64 0, .slice none 0 0]) (t := 31) ?hr ?_; (case hd => rfl); (case hg => rfl); (case hr => first | (go_simp; done) | (go_simp; rfl))
      intro g19 hg wn hbox hb
      have G19 : Aside0 (W37.heap.size ≤ g19) := ⟨by rw [hg]; exact HC.out.size⟩
      have BK19 := Aside0.mk hbox
      have HC' : Aside0 (Below W37.heap.size W37 wn) := ⟨below_step HC.out hb⟩
      clear hb HC; have HC := HC'; clear HC'
      clear hbox hg
      refine hK.out _ _ ⟨(blk_cell (HOM.out _ (below_step HB37.out HC.out)).1 0).trans rfl, (blk_cell (HOM.out _ (below_step HB37.out HC.out)).2.1 0).trans rfl, (blk_cell (HOM.out _ (below_step HB37.out HC.out)).2.1 1).trans rfl⟩ (fun hHeld => ?_)
      clear hK K
      refine norm_ (a' := ?_) ?_ ?_
      rotate_left
      ·show Act.put _ (some 19) _ = _
       simp only [Act.put, List.setIfInBounds_toArray, List.set_cons_zero, List.set_cons_succ, i64_w, i32_w]
       rfl
      refine one_ (i := 1) (N := some 128) #[true, true, true, false, true, false, false, false, false, false, true, false, false, false] rfl rfl (one_of HT_.out (by kernel_rfl)) (by decide) (fun K hK => ?_)
      refine goes_ Try.func17 (by kernel_rfl) rfl #[.agg #[.slice A0_0 l0_0.length c0_0]] (by rfl) rfl rfl (by (try simp only [List.map_toArray, List.map_cons, List.map_nil]); first | done | rfl | (simp only [List.length_drop, List.length_take]; rfl)) ?_
      refine (laws_toVocab.calls k A0_0 c0_0 l0_0 t429 _ (Kd.C_below HR0_0.out (below_step HBw37.out HC.out)) HC0_0.out A26.out).mono ?_
      rintro e wn ⟨vn, rfl, ho, hb⟩
      refine ⟨_, rfl, ?_⟩
      obtain ⟨Av, cv, rfl⟩ := Kd.R_slice ho
      have HV := Aside0.mk ho
      clear ho
      have HC' : Aside0 (Below W37.heap.size W37 wn) := ⟨below_step HC.out hb⟩
      have BK19' := Aside0.mk (blk_below BK19.out hb); clear BK19; have BK19 := BK19'; clear BK19'
      clear hb HC; have HC := HC'; clear HC'
      refine hK.out _ _ ⟨(blk_cell (HOM.out _ (below_step HB37.out HC.out)).1 0).trans rfl, (blk_cell (HOM.out _ (below_step HB37.out HC.out)).2.1 0).trans rfl, (blk_cell (HOM.out _ (below_step HB37.out HC.out)).2.1 1).trans rfl⟩ (fun hHeld => ?_)
      clear hK K
      refine norm_ (a' := ?_) ?_ ?_
      rotate_left
      ·show Act.put _ (some 128) _ = _
       simp only [Act.put, List.setIfInBounds_toArray, List.set_cons_zero, List.set_cons_succ, i64_w, i32_w]
       rfl
      refine one_ (i := 3) (N := some 130) #[true, true, true, true, true, false, false, false, false, false, true, false, false, false] rfl rfl (one_of HT_.out (by kernel_rfl)) (by decide) (fun K hK => ?_)
      refine goes_ Try.func18 (by kernel_rfl) rfl #[.agg #[.int .i64 a1_0, .slice A1_1 l1_1.length c1_1]] (by rfl) rfl rfl (by (try simp only [List.map_toArray, List.map_cons, List.map_nil]); first | done | rfl | (simp only [List.length_drop, List.length_take]; rfl)) ?_
      refine (laws_toMemo.calls k a1_0 A1_1 c1_1 l1_1 t433 t434 _ (Kd.C_below HR1_1.out (below_step HBw37.out HC.out)) HC1_1.out A27.out).mono ?_
      rintro e wn ⟨vn, rfl, ho, hb⟩
      refine ⟨_, rfl, ?_⟩
      obtain ⟨Am, cm, rfl⟩ := Kd.S_slice ho
      have HM := Aside0.mk ho
      clear ho
      have HC' : Aside0 (Below W37.heap.size W37 wn) := ⟨below_step HC.out hb⟩
      have BK19' := Aside0.mk (blk_below BK19.out hb); clear BK19; have BK19 := BK19'; clear BK19'
      have HV' := Aside0.mk (Kd.R_below HV.out hb); clear HV; have HV := HV'; clear HV'
      clear hb HC; have HC := HC'; clear HC'
      refine hK.out _ _ ⟨(blk_cell (HOM.out _ (below_step HB37.out HC.out)).1 0).trans rfl, (blk_cell (HOM.out _ (below_step HB37.out HC.out)).2.1 0).trans rfl, (blk_cell (HOM.out _ (below_step HB37.out HC.out)).2.1 1).trans rfl⟩ (fun hHeld => ?_)
      clear hK K
      refine norm_ (a' := ?_) ?_ ?_
      rotate_left
      ·show Act.put _ (some 130) _ = _
       simp only [Act.put, List.setIfInBounds_toArray, List.set_cons_zero, List.set_cons_succ, i64_w, i32_w]
       rfl
      refine one_ (i := 5) (N := some 132) #[true, true, true, true, true, true, false, false, false, false, true, false, false, false] rfl rfl (one_of HT_.out (by kernel_rfl)) (by decide) (fun K hK => ?_)
      refine goes_ Try.func11 (by kernel_rfl) rfl #[.agg #[.slice Av t429.length cv], .agg #[.int .i64 t433, .slice Am t434.length cm], .string a2] (by rfl) rfl rfl (by (try simp only [List.map_toArray, List.map_cons, List.map_nil]); first | done | rfl | (simp only [List.length_drop, List.length_take]; rfl)) ?_
      refine (impl_Recall.calls k Av cv t429 t433 Am cm t434 a2 t438 t439 t442 t445 _ (Kd.R_reads' HV.out).2.2 (Kd.R_reads' HV.out).2.1 (Kd.S_reads' HM.out).2.2 (Kd.S_reads' HM.out).2.1 A28.out).mono ?_
      rintro e wn ⟨vn, vn2, rfl, ho, ho2, hb⟩
      refine ⟨_, rfl, ?_⟩
      obtain ⟨Ah, ch, rfl⟩ := Kd.S_slice ho
      obtain ⟨At, ct, rfl⟩ := Kd.R_slice ho2
      have HG := Aside0.mk ho
      have HT := Aside0.mk ho2
      clear ho ho2
      have HC' : Aside0 (Below W37.heap.size W37 wn) := ⟨below_step HC.out hb⟩
      have BK19' := Aside0.mk (blk_below BK19.out hb); clear BK19; have BK19 := BK19'; clear BK19'
      clear hb HC; have HC := HC'; clear HC'
      refine hK.out _ _ ⟨(blk_cell (HOM.out _ (below_step HB37.out HC.out)).1 0).trans rfl, (blk_cell (HOM.out _ (below_step HB37.out HC.out)).2.1 0).trans rfl, (blk_cell (HOM.out _ (below_step HB37.out HC.out)).2.1 1).trans rfl⟩ (fun hHeld => ?_)
      clear hK K
      refine norm_ (a' := ?_) ?_ ?_
      rotate_left
      ·show Act.put _ (some 132) _ = _
       simp only [Act.put, List.setIfInBounds_toArray, List.set_cons_zero, List.set_cons_succ, i64_w, i32_w]
       rfl
      refine pure_ (i := 6) (N := some 126) (v := ?_) (a' := ?_) #[true, true, true, true, true, true, true, false, false, false, true, false, false, false] rfl rfl (any_of HT_.out (by kernel_rfl)) (fun _ _ _ h => h) (Or.inl ⟨by rfl, ?_⟩) ?_ ?_
      rotate_left
      ·intro w'
       go_simp
       with_reducible rfl
      rotate_left
      ·simp only [Act.put, List.setIfInBounds_toArray, List.set_cons_zero, List.set_cons_succ, i64_w, i32_w]
       rfl
      refine pure_ (i := 7) (N := some 133) (v := ?_) (a' := ?_) #[true, true, true, true, true, true, true, true, false, false, true, false, false, false] rfl rfl (any_of HT_.out (by kernel_rfl)) (fun _ _ _ h => h) (Or.inl ⟨by rfl, ?_⟩) ?_ ?_
      rotate_left
      ·intro w'
       go_simp
       with_reducible rfl
      rotate_left
      ·simp only [Act.put, List.setIfInBounds_toArray, List.set_cons_zero, List.set_cons_succ, i64_w, i32_w]
       rfl
      refine pure_ (i := 8) (N := some 134) (v := ?_) (a' := ?_) #[true, true, true, true, true, true, true, true, true, false, true, false, false, false] rfl rfl (any_of HT_.out (by kernel_rfl)) (fun _ _ _ h => h) (Or.inl ⟨by rfl, ?_⟩) ?_ ?_
      rotate_left
      ·intro w'
       go_simp
       with_reducible rfl
      rotate_left
      ·simp only [Act.put, List.setIfInBounds_toArray, List.set_cons_zero, List.set_cons_succ, i64_w, i32_w]
       rfl
      refine pure_ (i := 9) (N := some 135) (v := ?_) (a' := ?_) #[true, true, true, true, true, true, true, true, true, true, true, false, false, false] rfl rfl (any_of HT_.out (by kernel_rfl)) (fun _ _ _ h => h) (Or.inl ⟨by rfl, ?_⟩) ?_ ?_
      rotate_left
      ·intro w'
       go_simp
       with_reducible rfl
      rotate_left
      ·simp only [Act.put, List.setIfInBounds_toArray, List.set_cons_zero, List.set_cons_succ, i64_w, i32_w]
       rfl
      exact norm_ (by simp only [putAll, Act.put, List.setIfInBounds_toArray, List.set_cons_zero, List.set_cons_succ]) (hCont (.slice Av t429.length cv, .slice Am t434.length cm, .slice Ah t439.length ch, .slice At t442.length ct, g19) _ ⟨hHeld, HC.out, G19.out, BK19.out, ⟨Ah, ch, _, _, rfl, HG.out⟩, ⟨At, ct, _, _, rfl, HT.out⟩⟩)
    rintro ⟨vv, vm, vh, vt, g19⟩ w38 ⟨hHeld, hc38, hg19, hb19, ⟨Ah, ch, bs1, ok1, e1, C1⟩, ⟨At, ct, bs2, ok2, e2, C2⟩⟩
    simp only at e1 e2 hg19 hb19
    subst e1
    subst e2
    have HC38 := Aside0.mk hc38
    have G19 := Aside0.mk hg19
    have BK19 := Aside0.mk hb19
    have CH := Aside0.mk C1
    have CT := Aside0.mk C2
    clear hc38 hg19 hb19 C1 C2
    refine norm_ (a' := ?_) ?_ ?_
    rotate_left
    ·simp only [putAll, Act.put, List.setIfInBounds_toArray, List.set_cons_zero, List.set_cons_succ]
     rfl
    refine one_ (i := 11) (N := none) #[true, true, true, true, true, true, true, true, true, true, true, true, false, false] rfl rfl (one_of HT_.out (by kernel_rfl)) (by decide) (fun K hK => ?_)
    have hs0 : w38.cell? ⟨g19, 0, none⟩ = some (.int .i64 0) := (blk_cell BK19.out 0).trans rfl
    have hs1 : w38.cell? ⟨g19, 1, none⟩ = some (.slice none 0 0) := (blk_cell BK19.out 1).trans rfl
    have hfs0 := blk_frozen BK19.out 0
    have hfs1 := blk_frozen BK19.out 1
    refine skip_ (w1 := ?_) (by rfl) rfl ?_ ?_
    rotate_left
    ·go_simp
     rfl
    generalize hW39 : (w38.setCell ⟨g19, 0, none⟩ (.int .i64 t438)).setCell ⟨g19, 1, none⟩ (.slice Ah t439.length ch) = W39
    have HC39 : Aside0 (Below W37.heap.size W37 W39) := ⟨hW39 ▸ below_set (below_set HC38.out G19.out) G19.out⟩
    have BK39 : Aside0 (W39.heap[g19]? = some (.cells #[.int .i64 t438, .slice Ah t439.length ch] 31 (0, 0))) := ⟨hW39 ▸ blk_put (cs := #[.int .i64 t438, .slice none 0 0]) (blk_put (cs := #[.int .i64 0, .slice none 0 0]) BK19.out 0 _ rfl) 1 _ rfl⟩
    refine hK.out _ _ ⟨(blk_cell (HOM.out _ (below_step HB37.out HC39.out)).1 0).trans rfl, (blk_cell (HOM.out _ (below_step HB37.out HC39.out)).2.1 0).trans rfl, (blk_cell (HOM.out _ (below_step HB37.out HC39.out)).2.1 1).trans rfl⟩ (fun hHeld => ?_)
    clear hK K
    refine pure_ (i := 12) (N := some 20) (v := ?_) (a' := ?_) #[true, true, true, true, true, true, true, true, true, true, true, true, true, false] rfl rfl (any_of HT_.out (by kernel_rfl)) (fun _ _ _ h => h) (Or.inl ⟨by rfl, ?_⟩) ?_ ?_
    rotate_left
    ·intro w'
     go_simp
     with_reducible rfl
    rotate_left
    ·simp only [Act.put, List.setIfInBounds_toArray, List.set_cons_zero, List.set_cons_succ, i64_w, i32_w]
     rfl
    refine pure_ (i := 13) (N := some 21) (v := ?_) (a' := ?_) #[true, true, true, true, true, true, true, true, true, true, true, true, true, true] rfl rfl (any_of HT_.out (by kernel_rfl)) (fun _ _ _ h => h) (Or.inl ⟨by rfl, ?_⟩) ?_ ?_
    rotate_left
    ·intro w'
     go_simp
     with_reducible rfl
    rotate_left
    ·simp only [Act.put, List.setIfInBounds_toArray, List.set_cons_zero, List.set_cons_succ, i64_w, i32_w]
     rfl
    refine done_ (done_of HT_.out (by kernel_rfl)) ?_
    have HG39 : Aside0 (Kd.S k86 86 W39 bs1 (fun k_ => ok1 k_ ∧ k_ ≠ g19) (.slice Ah t439.length ch) t439) := ⟨hW39 ▸ Kd.S_far (Kd.S_far (Kd.S_types CH.out BK19.out (by decide)) (p := ⟨g19, 0, none⟩) (fun _ hk => hk.2) _) (p := ⟨g19, 1, none⟩) (fun _ hk => hk.2) _⟩
    have HT39 : Aside0 (Kd.R (Kd.int .i64) 3 W39 bs2 (fun k_ => ok2 k_ ∧ k_ ≠ g19) (.slice At t442.length ct) t442) := ⟨hW39 ▸ Kd.R_far (Kd.R_far (Kd.R_types CT.out BK19.out (by decide)) (p := ⟨g19, 0, none⟩) (fun _ hk => hk.2) _) (p := ⟨g19, 1, none⟩) (fun _ hk => hk.2) _⟩
    clear hW39 hHeld CH CT BK19 HC38 hs0 hs1 hfs0 hfs1 HT_ HW_
    have HC2739 : Aside0 (Below w27.heap.size w27 W39) := ⟨below_step HC37.out HC39.out⟩
    have HB39 : Aside0 (Below W10.heap.size W10 W39) := ⟨below_step HB27.out HC2739.out⟩
    have BK8' := Aside0.mk (HOM.out _ HB39.out).2.2.1
    have h190 : W39.cell? ⟨g19, 0, none⟩ = some (.int .i64 t438) := bc BK39 0
    have h191 : W39.cell? ⟨g19, 1, none⟩ = some (.slice Ah t439.length ch) := bc BK39 1
    have h80 : W39.cell? ⟨gb428, 0, none⟩ = some (.int .i64 t420) := bc BK8' 0
    have h81 : W39.cell? ⟨gb428, 1, none⟩ = some (.slice Ao46 t421.length co46) := bc BK8' 1
    go_upto_region 40 with (first
     | (go_at_call 19; refine (laws_eqMemo.calls k t438 Ah ch t439 t420 Ao46 co46 t421 true _ (Kd.S_reads' HG39.out).2.2 (Kd.S_reads' HG39.out).2.1 (HOM.out _ HB39.out).2.2.2.1 L8.out F1.out).mono ?_; rintro e wa ⟨rfl, hb⟩; have HCa := Aside0.mk hb; clear hb h190 h191 h80 h81)
     | (go_at_call 20; refine (laws_eqIntS.calls k At ct t442 A9 c9 t424 true _ (Kd.C_below (Kd.R_reads' HT39.out).2.2 HCa.out) (Kd.R_reads' HT39.out).2.1 (Kd.C_below (HOM.out _ HB39.out).2.2.2.2 HCa.out) L9.out F2.out).mono ?_; rintro e wb ⟨rfl, nd, rfl⟩))
    generalize hW40 : wa.drewN nd = W40
    have HC40 : Aside0 (Below W39.heap.size W39 W40) := ⟨hW40 ▸ pw_below_drewN HCa.out nd⟩
    clear hW40 HCa
    have HC2740 : Aside0 (Below w27.heap.size w27 W40) := ⟨below_step HC2739.out HC40.out⟩
    have BK40 := Aside0.mk (blk_below BK27.out HC2740.out)
    have h130 : W40.cell? ⟨g13, 0, none⟩ = some (.int .i64 t438) := bc BK40 0
    have h131 : W40.cell? ⟨g13, 1, none⟩ = some (.slice A13 t439.length c13) := bc BK40 1
    have hh1 : decide (h1 < 0) = false := decide_eq_false (by have := F11.out; omega)
    have hp4 : decide (p4 < 0) = false := decide_eq_false (by have := F13.out; omega)
    go_wp2_with (first
     | (go_at_call 25; refine (heldMemo_n k t438 A13 c13 t439.length lg' 1 h1 _ N13.out.1 (Kd.C_below N13.out.2.2 HC2740.out) N13.out.2.1 F10.out).mono ?_; rintro e wa ⟨rfl, hb⟩; have HCa := Aside0.mk hb; clear hb h130 h131)
     | (go_at_call 26; refine (heldIntS_n k A14 c14 t442.length tg' h1 p4 _ N14.out.1 (Kd.C_below N14.out.2.2 (below_step HC2740.out HCa.out)) N14.out.2.1 F12.out).mono ?_; rintro e wb ⟨rfl, nd, rfl⟩))
    go_ret
    exact ⟨rfl, pw_below_drewN (below_step HB10.out (below_step HB27.out (below_step HC2740.out HCa.out))) nd⟩
end Go.Proofs.Ytddebnchbbmbkaa.PFnExactRecall
