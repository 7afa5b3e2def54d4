/- The law FnExactPlanAdd: whatever its arguments are, the call answers true and leaves them as they were. Conditions: none beyond those of the given row. -/
import Derived.Test.YtobkmpihjfiihaaZFnExactPlanAdd0
import Derived.Test.YtobkmpihjfiihaaRows
import Derived.Test.YtobkmpihjfiihaaPFnExactPlanAddx18
import Derived.Test.YtobkmpihjfiihaaPureFnExactPlanAdd
import Derived.WalkKit
import Derived.ProofKit
import Derived.OpenShut
import Derived.ShutString
import Derived.ChangeOld
import Derived.Below
import Derived.SizedLaws
namespace Go.Proofs.Ytobkmpihjfiihaa.fnExactPlanAdd
open Go Go.ChangeShapes Go.WideShapes Go.ChangeAt Go.RowKit Go.Deep Go.Proofs.Ytobkmpihjfiihaa.Opn Go.Proofs.Ytobkmpihjfiihaa.PFnExactPlanAdd Go.Proofs.YtobkmpihjfiihaaW.PrintWords
open Go.ChangeMaps (open_string shut_string)
set_option linter.unusedVariables false
set_option linter.unusedSimpArgs false
theorem own : ownKnob Try.prog.godebug = none := by kernel_rfl
theorem laidOut : laidOutB Try.prog = true := by kernel_rfl
set_option maxRecDepth 100000 in
theorem lifted (os : Os) (started : os.Started) (H : Type) (enc : TypeId × Value → H) :
    ReturnsInHanded {} Try.checked os 4 .any (Rows.fnExactPlanAddSpec.pre6 enc Try.prog Try.f4 Rows.fnExactPlanAddRow.domain false) (Rows.fnExactPlanAddSpec.post enc Try.prog Try.f4 false true false false) := by
  refine returnsInHanded_of_change_sized (C := Try.checked) own started (by kernel_rfl) Try.func4
    (ChangeSpec.witness6 (enc := enc) (C := Try.checked) false ⟨#[], #[.agg #[.int .i64 0, .int .i64 0, .int .i64 0, .int .i64 0, .slice none 0 0], .agg #[.int .i64 0, .int .i64 0, .int .i64 0, .int .i64 0, .slice none 0 0]], []⟩ 8 (by kernel_rfl) (by kernel_rfl) (by kernel_rfl) (by kernel_rfl)) ?_
  intro W base args ds gs before hval0 hW hcnd hsz0 _
  have hval : ∀ (j : Nat) t v, Try.f4.params[j]? = some t → args[j]? = some v → Value.okWide Try.prog W .any base t v := hval0
  have hW' := hW
  obtain ⟨p, q, hA0, hV, rfl, hfz, hnd⟩ := hW
  have hA : DataW.TrodAll enc Try.prog W 0 (fun _ => true) true Try.f4.params.toList args.toList ds p := hA0
  rw [Try.params4] at hA hval
  obtain ⟨v0, vs0, d0, ds0, p0, q0, hargs, rfl, rfl, h0, r0⟩ := trodAll_cons hA
  obtain ⟨v1, vs1, d1, ds1, p1, q1, rfl, rfl, rfl, h1, r1⟩ := trodAll_cons r0
  obtain ⟨rfl, rfl, rfl⟩ := trodAll_nil r1
  obtain rfl : args = #[v0, v1] := by cases args; simp_all
  obtain ⟨rfl, rfl⟩ := trodVars_none hV
  have k0 := h0
  have lt0 : ∀ x ∈ p0, x.block < W.heap.size := by obtain ⟨m, hm⟩ := k0; exact DataW.trod_lt m _ _ _ hm
  obtain ⟨cs0, rfl, hl0, n0, hf0⟩ := open_fields Try.underlying44 (by kernel_rfl) (by kernel_rfl) (hval 0 44 v0 rfl rfl) h0
  obtain ⟨e0_0, e0_1, e0_2, e0_3, e0_4, rfl⟩ := list5 hl0
  obtain ⟨_, y0_0, hj0_0, ht0_0⟩ := hf0 0 _ rfl
  cases hj0_0
  obtain ⟨a0_0, hk0_0, b0_0⟩ := (show Opn enc Try.prog W 0 (fun _ => true) true 3 (Kd.int .i64) (fun x => (Lit.int .i64 x).wf = true) from (opn_int Try.underlying3)) _ _ _ ht0_0
  have hv0_0 : [e0_0] = [.int .i64 a0_0] := hk0_0
  obtain rfl : e0_0 = .int .i64 a0_0 := by simpa using hv0_0
  clear hv0_0 hk0_0
  obtain ⟨_, y0_1, hj0_1, ht0_1⟩ := hf0 1 _ rfl
  cases hj0_1
  obtain ⟨a0_1, hk0_1, b0_1⟩ := (show Opn enc Try.prog W 0 (fun _ => true) true 3 (Kd.int .i64) (fun x => (Lit.int .i64 x).wf = true) from (opn_int Try.underlying3)) _ _ _ ht0_1
  have hv0_1 : [e0_1] = [.int .i64 a0_1] := hk0_1
  obtain rfl : e0_1 = .int .i64 a0_1 := by simpa using hv0_1
  clear hv0_1 hk0_1
  obtain ⟨_, y0_2, hj0_2, ht0_2⟩ := hf0 2 _ rfl
  cases hj0_2
  obtain ⟨a0_2, hk0_2, b0_2⟩ := (show Opn enc Try.prog W 0 (fun _ => true) true 3 (Kd.int .i64) (fun x => (Lit.int .i64 x).wf = true) from (opn_int Try.underlying3)) _ _ _ ht0_2
  have hv0_2 : [e0_2] = [.int .i64 a0_2] := hk0_2
  obtain rfl : e0_2 = .int .i64 a0_2 := by simpa using hv0_2
  clear hv0_2 hk0_2
  obtain ⟨_, y0_3, hj0_3, ht0_3⟩ := hf0 3 _ rfl
  cases hj0_3
  obtain ⟨a0_3, hk0_3, b0_3⟩ := (show Opn enc Try.prog W 0 (fun _ => true) true 3 (Kd.int .i64) (fun x => (Lit.int .i64 x).wf = true) from (opn_int Try.underlying3)) _ _ _ ht0_3
  have hv0_3 : [e0_3] = [.int .i64 a0_3] := hk0_3
  obtain rfl : e0_3 = .int .i64 a0_3 := by simpa using hv0_3
  clear hv0_3 hk0_3
  obtain ⟨_, y0_4, hj0_4, ht0_4⟩ := hf0 4 _ rfl
  cases hj0_4
  obtain ⟨l0_4, hk0_4, b0_4⟩ := (show Opn enc Try.prog W 0 (fun _ => true) true 42 (Kd.slice 143 k143) (fun x => (x.length ≤ 9223372036854775807 ∧ ∀ y ∈ x, ((Lit.int .i64 y.f0).wf = true ∧ y.f1.size ≤ 9223372036854775807))) from (opn_slice Try.underlying42 (by kernel_rfl) z143 (opn_struct2 (fun a b => (⟨a, b⟩ : S143)) (fun _ _ => rfl) Try.underlying143 rfl rfl (by kernel_rfl) (by kernel_rfl) (by kernel_rfl) (opn_int Try.underlying3) (opn_string Try.underlying9)))) _ _ _ ht0_4
  obtain ⟨A0_4, c0_4, hk0_4, hc0_4, hr0_4⟩ := hk0_4
  have hv0_4 : [e0_4] = [.slice A0_4 l0_4.length c0_4] := hk0_4
  obtain rfl : e0_4 = .slice A0_4 l0_4.length c0_4 := by simpa using hv0_4
  clear hv0_4 hk0_4
  have k1 := h1
  have lt1 : ∀ x ∈ p1, x.block < W.heap.size := by obtain ⟨m, hm⟩ := k1; exact DataW.trod_lt m _ _ _ hm
  obtain ⟨cs1, rfl, hl1, n1, hf1⟩ := open_fields Try.underlying44 (by kernel_rfl) (by kernel_rfl) (hval 1 44 v1 rfl rfl) h1
  obtain ⟨e1_0, e1_1, e1_2, e1_3, e1_4, rfl⟩ := list5 hl1
  obtain ⟨_, y1_0, hj1_0, ht1_0⟩ := hf1 0 _ rfl
  cases hj1_0
  obtain ⟨a1_0, hk1_0, b1_0⟩ := (show Opn enc Try.prog W 0 (fun _ => true) true 3 (Kd.int .i64) (fun x => (Lit.int .i64 x).wf = true) from (opn_int Try.underlying3)) _ _ _ ht1_0
  have hv1_0 : [e1_0] = [.int .i64 a1_0] := hk1_0
  obtain rfl : e1_0 = .int .i64 a1_0 := by simpa using hv1_0
  clear hv1_0 hk1_0
  obtain ⟨_, y1_1, hj1_1, ht1_1⟩ := hf1 1 _ rfl
  cases hj1_1
  obtain ⟨a1_1, hk1_1, b1_1⟩ := (show Opn enc Try.prog W 0 (fun _ => true) true 3 (Kd.int .i64) (fun x => (Lit.int .i64 x).wf = true) from (opn_int Try.underlying3)) _ _ _ ht1_1
  have hv1_1 : [e1_1] = [.int .i64 a1_1] := hk1_1
  obtain rfl : e1_1 = .int .i64 a1_1 := by simpa using hv1_1
  clear hv1_1 hk1_1
  obtain ⟨_, y1_2, hj1_2, ht1_2⟩ := hf1 2 _ rfl
  cases hj1_2
  obtain ⟨a1_2, hk1_2, b1_2⟩ := (show Opn enc Try.prog W 0 (fun _ => true) true 3 (Kd.int .i64) (fun x => (Lit.int .i64 x).wf = true) from (opn_int Try.underlying3)) _ _ _ ht1_2
  have hv1_2 : [e1_2] = [.int .i64 a1_2] := hk1_2
  obtain rfl : e1_2 = .int .i64 a1_2 := by simpa using hv1_2
  clear hv1_2 hk1_2
  obtain ⟨_, y1_3, hj1_3, ht1_3⟩ := hf1 3 _ rfl
  cases hj1_3
  obtain ⟨a1_3, hk1_3, b1_3⟩ := (show Opn enc Try.prog W 0 (fun _ => true) true 3 (Kd.int .i64) (fun x => (Lit.int .i64 x).wf = true) from (opn_int Try.underlying3)) _ _ _ ht1_3
  have hv1_3 : [e1_3] = [.int .i64 a1_3] := hk1_3
  obtain rfl : e1_3 = .int .i64 a1_3 := by simpa using hv1_3
  clear hv1_3 hk1_3
  obtain ⟨_, y1_4, hj1_4, ht1_4⟩ := hf1 4 _ rfl
  cases hj1_4
  obtain ⟨l1_4, hk1_4, b1_4⟩ := (show Opn enc Try.prog W 0 (fun _ => true) true 42 (Kd.slice 143 k143) (fun x => (x.length ≤ 9223372036854775807 ∧ ∀ y ∈ x, ((Lit.int .i64 y.f0).wf = true ∧ y.f1.size ≤ 9223372036854775807))) from (opn_slice Try.underlying42 (by kernel_rfl) z143 (opn_struct2 (fun a b => (⟨a, b⟩ : S143)) (fun _ _ => rfl) Try.underlying143 rfl rfl (by kernel_rfl) (by kernel_rfl) (by kernel_rfl) (opn_int Try.underlying3) (opn_string Try.underlying9)))) _ _ _ ht1_4
  obtain ⟨A1_4, c1_4, hk1_4, hc1_4, hr1_4⟩ := hk1_4
  have hv1_4 : [e1_4] = [.slice A1_4 l1_4.length c1_4] := hk1_4
  obtain rfl : e1_4 = .slice A1_4 l1_4.length c1_4 := by simpa using hv1_4
  clear hv1_4 hk1_4
  obtain ⟨k, h⟩ := Pure.FnExactPlanAdd a0_0 a0_1 a0_2 a0_3 l0_4 a1_0 a1_1 a1_2 a1_3 l1_4 b0_0 b0_1 b0_2 b0_3 b0_4 b1_0 b1_1 b1_2 b1_3 b1_4
  clear hA0 hval0 hsz0
  refine (laws_FnExactPlanAdd.calls (w := W) (hr0_4 := hr0_4) (hc0_4 := hc0_4) (hr1_4 := hr1_4) (hc1_4 := hc1_4) (h := h)).mono fun e W' ⟨he, bel0⟩ => ?_
  have bel : Below W.heap.size W W' := bel0
  subst he
  exact ⟨_, rfl, _, _, _, [], _, [], hW', trodAll_mk1 (shut_bool Try.underlying4 _), (trodAll_cons_mk (Below.trod laidOut (by kernel_rfl) (of_decide_eq_true (by kernel_rfl)) k0 bel lt0) (trodAll_cons_mk (Below.trod laidOut (by kernel_rfl) (of_decide_eq_true (by kernel_rfl)) k1 bel lt1) trodAll_mk0)), rfl, bel.frame _, fun h => by cases h⟩
theorem over : Rows.fnExactPlanAddRow.holds Try.pinned (OpenSpec.ofChange Rows.fnExactPlanAddSpec) :=
  OpenClaim.holds_of_wide 4 Try.f4 rfl rfl rfl rfl rfl rfl rfl ⟨rfl, rfl, rfl, rfl, rfl⟩ rfl rfl rfl rfl rfl (by kernel_rfl) Try.func4 (by kernel_rfl)
    (of_decide_eq_true (by kernel_rfl)) (by unfold Func.isWrapper; first | (rw [if_pos (by decide +kernel)]; kernel_rfl) | (rw [if_neg (by decide +kernel)]; exact ⟨rfl, rfl⟩))
    (fun os started H enc _ => lifted os started H enc)
theorem proved : Rows.FnExactPlanAddSaid := over
#print axioms proved
end Go.Proofs.Ytobkmpihjfiihaa.fnExactPlanAdd
namespace Go.Proofs.Ytobkmpihjfiihaa
/-- The row, under a short name, for the claim. -/
theorem fnExactPlanAdd_holds : Rows.FnExactPlanAddSaid := fnExactPlanAdd.proved
end Go.Proofs.Ytobkmpihjfiihaa
