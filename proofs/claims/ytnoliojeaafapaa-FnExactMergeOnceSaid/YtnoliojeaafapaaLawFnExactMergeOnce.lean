/- The law FnExactMergeOnce: whatever its arguments are, the call answers true and leaves them as they were. Conditions: none beyond those of the given row. -/
import Derived.Test.YtnoliojeaafapaaRows
import Derived.Test.YtnoliojeaafapaaPFnExactMergeOncex10
import Derived.Test.YtnoliojeaafapaaPureFnExactMergeOnce
import Derived.Test.YtnoliojeaafapaaOpn
import Derived.WalkKit
import Derived.ProofKit
import Derived.OpenShut
import Derived.ShutString
import Derived.ChangeOld
import Derived.Below
import Derived.SizedLaws
namespace Go.Proofs.Ytnoliojeaafapaa.fnExactMergeOnce
open Go Go.ChangeShapes Go.WideShapes Go.ChangeAt Go.RowKit Go.Deep Go.Proofs.Ytnoliojeaafapaa.Opn Go.Proofs.Ytnoliojeaafapaa.PFnExactMergeOnce Go.Proofs.YtnoliojeaafapaaW.PrintWords
open Go.ChangeMaps (open_string shut_string)
set_option linter.unusedVariables false
set_option linter.unusedSimpArgs false
theorem own : ownKnob Try.prog.godebug = none := by kernel_rfl
theorem laidOut : laidOutB Try.prog = true := by kernel_rfl
set_option maxRecDepth 100000 in
theorem lifted (os : Os) (started : os.Started) (H : Type) (enc : TypeId × Value → H) :
    ReturnsInHanded {} Try.checked os 3 .any (Rows.fnExactMergeOnceSpec.pre6 enc Try.prog Try.f3 Rows.fnExactMergeOnceRow.domain false) (Rows.fnExactMergeOnceSpec.post enc Try.prog Try.f3 false true false false) := by
  refine returnsInHanded_of_change_sized (C := Try.checked) own started (by kernel_rfl) Try.func3
    (ChangeSpec.witness6 (enc := enc) (C := Try.checked) false ⟨#[], #[.agg #[.slice none 0 0], .slice none 0 0], []⟩ 8 (by kernel_rfl) (by kernel_rfl) (by kernel_rfl) (by kernel_rfl)) ?_
  intro W base args ds gs before hval0 hW hcnd hsz0 _
  have hval : ∀ (j : Nat) t v, Try.f3.params[j]? = some t → args[j]? = some v → Value.okWide Try.prog W .any base t v := hval0
  have hW' := hW
  obtain ⟨p, q, hA0, hV, rfl, hfz, hnd⟩ := hW
  have hA : DataW.TrodAll enc Try.prog W 0 (fun _ => true) true Try.f3.params.toList args.toList ds p := hA0
  rw [Try.params3] at hA hval
  obtain ⟨v0, vs0, d0, ds0, p0, q0, hargs, rfl, rfl, h0, r0⟩ := trodAll_cons hA
  obtain ⟨v1, vs1, d1, ds1, p1, q1, rfl, rfl, rfl, h1, r1⟩ := trodAll_cons r0
  obtain ⟨rfl, rfl, rfl⟩ := trodAll_nil r1
  obtain rfl : args = #[v0, v1] := by cases args; simp_all
  obtain ⟨rfl, rfl⟩ := trodVars_none hV
  have k0 := h0
  have lt0 : ∀ x ∈ p0, x.block < W.heap.size := by obtain ⟨m, hm⟩ := k0; exact DataW.trod_lt m _ _ _ hm
  obtain ⟨cs0, rfl, hl0, n0, hf0⟩ := open_fields Try.underlying24 (by kernel_rfl) (by kernel_rfl) (hval 0 24 v0 rfl rfl) h0
  obtain ⟨e0_0, rfl⟩ := list1 hl0
  obtain ⟨_, y0_0, hj0_0, ht0_0⟩ := hf0 0 _ rfl
  cases hj0_0
  obtain ⟨l0_0, hk0_0, b0_0⟩ := (show Opn enc Try.prog W 0 (fun _ => true) true 22 (Kd.slice 142 k142) (fun x => (x.length ≤ 9223372036854775807 ∧ ∀ y ∈ x, ((Lit.int .i64 y.f0).wf = true ∧ (Lit.int .i64 y.f1).wf = true))) from (opn_slice Try.underlying22 (by kernel_rfl) z142 (opn_struct2 (fun a b => (⟨a, b⟩ : S142)) (fun _ _ => rfl) Try.underlying142 rfl rfl (by kernel_rfl) (by kernel_rfl) (by kernel_rfl) (opn_int Try.underlying3) (opn_int Try.underlying3)))) _ _ _ ht0_0
  obtain ⟨A0_0, c0_0, hk0_0, hc0_0, hr0_0⟩ := hk0_0
  have hv0_0 : [e0_0] = [.slice A0_0 l0_0.length c0_0] := hk0_0
  obtain rfl : e0_0 = .slice A0_0 l0_0.length c0_0 := by simpa using hv0_0
  clear hv0_0 hk0_0
  have k1 := h1
  have lt1 : ∀ x ∈ p1, x.block < W.heap.size := by obtain ⟨m, hm⟩ := k1; exact DataW.trod_lt m _ _ _ hm
  obtain ⟨z1, zl1, zc1, rfl⟩ := okWide_slice Try.underlying25 (hval 1 25 v1 rfl rfl)
  obtain ⟨fuel1, hf1⟩ := h1
  obtain ⟨l1, hk1, b1⟩ := (show Opn enc Try.prog W 0 (fun _ => true) true 25 (Kd.slice 3 (Kd.int .i64)) (fun x => (x.length ≤ 9223372036854775807 ∧ ∀ y ∈ x, (Lit.int .i64 y).wf = true)) from (opn_slice Try.underlying25 (by kernel_rfl) 0 (opn_int Try.underlying3))) _ _ _ hf1
  obtain ⟨A1, c1, hk1, hc1, hr1⟩ := hk1
  have hv1 : [Value.slice z1 zl1 zc1] = [Value.slice A1 l1.length c1] := hk1
  obtain ⟨rfl, rfl, rfl⟩ : z1 = A1 ∧ zl1 = l1.length ∧ zc1 = c1 := by simpa using hv1
  clear hv1 hk1
  obtain ⟨k, h⟩ := Pure.FnExactMergeOnce l0_0 l1 b0_0 b1
  clear hA0 hval0 hsz0
  refine (laws_FnExactMergeOnce.calls (w := W) (hr0_0 := hr0_0) (hc0_0 := hc0_0) (hr1 := hr1) (hc1 := hc1) (h := h)).mono fun e W' ⟨he, bel0⟩ => ?_
  have bel : Below W.heap.size W W' := bel0
  subst he
  exact ⟨_, rfl, _, _, _, [], _, [], hW', trodAll_mk1 (shut_bool Try.underlying4 _), (trodAll_cons_mk (Below.trod laidOut (by kernel_rfl) (of_decide_eq_true (by kernel_rfl)) k0 bel lt0) (trodAll_cons_mk (Below.trod laidOut (by kernel_rfl) (of_decide_eq_true (by kernel_rfl)) k1 bel lt1) trodAll_mk0)), rfl, bel.frame _, fun h => by cases h⟩
theorem over : Rows.fnExactMergeOnceRow.holds Try.pinned (OpenSpec.ofChange Rows.fnExactMergeOnceSpec) :=
  OpenClaim.holds_of_wide 3 Try.f3 rfl rfl rfl rfl rfl rfl rfl ⟨rfl, rfl, rfl, rfl, rfl⟩ rfl rfl rfl rfl rfl (by kernel_rfl) Try.func3 (by kernel_rfl)
    (of_decide_eq_true (by kernel_rfl)) (by unfold Func.isWrapper; first | (rw [if_pos (by decide +kernel)]; kernel_rfl) | (rw [if_neg (by decide +kernel)]; exact ⟨rfl, rfl⟩))
    (fun os started H enc _ => lifted os started H enc)
theorem proved : Rows.FnExactMergeOnceSaid := over
#print axioms proved
end Go.Proofs.Ytnoliojeaafapaa.fnExactMergeOnce
namespace Go.Proofs.Ytnoliojeaafapaa
/-- The row, under a short name, for the claim. -/
theorem fnExactMergeOnce_holds : Rows.FnExactMergeOnceSaid := fnExactMergeOnce.proved
end Go.Proofs.Ytnoliojeaafapaa
