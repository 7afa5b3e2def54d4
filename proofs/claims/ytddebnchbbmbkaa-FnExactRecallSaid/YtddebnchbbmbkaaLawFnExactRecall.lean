/- The law FnExactRecall: whatever its arguments are, the call answers true and leaves them as they were. Conditions: none beyond those of the given row. -/
import Derived.Test.YtddebnchbbmbkaaZFnExactRecall0
import Derived.Test.YtddebnchbbmbkaaRows
import Derived.Test.YtddebnchbbmbkaaPFnExactRecallx20
import Derived.Test.YtddebnchbbmbkaaPureFnExactRecall
import Derived.WalkKit
import Derived.ProofKit
import Derived.OpenShut
import Derived.ShutString
import Derived.ChangeOld
import Derived.Below
import Derived.SizedLaws
namespace Go.Proofs.Ytddebnchbbmbkaa.fnExactRecall
open Go Go.ChangeShapes Go.WideShapes Go.ChangeAt Go.RowKit Go.Deep Go.Proofs.Ytddebnchbbmbkaa.Opn Go.Proofs.Ytddebnchbbmbkaa.PFnExactRecall Go.Proofs.YtddebnchbbmbkaaW.PrintWords
open Go.ChangeMaps (open_string shut_string)
set_option linter.unusedVariables false
set_option linter.unusedSimpArgs false
theorem own : ownKnob Try.prog.godebug = none := by kernel_rfl
theorem laidOut : laidOutB Try.prog = true := by kernel_rfl
set_option maxRecDepth 100000 in
theorem lifted (os : Os) (started : os.Started) (H : Type) (enc : TypeId × Value → H) :
    ReturnsInHanded {} Try.checked os 4 .any (Rows.fnExactRecallSpec.pre6 enc Try.prog Try.f4 Rows.fnExactRecallRow.domain false) (Rows.fnExactRecallSpec.post enc Try.prog Try.f4 false true false false) := by
  refine returnsInHanded_of_change_sized (C := Try.checked) own started (by kernel_rfl) Try.func4
    (ChangeSpec.witness6 (enc := enc) (C := Try.checked) false ⟨#[], #[.agg #[.slice none 0 0], .agg #[.int .i64 0, .slice none 0 0], .string ByteArray.empty], []⟩ 8 (by kernel_rfl) (by kernel_rfl) (by kernel_rfl) (by kernel_rfl)) ?_
  intro W base args ds gs before hval0 hW hcnd hsz0 _
  have hval : ∀ (j : Nat) t v, Try.f4.params[j]? = some t → args[j]? = some v → Value.okWide Try.prog W .any base t v := hval0
  have hW' := hW
  obtain ⟨p, q, hA0, hV, rfl, hfz, hnd⟩ := hW
  have hA : DataW.TrodAll enc Try.prog W 0 (fun _ => true) true Try.f4.params.toList args.toList ds p := hA0
  rw [Try.params4] at hA hval
  obtain ⟨v0, vs0, d0, ds0, p0, q0, hargs, rfl, rfl, h0, r0⟩ := trodAll_cons hA
  obtain ⟨v1, vs1, d1, ds1, p1, q1, rfl, rfl, rfl, h1, r1⟩ := trodAll_cons r0
  obtain ⟨v2, vs2, d2, ds2, p2, q2, rfl, rfl, rfl, h2, r2⟩ := trodAll_cons r1
  obtain ⟨rfl, rfl, rfl⟩ := trodAll_nil r2
  obtain rfl : args = #[v0, v1, v2] := by cases args; simp_all
  obtain ⟨rfl, rfl⟩ := trodVars_none hV
  have k0 := h0
  have lt0 : ∀ x ∈ p0, x.block < W.heap.size := by obtain ⟨m, hm⟩ := k0; exact DataW.trod_lt m _ _ _ hm
  obtain ⟨cs0, rfl, hl0, n0, hf0⟩ := open_fields Try.underlying43 (by kernel_rfl) (by kernel_rfl) (hval 0 43 v0 rfl rfl) h0
  obtain ⟨e0_0, rfl⟩ := list1 hl0
  obtain ⟨_, y0_0, hj0_0, ht0_0⟩ := hf0 0 _ rfl
  cases hj0_0
  obtain ⟨l0_0, hk0_0, b0_0⟩ := (show Opn enc Try.prog W 0 (fun _ => true) true 41 (Kd.slice 106 k106) (fun x => (x.length ≤ 9223372036854775807 ∧ ∀ y ∈ x, ((Lit.int .i64 y.f0).wf = true ∧ (Lit.int .i64 y.f1).wf = true))) from (opn_slice Try.underlying41 (by kernel_rfl) z106 (opn_struct2 (fun a b => (⟨a, b⟩ : S106)) (fun _ _ => rfl) Try.underlying106 rfl rfl (by kernel_rfl) (by kernel_rfl) (by kernel_rfl) (opn_int Try.underlying3) (opn_int Try.underlying3)))) _ _ _ ht0_0
  obtain ⟨A0_0, c0_0, hk0_0, hc0_0, hr0_0⟩ := hk0_0
  have hv0_0 : [e0_0] = [.slice A0_0 l0_0.length c0_0] := hk0_0
  obtain rfl : e0_0 = .slice A0_0 l0_0.length c0_0 := by simpa using hv0_0
  clear hv0_0 hk0_0
  have k1 := h1
  have lt1 : ∀ x ∈ p1, x.block < W.heap.size := by obtain ⟨m, hm⟩ := k1; exact DataW.trod_lt m _ _ _ hm
  obtain ⟨cs1, rfl, hl1, n1, hf1⟩ := open_fields Try.underlying46 (by kernel_rfl) (by kernel_rfl) (hval 1 46 v1 rfl rfl) h1
  obtain ⟨e1_0, e1_1, rfl⟩ := list2 hl1
  obtain ⟨_, y1_0, hj1_0, ht1_0⟩ := hf1 0 _ rfl
  cases hj1_0
  obtain ⟨a1_0, hk1_0, b1_0⟩ := (show Opn enc Try.prog W 0 (fun _ => true) true 3 (Kd.int .i64) (fun x => (Lit.int .i64 x).wf = true) from (opn_int Try.underlying3)) _ _ _ ht1_0
  have hv1_0 : [e1_0] = [.int .i64 a1_0] := hk1_0
  obtain rfl : e1_0 = .int .i64 a1_0 := by simpa using hv1_0
  clear hv1_0 hk1_0
  obtain ⟨_, y1_1, hj1_1, ht1_1⟩ := hf1 1 _ rfl
  cases hj1_1
  obtain ⟨l1_1, hk1_1, b1_1⟩ := (show Opn enc Try.prog W 0 (fun _ => true) true 44 (Kd.slice 104 k104) (fun x => (x.length ≤ 9223372036854775807 ∧ ∀ y ∈ x, (y.f0.size ≤ 9223372036854775807 ∧ (y.f1.length ≤ 9223372036854775807 ∧ ∀ y1 ∈ y.f1, (Lit.int .i64 y1).wf = true)))) from (opn_slice Try.underlying44 (by kernel_rfl) z104 (opn_struct2 (fun a b => (⟨a, b⟩ : S104)) (fun _ _ => rfl) Try.underlying104 rfl rfl (by kernel_rfl) (by kernel_rfl) (by kernel_rfl) (opn_string Try.underlying9) (opn_slice Try.underlying36 (by kernel_rfl) 0 (opn_int Try.underlying3))))) _ _ _ ht1_1
  obtain ⟨A1_1, c1_1, hk1_1, hc1_1, hr1_1⟩ := hk1_1
  have hv1_1 : [e1_1] = [.slice A1_1 l1_1.length c1_1] := hk1_1
  obtain rfl : e1_1 = .slice A1_1 l1_1.length c1_1 := by simpa using hv1_1
  clear hv1_1 hk1_1
  obtain ⟨a2, rfl, rfl, rfl, y2⟩ := open_string Try.underlying9 (hval 2 9 v2 rfl rfl) h2
  have b2 : a2.size ≤ 9223372036854775807 := by simpa [maxLen] using y2
  obtain ⟨k, h⟩ := Pure.FnExactRecall l0_0 a1_0 l1_1 a2 b0_0 b1_0 b1_1 b2
  clear hA0 hval0 hsz0
  refine (laws_FnExactRecall.calls (w := W) (hr0_0 := hr0_0) (hc0_0 := hc0_0) (hr1_1 := hr1_1) (hc1_1 := hc1_1) (h := h)).mono fun e W' ⟨he, bel0⟩ => ?_
  have bel : Below W.heap.size W W' := bel0
  subst he
  exact ⟨_, rfl, _, _, _, [], _, [], hW', trodAll_mk1 (shut_bool Try.underlying4 _), (trodAll_cons_mk (Below.trod laidOut (by kernel_rfl) (of_decide_eq_true (by kernel_rfl)) k0 bel lt0) (trodAll_cons_mk (Below.trod laidOut (by kernel_rfl) (of_decide_eq_true (by kernel_rfl)) k1 bel lt1) (trodAll_cons_mk (shut_string Try.underlying9 y2) trodAll_mk0))), rfl, bel.frame _, fun h => by cases h⟩
theorem over : Rows.fnExactRecallRow.holds Try.pinned (OpenSpec.ofChange Rows.fnExactRecallSpec) :=
  OpenClaim.holds_of_wide 4 Try.f4 rfl rfl rfl rfl rfl rfl rfl ⟨rfl, rfl, rfl, rfl, rfl⟩ rfl rfl rfl rfl rfl (by kernel_rfl) Try.func4 (by kernel_rfl)
    (of_decide_eq_true (by kernel_rfl)) (by unfold Func.isWrapper; first | (rw [if_pos (by decide +kernel)]; kernel_rfl) | (rw [if_neg (by decide +kernel)]; exact ⟨rfl, rfl⟩))
    (fun os started H enc _ => lifted os started H enc)
theorem proved : Rows.FnExactRecallSaid := over
#print axioms proved
end Go.Proofs.Ytddebnchbbmbkaa.fnExactRecall
namespace Go.Proofs.Ytddebnchbbmbkaa
/-- The row, under a short name, for the claim. -/
theorem fnExactRecall_holds : Rows.FnExactRecallSaid := fnExactRecall.proved
end Go.Proofs.Ytddebnchbbmbkaa
