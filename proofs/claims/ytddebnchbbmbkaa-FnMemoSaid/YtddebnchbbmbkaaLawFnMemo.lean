/- The law FnMemo: whatever its arguments are, the call answers true and leaves them as they were. Conditions: none beyond those of the given row. -/
import Derived.Test.YtddebnchbbmbkaaZFnMemo0
import Derived.Test.YtddebnchbbmbkaaRows
import Derived.Test.YtddebnchbbmbkaaPFnMemox22
import Derived.Test.YtddebnchbbmbkaaPureFnMemo
import Derived.WalkKit
import Derived.ProofKit
import Derived.OpenShut
import Derived.ShutString
import Derived.ChangeOld
import Derived.Below
import Derived.SizedLaws
namespace Go.Proofs.Ytddebnchbbmbkaa.fnMemo
open Go Go.ChangeShapes Go.WideShapes Go.ChangeAt Go.RowKit Go.Deep Go.Proofs.Ytddebnchbbmbkaa.Opn Go.Proofs.Ytddebnchbbmbkaa.PFnMemo Go.Proofs.YtddebnchbbmbkaaW.PrintWords
open Go.ChangeMaps (open_string shut_string)
set_option linter.unusedVariables false
set_option linter.unusedSimpArgs false
theorem own : ownKnob Try.prog.godebug = none := by kernel_rfl
theorem laidOut : laidOutB Try.prog = true := by kernel_rfl
set_option maxRecDepth 100000 in
theorem lifted (os : Os) (started : os.Started) (H : Type) (enc : TypeId × Value → H) :
    ReturnsInHanded {} Try.checked os 5 .any (Rows.fnMemoSpec.pre6 enc Try.prog Try.f5 Rows.fnMemoRow.domain false) (Rows.fnMemoSpec.post enc Try.prog Try.f5 false true false false) := by
  refine returnsInHanded_of_change_sized (C := Try.checked) own started (by kernel_rfl) Try.func5
    (ChangeSpec.witness6 (enc := enc) (C := Try.checked) false ⟨#[], #[.slice none 0 0], []⟩ 8 (by kernel_rfl) (by kernel_rfl) (by kernel_rfl) (by kernel_rfl)) ?_
  intro W base args ds gs before hval0 hW hcnd hsz0 _
  have hval : ∀ (j : Nat) t v, Try.f5.params[j]? = some t → args[j]? = some v → Value.okWide Try.prog W .any base t v := hval0
  have hW' := hW
  obtain ⟨p, q, hA0, hV, rfl, hfz, hnd⟩ := hW
  have hA : DataW.TrodAll enc Try.prog W 0 (fun _ => true) true Try.f5.params.toList args.toList ds p := hA0
  rw [Try.params5] at hA hval
  obtain ⟨v0, vs0, d0, ds0, p0, q0, hargs, rfl, rfl, h0, r0⟩ := trodAll_cons hA
  obtain ⟨rfl, rfl, rfl⟩ := trodAll_nil r0
  obtain rfl : args = #[v0] := by cases args; simp_all
  obtain ⟨rfl, rfl⟩ := trodVars_none hV
  have k0 := h0
  have lt0 : ∀ x ∈ p0, x.block < W.heap.size := by obtain ⟨m, hm⟩ := k0; exact DataW.trod_lt m _ _ _ hm
  obtain ⟨z0, zl0, zc0, rfl⟩ := okWide_slice Try.underlying22 (hval 0 22 v0 rfl rfl)
  obtain ⟨fuel0, hf0⟩ := h0
  obtain ⟨l0, hk0, b0⟩ := (show Opn enc Try.prog W 0 (fun _ => true) true 22 (Kd.slice 5 (Kd.int .u8)) (fun x => (x.length ≤ 9223372036854775807 ∧ ∀ y ∈ x, (Lit.int .u8 y).wf = true)) from (opn_slice Try.underlying22 (by kernel_rfl) 0 (opn_int Try.underlying5))) _ _ _ hf0
  obtain ⟨A0, c0, hk0, hc0, hr0⟩ := hk0
  have hv0 : [Value.slice z0 zl0 zc0] = [Value.slice A0 l0.length c0] := hk0
  obtain ⟨rfl, rfl, rfl⟩ : z0 = A0 ∧ zl0 = l0.length ∧ zc0 = c0 := by simpa using hv0
  clear hv0 hk0
  obtain ⟨k, h⟩ := Pure.FnMemo l0 b0
  clear hA0 hval0 hsz0
  refine (laws_FnMemo.calls (w := W) (hr0 := hr0) (hc0 := hc0) (h := h)).mono fun e W' ⟨he, bel0⟩ => ?_
  have bel : Below W.heap.size W W' := bel0
  subst he
  exact ⟨_, rfl, _, _, _, [], _, [], hW', trodAll_mk1 (shut_bool Try.underlying4 _), (trodAll_cons_mk (Below.trod laidOut (by kernel_rfl) (of_decide_eq_true (by kernel_rfl)) k0 bel lt0) trodAll_mk0), rfl, bel.frame _, fun h => by cases h⟩
theorem over : Rows.fnMemoRow.holds Try.pinned (OpenSpec.ofChange Rows.fnMemoSpec) :=
  OpenClaim.holds_of_wide 5 Try.f5 rfl rfl rfl rfl rfl rfl rfl ⟨rfl, rfl, rfl, rfl, rfl⟩ rfl rfl rfl rfl rfl (by kernel_rfl) Try.func5 (by kernel_rfl)
    (of_decide_eq_true (by kernel_rfl)) (by unfold Func.isWrapper; first | (rw [if_pos (by decide +kernel)]; kernel_rfl) | (rw [if_neg (by decide +kernel)]; exact ⟨rfl, rfl⟩))
    (fun os started H enc _ => lifted os started H enc)
theorem proved : Rows.FnMemoSaid := over
#print axioms proved
end Go.Proofs.Ytddebnchbbmbkaa.fnMemo
namespace Go.Proofs.Ytddebnchbbmbkaa
/-- The row, under a short name, for the claim. -/
theorem fnMemo_holds : Rows.FnMemoSaid := fnMemo.proved
end Go.Proofs.Ytddebnchbbmbkaa
