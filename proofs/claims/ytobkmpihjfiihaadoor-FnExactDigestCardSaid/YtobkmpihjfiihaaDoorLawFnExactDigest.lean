/- The law FnExactDigest: whatever its arguments are, the call answers true and leaves them as they were; the tied card. Conditions: those of the given row: the table shaWords holds what its initialiser lays (the card ties it to the text). -/
import Derived.Test.YtobkmpihjfiihaaDoorZFnExactDigest0
import Derived.Test.YtobkmpihjfiihaaDoorCards
import Derived.Test.YtobkmpihjfiihaaDoorTie
import Derived.OpenVars
import Derived.LaidLaws
import Derived.Lib.LaidTab
import Derived.Stop.Joined
import Derived.SevenTiedAt
import Derived.Test.YtobkmpihjfiihaaDoorPFnExactDigestx10
import Derived.Test.YtobkmpihjfiihaaDoorPureFnExactDigest
import Derived.WalkKit
import Derived.ProofKit
import Derived.OpenShut
import Derived.ShutString
import Derived.ChangeOld
import Derived.Below
import Derived.SizedLaws
namespace Go.Proofs.YtobkmpihjfiihaaDoor.fnExactDigest
open Go Go.ChangeShapes Go.WideShapes Go.ChangeAt Go.RowKit Go.Deep Go.Proofs.YtobkmpihjfiihaaDoor.Opn Go.Proofs.YtobkmpihjfiihaaDoor.PFnExactDigest Go.Proofs.YtobkmpihjfiihaaDoorW.PrintWords
open Go.ChangeMaps (open_string shut_string)
set_option linter.unusedVariables false
set_option linter.unusedSimpArgs false
theorem own : ownKnob Tryd.prog.godebug = none := by kernel_rfl
theorem gTab : Tryd.prog.globalNamed "loop.example/g00358/impl.shaWords" = some 0 := by kernel_rfl
theorem gTabType : (Tryd.prog.globals[0]?).map (·.type) = some 92 := by kernel_rfl
theorem cells92 : Tryd.prog.cellsOf 92 = 64 := by kernel_rfl
theorem cells59 : Tryd.prog.cellsOf 59 = 1 := by kernel_rfl
theorem rowed : varsRowed Tryd.prog Rows.fnExactDigestSpec.vars = true := by kernel_rfl
theorem laidOk : laidOutB Tryd.prog = true := by kernel_rfl
/-- What the row's list gives: the table's cells hold its numbers. -/
theorem table {W : World} (h : laidMetH Tryd.prog Rows.fnExactDigestRow.laid W) : PFnExactDigest.Tab W := fun i hi =>
  (Lib.tabIs_of_head (rest := []) (zs := PFnExactDigest.shaTab) gTab gTabType Tryd.underlying92 Tryd.underlying59 cells59 cells92 h).cell gTab i hi
/-- A world for the witness: the settled one, the table (block 0) holding what its initialiser lays. -/
noncomputable def laidWorld (os : Os) : World :=
  { World.holding Tryd.prog os ⟨#[], #[], []⟩ with heap := (World.holding Tryd.prog os ⟨#[], #[], []⟩).heap.modify 0 fun
      | .cells _ t frozen => .cells (PFnExactDigest.cU PFnExactDigest.shaTab) t frozen
      | o => o }
theorem laid_met (os : Os) (args : Array Value) : laidMetH Tryd.prog Rows.fnExactDigestRow.laid ((laidWorld os).forCall (fun _ _ => 0) ⟨#[], args, []⟩).memory :=
  laidMet_of_run' 8 (by kernel_rfl) (by kernel_rfl)
theorem laidOut : laidOutB Tryd.prog = true := by kernel_rfl
set_option maxRecDepth 100000 in
theorem lifted (os : Os) (started : os.Started) (H : Type) (enc : TypeId × Value → H) :
    ReturnsInHanded {} Tryd.checked os 7 .any (fun w args => (Rows.fnExactDigestSpec.pre enc Tryd.prog Tryd.f7 [] false w args ∧ laidMetH Tryd.prog Rows.fnExactDigestRow.laid w) ∧ sizedMet enc Tryd.prog Tryd.f7 (OpenSpec.ofChange Rows.fnExactDigestSpec) false w args) (Rows.fnExactDigestSpec.post enc Tryd.prog Tryd.f7 false true false false) := by
  refine returnsInHanded_of_change_and (C := Tryd.checked) (X := fun w _ => laidMetH Tryd.prog Rows.fnExactDigestRow.laid w) (fun _ _ _ hh h => h.of_heap hh) own started (by kernel_rfl) Tryd.func7
   (ChangeSpec.witness_at (enc := enc) (C := Tryd.checked) (os := os) (X := fun w _ => laidMetH Tryd.prog Rows.fnExactDigestRow.laid w) false (laidWorld os) #[.agg #[.slice none 0 0]] 8 rfl (by kernel_rfl) (by kernel_rfl) (by kernel_rfl) (by kernel_rfl) (by kernel_rfl) (laid_met os _)) ?_
  intro W base args ds gs before hval0 hW hcnd hsz0 hL _
  have hval : ∀ (j : Nat) t v, Tryd.f7.params[j]? = some t → args[j]? = some v → Value.okWide Tryd.prog W .any base t v := hval0
  have hW' := hW
  obtain ⟨p, q, hA0, hV, rfl, hfz, hnd⟩ := hW
  have hA : DataW.TrodAll enc Tryd.prog W 0 (fun _ => true) true Tryd.f7.params.toList args.toList ds p := hA0
  rw [Tryd.params7] at hA hval
  obtain ⟨v0, vs0, d0, ds0, p0, q0, hargs, rfl, rfl, h0, r0⟩ := trodAll_cons hA
  obtain ⟨rfl, rfl, rfl⟩ := trodAll_nil r0
  obtain rfl : args = #[v0] := by cases args; simp_all
  obtain ⟨gv_, tv_, csv_, fuv_, dv_, pv_, rfl, _, _, _, _, _⟩ := trodVars_one hV
  have k0 := h0
  have lt0 : ∀ x ∈ p0, x.block < W.heap.size := by obtain ⟨m, hm⟩ := k0; exact DataW.trod_lt m _ _ _ hm
  obtain ⟨cs0, rfl, hl0, n0, hf0⟩ := open_fields Tryd.underlying40 (by kernel_rfl) (by kernel_rfl) (hval 0 40 v0 rfl rfl) h0
  obtain ⟨e0_0, rfl⟩ := list1 hl0
  obtain ⟨_, y0_0, hj0_0, ht0_0⟩ := hf0 0 _ rfl
  cases hj0_0
  obtain ⟨l0_0, hk0_0, b0_0⟩ := (show Opn enc Tryd.prog W 0 (fun _ => true) true 38 (Kd.slice 100 k100) (fun x => (x.length ≤ 9223372036854775807 ∧ ∀ y ∈ x, ((Lit.int .i64 y.f0).wf = true ∧ (Lit.int .i64 y.f1).wf = true))) from (opn_slice Tryd.underlying38 (by kernel_rfl) z100 (opn_struct2 (fun a b => (⟨a, b⟩ : S100)) (fun _ _ => rfl) Tryd.underlying100 rfl rfl (by kernel_rfl) (by kernel_rfl) (by kernel_rfl) (opn_int Tryd.underlying3) (opn_int Tryd.underlying3)))) _ _ _ ht0_0
  obtain ⟨A0_0, c0_0, hk0_0, hc0_0, hr0_0⟩ := hk0_0
  have hv0_0 : [e0_0] = [.slice A0_0 l0_0.length c0_0] := hk0_0
  obtain rfl : e0_0 = .slice A0_0 l0_0.length c0_0 := by simpa using hv0_0
  clear hv0_0 hk0_0
  obtain ⟨k, h⟩ := Pure.FnExactDigest l0_0 b0_0
  clear hA0 hval0 hsz0
  refine (laws_FnExactDigest.calls (w := W) (hr0_0 := hr0_0) (hc0_0 := hc0_0) (h := h) (hTab := table hL)).mono fun e W' ⟨he, bel0⟩ => ?_
  have bel : Below W.heap.size W W' := bel0
  subst he
  exact ⟨_, rfl, _, _, _, [], _, _, hW', trodAll_mk1 (shut_bool Tryd.underlying4 _), (trodAll_cons_mk (Below.trod laidOut (by kernel_rfl) (of_decide_eq_true (by kernel_rfl)) k0 bel lt0) trodAll_mk0), Below.trodVars laidOk bel rowed hV, bel.frame _, fun h => by cases h⟩
theorem over : Rows.fnExactDigestRow.holds Tryd.pinned (OpenSpec.ofChange Rows.fnExactDigestSpec) :=
  OpenClaim.holds_of_wide 7 Tryd.f7 rfl rfl rfl rfl rfl rfl rfl ⟨rfl, rfl, rfl, rfl, rfl⟩ rfl rfl rfl rfl rfl (by kernel_rfl) Tryd.func7 (by kernel_rfl)
    (of_decide_eq_true (by kernel_rfl)) (by unfold Func.isWrapper; first | (rw [if_pos (by decide +kernel)]; kernel_rfl) | (rw [if_neg (by decide +kernel)]; exact ⟨rfl, rfl⟩))
    (fun os started H enc _ => lifted os started H enc)
theorem said : Rows.FnExactDigestSaid := over
/-- No parameter wants a stand-in; the program's own looks are off: what the card asks. -/
theorem plain (f : FuncId) (fn : Func) (hf : Tryd.pinned.checked.prog.funcNamed "loop.example/g00358/laws.FnExactDigest" = some f) (hfn : Tryd.pinned.checked.prog.funcs[f]? = some fn) :
    false = Tryd.pinned.checked.prog.looks [] ∧ ∀ (j : Nat) t, fn.params[j]? = some t → Tryd.pinned.checked.prog.wantsStandIn t = false := by
  obtain rfl : f = 7 := Option.some.inj ((show Tryd.prog.funcNamed "loop.example/g00358/laws.FnExactDigest" = some 7 by kernel_rfl).symm.trans hf) |>.symm
  obtain rfl : fn = Tryd.f7 := (Option.some.inj (Tryd.func7.symm.trans hfn)).symm
  refine ⟨by kernel_rfl, fun j t ht => ?_⟩
  rw [Tryd.params7] at ht
  have hm : t ∈ [40] := by simpa using Array.mem_of_getElem? ht
  have hall : ([40].all fun u => !Tryd.prog.wantsStandIn u) = true := by kernel_rfl
  exact (show Tryd.prog.wantsStandIn t = false by simpa using List.all_eq_true.1 hall t hm)
/-- The tied card. -/
theorem proved : Rows.FnExactDigestCardSaid :=
  Claim7.holds_tied_plain_at .later [] _ _ _ _ said (fun _ h => by cases h) (by kernel_rfl) (fun _ h => by cases h) fnExactDigest_row_tie rfl ⟨rfl, rfl⟩ (by kernel_rfl) rfl plain (by kernel_rfl)
#print axioms proved
end Go.Proofs.YtobkmpihjfiihaaDoor.fnExactDigest
namespace Go.Proofs.YtobkmpihjfiihaaDoor
/-- The card, under a short name, for the claim. -/
theorem fnExactDigest_holds : Rows.FnExactDigestCardSaid := fnExactDigest.proved
end Go.Proofs.YtobkmpihjfiihaaDoor
