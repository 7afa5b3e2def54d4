/-
  No cell of these rows narrows 'for every input' (looked for: loops, veiled, ifaces, maps, wideKeys, modest, calm, conditions, laid).
  DERIVED. THE GIVEN ROWS OF THIS SEAT. 10 by the template 'for every input the law returns true; each argument reads behind the call as it read before'; 0 by the template 'total and deterministic' (their statements: YtnoliojeaafapaaTotals.lean).
  GIVEN WITH THE SEED: the statements are not yours to turn. If you find one false, say at which input.
  Laid BY PROGRAM, IN A SANDBOX (cutbox-rows.mjs): the forced cells as the released guide's own fill.sh prints them over the translation 8846910594243032… (all of the seat's roots in one cut). By AI agents, Wed Nov 11 2026. No macro, syntax, notation, axiom, sorry.
-/
import Derived.Test.YtnoliojeaafapaaChecked
import GoSem.Claim
import GoSem.ClaimJoined
import GoSem.ClaimMapViews
import Derived.JoinedTies
import Derived.KernelRfl
namespace Go.Proofs.Ytnoliojeaafapaa
/- THE CELL 'sum', in the pinned program and in every row, IS THE sha256 OF THE DUMP (.gsa) THAT YtnoliojeaafapaaProg.lean LOADS. Nothing in Lean hashes anything: it is a label: what it is worth is what the hold of that sum in a sandbox is worth. -/
noncomputable def Try.pinned : Pinned := { name := "ytnoliojeaafapaa", sum := "8846910594243032a2b820fb8dfadbbe8355fcc8578ef52a6bf438cf4071b423", checked := Try.checked }
namespace Rows
def none {H : Type} : Left H := { results := [], args := [] }

/-- 'laws.FnExactMergeOnce': WHATEVER THE INPUT: true; the input reads as it did. -/
def fnExactMergeOnceSpec : ChangeSpec := { name := "fnExactMergeOnce", fn := fun _ => fun
  | [d1, d2] => { results := [.lit (.bool true)], args := [d1, d2] }
  | _ => none }
def fnExactMergeOnceRow : OpenClaim := { program := "ytnoliojeaafapaa", sum := "8846910594243032a2b820fb8dfadbbe8355fcc8578ef52a6bf438cf4071b423", func := "loop.example/g00358/laws.FnExactMergeOnce", spec := "fnExactMergeOnce", apart := false }
def FnExactMergeOnceSaid : Prop := fnExactMergeOnceRow.holds Try.pinned (OpenSpec.ofChange fnExactMergeOnceSpec)

/-- ITS FALSE NEIGHBOUR: 'it returns false'. Refute it at one input. -/
def fnExactMergeOnceWrong : ChangeSpec := { name := "fnExactMergeOnce", fn := fun _ => fun
  | [d1, d2] => { results := [.lit (.bool false)], args := [d1, d2] }
  | _ => none }
def FnExactMergeOnceWrongFalsely : Prop := fnExactMergeOnceRow.holds Try.pinned (OpenSpec.ofChange fnExactMergeOnceWrong)

/-- 'laws.FnExactReadCanon': WHATEVER THE INPUT: true; the input reads as it did. -/
def fnExactReadCanonSpec : ChangeSpec := { name := "fnExactReadCanon", fn := fun _ => fun
  | [d] => { results := [.lit (.bool true)], args := [d] }
  | _ => none }
def fnExactReadCanonRow : OpenClaim := { program := "ytnoliojeaafapaa", sum := "8846910594243032a2b820fb8dfadbbe8355fcc8578ef52a6bf438cf4071b423", func := "loop.example/g00358/laws.FnExactReadCanon", spec := "fnExactReadCanon", apart := false }
def FnExactReadCanonSaid : Prop := fnExactReadCanonRow.holds Try.pinned (OpenSpec.ofChange fnExactReadCanonSpec)

/-- ITS FALSE NEIGHBOUR: 'it returns false'. Refute it at one input. -/
def fnExactReadCanonWrong : ChangeSpec := { name := "fnExactReadCanon", fn := fun _ => fun
  | [d] => { results := [.lit (.bool false)], args := [d] }
  | _ => none }
def FnExactReadCanonWrongFalsely : Prop := fnExactReadCanonRow.holds Try.pinned (OpenSpec.ofChange fnExactReadCanonWrong)

/-- 'laws.FnExactWalText': WHATEVER THE INPUT: true; the input reads as it did. -/
def fnExactWalTextSpec : ChangeSpec := { name := "fnExactWalText", fn := fun _ => fun
  | [d] => { results := [.lit (.bool true)], args := [d] }
  | _ => none }
def fnExactWalTextRow : OpenClaim := { program := "ytnoliojeaafapaa", sum := "8846910594243032a2b820fb8dfadbbe8355fcc8578ef52a6bf438cf4071b423", func := "loop.example/g00358/laws.FnExactWalText", spec := "fnExactWalText", apart := false }
def FnExactWalTextSaid : Prop := fnExactWalTextRow.holds Try.pinned (OpenSpec.ofChange fnExactWalTextSpec)

/-- ITS FALSE NEIGHBOUR: 'it returns false'. Refute it at one input. -/
def fnExactWalTextWrong : ChangeSpec := { name := "fnExactWalText", fn := fun _ => fun
  | [d] => { results := [.lit (.bool false)], args := [d] }
  | _ => none }
def FnExactWalTextWrongFalsely : Prop := fnExactWalTextRow.holds Try.pinned (OpenSpec.ofChange fnExactWalTextWrong)

/-- 'laws.FnOneMore': WHATEVER THE INPUT: true; the input reads as it did. -/
def fnOneMoreSpec : ChangeSpec := { name := "fnOneMore", fn := fun _ => fun
  | [d] => { results := [.lit (.bool true)], args := [d] }
  | _ => none }
def fnOneMoreRow : OpenClaim := { program := "ytnoliojeaafapaa", sum := "8846910594243032a2b820fb8dfadbbe8355fcc8578ef52a6bf438cf4071b423", func := "loop.example/g00358/laws.FnOneMore", spec := "fnOneMore", apart := false }
def FnOneMoreSaid : Prop := fnOneMoreRow.holds Try.pinned (OpenSpec.ofChange fnOneMoreSpec)

/-- ITS FALSE NEIGHBOUR: 'it returns false'. Refute it at one input. -/
def fnOneMoreWrong : ChangeSpec := { name := "fnOneMore", fn := fun _ => fun
  | [d] => { results := [.lit (.bool false)], args := [d] }
  | _ => none }
def FnOneMoreWrongFalsely : Prop := fnOneMoreRow.holds Try.pinned (OpenSpec.ofChange fnOneMoreWrong)

/-- 'laws.FnExactWalStep': WHATEVER THE INPUT: true; the input reads as it did. -/
def fnExactWalStepSpec : ChangeSpec := { name := "fnExactWalStep", fn := fun _ => fun
  | [d1, d2] => { results := [.lit (.bool true)], args := [d1, d2] }
  | _ => none }
def fnExactWalStepRow : OpenClaim := { program := "ytnoliojeaafapaa", sum := "8846910594243032a2b820fb8dfadbbe8355fcc8578ef52a6bf438cf4071b423", func := "loop.example/g00358/laws.FnExactWalStep", spec := "fnExactWalStep", apart := false }
def FnExactWalStepSaid : Prop := fnExactWalStepRow.holds Try.pinned (OpenSpec.ofChange fnExactWalStepSpec)

/-- ITS FALSE NEIGHBOUR: 'it returns false'. Refute it at one input. -/
def fnExactWalStepWrong : ChangeSpec := { name := "fnExactWalStep", fn := fun _ => fun
  | [d1, d2] => { results := [.lit (.bool false)], args := [d1, d2] }
  | _ => none }
def FnExactWalStepWrongFalsely : Prop := fnExactWalStepRow.holds Try.pinned (OpenSpec.ofChange fnExactWalStepWrong)

/-- 'laws.FnMerges': WHATEVER THE INPUT: true; the input reads as it did. -/
def fnMergesSpec : ChangeSpec := { name := "fnMerges", fn := fun _ => fun
  | [d] => { results := [.lit (.bool true)], args := [d] }
  | _ => none }
def fnMergesRow : OpenClaim := { program := "ytnoliojeaafapaa", sum := "8846910594243032a2b820fb8dfadbbe8355fcc8578ef52a6bf438cf4071b423", func := "loop.example/g00358/laws.FnMerges", spec := "fnMerges", apart := false }
def FnMergesSaid : Prop := fnMergesRow.holds Try.pinned (OpenSpec.ofChange fnMergesSpec)

/-- ITS FALSE NEIGHBOUR: 'it returns false'. Refute it at one input. -/
def fnMergesWrong : ChangeSpec := { name := "fnMerges", fn := fun _ => fun
  | [d] => { results := [.lit (.bool false)], args := [d] }
  | _ => none }
def FnMergesWrongFalsely : Prop := fnMergesRow.holds Try.pinned (OpenSpec.ofChange fnMergesWrong)

/-- 'laws.FnEncodeBack': WHATEVER THE INPUT: true; the input reads as it did. -/
def fnEncodeBackSpec : ChangeSpec := { name := "fnEncodeBack", fn := fun _ => fun
  | [d] => { results := [.lit (.bool true)], args := [d] }
  | _ => none }
def fnEncodeBackRow : OpenClaim := { program := "ytnoliojeaafapaa", sum := "8846910594243032a2b820fb8dfadbbe8355fcc8578ef52a6bf438cf4071b423", func := "loop.example/g00358/laws.FnEncodeBack", spec := "fnEncodeBack", apart := false }
def FnEncodeBackSaid : Prop := fnEncodeBackRow.holds Try.pinned (OpenSpec.ofChange fnEncodeBackSpec)

/-- ITS FALSE NEIGHBOUR: 'it returns false'. Refute it at one input. -/
def fnEncodeBackWrong : ChangeSpec := { name := "fnEncodeBack", fn := fun _ => fun
  | [d] => { results := [.lit (.bool false)], args := [d] }
  | _ => none }
def FnEncodeBackWrongFalsely : Prop := fnEncodeBackRow.holds Try.pinned (OpenSpec.ofChange fnEncodeBackWrong)

/-- 'laws.FnCut': WHATEVER THE INPUT: true; the input reads as it did. -/
def fnCutSpec : ChangeSpec := { name := "fnCut", fn := fun _ => fun
  | [d] => { results := [.lit (.bool true)], args := [d] }
  | _ => none }
def fnCutRow : OpenClaim := { program := "ytnoliojeaafapaa", sum := "8846910594243032a2b820fb8dfadbbe8355fcc8578ef52a6bf438cf4071b423", func := "loop.example/g00358/laws.FnCut", spec := "fnCut", apart := false }
def FnCutSaid : Prop := fnCutRow.holds Try.pinned (OpenSpec.ofChange fnCutSpec)

/-- ITS FALSE NEIGHBOUR: 'it returns false'. Refute it at one input. -/
def fnCutWrong : ChangeSpec := { name := "fnCut", fn := fun _ => fun
  | [d] => { results := [.lit (.bool false)], args := [d] }
  | _ => none }
def FnCutWrongFalsely : Prop := fnCutRow.holds Try.pinned (OpenSpec.ofChange fnCutWrong)

/-- 'laws.FnLatest': WHATEVER THE INPUT: true; the input reads as it did. -/
def fnLatestSpec : ChangeSpec := { name := "fnLatest", fn := fun _ => fun
  | [d] => { results := [.lit (.bool true)], args := [d] }
  | _ => none }
def fnLatestRow : OpenClaim := { program := "ytnoliojeaafapaa", sum := "8846910594243032a2b820fb8dfadbbe8355fcc8578ef52a6bf438cf4071b423", func := "loop.example/g00358/laws.FnLatest", spec := "fnLatest", unfollowed := true, recurses := true, apart := false }
def FnLatestSaid : Prop := fnLatestRow.holds Try.pinned (OpenSpec.ofChange fnLatestSpec)

/-- ITS FALSE NEIGHBOUR: 'it returns false'. Refute it at one input. -/
def fnLatestWrong : ChangeSpec := { name := "fnLatest", fn := fun _ => fun
  | [d] => { results := [.lit (.bool false)], args := [d] }
  | _ => none }
def FnLatestWrongFalsely : Prop := fnLatestRow.holds Try.pinned (OpenSpec.ofChange fnLatestWrong)

/-- 'laws.FnExactChanges': WHATEVER THE INPUT: true; the input reads as it did. -/
def fnExactChangesSpec : ChangeSpec := { name := "fnExactChanges", fn := fun _ => fun
  | [d1, d2] => { results := [.lit (.bool true)], args := [d1, d2] }
  | _ => none }
def fnExactChangesRow : OpenClaim := { program := "ytnoliojeaafapaa", sum := "8846910594243032a2b820fb8dfadbbe8355fcc8578ef52a6bf438cf4071b423", func := "loop.example/g00358/laws.FnExactChanges", spec := "fnExactChanges", apart := false }
def FnExactChangesSaid : Prop := fnExactChangesRow.holds Try.pinned (OpenSpec.ofChange fnExactChangesSpec)

/-- ITS FALSE NEIGHBOUR: 'it returns false'. Refute it at one input. -/
def fnExactChangesWrong : ChangeSpec := { name := "fnExactChanges", fn := fun _ => fun
  | [d1, d2] => { results := [.lit (.bool false)], args := [d1, d2] }
  | _ => none }
def FnExactChangesWrongFalsely : Prop := fnExactChangesRow.holds Try.pinned (OpenSpec.ofChange fnExactChangesWrong)

/- THE SECOND FORM. 'bulk': how many values and letters a reading holds, each counted each time it is reached (what is shared counts as often as it is met; a slice's spare places count too). A statement '..UptoSaid' is the law's where the arguments, and the package variables that the reading takes, are together of bulk at most 1048576: NARROWER than '..Said'. Prove '..Said' where nothing that the law and all that it calls make is longer than what came in: it says more and counts as full. Else prove '..UptoSaid'. A law counts once. -/
mutual
def uptoBulk {H : Type} : DataW H → Nat
  | .lit (.string bytes) => bytes.length + 1
  | .lit _ => 1
  | .nil => 1
  | .ptr d => uptoBulk d + 1
  | .slice elems spare => uptoBulkAll elems + uptoBulkAll spare + 1
  | .agg parts => uptoBulkAll parts + 1
  | .iface _ d => uptoBulk d + 1
  | .map entries => uptoBulkEntries entries + 1
  | .held _ => 1
def uptoBulkAll {H : Type} : List (DataW H) → Nat
  | [] => 0
  | d :: r => uptoBulk d + uptoBulkAll r
def uptoBulkEntries {H : Type} : List (Lit × DataW H) → Nat
  | [] => 0
  | x :: r => uptoBulkEntry x + uptoBulkEntries r
def uptoBulkEntry {H : Type} : Lit × DataW H → Nat
  | (.string bytes, d) => bytes.length + uptoBulk d + 1
  | (_, d) => uptoBulk d + 1
 end
def uptoSmall : (H : Type) → List (DataW H) → Bool := fun _ ds => decide (uptoBulkAll ds ≤ 1048576)
def OpenSpec.upto (s : _root_.Go.ChangeSpec) : _root_.Go.OpenSpec := { _root_.Go.OpenSpec.ofChange s with cond := some uptoSmall }

/-- 'laws.FnExactMergeOnce', WHERE WHAT IT READS IS OF BULK AT MOST 1048576: true; the input reads as it did. -/
def fnExactMergeOnceUptoRow : OpenClaim := { program := "ytnoliojeaafapaa", sum := "8846910594243032a2b820fb8dfadbbe8355fcc8578ef52a6bf438cf4071b423", func := "loop.example/g00358/laws.FnExactMergeOnce", spec := "fnExactMergeOnce", apart := false, narrowed := true }
def FnExactMergeOnceUptoSaid : Prop := fnExactMergeOnceUptoRow.holds Try.pinned (OpenSpec.upto fnExactMergeOnceSpec)

/-- 'laws.FnExactReadCanon', WHERE WHAT IT READS IS OF BULK AT MOST 1048576: true; the input reads as it did. -/
def fnExactReadCanonUptoRow : OpenClaim := { program := "ytnoliojeaafapaa", sum := "8846910594243032a2b820fb8dfadbbe8355fcc8578ef52a6bf438cf4071b423", func := "loop.example/g00358/laws.FnExactReadCanon", spec := "fnExactReadCanon", apart := false, narrowed := true }
def FnExactReadCanonUptoSaid : Prop := fnExactReadCanonUptoRow.holds Try.pinned (OpenSpec.upto fnExactReadCanonSpec)

/-- 'laws.FnExactWalText', WHERE WHAT IT READS IS OF BULK AT MOST 1048576: true; the input reads as it did. -/
def fnExactWalTextUptoRow : OpenClaim := { program := "ytnoliojeaafapaa", sum := "8846910594243032a2b820fb8dfadbbe8355fcc8578ef52a6bf438cf4071b423", func := "loop.example/g00358/laws.FnExactWalText", spec := "fnExactWalText", apart := false, narrowed := true }
def FnExactWalTextUptoSaid : Prop := fnExactWalTextUptoRow.holds Try.pinned (OpenSpec.upto fnExactWalTextSpec)

/-- 'laws.FnOneMore', WHERE WHAT IT READS IS OF BULK AT MOST 1048576: true; the input reads as it did. -/
def fnOneMoreUptoRow : OpenClaim := { program := "ytnoliojeaafapaa", sum := "8846910594243032a2b820fb8dfadbbe8355fcc8578ef52a6bf438cf4071b423", func := "loop.example/g00358/laws.FnOneMore", spec := "fnOneMore", apart := false, narrowed := true }
def FnOneMoreUptoSaid : Prop := fnOneMoreUptoRow.holds Try.pinned (OpenSpec.upto fnOneMoreSpec)

/-- 'laws.FnExactWalStep', WHERE WHAT IT READS IS OF BULK AT MOST 1048576: true; the input reads as it did. -/
def fnExactWalStepUptoRow : OpenClaim := { program := "ytnoliojeaafapaa", sum := "8846910594243032a2b820fb8dfadbbe8355fcc8578ef52a6bf438cf4071b423", func := "loop.example/g00358/laws.FnExactWalStep", spec := "fnExactWalStep", apart := false, narrowed := true }
def FnExactWalStepUptoSaid : Prop := fnExactWalStepUptoRow.holds Try.pinned (OpenSpec.upto fnExactWalStepSpec)

/-- 'laws.FnMerges', WHERE WHAT IT READS IS OF BULK AT MOST 1048576: true; the input reads as it did. -/
def fnMergesUptoRow : OpenClaim := { program := "ytnoliojeaafapaa", sum := "8846910594243032a2b820fb8dfadbbe8355fcc8578ef52a6bf438cf4071b423", func := "loop.example/g00358/laws.FnMerges", spec := "fnMerges", apart := false, narrowed := true }
def FnMergesUptoSaid : Prop := fnMergesUptoRow.holds Try.pinned (OpenSpec.upto fnMergesSpec)

/-- 'laws.FnEncodeBack', WHERE WHAT IT READS IS OF BULK AT MOST 1048576: true; the input reads as it did. -/
def fnEncodeBackUptoRow : OpenClaim := { program := "ytnoliojeaafapaa", sum := "8846910594243032a2b820fb8dfadbbe8355fcc8578ef52a6bf438cf4071b423", func := "loop.example/g00358/laws.FnEncodeBack", spec := "fnEncodeBack", apart := false, narrowed := true }
def FnEncodeBackUptoSaid : Prop := fnEncodeBackUptoRow.holds Try.pinned (OpenSpec.upto fnEncodeBackSpec)

/-- 'laws.FnCut', WHERE WHAT IT READS IS OF BULK AT MOST 1048576: true; the input reads as it did. -/
def fnCutUptoRow : OpenClaim := { program := "ytnoliojeaafapaa", sum := "8846910594243032a2b820fb8dfadbbe8355fcc8578ef52a6bf438cf4071b423", func := "loop.example/g00358/laws.FnCut", spec := "fnCut", apart := false, narrowed := true }
def FnCutUptoSaid : Prop := fnCutUptoRow.holds Try.pinned (OpenSpec.upto fnCutSpec)

/-- 'laws.FnLatest', WHERE WHAT IT READS IS OF BULK AT MOST 1048576: true; the input reads as it did. -/
def fnLatestUptoRow : OpenClaim := { program := "ytnoliojeaafapaa", sum := "8846910594243032a2b820fb8dfadbbe8355fcc8578ef52a6bf438cf4071b423", func := "loop.example/g00358/laws.FnLatest", spec := "fnLatest", unfollowed := true, recurses := true, apart := false, narrowed := true }
def FnLatestUptoSaid : Prop := fnLatestUptoRow.holds Try.pinned (OpenSpec.upto fnLatestSpec)

/-- 'laws.FnExactChanges', WHERE WHAT IT READS IS OF BULK AT MOST 1048576: true; the input reads as it did. -/
def fnExactChangesUptoRow : OpenClaim := { program := "ytnoliojeaafapaa", sum := "8846910594243032a2b820fb8dfadbbe8355fcc8578ef52a6bf438cf4071b423", func := "loop.example/g00358/laws.FnExactChanges", spec := "fnExactChanges", apart := false, narrowed := true }
def FnExactChangesUptoSaid : Prop := fnExactChangesUptoRow.holds Try.pinned (OpenSpec.upto fnExactChangesSpec)

end Rows
end Go.Proofs.Ytnoliojeaafapaa
