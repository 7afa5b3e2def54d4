/-
  No cell of these rows narrows 'for every input' (looked for: loops, veiled, ifaces, maps, wideKeys, modest, calm, conditions, laid).
  DERIVED. THE GIVEN ROWS OF THIS SEAT. 11 by the template 'for every input the law returns true; each argument reads behind the call as it read before'; 0 by the template 'total and deterministic' (their statements: YtopnfbnfmaghaaaTotals.lean).
  GIVEN WITH THE SEED: the statements are not yours to turn. If you find one false, say at which input.
  Laid BY PROGRAM, IN A SANDBOX (cutbox-rows.mjs): the forced cells as the released guide's own fill.sh prints them over the translation c7e583071a2acf98… (all of the seat's roots in one cut). By AI agents, Wed Nov 11 2026. No macro, syntax, notation, axiom, sorry.
-/
import Derived.Test.YtopnfbnfmaghaaaChecked
import GoSem.Claim
import GoSem.ClaimJoined
import GoSem.ClaimMapViews
import Derived.JoinedTies
import Derived.KernelRfl
namespace Go.Proofs.Ytopnfbnfmaghaaa
/- THE CELL 'sum', in the pinned program and in every row, IS THE sha256 OF THE DUMP (.gsa) THAT YtopnfbnfmaghaaaProg.lean LOADS. Nothing in Lean hashes anything: it is a label: what it is worth is what the hold of that sum in a sandbox is worth. -/
noncomputable def Try.pinned : Pinned := { name := "ytopnfbnfmaghaaa", sum := "c7e583071a2acf98c04baba92325f903b3a61ddd2f35c884aab0cfd39d563e48", checked := Try.checked }
namespace Rows
def none {H : Type} : Left H := { results := [], args := [] }

/-- 'laws.FnNaive': WHATEVER THE INPUT: true; the input reads as it did. -/
def fnNaiveSpec : ChangeSpec := { name := "fnNaive", fn := fun _ => fun
  | [d] => { results := [.lit (.bool true)], args := [d] }
  | _ => none }
def fnNaiveRow : OpenClaim := { program := "ytopnfbnfmaghaaa", sum := "c7e583071a2acf98c04baba92325f903b3a61ddd2f35c884aab0cfd39d563e48", func := "loop.example/g00358/laws.FnNaive", spec := "fnNaive", apart := false }
def FnNaiveSaid : Prop := fnNaiveRow.holds Try.pinned (OpenSpec.ofChange fnNaiveSpec)

/-- ITS FALSE NEIGHBOUR: 'it returns false'. Refute it at one input. -/
def fnNaiveWrong : ChangeSpec := { name := "fnNaive", fn := fun _ => fun
  | [d] => { results := [.lit (.bool false)], args := [d] }
  | _ => none }
def FnNaiveWrongFalsely : Prop := fnNaiveRow.holds Try.pinned (OpenSpec.ofChange fnNaiveWrong)

/-- 'laws.FnExactNewMemo': WHATEVER THE INPUT: true; the input reads as it did. -/
def fnExactNewMemoSpec : ChangeSpec := { name := "fnExactNewMemo", fn := fun _ => fun
  | [d] => { results := [.lit (.bool true)], args := [d] }
  | _ => none }
def fnExactNewMemoRow : OpenClaim := { program := "ytopnfbnfmaghaaa", sum := "c7e583071a2acf98c04baba92325f903b3a61ddd2f35c884aab0cfd39d563e48", func := "loop.example/g00358/laws.FnExactNewMemo", spec := "fnExactNewMemo", apart := false }
def FnExactNewMemoSaid : Prop := fnExactNewMemoRow.holds Try.pinned (OpenSpec.ofChange fnExactNewMemoSpec)

/-- ITS FALSE NEIGHBOUR: 'it returns false'. Refute it at one input. -/
def fnExactNewMemoWrong : ChangeSpec := { name := "fnExactNewMemo", fn := fun _ => fun
  | [d] => { results := [.lit (.bool false)], args := [d] }
  | _ => none }
def FnExactNewMemoWrongFalsely : Prop := fnExactNewMemoRow.holds Try.pinned (OpenSpec.ofChange fnExactNewMemoWrong)

/-- 'laws.FnExactReadRec': WHATEVER THE INPUT: true; the input reads as it did. -/
def fnExactReadRecSpec : ChangeSpec := { name := "fnExactReadRec", fn := fun _ => fun
  | [d] => { results := [.lit (.bool true)], args := [d] }
  | _ => none }
def fnExactReadRecRow : OpenClaim := { program := "ytopnfbnfmaghaaa", sum := "c7e583071a2acf98c04baba92325f903b3a61ddd2f35c884aab0cfd39d563e48", func := "loop.example/g00358/laws.FnExactReadRec", spec := "fnExactReadRec", apart := false }
def FnExactReadRecSaid : Prop := fnExactReadRecRow.holds Try.pinned (OpenSpec.ofChange fnExactReadRecSpec)

/-- ITS FALSE NEIGHBOUR: 'it returns false'. Refute it at one input. -/
def fnExactReadRecWrong : ChangeSpec := { name := "fnExactReadRec", fn := fun _ => fun
  | [d] => { results := [.lit (.bool false)], args := [d] }
  | _ => none }
def FnExactReadRecWrongFalsely : Prop := fnExactReadRecRow.holds Try.pinned (OpenSpec.ofChange fnExactReadRecWrong)

/-- 'laws.FnExactReadCanon': WHATEVER THE INPUT: true; the input reads as it did. -/
def fnExactReadCanonSpec : ChangeSpec := { name := "fnExactReadCanon", fn := fun _ => fun
  | [d] => { results := [.lit (.bool true)], args := [d] }
  | _ => none }
def fnExactReadCanonRow : OpenClaim := { program := "ytopnfbnfmaghaaa", sum := "c7e583071a2acf98c04baba92325f903b3a61ddd2f35c884aab0cfd39d563e48", func := "loop.example/g00358/laws.FnExactReadCanon", spec := "fnExactReadCanon", apart := false }
def FnExactReadCanonSaid : Prop := fnExactReadCanonRow.holds Try.pinned (OpenSpec.ofChange fnExactReadCanonSpec)

/-- ITS FALSE NEIGHBOUR: 'it returns false'. Refute it at one input. -/
def fnExactReadCanonWrong : ChangeSpec := { name := "fnExactReadCanon", fn := fun _ => fun
  | [d] => { results := [.lit (.bool false)], args := [d] }
  | _ => none }
def FnExactReadCanonWrongFalsely : Prop := fnExactReadCanonRow.holds Try.pinned (OpenSpec.ofChange fnExactReadCanonWrong)

/-- 'laws.FnOneMore': WHATEVER THE INPUT: true; the input reads as it did. -/
def fnOneMoreSpec : ChangeSpec := { name := "fnOneMore", fn := fun _ => fun
  | [d] => { results := [.lit (.bool true)], args := [d] }
  | _ => none }
def fnOneMoreRow : OpenClaim := { program := "ytopnfbnfmaghaaa", sum := "c7e583071a2acf98c04baba92325f903b3a61ddd2f35c884aab0cfd39d563e48", func := "loop.example/g00358/laws.FnOneMore", spec := "fnOneMore", apart := false }
def FnOneMoreSaid : Prop := fnOneMoreRow.holds Try.pinned (OpenSpec.ofChange fnOneMoreSpec)

/-- ITS FALSE NEIGHBOUR: 'it returns false'. Refute it at one input. -/
def fnOneMoreWrong : ChangeSpec := { name := "fnOneMore", fn := fun _ => fun
  | [d] => { results := [.lit (.bool false)], args := [d] }
  | _ => none }
def FnOneMoreWrongFalsely : Prop := fnOneMoreRow.holds Try.pinned (OpenSpec.ofChange fnOneMoreWrong)

/-- 'laws.FnExactWalStep': WHATEVER THE INPUT: true; the input reads as it did. -/
def fnExactWalStepSpec : ChangeSpec := { name := "fnExactWalStep", fn := fun _ => fun
  | [d1, d2] => { results := [.lit (.bool true)], args := [d1, d2] }
  | _ => none }
def fnExactWalStepRow : OpenClaim := { program := "ytopnfbnfmaghaaa", sum := "c7e583071a2acf98c04baba92325f903b3a61ddd2f35c884aab0cfd39d563e48", func := "loop.example/g00358/laws.FnExactWalStep", spec := "fnExactWalStep", apart := false }
def FnExactWalStepSaid : Prop := fnExactWalStepRow.holds Try.pinned (OpenSpec.ofChange fnExactWalStepSpec)

/-- ITS FALSE NEIGHBOUR: 'it returns false'. Refute it at one input. -/
def fnExactWalStepWrong : ChangeSpec := { name := "fnExactWalStep", fn := fun _ => fun
  | [d1, d2] => { results := [.lit (.bool false)], args := [d1, d2] }
  | _ => none }
def FnExactWalStepWrongFalsely : Prop := fnExactWalStepRow.holds Try.pinned (OpenSpec.ofChange fnExactWalStepWrong)

/-- 'laws.FnMerges': WHATEVER THE INPUT: true; the input reads as it did. -/
def fnMergesSpec : ChangeSpec := { name := "fnMerges", fn := fun _ => fun
  | [d] => { results := [.lit (.bool true)], args := [d] }
  | _ => none }
def fnMergesRow : OpenClaim := { program := "ytopnfbnfmaghaaa", sum := "c7e583071a2acf98c04baba92325f903b3a61ddd2f35c884aab0cfd39d563e48", func := "loop.example/g00358/laws.FnMerges", spec := "fnMerges", apart := false }
def FnMergesSaid : Prop := fnMergesRow.holds Try.pinned (OpenSpec.ofChange fnMergesSpec)

/-- ITS FALSE NEIGHBOUR: 'it returns false'. Refute it at one input. -/
def fnMergesWrong : ChangeSpec := { name := "fnMerges", fn := fun _ => fun
  | [d] => { results := [.lit (.bool false)], args := [d] }
  | _ => none }
def FnMergesWrongFalsely : Prop := fnMergesRow.holds Try.pinned (OpenSpec.ofChange fnMergesWrong)

/-- 'laws.FnEncodeBack': WHATEVER THE INPUT: true; the input reads as it did. -/
def fnEncodeBackSpec : ChangeSpec := { name := "fnEncodeBack", fn := fun _ => fun
  | [d] => { results := [.lit (.bool true)], args := [d] }
  | _ => none }
def fnEncodeBackRow : OpenClaim := { program := "ytopnfbnfmaghaaa", sum := "c7e583071a2acf98c04baba92325f903b3a61ddd2f35c884aab0cfd39d563e48", func := "loop.example/g00358/laws.FnEncodeBack", spec := "fnEncodeBack", apart := false }
def FnEncodeBackSaid : Prop := fnEncodeBackRow.holds Try.pinned (OpenSpec.ofChange fnEncodeBackSpec)

/-- ITS FALSE NEIGHBOUR: 'it returns false'. Refute it at one input. -/
def fnEncodeBackWrong : ChangeSpec := { name := "fnEncodeBack", fn := fun _ => fun
  | [d] => { results := [.lit (.bool false)], args := [d] }
  | _ => none }
def FnEncodeBackWrongFalsely : Prop := fnEncodeBackRow.holds Try.pinned (OpenSpec.ofChange fnEncodeBackWrong)

/-- 'laws.FnCut': WHATEVER THE INPUT: true; the input reads as it did. -/
def fnCutSpec : ChangeSpec := { name := "fnCut", fn := fun _ => fun
  | [d] => { results := [.lit (.bool true)], args := [d] }
  | _ => none }
def fnCutRow : OpenClaim := { program := "ytopnfbnfmaghaaa", sum := "c7e583071a2acf98c04baba92325f903b3a61ddd2f35c884aab0cfd39d563e48", func := "loop.example/g00358/laws.FnCut", spec := "fnCut", apart := false }
def FnCutSaid : Prop := fnCutRow.holds Try.pinned (OpenSpec.ofChange fnCutSpec)

/-- ITS FALSE NEIGHBOUR: 'it returns false'. Refute it at one input. -/
def fnCutWrong : ChangeSpec := { name := "fnCut", fn := fun _ => fun
  | [d] => { results := [.lit (.bool false)], args := [d] }
  | _ => none }
def FnCutWrongFalsely : Prop := fnCutRow.holds Try.pinned (OpenSpec.ofChange fnCutWrong)

/-- 'laws.FnLatest': WHATEVER THE INPUT: true; the input reads as it did. -/
def fnLatestSpec : ChangeSpec := { name := "fnLatest", fn := fun _ => fun
  | [d] => { results := [.lit (.bool true)], args := [d] }
  | _ => none }
def fnLatestRow : OpenClaim := { program := "ytopnfbnfmaghaaa", sum := "c7e583071a2acf98c04baba92325f903b3a61ddd2f35c884aab0cfd39d563e48", func := "loop.example/g00358/laws.FnLatest", spec := "fnLatest", unfollowed := true, recurses := true, apart := false }
def FnLatestSaid : Prop := fnLatestRow.holds Try.pinned (OpenSpec.ofChange fnLatestSpec)

/-- ITS FALSE NEIGHBOUR: 'it returns false'. Refute it at one input. -/
def fnLatestWrong : ChangeSpec := { name := "fnLatest", fn := fun _ => fun
  | [d] => { results := [.lit (.bool false)], args := [d] }
  | _ => none }
def FnLatestWrongFalsely : Prop := fnLatestRow.holds Try.pinned (OpenSpec.ofChange fnLatestWrong)

/-- 'laws.FnExactChanges': WHATEVER THE INPUT: true; the input reads as it did. -/
def fnExactChangesSpec : ChangeSpec := { name := "fnExactChanges", fn := fun _ => fun
  | [d1, d2] => { results := [.lit (.bool true)], args := [d1, d2] }
  | _ => none }
def fnExactChangesRow : OpenClaim := { program := "ytopnfbnfmaghaaa", sum := "c7e583071a2acf98c04baba92325f903b3a61ddd2f35c884aab0cfd39d563e48", func := "loop.example/g00358/laws.FnExactChanges", spec := "fnExactChanges", apart := false }
def FnExactChangesSaid : Prop := fnExactChangesRow.holds Try.pinned (OpenSpec.ofChange fnExactChangesSpec)

/-- ITS FALSE NEIGHBOUR: 'it returns false'. Refute it at one input. -/
def fnExactChangesWrong : ChangeSpec := { name := "fnExactChanges", fn := fun _ => fun
  | [d1, d2] => { results := [.lit (.bool false)], args := [d1, d2] }
  | _ => none }
def FnExactChangesWrongFalsely : Prop := fnExactChangesRow.holds Try.pinned (OpenSpec.ofChange fnExactChangesWrong)

/- THE SECOND FORM. 'bulk': how many values and letters a reading holds, each counted each time it is reached (what is shared counts as often as it is met; a slice's spare places count too). A statement '..UptoSaid' is the law's where the arguments, and the package variables that the reading takes, are together of bulk at most 1048576: NARROWER than '..Said'. Prove '..Said' where nothing that the law and all that it calls make is longer than what came in: it says more and counts as full. Else prove '..UptoSaid'. A law counts once. -/
mutual
def uptoBulk {H : Type} : DataW H → Nat
  | .lit (.string bytes) => bytes.length + 1
  | .lit _ => 1
  | .nil => 1
  | .ptr d => uptoBulk d + 1
  | .slice elems spare => uptoBulkAll elems + uptoBulkAll spare + 1
  | .agg parts => uptoBulkAll parts + 1
  | .iface _ d => uptoBulk d + 1
  | .map entries => uptoBulkEntries entries + 1
  | .held _ => 1
def uptoBulkAll {H : Type} : List (DataW H) → Nat
  | [] => 0
  | d :: r => uptoBulk d + uptoBulkAll r
def uptoBulkEntries {H : Type} : List (Lit × DataW H) → Nat
  | [] => 0
  | x :: r => uptoBulkEntry x + uptoBulkEntries r
def uptoBulkEntry {H : Type} : Lit × DataW H → Nat
  | (.string bytes, d) => bytes.length + uptoBulk d + 1
  | (_, d) => uptoBulk d + 1
 end
def uptoSmall : (H : Type) → List (DataW H) → Bool := fun _ ds => decide (uptoBulkAll ds ≤ 1048576)
def OpenSpec.upto (s : _root_.Go.ChangeSpec) : _root_.Go.OpenSpec := { _root_.Go.OpenSpec.ofChange s with cond := some uptoSmall }

/-- 'laws.FnNaive', WHERE WHAT IT READS IS OF BULK AT MOST 1048576: true; the input reads as it did. -/
def fnNaiveUptoRow : OpenClaim := { program := "ytopnfbnfmaghaaa", sum := "c7e583071a2acf98c04baba92325f903b3a61ddd2f35c884aab0cfd39d563e48", func := "loop.example/g00358/laws.FnNaive", spec := "fnNaive", apart := false, narrowed := true }
def FnNaiveUptoSaid : Prop := fnNaiveUptoRow.holds Try.pinned (OpenSpec.upto fnNaiveSpec)

/-- 'laws.FnExactNewMemo', WHERE WHAT IT READS IS OF BULK AT MOST 1048576: true; the input reads as it did. -/
def fnExactNewMemoUptoRow : OpenClaim := { program := "ytopnfbnfmaghaaa", sum := "c7e583071a2acf98c04baba92325f903b3a61ddd2f35c884aab0cfd39d563e48", func := "loop.example/g00358/laws.FnExactNewMemo", spec := "fnExactNewMemo", apart := false, narrowed := true }
def FnExactNewMemoUptoSaid : Prop := fnExactNewMemoUptoRow.holds Try.pinned (OpenSpec.upto fnExactNewMemoSpec)

/-- 'laws.FnExactReadRec', WHERE WHAT IT READS IS OF BULK AT MOST 1048576: true; the input reads as it did. -/
def fnExactReadRecUptoRow : OpenClaim := { program := "ytopnfbnfmaghaaa", sum := "c7e583071a2acf98c04baba92325f903b3a61ddd2f35c884aab0cfd39d563e48", func := "loop.example/g00358/laws.FnExactReadRec", spec := "fnExactReadRec", apart := false, narrowed := true }
def FnExactReadRecUptoSaid : Prop := fnExactReadRecUptoRow.holds Try.pinned (OpenSpec.upto fnExactReadRecSpec)

/-- 'laws.FnExactReadCanon', WHERE WHAT IT READS IS OF BULK AT MOST 1048576: true; the input reads as it did. -/
def fnExactReadCanonUptoRow : OpenClaim := { program := "ytopnfbnfmaghaaa", sum := "c7e583071a2acf98c04baba92325f903b3a61ddd2f35c884aab0cfd39d563e48", func := "loop.example/g00358/laws.FnExactReadCanon", spec := "fnExactReadCanon", apart := false, narrowed := true }
def FnExactReadCanonUptoSaid : Prop := fnExactReadCanonUptoRow.holds Try.pinned (OpenSpec.upto fnExactReadCanonSpec)

/-- 'laws.FnOneMore', WHERE WHAT IT READS IS OF BULK AT MOST 1048576: true; the input reads as it did. -/
def fnOneMoreUptoRow : OpenClaim := { program := "ytopnfbnfmaghaaa", sum := "c7e583071a2acf98c04baba92325f903b3a61ddd2f35c884aab0cfd39d563e48", func := "loop.example/g00358/laws.FnOneMore", spec := "fnOneMore", apart := false, narrowed := true }
def FnOneMoreUptoSaid : Prop := fnOneMoreUptoRow.holds Try.pinned (OpenSpec.upto fnOneMoreSpec)

/-- 'laws.FnExactWalStep', WHERE WHAT IT READS IS OF BULK AT MOST 1048576: true; the input reads as it did. -/
def fnExactWalStepUptoRow : OpenClaim := { program := "ytopnfbnfmaghaaa", sum := "c7e583071a2acf98c04baba92325f903b3a61ddd2f35c884aab0cfd39d563e48", func := "loop.example/g00358/laws.FnExactWalStep", spec := "fnExactWalStep", apart := false, narrowed := true }
def FnExactWalStepUptoSaid : Prop := fnExactWalStepUptoRow.holds Try.pinned (OpenSpec.upto fnExactWalStepSpec)

/-- 'laws.FnMerges', WHERE WHAT IT READS IS OF BULK AT MOST 1048576: true; the input reads as it did. -/
def fnMergesUptoRow : OpenClaim := { program := "ytopnfbnfmaghaaa", sum := "c7e583071a2acf98c04baba92325f903b3a61ddd2f35c884aab0cfd39d563e48", func := "loop.example/g00358/laws.FnMerges", spec := "fnMerges", apart := false, narrowed := true }
def FnMergesUptoSaid : Prop := fnMergesUptoRow.holds Try.pinned (OpenSpec.upto fnMergesSpec)

/-- 'laws.FnEncodeBack', WHERE WHAT IT READS IS OF BULK AT MOST 1048576: true; the input reads as it did. -/
def fnEncodeBackUptoRow : OpenClaim := { program := "ytopnfbnfmaghaaa", sum := "c7e583071a2acf98c04baba92325f903b3a61ddd2f35c884aab0cfd39d563e48", func := "loop.example/g00358/laws.FnEncodeBack", spec := "fnEncodeBack", apart := false, narrowed := true }
def FnEncodeBackUptoSaid : Prop := fnEncodeBackUptoRow.holds Try.pinned (OpenSpec.upto fnEncodeBackSpec)

/-- 'laws.FnCut', WHERE WHAT IT READS IS OF BULK AT MOST 1048576: true; the input reads as it did. -/
def fnCutUptoRow : OpenClaim := { program := "ytopnfbnfmaghaaa", sum := "c7e583071a2acf98c04baba92325f903b3a61ddd2f35c884aab0cfd39d563e48", func := "loop.example/g00358/laws.FnCut", spec := "fnCut", apart := false, narrowed := true }
def FnCutUptoSaid : Prop := fnCutUptoRow.holds Try.pinned (OpenSpec.upto fnCutSpec)

/-- 'laws.FnLatest', WHERE WHAT IT READS IS OF BULK AT MOST 1048576: true; the input reads as it did. -/
def fnLatestUptoRow : OpenClaim := { program := "ytopnfbnfmaghaaa", sum := "c7e583071a2acf98c04baba92325f903b3a61ddd2f35c884aab0cfd39d563e48", func := "loop.example/g00358/laws.FnLatest", spec := "fnLatest", unfollowed := true, recurses := true, apart := false, narrowed := true }
def FnLatestUptoSaid : Prop := fnLatestUptoRow.holds Try.pinned (OpenSpec.upto fnLatestSpec)

/-- 'laws.FnExactChanges', WHERE WHAT IT READS IS OF BULK AT MOST 1048576: true; the input reads as it did. -/
def fnExactChangesUptoRow : OpenClaim := { program := "ytopnfbnfmaghaaa", sum := "c7e583071a2acf98c04baba92325f903b3a61ddd2f35c884aab0cfd39d563e48", func := "loop.example/g00358/laws.FnExactChanges", spec := "fnExactChanges", apart := false, narrowed := true }
def FnExactChangesUptoSaid : Prop := fnExactChangesUptoRow.holds Try.pinned (OpenSpec.upto fnExactChangesSpec)

end Rows
end Go.Proofs.Ytopnfbnfmaghaaa
