/-
  No cell of these rows narrows 'for every input' (looked for: loops, veiled, ifaces, maps, wideKeys, modest, calm, conditions, laid).
  DERIVED. THE GIVEN ROWS OF THIS SEAT. 11 by the template 'for every input the law returns true; each argument reads behind the call as it read before'; 0 by the template 'total and deterministic' (their statements: YtbebnkamepcabaaTotals.lean).
  GIVEN WITH THE SEED: the statements are not yours to turn. If you find one false, say at which input.
  Laid BY PROGRAM, IN A SANDBOX (cutbox-rows.mjs): the forced cells as the released guide's own fill.sh prints them over the translation 9d0869eac87b34b1… (all of the seat's roots in one cut). By AI agents, Wed Nov 11 2026. No macro, syntax, notation, axiom, sorry.
-/
import Derived.Test.YtbebnkamepcabaaChecked
import GoSem.Claim
import GoSem.ClaimJoined
import GoSem.ClaimMapViews
import Derived.JoinedTies
import Derived.KernelRfl
namespace Go.Proofs.Ytbebnkamepcabaa
/- THE CELL 'sum', in the pinned program and in every row, IS THE sha256 OF THE DUMP (.gsa) THAT YtbebnkamepcabaaProg.lean LOADS. Nothing in Lean hashes anything: it is a label: what it is worth is what the hold of that sum in a sandbox is worth. -/
noncomputable def Try.pinned : Pinned := { name := "ytbebnkamepcabaa", sum := "9d0869eac87b34b19ca2eba3134a11d56b463d50359177eb1efadf387325f520", checked := Try.checked }
namespace Rows
def none {H : Type} : Left H := { results := [], args := [] }

/-- 'laws.FnExactRecOk': WHATEVER THE INPUT: true; the input reads as it did. -/
def fnExactRecOkSpec : ChangeSpec := { name := "fnExactRecOk", fn := fun _ => fun
  | [d] => { results := [.lit (.bool true)], args := [d] }
  | _ => none }
def fnExactRecOkRow : OpenClaim := { program := "ytbebnkamepcabaa", sum := "9d0869eac87b34b19ca2eba3134a11d56b463d50359177eb1efadf387325f520", func := "loop.example/g00358/laws.FnExactRecOk", spec := "fnExactRecOk", apart := false }
def FnExactRecOkSaid : Prop := fnExactRecOkRow.holds Try.pinned (OpenSpec.ofChange fnExactRecOkSpec)

/-- ITS FALSE NEIGHBOUR: 'it returns false'. Refute it at one input. -/
def fnExactRecOkWrong : ChangeSpec := { name := "fnExactRecOk", fn := fun _ => fun
  | [d] => { results := [.lit (.bool false)], args := [d] }
  | _ => none }
def FnExactRecOkWrongFalsely : Prop := fnExactRecOkRow.holds Try.pinned (OpenSpec.ofChange fnExactRecOkWrong)

/-- 'laws.FnExactFrame': WHATEVER THE INPUT: true; the input reads as it did. -/
def fnExactFrameSpec : ChangeSpec := { name := "fnExactFrame", fn := fun _ => fun
  | [d] => { results := [.lit (.bool true)], args := [d] }
  | _ => none }
def fnExactFrameRow : OpenClaim := { program := "ytbebnkamepcabaa", sum := "9d0869eac87b34b19ca2eba3134a11d56b463d50359177eb1efadf387325f520", func := "loop.example/g00358/laws.FnExactFrame", spec := "fnExactFrame", apart := false }
def FnExactFrameSaid : Prop := fnExactFrameRow.holds Try.pinned (OpenSpec.ofChange fnExactFrameSpec)

/-- ITS FALSE NEIGHBOUR: 'it returns false'. Refute it at one input. -/
def fnExactFrameWrong : ChangeSpec := { name := "fnExactFrame", fn := fun _ => fun
  | [d] => { results := [.lit (.bool false)], args := [d] }
  | _ => none }
def FnExactFrameWrongFalsely : Prop := fnExactFrameRow.holds Try.pinned (OpenSpec.ofChange fnExactFrameWrong)

/-- 'laws.FnExactReadDec': WHATEVER THE INPUT: true; the input reads as it did. -/
def fnExactReadDecSpec : ChangeSpec := { name := "fnExactReadDec", fn := fun _ => fun
  | [d] => { results := [.lit (.bool true)], args := [d] }
  | _ => none }
def fnExactReadDecRow : OpenClaim := { program := "ytbebnkamepcabaa", sum := "9d0869eac87b34b19ca2eba3134a11d56b463d50359177eb1efadf387325f520", func := "loop.example/g00358/laws.FnExactReadDec", spec := "fnExactReadDec", apart := false }
def FnExactReadDecSaid : Prop := fnExactReadDecRow.holds Try.pinned (OpenSpec.ofChange fnExactReadDecSpec)

/-- ITS FALSE NEIGHBOUR: 'it returns false'. Refute it at one input. -/
def fnExactReadDecWrong : ChangeSpec := { name := "fnExactReadDec", fn := fun _ => fun
  | [d] => { results := [.lit (.bool false)], args := [d] }
  | _ => none }
def FnExactReadDecWrongFalsely : Prop := fnExactReadDecRow.holds Try.pinned (OpenSpec.ofChange fnExactReadDecWrong)

/-- 'laws.FnExactShowRec': WHATEVER THE INPUT: true; the input reads as it did. -/
def fnExactShowRecSpec : ChangeSpec := { name := "fnExactShowRec", fn := fun _ => fun
  | [d] => { results := [.lit (.bool true)], args := [d] }
  | _ => none }
def fnExactShowRecRow : OpenClaim := { program := "ytbebnkamepcabaa", sum := "9d0869eac87b34b19ca2eba3134a11d56b463d50359177eb1efadf387325f520", func := "loop.example/g00358/laws.FnExactShowRec", spec := "fnExactShowRec", apart := false }
def FnExactShowRecSaid : Prop := fnExactShowRecRow.holds Try.pinned (OpenSpec.ofChange fnExactShowRecSpec)

/-- ITS FALSE NEIGHBOUR: 'it returns false'. Refute it at one input. -/
def fnExactShowRecWrong : ChangeSpec := { name := "fnExactShowRec", fn := fun _ => fun
  | [d] => { results := [.lit (.bool false)], args := [d] }
  | _ => none }
def FnExactShowRecWrongFalsely : Prop := fnExactShowRecRow.holds Try.pinned (OpenSpec.ofChange fnExactShowRecWrong)

/-- 'laws.FnExactNewMemo': WHATEVER THE INPUT: true; the input reads as it did. -/
def fnExactNewMemoSpec : ChangeSpec := { name := "fnExactNewMemo", fn := fun _ => fun
  | [d] => { results := [.lit (.bool true)], args := [d] }
  | _ => none }
def fnExactNewMemoRow : OpenClaim := { program := "ytbebnkamepcabaa", sum := "9d0869eac87b34b19ca2eba3134a11d56b463d50359177eb1efadf387325f520", func := "loop.example/g00358/laws.FnExactNewMemo", spec := "fnExactNewMemo", apart := false }
def FnExactNewMemoSaid : Prop := fnExactNewMemoRow.holds Try.pinned (OpenSpec.ofChange fnExactNewMemoSpec)

/-- ITS FALSE NEIGHBOUR: 'it returns false'. Refute it at one input. -/
def fnExactNewMemoWrong : ChangeSpec := { name := "fnExactNewMemo", fn := fun _ => fun
  | [d] => { results := [.lit (.bool false)], args := [d] }
  | _ => none }
def FnExactNewMemoWrongFalsely : Prop := fnExactNewMemoRow.holds Try.pinned (OpenSpec.ofChange fnExactNewMemoWrong)

/-- 'laws.FnExactUnframe': WHATEVER THE INPUT: true; the input reads as it did. -/
def fnExactUnframeSpec : ChangeSpec := { name := "fnExactUnframe", fn := fun _ => fun
  | [d] => { results := [.lit (.bool true)], args := [d] }
  | _ => none }
def fnExactUnframeRow : OpenClaim := { program := "ytbebnkamepcabaa", sum := "9d0869eac87b34b19ca2eba3134a11d56b463d50359177eb1efadf387325f520", func := "loop.example/g00358/laws.FnExactUnframe", spec := "fnExactUnframe", apart := false }
def FnExactUnframeSaid : Prop := fnExactUnframeRow.holds Try.pinned (OpenSpec.ofChange fnExactUnframeSpec)

/-- ITS FALSE NEIGHBOUR: 'it returns false'. Refute it at one input. -/
def fnExactUnframeWrong : ChangeSpec := { name := "fnExactUnframe", fn := fun _ => fun
  | [d] => { results := [.lit (.bool false)], args := [d] }
  | _ => none }
def FnExactUnframeWrongFalsely : Prop := fnExactUnframeRow.holds Try.pinned (OpenSpec.ofChange fnExactUnframeWrong)

/-- 'laws.FnExactWalOk': WHATEVER THE INPUT: true; the input reads as it did. -/
def fnExactWalOkSpec : ChangeSpec := { name := "fnExactWalOk", fn := fun _ => fun
  | [d] => { results := [.lit (.bool true)], args := [d] }
  | _ => none }
def fnExactWalOkRow : OpenClaim := { program := "ytbebnkamepcabaa", sum := "9d0869eac87b34b19ca2eba3134a11d56b463d50359177eb1efadf387325f520", func := "loop.example/g00358/laws.FnExactWalOk", spec := "fnExactWalOk", apart := false }
def FnExactWalOkSaid : Prop := fnExactWalOkRow.holds Try.pinned (OpenSpec.ofChange fnExactWalOkSpec)

/-- ITS FALSE NEIGHBOUR: 'it returns false'. Refute it at one input. -/
def fnExactWalOkWrong : ChangeSpec := { name := "fnExactWalOk", fn := fun _ => fun
  | [d] => { results := [.lit (.bool false)], args := [d] }
  | _ => none }
def FnExactWalOkWrongFalsely : Prop := fnExactWalOkRow.holds Try.pinned (OpenSpec.ofChange fnExactWalOkWrong)

/-- 'laws.FnExactVocabOk': WHATEVER THE INPUT: true; the input reads as it did. -/
def fnExactVocabOkSpec : ChangeSpec := { name := "fnExactVocabOk", fn := fun _ => fun
  | [d] => { results := [.lit (.bool true)], args := [d] }
  | _ => none }
def fnExactVocabOkRow : OpenClaim := { program := "ytbebnkamepcabaa", sum := "9d0869eac87b34b19ca2eba3134a11d56b463d50359177eb1efadf387325f520", func := "loop.example/g00358/laws.FnExactVocabOk", spec := "fnExactVocabOk", apart := false }
def FnExactVocabOkSaid : Prop := fnExactVocabOkRow.holds Try.pinned (OpenSpec.ofChange fnExactVocabOkSpec)

/-- ITS FALSE NEIGHBOUR: 'it returns false'. Refute it at one input. -/
def fnExactVocabOkWrong : ChangeSpec := { name := "fnExactVocabOk", fn := fun _ => fun
  | [d] => { results := [.lit (.bool false)], args := [d] }
  | _ => none }
def FnExactVocabOkWrongFalsely : Prop := fnExactVocabOkRow.holds Try.pinned (OpenSpec.ofChange fnExactVocabOkWrong)

/-- 'laws.FnFrames': WHATEVER THE INPUT: true; the input reads as it did. -/
def fnFramesSpec : ChangeSpec := { name := "fnFrames", fn := fun _ => fun
  | [d] => { results := [.lit (.bool true)], args := [d] }
  | _ => none }
def fnFramesRow : OpenClaim := { program := "ytbebnkamepcabaa", sum := "9d0869eac87b34b19ca2eba3134a11d56b463d50359177eb1efadf387325f520", func := "loop.example/g00358/laws.FnFrames", spec := "fnFrames", apart := false }
def FnFramesSaid : Prop := fnFramesRow.holds Try.pinned (OpenSpec.ofChange fnFramesSpec)

/-- ITS FALSE NEIGHBOUR: 'it returns false'. Refute it at one input. -/
def fnFramesWrong : ChangeSpec := { name := "fnFrames", fn := fun _ => fun
  | [d] => { results := [.lit (.bool false)], args := [d] }
  | _ => none }
def FnFramesWrongFalsely : Prop := fnFramesRow.holds Try.pinned (OpenSpec.ofChange fnFramesWrong)

/-- 'laws.FnExactToken': WHATEVER THE INPUT: true; the input reads as it did. -/
def fnExactTokenSpec : ChangeSpec := { name := "fnExactToken", fn := fun _ => fun
  | [d1, d2] => { results := [.lit (.bool true)], args := [d1, d2] }
  | _ => none }
def fnExactTokenRow : OpenClaim := { program := "ytbebnkamepcabaa", sum := "9d0869eac87b34b19ca2eba3134a11d56b463d50359177eb1efadf387325f520", func := "loop.example/g00358/laws.FnExactToken", spec := "fnExactToken", apart := false }
def FnExactTokenSaid : Prop := fnExactTokenRow.holds Try.pinned (OpenSpec.ofChange fnExactTokenSpec)

/-- ITS FALSE NEIGHBOUR: 'it returns false'. Refute it at one input. -/
def fnExactTokenWrong : ChangeSpec := { name := "fnExactToken", fn := fun _ => fun
  | [d1, d2] => { results := [.lit (.bool false)], args := [d1, d2] }
  | _ => none }
def FnExactTokenWrongFalsely : Prop := fnExactTokenRow.holds Try.pinned (OpenSpec.ofChange fnExactTokenWrong)

/-- 'laws.FnExactCut': WHATEVER THE INPUT: true; the input reads as it did. -/
def fnExactCutSpec : ChangeSpec := { name := "fnExactCut", fn := fun _ => fun
  | [d] => { results := [.lit (.bool true)], args := [d] }
  | _ => none }
def fnExactCutRow : OpenClaim := { program := "ytbebnkamepcabaa", sum := "9d0869eac87b34b19ca2eba3134a11d56b463d50359177eb1efadf387325f520", func := "loop.example/g00358/laws.FnExactCut", spec := "fnExactCut", apart := false }
def FnExactCutSaid : Prop := fnExactCutRow.holds Try.pinned (OpenSpec.ofChange fnExactCutSpec)

/-- ITS FALSE NEIGHBOUR: 'it returns false'. Refute it at one input. -/
def fnExactCutWrong : ChangeSpec := { name := "fnExactCut", fn := fun _ => fun
  | [d] => { results := [.lit (.bool false)], args := [d] }
  | _ => none }
def FnExactCutWrongFalsely : Prop := fnExactCutRow.holds Try.pinned (OpenSpec.ofChange fnExactCutWrong)

/- THE SECOND FORM. 'bulk': how many values and letters a reading holds, each counted each time it is reached (what is shared counts as often as it is met; a slice's spare places count too). A statement '..UptoSaid' is the law's where the arguments, and the package variables that the reading takes, are together of bulk at most 1048576: NARROWER than '..Said'. Prove '..Said' where nothing that the law and all that it calls make is longer than what came in: it says more and counts as full. Else prove '..UptoSaid'. A law counts once. -/
mutual
def uptoBulk {H : Type} : DataW H → Nat
  | .lit (.string bytes) => bytes.length + 1
  | .lit _ => 1
  | .nil => 1
  | .ptr d => uptoBulk d + 1
  | .slice elems spare => uptoBulkAll elems + uptoBulkAll spare + 1
  | .agg parts => uptoBulkAll parts + 1
  | .iface _ d => uptoBulk d + 1
  | .map entries => uptoBulkEntries entries + 1
  | .held _ => 1
def uptoBulkAll {H : Type} : List (DataW H) → Nat
  | [] => 0
  | d :: r => uptoBulk d + uptoBulkAll r
def uptoBulkEntries {H : Type} : List (Lit × DataW H) → Nat
  | [] => 0
  | x :: r => uptoBulkEntry x + uptoBulkEntries r
def uptoBulkEntry {H : Type} : Lit × DataW H → Nat
  | (.string bytes, d) => bytes.length + uptoBulk d + 1
  | (_, d) => uptoBulk d + 1
 end
def uptoSmall : (H : Type) → List (DataW H) → Bool := fun _ ds => decide (uptoBulkAll ds ≤ 1048576)
def OpenSpec.upto (s : _root_.Go.ChangeSpec) : _root_.Go.OpenSpec := { _root_.Go.OpenSpec.ofChange s with cond := some uptoSmall }

/-- 'laws.FnExactRecOk', WHERE WHAT IT READS IS OF BULK AT MOST 1048576: true; the input reads as it did. -/
def fnExactRecOkUptoRow : OpenClaim := { program := "ytbebnkamepcabaa", sum := "9d0869eac87b34b19ca2eba3134a11d56b463d50359177eb1efadf387325f520", func := "loop.example/g00358/laws.FnExactRecOk", spec := "fnExactRecOk", apart := false, narrowed := true }
def FnExactRecOkUptoSaid : Prop := fnExactRecOkUptoRow.holds Try.pinned (OpenSpec.upto fnExactRecOkSpec)

/-- 'laws.FnExactFrame', WHERE WHAT IT READS IS OF BULK AT MOST 1048576: true; the input reads as it did. -/
def fnExactFrameUptoRow : OpenClaim := { program := "ytbebnkamepcabaa", sum := "9d0869eac87b34b19ca2eba3134a11d56b463d50359177eb1efadf387325f520", func := "loop.example/g00358/laws.FnExactFrame", spec := "fnExactFrame", apart := false, narrowed := true }
def FnExactFrameUptoSaid : Prop := fnExactFrameUptoRow.holds Try.pinned (OpenSpec.upto fnExactFrameSpec)

/-- 'laws.FnExactReadDec', WHERE WHAT IT READS IS OF BULK AT MOST 1048576: true; the input reads as it did. -/
def fnExactReadDecUptoRow : OpenClaim := { program := "ytbebnkamepcabaa", sum := "9d0869eac87b34b19ca2eba3134a11d56b463d50359177eb1efadf387325f520", func := "loop.example/g00358/laws.FnExactReadDec", spec := "fnExactReadDec", apart := false, narrowed := true }
def FnExactReadDecUptoSaid : Prop := fnExactReadDecUptoRow.holds Try.pinned (OpenSpec.upto fnExactReadDecSpec)

/-- 'laws.FnExactShowRec', WHERE WHAT IT READS IS OF BULK AT MOST 1048576: true; the input reads as it did. -/
def fnExactShowRecUptoRow : OpenClaim := { program := "ytbebnkamepcabaa", sum := "9d0869eac87b34b19ca2eba3134a11d56b463d50359177eb1efadf387325f520", func := "loop.example/g00358/laws.FnExactShowRec", spec := "fnExactShowRec", apart := false, narrowed := true }
def FnExactShowRecUptoSaid : Prop := fnExactShowRecUptoRow.holds Try.pinned (OpenSpec.upto fnExactShowRecSpec)

/-- 'laws.FnExactNewMemo', WHERE WHAT IT READS IS OF BULK AT MOST 1048576: true; the input reads as it did. -/
def fnExactNewMemoUptoRow : OpenClaim := { program := "ytbebnkamepcabaa", sum := "9d0869eac87b34b19ca2eba3134a11d56b463d50359177eb1efadf387325f520", func := "loop.example/g00358/laws.FnExactNewMemo", spec := "fnExactNewMemo", apart := false, narrowed := true }
def FnExactNewMemoUptoSaid : Prop := fnExactNewMemoUptoRow.holds Try.pinned (OpenSpec.upto fnExactNewMemoSpec)

/-- 'laws.FnExactUnframe', WHERE WHAT IT READS IS OF BULK AT MOST 1048576: true; the input reads as it did. -/
def fnExactUnframeUptoRow : OpenClaim := { program := "ytbebnkamepcabaa", sum := "9d0869eac87b34b19ca2eba3134a11d56b463d50359177eb1efadf387325f520", func := "loop.example/g00358/laws.FnExactUnframe", spec := "fnExactUnframe", apart := false, narrowed := true }
def FnExactUnframeUptoSaid : Prop := fnExactUnframeUptoRow.holds Try.pinned (OpenSpec.upto fnExactUnframeSpec)

/-- 'laws.FnExactWalOk', WHERE WHAT IT READS IS OF BULK AT MOST 1048576: true; the input reads as it did. -/
def fnExactWalOkUptoRow : OpenClaim := { program := "ytbebnkamepcabaa", sum := "9d0869eac87b34b19ca2eba3134a11d56b463d50359177eb1efadf387325f520", func := "loop.example/g00358/laws.FnExactWalOk", spec := "fnExactWalOk", apart := false, narrowed := true }
def FnExactWalOkUptoSaid : Prop := fnExactWalOkUptoRow.holds Try.pinned (OpenSpec.upto fnExactWalOkSpec)

/-- 'laws.FnExactVocabOk', WHERE WHAT IT READS IS OF BULK AT MOST 1048576: true; the input reads as it did. -/
def fnExactVocabOkUptoRow : OpenClaim := { program := "ytbebnkamepcabaa", sum := "9d0869eac87b34b19ca2eba3134a11d56b463d50359177eb1efadf387325f520", func := "loop.example/g00358/laws.FnExactVocabOk", spec := "fnExactVocabOk", apart := false, narrowed := true }
def FnExactVocabOkUptoSaid : Prop := fnExactVocabOkUptoRow.holds Try.pinned (OpenSpec.upto fnExactVocabOkSpec)

/-- 'laws.FnFrames', WHERE WHAT IT READS IS OF BULK AT MOST 1048576: true; the input reads as it did. -/
def fnFramesUptoRow : OpenClaim := { program := "ytbebnkamepcabaa", sum := "9d0869eac87b34b19ca2eba3134a11d56b463d50359177eb1efadf387325f520", func := "loop.example/g00358/laws.FnFrames", spec := "fnFrames", apart := false, narrowed := true }
def FnFramesUptoSaid : Prop := fnFramesUptoRow.holds Try.pinned (OpenSpec.upto fnFramesSpec)

/-- 'laws.FnExactToken', WHERE WHAT IT READS IS OF BULK AT MOST 1048576: true; the input reads as it did. -/
def fnExactTokenUptoRow : OpenClaim := { program := "ytbebnkamepcabaa", sum := "9d0869eac87b34b19ca2eba3134a11d56b463d50359177eb1efadf387325f520", func := "loop.example/g00358/laws.FnExactToken", spec := "fnExactToken", apart := false, narrowed := true }
def FnExactTokenUptoSaid : Prop := fnExactTokenUptoRow.holds Try.pinned (OpenSpec.upto fnExactTokenSpec)

/-- 'laws.FnExactCut', WHERE WHAT IT READS IS OF BULK AT MOST 1048576: true; the input reads as it did. -/
def fnExactCutUptoRow : OpenClaim := { program := "ytbebnkamepcabaa", sum := "9d0869eac87b34b19ca2eba3134a11d56b463d50359177eb1efadf387325f520", func := "loop.example/g00358/laws.FnExactCut", spec := "fnExactCut", apart := false, narrowed := true }
def FnExactCutUptoSaid : Prop := fnExactCutUptoRow.holds Try.pinned (OpenSpec.upto fnExactCutSpec)

end Rows
end Go.Proofs.Ytbebnkamepcabaa
