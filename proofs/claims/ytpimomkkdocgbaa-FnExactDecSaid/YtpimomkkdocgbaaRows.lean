/-
  No cell of these rows narrows 'for every input' (looked for: loops, veiled, ifaces, maps, wideKeys, modest, calm, conditions, laid).
  DERIVED. THE GIVEN ROWS OF THIS SEAT. 12 by the template 'for every input the law returns true; each argument reads behind the call as it read before'; 0 by the template 'total and deterministic' (their statements: YtpimomkkdocgbaaTotals.lean).
  GIVEN WITH THE SEED: the statements are not yours to turn. If you find one false, say at which input.
  Laid BY PROGRAM, IN A SANDBOX (cutbox-rows.mjs): the forced cells as the released guide's own fill.sh prints them over the translation 9d1060f8baa48036… (all of the seat's roots in one cut). By AI agents, Wed Nov 11 2026. No macro, syntax, notation, axiom, sorry.
-/
import Derived.Test.YtpimomkkdocgbaaChecked
import GoSem.Claim
import GoSem.ClaimJoined
import GoSem.ClaimMapViews
import Derived.JoinedTies
import Derived.KernelRfl
namespace Go.Proofs.Ytpimomkkdocgbaa
/- THE CELL 'sum', in the pinned program and in every row, IS THE sha256 OF THE DUMP (.gsa) THAT YtpimomkkdocgbaaProg.lean LOADS. Nothing in Lean hashes anything: it is a label: what it is worth is what the hold of that sum in a sandbox is worth. -/
noncomputable def Try.pinned : Pinned := { name := "ytpimomkkdocgbaa", sum := "9d1060f8baa48036700e7f148b7b70ec23735e43bfd1c25ca73cba74cea727e6", checked := Try.checked }
namespace Rows
def none {H : Type} : Left H := { results := [], args := [] }

/-- 'laws.FnExactConstants': WHATEVER THE INPUT: true; the input reads as it did. -/
def fnExactConstantsSpec : ChangeSpec := { name := "fnExactConstants", fn := fun _ => fun
  | [] => { results := [.lit (.bool true)], args := [] }
  | _ => none }
def fnExactConstantsRow : OpenClaim := { program := "ytpimomkkdocgbaa", sum := "9d1060f8baa48036700e7f148b7b70ec23735e43bfd1c25ca73cba74cea727e6", func := "loop.example/g00358/laws.FnExactConstants", spec := "fnExactConstants", apart := false }
def FnExactConstantsSaid : Prop := fnExactConstantsRow.holds Try.pinned (OpenSpec.ofChange fnExactConstantsSpec)

/-- ITS FALSE NEIGHBOUR: 'it returns false'. Refute it at one input. -/
def fnExactConstantsWrong : ChangeSpec := { name := "fnExactConstants", fn := fun _ => fun
  | [] => { results := [.lit (.bool false)], args := [] }
  | _ => none }
def FnExactConstantsWrongFalsely : Prop := fnExactConstantsRow.holds Try.pinned (OpenSpec.ofChange fnExactConstantsWrong)

/-- 'laws.FnExactHex': WHATEVER THE INPUT: true; the input reads as it did. -/
def fnExactHexSpec : ChangeSpec := { name := "fnExactHex", fn := fun _ => fun
  | [d] => { results := [.lit (.bool true)], args := [d] }
  | _ => none }
def fnExactHexRow : OpenClaim := { program := "ytpimomkkdocgbaa", sum := "9d1060f8baa48036700e7f148b7b70ec23735e43bfd1c25ca73cba74cea727e6", func := "loop.example/g00358/laws.FnExactHex", spec := "fnExactHex", apart := false }
def FnExactHexSaid : Prop := fnExactHexRow.holds Try.pinned (OpenSpec.ofChange fnExactHexSpec)

/-- ITS FALSE NEIGHBOUR: 'it returns false'. Refute it at one input. -/
def fnExactHexWrong : ChangeSpec := { name := "fnExactHex", fn := fun _ => fun
  | [d] => { results := [.lit (.bool false)], args := [d] }
  | _ => none }
def FnExactHexWrongFalsely : Prop := fnExactHexRow.holds Try.pinned (OpenSpec.ofChange fnExactHexWrong)

/-- 'laws.FnExactReadFixed': WHATEVER THE INPUT: true; the input reads as it did. -/
def fnExactReadFixedSpec : ChangeSpec := { name := "fnExactReadFixed", fn := fun _ => fun
  | [d1, d2] => { results := [.lit (.bool true)], args := [d1, d2] }
  | _ => none }
def fnExactReadFixedRow : OpenClaim := { program := "ytpimomkkdocgbaa", sum := "9d1060f8baa48036700e7f148b7b70ec23735e43bfd1c25ca73cba74cea727e6", func := "loop.example/g00358/laws.FnExactReadFixed", spec := "fnExactReadFixed", apart := false }
def FnExactReadFixedSaid : Prop := fnExactReadFixedRow.holds Try.pinned (OpenSpec.ofChange fnExactReadFixedSpec)

/-- ITS FALSE NEIGHBOUR: 'it returns false'. Refute it at one input. -/
def fnExactReadFixedWrong : ChangeSpec := { name := "fnExactReadFixed", fn := fun _ => fun
  | [d1, d2] => { results := [.lit (.bool false)], args := [d1, d2] }
  | _ => none }
def FnExactReadFixedWrongFalsely : Prop := fnExactReadFixedRow.holds Try.pinned (OpenSpec.ofChange fnExactReadFixedWrong)

/-- 'laws.FnExactVar': WHATEVER THE INPUT: true; the input reads as it did. -/
def fnExactVarSpec : ChangeSpec := { name := "fnExactVar", fn := fun _ => fun
  | [d] => { results := [.lit (.bool true)], args := [d] }
  | _ => none }
def fnExactVarRow : OpenClaim := { program := "ytpimomkkdocgbaa", sum := "9d1060f8baa48036700e7f148b7b70ec23735e43bfd1c25ca73cba74cea727e6", func := "loop.example/g00358/laws.FnExactVar", spec := "fnExactVar", apart := false }
def FnExactVarSaid : Prop := fnExactVarRow.holds Try.pinned (OpenSpec.ofChange fnExactVarSpec)

/-- ITS FALSE NEIGHBOUR: 'it returns false'. Refute it at one input. -/
def fnExactVarWrong : ChangeSpec := { name := "fnExactVar", fn := fun _ => fun
  | [d] => { results := [.lit (.bool false)], args := [d] }
  | _ => none }
def FnExactVarWrongFalsely : Prop := fnExactVarRow.holds Try.pinned (OpenSpec.ofChange fnExactVarWrong)

/-- 'laws.FnExactSnapOk': WHATEVER THE INPUT: true; the input reads as it did. -/
def fnExactSnapOkSpec : ChangeSpec := { name := "fnExactSnapOk", fn := fun _ => fun
  | [d] => { results := [.lit (.bool true)], args := [d] }
  | _ => none }
def fnExactSnapOkRow : OpenClaim := { program := "ytpimomkkdocgbaa", sum := "9d1060f8baa48036700e7f148b7b70ec23735e43bfd1c25ca73cba74cea727e6", func := "loop.example/g00358/laws.FnExactSnapOk", spec := "fnExactSnapOk", apart := false }
def FnExactSnapOkSaid : Prop := fnExactSnapOkRow.holds Try.pinned (OpenSpec.ofChange fnExactSnapOkSpec)

/-- ITS FALSE NEIGHBOUR: 'it returns false'. Refute it at one input. -/
def fnExactSnapOkWrong : ChangeSpec := { name := "fnExactSnapOk", fn := fun _ => fun
  | [d] => { results := [.lit (.bool false)], args := [d] }
  | _ => none }
def FnExactSnapOkWrongFalsely : Prop := fnExactSnapOkRow.holds Try.pinned (OpenSpec.ofChange fnExactSnapOkWrong)

/-- 'laws.FnExactFixed': WHATEVER THE INPUT: true; the input reads as it did. -/
def fnExactFixedSpec : ChangeSpec := { name := "fnExactFixed", fn := fun _ => fun
  | [d1, d2] => { results := [.lit (.bool true)], args := [d1, d2] }
  | _ => none }
def fnExactFixedRow : OpenClaim := { program := "ytpimomkkdocgbaa", sum := "9d1060f8baa48036700e7f148b7b70ec23735e43bfd1c25ca73cba74cea727e6", func := "loop.example/g00358/laws.FnExactFixed", spec := "fnExactFixed", apart := false }
def FnExactFixedSaid : Prop := fnExactFixedRow.holds Try.pinned (OpenSpec.ofChange fnExactFixedSpec)

/-- ITS FALSE NEIGHBOUR: 'it returns false'. Refute it at one input. -/
def fnExactFixedWrong : ChangeSpec := { name := "fnExactFixed", fn := fun _ => fun
  | [d1, d2] => { results := [.lit (.bool false)], args := [d1, d2] }
  | _ => none }
def FnExactFixedWrongFalsely : Prop := fnExactFixedRow.holds Try.pinned (OpenSpec.ofChange fnExactFixedWrong)

/-- 'laws.FnNaive': WHATEVER THE INPUT: true; the input reads as it did. -/
def fnNaiveSpec : ChangeSpec := { name := "fnNaive", fn := fun _ => fun
  | [d] => { results := [.lit (.bool true)], args := [d] }
  | _ => none }
def fnNaiveRow : OpenClaim := { program := "ytpimomkkdocgbaa", sum := "9d1060f8baa48036700e7f148b7b70ec23735e43bfd1c25ca73cba74cea727e6", func := "loop.example/g00358/laws.FnNaive", spec := "fnNaive", apart := false }
def FnNaiveSaid : Prop := fnNaiveRow.holds Try.pinned (OpenSpec.ofChange fnNaiveSpec)

/-- ITS FALSE NEIGHBOUR: 'it returns false'. Refute it at one input. -/
def fnNaiveWrong : ChangeSpec := { name := "fnNaive", fn := fun _ => fun
  | [d] => { results := [.lit (.bool false)], args := [d] }
  | _ => none }
def FnNaiveWrongFalsely : Prop := fnNaiveRow.holds Try.pinned (OpenSpec.ofChange fnNaiveWrong)

/-- 'laws.FnExactCrc': WHATEVER THE INPUT: true; the input reads as it did. -/
def fnExactCrcSpec : ChangeSpec := { name := "fnExactCrc", fn := fun _ => fun
  | [d] => { results := [.lit (.bool true)], args := [d] }
  | _ => none }
def fnExactCrcRow : OpenClaim := { program := "ytpimomkkdocgbaa", sum := "9d1060f8baa48036700e7f148b7b70ec23735e43bfd1c25ca73cba74cea727e6", func := "loop.example/g00358/laws.FnExactCrc", spec := "fnExactCrc", apart := false }
def FnExactCrcSaid : Prop := fnExactCrcRow.holds Try.pinned (OpenSpec.ofChange fnExactCrcSpec)

/-- ITS FALSE NEIGHBOUR: 'it returns false'. Refute it at one input. -/
def fnExactCrcWrong : ChangeSpec := { name := "fnExactCrc", fn := fun _ => fun
  | [d] => { results := [.lit (.bool false)], args := [d] }
  | _ => none }
def FnExactCrcWrongFalsely : Prop := fnExactCrcRow.holds Try.pinned (OpenSpec.ofChange fnExactCrcWrong)

/-- 'laws.FnExactClass': WHATEVER THE INPUT: true; the input reads as it did. -/
def fnExactClassSpec : ChangeSpec := { name := "fnExactClass", fn := fun _ => fun
  | [d] => { results := [.lit (.bool true)], args := [d] }
  | _ => none }
def fnExactClassRow : OpenClaim := { program := "ytpimomkkdocgbaa", sum := "9d1060f8baa48036700e7f148b7b70ec23735e43bfd1c25ca73cba74cea727e6", func := "loop.example/g00358/laws.FnExactClass", spec := "fnExactClass", apart := false }
def FnExactClassSaid : Prop := fnExactClassRow.holds Try.pinned (OpenSpec.ofChange fnExactClassSpec)

/-- ITS FALSE NEIGHBOUR: 'it returns false'. Refute it at one input. -/
def fnExactClassWrong : ChangeSpec := { name := "fnExactClass", fn := fun _ => fun
  | [d] => { results := [.lit (.bool false)], args := [d] }
  | _ => none }
def FnExactClassWrongFalsely : Prop := fnExactClassRow.holds Try.pinned (OpenSpec.ofChange fnExactClassWrong)

/-- 'laws.FnExactDec': WHATEVER THE INPUT: true; the input reads as it did. -/
def fnExactDecSpec : ChangeSpec := { name := "fnExactDec", fn := fun _ => fun
  | [d] => { results := [.lit (.bool true)], args := [d] }
  | _ => none }
def fnExactDecRow : OpenClaim := { program := "ytpimomkkdocgbaa", sum := "9d1060f8baa48036700e7f148b7b70ec23735e43bfd1c25ca73cba74cea727e6", func := "loop.example/g00358/laws.FnExactDec", spec := "fnExactDec", apart := false }
def FnExactDecSaid : Prop := fnExactDecRow.holds Try.pinned (OpenSpec.ofChange fnExactDecSpec)

/-- ITS FALSE NEIGHBOUR: 'it returns false'. Refute it at one input. -/
def fnExactDecWrong : ChangeSpec := { name := "fnExactDec", fn := fun _ => fun
  | [d] => { results := [.lit (.bool false)], args := [d] }
  | _ => none }
def FnExactDecWrongFalsely : Prop := fnExactDecRow.holds Try.pinned (OpenSpec.ofChange fnExactDecWrong)

/-- 'laws.FnExactUnhex': WHATEVER THE INPUT: true; the input reads as it did. -/
def fnExactUnhexSpec : ChangeSpec := { name := "fnExactUnhex", fn := fun _ => fun
  | [d] => { results := [.lit (.bool true)], args := [d] }
  | _ => none }
def fnExactUnhexRow : OpenClaim := { program := "ytpimomkkdocgbaa", sum := "9d1060f8baa48036700e7f148b7b70ec23735e43bfd1c25ca73cba74cea727e6", func := "loop.example/g00358/laws.FnExactUnhex", spec := "fnExactUnhex", apart := false }
def FnExactUnhexSaid : Prop := fnExactUnhexRow.holds Try.pinned (OpenSpec.ofChange fnExactUnhexSpec)

/-- ITS FALSE NEIGHBOUR: 'it returns false'. Refute it at one input. -/
def fnExactUnhexWrong : ChangeSpec := { name := "fnExactUnhex", fn := fun _ => fun
  | [d] => { results := [.lit (.bool false)], args := [d] }
  | _ => none }
def FnExactUnhexWrongFalsely : Prop := fnExactUnhexRow.holds Try.pinned (OpenSpec.ofChange fnExactUnhexWrong)

/-- 'laws.FnExactReadVar': WHATEVER THE INPUT: true; the input reads as it did. -/
def fnExactReadVarSpec : ChangeSpec := { name := "fnExactReadVar", fn := fun _ => fun
  | [d] => { results := [.lit (.bool true)], args := [d] }
  | _ => none }
def fnExactReadVarRow : OpenClaim := { program := "ytpimomkkdocgbaa", sum := "9d1060f8baa48036700e7f148b7b70ec23735e43bfd1c25ca73cba74cea727e6", func := "loop.example/g00358/laws.FnExactReadVar", spec := "fnExactReadVar", apart := false }
def FnExactReadVarSaid : Prop := fnExactReadVarRow.holds Try.pinned (OpenSpec.ofChange fnExactReadVarSpec)

/-- ITS FALSE NEIGHBOUR: 'it returns false'. Refute it at one input. -/
def fnExactReadVarWrong : ChangeSpec := { name := "fnExactReadVar", fn := fun _ => fun
  | [d] => { results := [.lit (.bool false)], args := [d] }
  | _ => none }
def FnExactReadVarWrongFalsely : Prop := fnExactReadVarRow.holds Try.pinned (OpenSpec.ofChange fnExactReadVarWrong)

/- THE SECOND FORM. 'bulk': how many values and letters a reading holds, each counted each time it is reached (what is shared counts as often as it is met; a slice's spare places count too). A statement '..UptoSaid' is the law's where the arguments, and the package variables that the reading takes, are together of bulk at most 1048576: NARROWER than '..Said'. Prove '..Said' where nothing that the law and all that it calls make is longer than what came in: it says more and counts as full. Else prove '..UptoSaid'. A law counts once. -/
mutual
def uptoBulk {H : Type} : DataW H → Nat
  | .lit (.string bytes) => bytes.length + 1
  | .lit _ => 1
  | .nil => 1
  | .ptr d => uptoBulk d + 1
  | .slice elems spare => uptoBulkAll elems + uptoBulkAll spare + 1
  | .agg parts => uptoBulkAll parts + 1
  | .iface _ d => uptoBulk d + 1
  | .map entries => uptoBulkEntries entries + 1
  | .held _ => 1
def uptoBulkAll {H : Type} : List (DataW H) → Nat
  | [] => 0
  | d :: r => uptoBulk d + uptoBulkAll r
def uptoBulkEntries {H : Type} : List (Lit × DataW H) → Nat
  | [] => 0
  | x :: r => uptoBulkEntry x + uptoBulkEntries r
def uptoBulkEntry {H : Type} : Lit × DataW H → Nat
  | (.string bytes, d) => bytes.length + uptoBulk d + 1
  | (_, d) => uptoBulk d + 1
 end
def uptoSmall : (H : Type) → List (DataW H) → Bool := fun _ ds => decide (uptoBulkAll ds ≤ 1048576)
def OpenSpec.upto (s : _root_.Go.ChangeSpec) : _root_.Go.OpenSpec := { _root_.Go.OpenSpec.ofChange s with cond := some uptoSmall }

/-- 'laws.FnExactConstants', WHERE WHAT IT READS IS OF BULK AT MOST 1048576: true; the input reads as it did. -/
def fnExactConstantsUptoRow : OpenClaim := { program := "ytpimomkkdocgbaa", sum := "9d1060f8baa48036700e7f148b7b70ec23735e43bfd1c25ca73cba74cea727e6", func := "loop.example/g00358/laws.FnExactConstants", spec := "fnExactConstants", apart := false, narrowed := true }
def FnExactConstantsUptoSaid : Prop := fnExactConstantsUptoRow.holds Try.pinned (OpenSpec.upto fnExactConstantsSpec)

/-- 'laws.FnExactHex', WHERE WHAT IT READS IS OF BULK AT MOST 1048576: true; the input reads as it did. -/
def fnExactHexUptoRow : OpenClaim := { program := "ytpimomkkdocgbaa", sum := "9d1060f8baa48036700e7f148b7b70ec23735e43bfd1c25ca73cba74cea727e6", func := "loop.example/g00358/laws.FnExactHex", spec := "fnExactHex", apart := false, narrowed := true }
def FnExactHexUptoSaid : Prop := fnExactHexUptoRow.holds Try.pinned (OpenSpec.upto fnExactHexSpec)

/-- 'laws.FnExactReadFixed', WHERE WHAT IT READS IS OF BULK AT MOST 1048576: true; the input reads as it did. -/
def fnExactReadFixedUptoRow : OpenClaim := { program := "ytpimomkkdocgbaa", sum := "9d1060f8baa48036700e7f148b7b70ec23735e43bfd1c25ca73cba74cea727e6", func := "loop.example/g00358/laws.FnExactReadFixed", spec := "fnExactReadFixed", apart := false, narrowed := true }
def FnExactReadFixedUptoSaid : Prop := fnExactReadFixedUptoRow.holds Try.pinned (OpenSpec.upto fnExactReadFixedSpec)

/-- 'laws.FnExactVar', WHERE WHAT IT READS IS OF BULK AT MOST 1048576: true; the input reads as it did. -/
def fnExactVarUptoRow : OpenClaim := { program := "ytpimomkkdocgbaa", sum := "9d1060f8baa48036700e7f148b7b70ec23735e43bfd1c25ca73cba74cea727e6", func := "loop.example/g00358/laws.FnExactVar", spec := "fnExactVar", apart := false, narrowed := true }
def FnExactVarUptoSaid : Prop := fnExactVarUptoRow.holds Try.pinned (OpenSpec.upto fnExactVarSpec)

/-- 'laws.FnExactSnapOk', WHERE WHAT IT READS IS OF BULK AT MOST 1048576: true; the input reads as it did. -/
def fnExactSnapOkUptoRow : OpenClaim := { program := "ytpimomkkdocgbaa", sum := "9d1060f8baa48036700e7f148b7b70ec23735e43bfd1c25ca73cba74cea727e6", func := "loop.example/g00358/laws.FnExactSnapOk", spec := "fnExactSnapOk", apart := false, narrowed := true }
def FnExactSnapOkUptoSaid : Prop := fnExactSnapOkUptoRow.holds Try.pinned (OpenSpec.upto fnExactSnapOkSpec)

/-- 'laws.FnExactFixed', WHERE WHAT IT READS IS OF BULK AT MOST 1048576: true; the input reads as it did. -/
def fnExactFixedUptoRow : OpenClaim := { program := "ytpimomkkdocgbaa", sum := "9d1060f8baa48036700e7f148b7b70ec23735e43bfd1c25ca73cba74cea727e6", func := "loop.example/g00358/laws.FnExactFixed", spec := "fnExactFixed", apart := false, narrowed := true }
def FnExactFixedUptoSaid : Prop := fnExactFixedUptoRow.holds Try.pinned (OpenSpec.upto fnExactFixedSpec)

/-- 'laws.FnNaive', WHERE WHAT IT READS IS OF BULK AT MOST 1048576: true; the input reads as it did. -/
def fnNaiveUptoRow : OpenClaim := { program := "ytpimomkkdocgbaa", sum := "9d1060f8baa48036700e7f148b7b70ec23735e43bfd1c25ca73cba74cea727e6", func := "loop.example/g00358/laws.FnNaive", spec := "fnNaive", apart := false, narrowed := true }
def FnNaiveUptoSaid : Prop := fnNaiveUptoRow.holds Try.pinned (OpenSpec.upto fnNaiveSpec)

/-- 'laws.FnExactCrc', WHERE WHAT IT READS IS OF BULK AT MOST 1048576: true; the input reads as it did. -/
def fnExactCrcUptoRow : OpenClaim := { program := "ytpimomkkdocgbaa", sum := "9d1060f8baa48036700e7f148b7b70ec23735e43bfd1c25ca73cba74cea727e6", func := "loop.example/g00358/laws.FnExactCrc", spec := "fnExactCrc", apart := false, narrowed := true }
def FnExactCrcUptoSaid : Prop := fnExactCrcUptoRow.holds Try.pinned (OpenSpec.upto fnExactCrcSpec)

/-- 'laws.FnExactClass', WHERE WHAT IT READS IS OF BULK AT MOST 1048576: true; the input reads as it did. -/
def fnExactClassUptoRow : OpenClaim := { program := "ytpimomkkdocgbaa", sum := "9d1060f8baa48036700e7f148b7b70ec23735e43bfd1c25ca73cba74cea727e6", func := "loop.example/g00358/laws.FnExactClass", spec := "fnExactClass", apart := false, narrowed := true }
def FnExactClassUptoSaid : Prop := fnExactClassUptoRow.holds Try.pinned (OpenSpec.upto fnExactClassSpec)

/-- 'laws.FnExactDec', WHERE WHAT IT READS IS OF BULK AT MOST 1048576: true; the input reads as it did. -/
def fnExactDecUptoRow : OpenClaim := { program := "ytpimomkkdocgbaa", sum := "9d1060f8baa48036700e7f148b7b70ec23735e43bfd1c25ca73cba74cea727e6", func := "loop.example/g00358/laws.FnExactDec", spec := "fnExactDec", apart := false, narrowed := true }
def FnExactDecUptoSaid : Prop := fnExactDecUptoRow.holds Try.pinned (OpenSpec.upto fnExactDecSpec)

/-- 'laws.FnExactUnhex', WHERE WHAT IT READS IS OF BULK AT MOST 1048576: true; the input reads as it did. -/
def fnExactUnhexUptoRow : OpenClaim := { program := "ytpimomkkdocgbaa", sum := "9d1060f8baa48036700e7f148b7b70ec23735e43bfd1c25ca73cba74cea727e6", func := "loop.example/g00358/laws.FnExactUnhex", spec := "fnExactUnhex", apart := false, narrowed := true }
def FnExactUnhexUptoSaid : Prop := fnExactUnhexUptoRow.holds Try.pinned (OpenSpec.upto fnExactUnhexSpec)

/-- 'laws.FnExactReadVar', WHERE WHAT IT READS IS OF BULK AT MOST 1048576: true; the input reads as it did. -/
def fnExactReadVarUptoRow : OpenClaim := { program := "ytpimomkkdocgbaa", sum := "9d1060f8baa48036700e7f148b7b70ec23735e43bfd1c25ca73cba74cea727e6", func := "loop.example/g00358/laws.FnExactReadVar", spec := "fnExactReadVar", apart := false, narrowed := true }
def FnExactReadVarUptoSaid : Prop := fnExactReadVarUptoRow.holds Try.pinned (OpenSpec.upto fnExactReadVarSpec)

end Rows
end Go.Proofs.Ytpimomkkdocgbaa
