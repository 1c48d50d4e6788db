/-
  No cell of these rows narrows 'for every input' (looked for: loops, veiled, ifaces, maps, wideKeys, modest, calm, conditions, laid).
  DERIVED. THE GIVEN ROWS OF THIS SEAT. 12 by the template 'for every input the law returns true; each argument reads behind the call as it read before'; 0 by the template 'total and deterministic' (their statements: YtbphhgahedahdaaTotals.lean).
  GIVEN WITH THE SEED: the statements are not yours to turn. If you find one false, say at which input.
  Laid BY PROGRAM, IN A SANDBOX (cutbox-rows.mjs): the forced cells as the released guide's own fill.sh prints them over the translation 02c29fe955915726… (all of the seat's roots in one cut). By AI agents, Wed Nov 11 2026. No macro, syntax, notation, axiom, sorry.
-/
import Derived.Test.YtbphhgahedahdaaChecked
import GoSem.Claim
import GoSem.ClaimJoined
import GoSem.ClaimMapViews
import Derived.JoinedTies
import Derived.KernelRfl
namespace Go.Proofs.Ytbphhgahedahdaa
/- THE CELL 'sum', in the pinned program and in every row, IS THE sha256 OF THE DUMP (.gsa) THAT YtbphhgahedahdaaProg.lean LOADS. Nothing in Lean hashes anything: it is a label: what it is worth is what the hold of that sum in a sandbox is worth. -/
noncomputable def Try.pinned : Pinned := { name := "ytbphhgahedahdaa", sum := "02c29fe95591572619f26794b594cef31a3aaa8ba38321bd750aa76a7ccf48f9", checked := Try.checked }
namespace Rows
def none {H : Type} : Left H := { results := [], args := [] }

/-- 'laws.FnEntryBack': WHATEVER THE INPUT: true; the input reads as it did. -/
def fnEntryBackSpec : ChangeSpec := { name := "fnEntryBack", fn := fun _ => fun
  | [d] => { results := [.lit (.bool true)], args := [d] }
  | _ => none }
def fnEntryBackRow : OpenClaim := { program := "ytbphhgahedahdaa", sum := "02c29fe95591572619f26794b594cef31a3aaa8ba38321bd750aa76a7ccf48f9", func := "loop.example/casket/laws.FnEntryBack", spec := "fnEntryBack", apart := false }
def FnEntryBackSaid : Prop := fnEntryBackRow.holds Try.pinned (OpenSpec.ofChange fnEntryBackSpec)

/-- ITS FALSE NEIGHBOUR: 'it returns false'. Refute it at one input. -/
def fnEntryBackWrong : ChangeSpec := { name := "fnEntryBack", fn := fun _ => fun
  | [d] => { results := [.lit (.bool false)], args := [d] }
  | _ => none }
def FnEntryBackWrongFalsely : Prop := fnEntryBackRow.holds Try.pinned (OpenSpec.ofChange fnEntryBackWrong)

/-- 'laws.FnExactMemNew': WHATEVER THE INPUT: true; the input reads as it did. -/
def fnExactMemNewSpec : ChangeSpec := { name := "fnExactMemNew", fn := fun _ => fun
  | [d] => { results := [.lit (.bool true)], args := [d] }
  | _ => none }
def fnExactMemNewRow : OpenClaim := { program := "ytbphhgahedahdaa", sum := "02c29fe95591572619f26794b594cef31a3aaa8ba38321bd750aa76a7ccf48f9", func := "loop.example/casket/laws.FnExactMemNew", spec := "fnExactMemNew", apart := false }
def FnExactMemNewSaid : Prop := fnExactMemNewRow.holds Try.pinned (OpenSpec.ofChange fnExactMemNewSpec)

/-- ITS FALSE NEIGHBOUR: 'it returns false'. Refute it at one input. -/
def fnExactMemNewWrong : ChangeSpec := { name := "fnExactMemNew", fn := fun _ => fun
  | [d] => { results := [.lit (.bool false)], args := [d] }
  | _ => none }
def FnExactMemNewWrongFalsely : Prop := fnExactMemNewRow.holds Try.pinned (OpenSpec.ofChange fnExactMemNewWrong)

/-- 'laws.FnExactTabAt': WHATEVER THE INPUT: true; the input reads as it did. -/
def fnExactTabAtSpec : ChangeSpec := { name := "fnExactTabAt", fn := fun _ => fun
  | [d1, d2] => { results := [.lit (.bool true)], args := [d1, d2] }
  | _ => none }
def fnExactTabAtRow : OpenClaim := { program := "ytbphhgahedahdaa", sum := "02c29fe95591572619f26794b594cef31a3aaa8ba38321bd750aa76a7ccf48f9", func := "loop.example/casket/laws.FnExactTabAt", spec := "fnExactTabAt", apart := false }
def FnExactTabAtSaid : Prop := fnExactTabAtRow.holds Try.pinned (OpenSpec.ofChange fnExactTabAtSpec)

/-- ITS FALSE NEIGHBOUR: 'it returns false'. Refute it at one input. -/
def fnExactTabAtWrong : ChangeSpec := { name := "fnExactTabAt", fn := fun _ => fun
  | [d1, d2] => { results := [.lit (.bool false)], args := [d1, d2] }
  | _ => none }
def FnExactTabAtWrongFalsely : Prop := fnExactTabAtRow.holds Try.pinned (OpenSpec.ofChange fnExactTabAtWrong)

/-- 'laws.FnTabLess': WHATEVER THE INPUT: true; the input reads as it did. -/
def fnTabLessSpec : ChangeSpec := { name := "fnTabLess", fn := fun _ => fun
  | [d1, d2] => { results := [.lit (.bool true)], args := [d1, d2] }
  | _ => none }
def fnTabLessRow : OpenClaim := { program := "ytbphhgahedahdaa", sum := "02c29fe95591572619f26794b594cef31a3aaa8ba38321bd750aa76a7ccf48f9", func := "loop.example/casket/laws.FnTabLess", spec := "fnTabLess", apart := false }
def FnTabLessSaid : Prop := fnTabLessRow.holds Try.pinned (OpenSpec.ofChange fnTabLessSpec)

/-- ITS FALSE NEIGHBOUR: 'it returns false'. Refute it at one input. -/
def fnTabLessWrong : ChangeSpec := { name := "fnTabLess", fn := fun _ => fun
  | [d1, d2] => { results := [.lit (.bool false)], args := [d1, d2] }
  | _ => none }
def FnTabLessWrongFalsely : Prop := fnTabLessRow.holds Try.pinned (OpenSpec.ofChange fnTabLessWrong)

/-- 'laws.FnTabAt': WHATEVER THE INPUT: true; the input reads as it did. -/
def fnTabAtSpec : ChangeSpec := { name := "fnTabAt", fn := fun _ => fun
  | [d] => { results := [.lit (.bool true)], args := [d] }
  | _ => none }
def fnTabAtRow : OpenClaim := { program := "ytbphhgahedahdaa", sum := "02c29fe95591572619f26794b594cef31a3aaa8ba38321bd750aa76a7ccf48f9", func := "loop.example/casket/laws.FnTabAt", spec := "fnTabAt", apart := false }
def FnTabAtSaid : Prop := fnTabAtRow.holds Try.pinned (OpenSpec.ofChange fnTabAtSpec)

/-- ITS FALSE NEIGHBOUR: 'it returns false'. Refute it at one input. -/
def fnTabAtWrong : ChangeSpec := { name := "fnTabAt", fn := fun _ => fun
  | [d] => { results := [.lit (.bool false)], args := [d] }
  | _ => none }
def FnTabAtWrongFalsely : Prop := fnTabAtRow.holds Try.pinned (OpenSpec.ofChange fnTabAtWrong)

/-- 'laws.FnExactMemOk': WHATEVER THE INPUT: true; the input reads as it did. -/
def fnExactMemOkSpec : ChangeSpec := { name := "fnExactMemOk", fn := fun _ => fun
  | [d] => { results := [.lit (.bool true)], args := [d] }
  | _ => none }
def fnExactMemOkRow : OpenClaim := { program := "ytbphhgahedahdaa", sum := "02c29fe95591572619f26794b594cef31a3aaa8ba38321bd750aa76a7ccf48f9", func := "loop.example/casket/laws.FnExactMemOk", spec := "fnExactMemOk", apart := false }
def FnExactMemOkSaid : Prop := fnExactMemOkRow.holds Try.pinned (OpenSpec.ofChange fnExactMemOkSpec)

/-- ITS FALSE NEIGHBOUR: 'it returns false'. Refute it at one input. -/
def fnExactMemOkWrong : ChangeSpec := { name := "fnExactMemOk", fn := fun _ => fun
  | [d] => { results := [.lit (.bool false)], args := [d] }
  | _ => none }
def FnExactMemOkWrongFalsely : Prop := fnExactMemOkRow.holds Try.pinned (OpenSpec.ofChange fnExactMemOkWrong)

/-- 'laws.FnOverLess': WHATEVER THE INPUT: true; the input reads as it did. -/
def fnOverLessSpec : ChangeSpec := { name := "fnOverLess", fn := fun _ => fun
  | [d1, d2] => { results := [.lit (.bool true)], args := [d1, d2] }
  | _ => none }
def fnOverLessRow : OpenClaim := { program := "ytbphhgahedahdaa", sum := "02c29fe95591572619f26794b594cef31a3aaa8ba38321bd750aa76a7ccf48f9", func := "loop.example/casket/laws.FnOverLess", spec := "fnOverLess", apart := false }
def FnOverLessSaid : Prop := fnOverLessRow.holds Try.pinned (OpenSpec.ofChange fnOverLessSpec)

/-- ITS FALSE NEIGHBOUR: 'it returns false'. Refute it at one input. -/
def fnOverLessWrong : ChangeSpec := { name := "fnOverLess", fn := fun _ => fun
  | [d1, d2] => { results := [.lit (.bool false)], args := [d1, d2] }
  | _ => none }
def FnOverLessWrongFalsely : Prop := fnOverLessRow.holds Try.pinned (OpenSpec.ofChange fnOverLessWrong)

/-- 'laws.FnOverNone': WHATEVER THE INPUT: true; the input reads as it did. -/
def fnOverNoneSpec : ChangeSpec := { name := "fnOverNone", fn := fun _ => fun
  | [d] => { results := [.lit (.bool true)], args := [d] }
  | _ => none }
def fnOverNoneRow : OpenClaim := { program := "ytbphhgahedahdaa", sum := "02c29fe95591572619f26794b594cef31a3aaa8ba38321bd750aa76a7ccf48f9", func := "loop.example/casket/laws.FnOverNone", spec := "fnOverNone", apart := false }
def FnOverNoneSaid : Prop := fnOverNoneRow.holds Try.pinned (OpenSpec.ofChange fnOverNoneSpec)

/-- ITS FALSE NEIGHBOUR: 'it returns false'. Refute it at one input. -/
def fnOverNoneWrong : ChangeSpec := { name := "fnOverNone", fn := fun _ => fun
  | [d] => { results := [.lit (.bool false)], args := [d] }
  | _ => none }
def FnOverNoneWrongFalsely : Prop := fnOverNoneRow.holds Try.pinned (OpenSpec.ofChange fnOverNoneWrong)

/-- 'laws.FnOverThree': WHATEVER THE INPUT: true; the input reads as it did. -/
def fnOverThreeSpec : ChangeSpec := { name := "fnOverThree", fn := fun _ => fun
  | [d1, d2] => { results := [.lit (.bool true)], args := [d1, d2] }
  | _ => none }
def fnOverThreeRow : OpenClaim := { program := "ytbphhgahedahdaa", sum := "02c29fe95591572619f26794b594cef31a3aaa8ba38321bd750aa76a7ccf48f9", func := "loop.example/casket/laws.FnOverThree", spec := "fnOverThree", apart := false }
def FnOverThreeSaid : Prop := fnOverThreeRow.holds Try.pinned (OpenSpec.ofChange fnOverThreeSpec)

/-- ITS FALSE NEIGHBOUR: 'it returns false'. Refute it at one input. -/
def fnOverThreeWrong : ChangeSpec := { name := "fnOverThree", fn := fun _ => fun
  | [d1, d2] => { results := [.lit (.bool false)], args := [d1, d2] }
  | _ => none }
def FnOverThreeWrongFalsely : Prop := fnOverThreeRow.holds Try.pinned (OpenSpec.ofChange fnOverThreeWrong)

/-- 'laws.FnOverStep': WHATEVER THE INPUT: true; the input reads as it did. -/
def fnOverStepSpec : ChangeSpec := { name := "fnOverStep", fn := fun _ => fun
  | [d] => { results := [.lit (.bool true)], args := [d] }
  | _ => none }
def fnOverStepRow : OpenClaim := { program := "ytbphhgahedahdaa", sum := "02c29fe95591572619f26794b594cef31a3aaa8ba38321bd750aa76a7ccf48f9", func := "loop.example/casket/laws.FnOverStep", spec := "fnOverStep", apart := false }
def FnOverStepSaid : Prop := fnOverStepRow.holds Try.pinned (OpenSpec.ofChange fnOverStepSpec)

/-- ITS FALSE NEIGHBOUR: 'it returns false'. Refute it at one input. -/
def fnOverStepWrong : ChangeSpec := { name := "fnOverStep", fn := fun _ => fun
  | [d] => { results := [.lit (.bool false)], args := [d] }
  | _ => none }
def FnOverStepWrongFalsely : Prop := fnOverStepRow.holds Try.pinned (OpenSpec.ofChange fnOverStepWrong)

/-- 'laws.FnOverSame': WHATEVER THE INPUT: true; the input reads as it did. -/
def fnOverSameSpec : ChangeSpec := { name := "fnOverSame", fn := fun _ => fun
  | [d] => { results := [.lit (.bool true)], args := [d] }
  | _ => none }
def fnOverSameRow : OpenClaim := { program := "ytbphhgahedahdaa", sum := "02c29fe95591572619f26794b594cef31a3aaa8ba38321bd750aa76a7ccf48f9", func := "loop.example/casket/laws.FnOverSame", spec := "fnOverSame", apart := false }
def FnOverSameSaid : Prop := fnOverSameRow.holds Try.pinned (OpenSpec.ofChange fnOverSameSpec)

/-- ITS FALSE NEIGHBOUR: 'it returns false'. Refute it at one input. -/
def fnOverSameWrong : ChangeSpec := { name := "fnOverSame", fn := fun _ => fun
  | [d] => { results := [.lit (.bool false)], args := [d] }
  | _ => none }
def FnOverSameWrongFalsely : Prop := fnOverSameRow.holds Try.pinned (OpenSpec.ofChange fnOverSameWrong)

/-- 'laws.FnExactTabOver': WHATEVER THE INPUT: true; the input reads as it did. -/
def fnExactTabOverSpec : ChangeSpec := { name := "fnExactTabOver", fn := fun _ => fun
  | [d1, d2] => { results := [.lit (.bool true)], args := [d1, d2] }
  | _ => none }
def fnExactTabOverRow : OpenClaim := { program := "ytbphhgahedahdaa", sum := "02c29fe95591572619f26794b594cef31a3aaa8ba38321bd750aa76a7ccf48f9", func := "loop.example/casket/laws.FnExactTabOver", spec := "fnExactTabOver", apart := false }
def FnExactTabOverSaid : Prop := fnExactTabOverRow.holds Try.pinned (OpenSpec.ofChange fnExactTabOverSpec)

/-- ITS FALSE NEIGHBOUR: 'it returns false'. Refute it at one input. -/
def fnExactTabOverWrong : ChangeSpec := { name := "fnExactTabOver", fn := fun _ => fun
  | [d1, d2] => { results := [.lit (.bool false)], args := [d1, d2] }
  | _ => none }
def FnExactTabOverWrongFalsely : Prop := fnExactTabOverRow.holds Try.pinned (OpenSpec.ofChange fnExactTabOverWrong)

/- THE SECOND FORM. 'bulk': how many values and letters a reading holds, each counted each time it is reached (what is shared counts as often as it is met; a slice's spare places count too). A statement '..UptoSaid' is the law's where the arguments, and the package variables that the reading takes, are together of bulk at most 1048576: NARROWER than '..Said'. Prove '..Said' where nothing that the law and all that it calls make is longer than what came in: it says more and counts as full. Else prove '..UptoSaid'. A law counts once. -/
mutual
def uptoBulk {H : Type} : DataW H → Nat
  | .lit (.string bytes) => bytes.length + 1
  | .lit _ => 1
  | .nil => 1
  | .ptr d => uptoBulk d + 1
  | .slice elems spare => uptoBulkAll elems + uptoBulkAll spare + 1
  | .agg parts => uptoBulkAll parts + 1
  | .iface _ d => uptoBulk d + 1
  | .map entries => uptoBulkEntries entries + 1
  | .held _ => 1
def uptoBulkAll {H : Type} : List (DataW H) → Nat
  | [] => 0
  | d :: r => uptoBulk d + uptoBulkAll r
def uptoBulkEntries {H : Type} : List (Lit × DataW H) → Nat
  | [] => 0
  | x :: r => uptoBulkEntry x + uptoBulkEntries r
def uptoBulkEntry {H : Type} : Lit × DataW H → Nat
  | (.string bytes, d) => bytes.length + uptoBulk d + 1
  | (_, d) => uptoBulk d + 1
 end
def uptoSmall : (H : Type) → List (DataW H) → Bool := fun _ ds => decide (uptoBulkAll ds ≤ 1048576)
def OpenSpec.upto (s : _root_.Go.ChangeSpec) : _root_.Go.OpenSpec := { _root_.Go.OpenSpec.ofChange s with cond := some uptoSmall }

/-- 'laws.FnEntryBack', WHERE WHAT IT READS IS OF BULK AT MOST 1048576: true; the input reads as it did. -/
def fnEntryBackUptoRow : OpenClaim := { program := "ytbphhgahedahdaa", sum := "02c29fe95591572619f26794b594cef31a3aaa8ba38321bd750aa76a7ccf48f9", func := "loop.example/casket/laws.FnEntryBack", spec := "fnEntryBack", apart := false, narrowed := true }
def FnEntryBackUptoSaid : Prop := fnEntryBackUptoRow.holds Try.pinned (OpenSpec.upto fnEntryBackSpec)

/-- 'laws.FnExactMemNew', WHERE WHAT IT READS IS OF BULK AT MOST 1048576: true; the input reads as it did. -/
def fnExactMemNewUptoRow : OpenClaim := { program := "ytbphhgahedahdaa", sum := "02c29fe95591572619f26794b594cef31a3aaa8ba38321bd750aa76a7ccf48f9", func := "loop.example/casket/laws.FnExactMemNew", spec := "fnExactMemNew", apart := false, narrowed := true }
def FnExactMemNewUptoSaid : Prop := fnExactMemNewUptoRow.holds Try.pinned (OpenSpec.upto fnExactMemNewSpec)

/-- 'laws.FnExactTabAt', WHERE WHAT IT READS IS OF BULK AT MOST 1048576: true; the input reads as it did. -/
def fnExactTabAtUptoRow : OpenClaim := { program := "ytbphhgahedahdaa", sum := "02c29fe95591572619f26794b594cef31a3aaa8ba38321bd750aa76a7ccf48f9", func := "loop.example/casket/laws.FnExactTabAt", spec := "fnExactTabAt", apart := false, narrowed := true }
def FnExactTabAtUptoSaid : Prop := fnExactTabAtUptoRow.holds Try.pinned (OpenSpec.upto fnExactTabAtSpec)

/-- 'laws.FnTabLess', WHERE WHAT IT READS IS OF BULK AT MOST 1048576: true; the input reads as it did. -/
def fnTabLessUptoRow : OpenClaim := { program := "ytbphhgahedahdaa", sum := "02c29fe95591572619f26794b594cef31a3aaa8ba38321bd750aa76a7ccf48f9", func := "loop.example/casket/laws.FnTabLess", spec := "fnTabLess", apart := false, narrowed := true }
def FnTabLessUptoSaid : Prop := fnTabLessUptoRow.holds Try.pinned (OpenSpec.upto fnTabLessSpec)

/-- 'laws.FnTabAt', WHERE WHAT IT READS IS OF BULK AT MOST 1048576: true; the input reads as it did. -/
def fnTabAtUptoRow : OpenClaim := { program := "ytbphhgahedahdaa", sum := "02c29fe95591572619f26794b594cef31a3aaa8ba38321bd750aa76a7ccf48f9", func := "loop.example/casket/laws.FnTabAt", spec := "fnTabAt", apart := false, narrowed := true }
def FnTabAtUptoSaid : Prop := fnTabAtUptoRow.holds Try.pinned (OpenSpec.upto fnTabAtSpec)

/-- 'laws.FnExactMemOk', WHERE WHAT IT READS IS OF BULK AT MOST 1048576: true; the input reads as it did. -/
def fnExactMemOkUptoRow : OpenClaim := { program := "ytbphhgahedahdaa", sum := "02c29fe95591572619f26794b594cef31a3aaa8ba38321bd750aa76a7ccf48f9", func := "loop.example/casket/laws.FnExactMemOk", spec := "fnExactMemOk", apart := false, narrowed := true }
def FnExactMemOkUptoSaid : Prop := fnExactMemOkUptoRow.holds Try.pinned (OpenSpec.upto fnExactMemOkSpec)

/-- 'laws.FnOverLess', WHERE WHAT IT READS IS OF BULK AT MOST 1048576: true; the input reads as it did. -/
def fnOverLessUptoRow : OpenClaim := { program := "ytbphhgahedahdaa", sum := "02c29fe95591572619f26794b594cef31a3aaa8ba38321bd750aa76a7ccf48f9", func := "loop.example/casket/laws.FnOverLess", spec := "fnOverLess", apart := false, narrowed := true }
def FnOverLessUptoSaid : Prop := fnOverLessUptoRow.holds Try.pinned (OpenSpec.upto fnOverLessSpec)

/-- 'laws.FnOverNone', WHERE WHAT IT READS IS OF BULK AT MOST 1048576: true; the input reads as it did. -/
def fnOverNoneUptoRow : OpenClaim := { program := "ytbphhgahedahdaa", sum := "02c29fe95591572619f26794b594cef31a3aaa8ba38321bd750aa76a7ccf48f9", func := "loop.example/casket/laws.FnOverNone", spec := "fnOverNone", apart := false, narrowed := true }
def FnOverNoneUptoSaid : Prop := fnOverNoneUptoRow.holds Try.pinned (OpenSpec.upto fnOverNoneSpec)

/-- 'laws.FnOverThree', WHERE WHAT IT READS IS OF BULK AT MOST 1048576: true; the input reads as it did. -/
def fnOverThreeUptoRow : OpenClaim := { program := "ytbphhgahedahdaa", sum := "02c29fe95591572619f26794b594cef31a3aaa8ba38321bd750aa76a7ccf48f9", func := "loop.example/casket/laws.FnOverThree", spec := "fnOverThree", apart := false, narrowed := true }
def FnOverThreeUptoSaid : Prop := fnOverThreeUptoRow.holds Try.pinned (OpenSpec.upto fnOverThreeSpec)

/-- 'laws.FnOverStep', WHERE WHAT IT READS IS OF BULK AT MOST 1048576: true; the input reads as it did. -/
def fnOverStepUptoRow : OpenClaim := { program := "ytbphhgahedahdaa", sum := "02c29fe95591572619f26794b594cef31a3aaa8ba38321bd750aa76a7ccf48f9", func := "loop.example/casket/laws.FnOverStep", spec := "fnOverStep", apart := false, narrowed := true }
def FnOverStepUptoSaid : Prop := fnOverStepUptoRow.holds Try.pinned (OpenSpec.upto fnOverStepSpec)

/-- 'laws.FnOverSame', WHERE WHAT IT READS IS OF BULK AT MOST 1048576: true; the input reads as it did. -/
def fnOverSameUptoRow : OpenClaim := { program := "ytbphhgahedahdaa", sum := "02c29fe95591572619f26794b594cef31a3aaa8ba38321bd750aa76a7ccf48f9", func := "loop.example/casket/laws.FnOverSame", spec := "fnOverSame", apart := false, narrowed := true }
def FnOverSameUptoSaid : Prop := fnOverSameUptoRow.holds Try.pinned (OpenSpec.upto fnOverSameSpec)

/-- 'laws.FnExactTabOver', WHERE WHAT IT READS IS OF BULK AT MOST 1048576: true; the input reads as it did. -/
def fnExactTabOverUptoRow : OpenClaim := { program := "ytbphhgahedahdaa", sum := "02c29fe95591572619f26794b594cef31a3aaa8ba38321bd750aa76a7ccf48f9", func := "loop.example/casket/laws.FnExactTabOver", spec := "fnExactTabOver", apart := false, narrowed := true }
def FnExactTabOverUptoSaid : Prop := fnExactTabOverUptoRow.holds Try.pinned (OpenSpec.upto fnExactTabOverSpec)

end Rows
end Go.Proofs.Ytbphhgahedahdaa
