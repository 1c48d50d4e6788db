/-
  No cell of these rows narrows 'for every input' (looked for: loops, veiled, ifaces, maps, wideKeys, modest, calm, conditions, laid).
  DERIVED. THE GIVEN ROWS OF THIS SEAT. 9 by the template 'for every input the law returns true; each argument reads behind the call as it read before'; 0 by the template 'total and deterministic' (their statements: YtfamknibfokfmaaTotals.lean).
  GIVEN WITH THE SEED: the statements are not yours to turn. If you find one false, say at which input.
  Laid BY PROGRAM, IN A SANDBOX (cutbox-rows.mjs): the forced cells as the released guide's own fill.sh prints them over the translation 0a5a901db23d8cf4… (all of the seat's roots in one cut). By AI agents, Wed Nov 11 2026. No macro, syntax, notation, axiom, sorry.
-/
import Derived.Test.YtfamknibfokfmaaChecked
import GoSem.Claim
import GoSem.ClaimJoined
import GoSem.ClaimMapViews
import Derived.JoinedTies
import Derived.KernelRfl
namespace Go.Proofs.Ytfamknibfokfmaa
/- THE CELL 'sum', in the pinned program and in every row, IS THE sha256 OF THE DUMP (.gsa) THAT YtfamknibfokfmaaProg.lean LOADS. Nothing in Lean hashes anything: it is a label: what it is worth is what the hold of that sum in a sandbox is worth. -/
noncomputable def Try.pinned : Pinned := { name := "ytfamknibfokfmaa", sum := "0a5a901db23d8cf4ac14f96b17c3bc7adb3f3b6c96d5aed133627b50b4f313d1", checked := Try.checked }
namespace Rows
def none {H : Type} : Left H := { results := [], args := [] }

/-- 'laws.FnFlatAll': WHATEVER THE INPUT: true; the input reads as it did. -/
def fnFlatAllSpec : ChangeSpec := { name := "fnFlatAll", fn := fun _ => fun
  | [d1, d2] => { results := [.lit (.bool true)], args := [d1, d2] }
  | _ => none }
def fnFlatAllRow : OpenClaim := { program := "ytfamknibfokfmaa", sum := "0a5a901db23d8cf4ac14f96b17c3bc7adb3f3b6c96d5aed133627b50b4f313d1", func := "loop.example/casket/laws.FnFlatAll", spec := "fnFlatAll", apart := false }
def FnFlatAllSaid : Prop := fnFlatAllRow.holds Try.pinned (OpenSpec.ofChange fnFlatAllSpec)

/-- ITS FALSE NEIGHBOUR: 'it returns false'. Refute it at one input. -/
def fnFlatAllWrong : ChangeSpec := { name := "fnFlatAll", fn := fun _ => fun
  | [d1, d2] => { results := [.lit (.bool false)], args := [d1, d2] }
  | _ => none }
def FnFlatAllWrongFalsely : Prop := fnFlatAllRow.holds Try.pinned (OpenSpec.ofChange fnFlatAllWrong)

/-- 'laws.FnLoadBad': WHATEVER THE INPUT: true; the input reads as it did. -/
def fnLoadBadSpec : ChangeSpec := { name := "fnLoadBad", fn := fun _ => fun
  | [d] => { results := [.lit (.bool true)], args := [d] }
  | _ => none }
def fnLoadBadRow : OpenClaim := { program := "ytfamknibfokfmaa", sum := "0a5a901db23d8cf4ac14f96b17c3bc7adb3f3b6c96d5aed133627b50b4f313d1", func := "loop.example/casket/laws.FnLoadBad", spec := "fnLoadBad", apart := false }
def FnLoadBadSaid : Prop := fnLoadBadRow.holds Try.pinned (OpenSpec.ofChange fnLoadBadSpec)

/-- ITS FALSE NEIGHBOUR: 'it returns false'. Refute it at one input. -/
def fnLoadBadWrong : ChangeSpec := { name := "fnLoadBad", fn := fun _ => fun
  | [d] => { results := [.lit (.bool false)], args := [d] }
  | _ => none }
def FnLoadBadWrongFalsely : Prop := fnLoadBadRow.holds Try.pinned (OpenSpec.ofChange fnLoadBadWrong)

/-- 'laws.FnHostNew': WHATEVER THE INPUT: true; the input reads as it did. -/
def fnHostNewSpec : ChangeSpec := { name := "fnHostNew", fn := fun _ => fun
  | [d] => { results := [.lit (.bool true)], args := [d] }
  | _ => none }
def fnHostNewRow : OpenClaim := { program := "ytfamknibfokfmaa", sum := "0a5a901db23d8cf4ac14f96b17c3bc7adb3f3b6c96d5aed133627b50b4f313d1", func := "loop.example/casket/laws.FnHostNew", spec := "fnHostNew", unfollowed := true, recurses := true, apart := false }
def FnHostNewSaid : Prop := fnHostNewRow.holds Try.pinned (OpenSpec.ofChange fnHostNewSpec)

/-- ITS FALSE NEIGHBOUR: 'it returns false'. Refute it at one input. -/
def fnHostNewWrong : ChangeSpec := { name := "fnHostNew", fn := fun _ => fun
  | [d] => { results := [.lit (.bool false)], args := [d] }
  | _ => none }
def FnHostNewWrongFalsely : Prop := fnHostNewRow.holds Try.pinned (OpenSpec.ofChange fnHostNewWrong)

/-- 'laws.FnLoadWrite': WHATEVER THE INPUT: true; the input reads as it did. -/
def fnLoadWriteSpec : ChangeSpec := { name := "fnLoadWrite", fn := fun _ => fun
  | [d] => { results := [.lit (.bool true)], args := [d] }
  | _ => none }
def fnLoadWriteRow : OpenClaim := { program := "ytfamknibfokfmaa", sum := "0a5a901db23d8cf4ac14f96b17c3bc7adb3f3b6c96d5aed133627b50b4f313d1", func := "loop.example/casket/laws.FnLoadWrite", spec := "fnLoadWrite", unfollowed := true, recurses := true, apart := false }
def FnLoadWriteSaid : Prop := fnLoadWriteRow.holds Try.pinned (OpenSpec.ofChange fnLoadWriteSpec)

/-- ITS FALSE NEIGHBOUR: 'it returns false'. Refute it at one input. -/
def fnLoadWriteWrong : ChangeSpec := { name := "fnLoadWrite", fn := fun _ => fun
  | [d] => { results := [.lit (.bool false)], args := [d] }
  | _ => none }
def FnLoadWriteWrongFalsely : Prop := fnLoadWriteRow.holds Try.pinned (OpenSpec.ofChange fnLoadWriteWrong)

/-- 'laws.FnHostLoad': WHATEVER THE INPUT: true; the input reads as it did. -/
def fnHostLoadSpec : ChangeSpec := { name := "fnHostLoad", fn := fun _ => fun
  | [d] => { results := [.lit (.bool true)], args := [d] }
  | _ => none }
def fnHostLoadRow : OpenClaim := { program := "ytfamknibfokfmaa", sum := "0a5a901db23d8cf4ac14f96b17c3bc7adb3f3b6c96d5aed133627b50b4f313d1", func := "loop.example/casket/laws.FnHostLoad", spec := "fnHostLoad", unfollowed := true, recurses := true, apart := false }
def FnHostLoadSaid : Prop := fnHostLoadRow.holds Try.pinned (OpenSpec.ofChange fnHostLoadSpec)

/-- ITS FALSE NEIGHBOUR: 'it returns false'. Refute it at one input. -/
def fnHostLoadWrong : ChangeSpec := { name := "fnHostLoad", fn := fun _ => fun
  | [d] => { results := [.lit (.bool false)], args := [d] }
  | _ => none }
def FnHostLoadWrongFalsely : Prop := fnHostLoadRow.holds Try.pinned (OpenSpec.ofChange fnHostLoadWrong)

/-- 'laws.FnExactHostNew': WHATEVER THE INPUT: true; the input reads as it did. -/
def fnExactHostNewSpec : ChangeSpec := { name := "fnExactHostNew", fn := fun _ => fun
  | [d] => { results := [.lit (.bool true)], args := [d] }
  | _ => none }
def fnExactHostNewRow : OpenClaim := { program := "ytfamknibfokfmaa", sum := "0a5a901db23d8cf4ac14f96b17c3bc7adb3f3b6c96d5aed133627b50b4f313d1", func := "loop.example/casket/laws.FnExactHostNew", spec := "fnExactHostNew", apart := false }
def FnExactHostNewSaid : Prop := fnExactHostNewRow.holds Try.pinned (OpenSpec.ofChange fnExactHostNewSpec)

/-- ITS FALSE NEIGHBOUR: 'it returns false'. Refute it at one input. -/
def fnExactHostNewWrong : ChangeSpec := { name := "fnExactHostNew", fn := fun _ => fun
  | [d] => { results := [.lit (.bool false)], args := [d] }
  | _ => none }
def FnExactHostNewWrongFalsely : Prop := fnExactHostNewRow.holds Try.pinned (OpenSpec.ofChange fnExactHostNewWrong)

/-- 'laws.FnExactHostLoad': WHATEVER THE INPUT: true; the input reads as it did. -/
def fnExactHostLoadSpec : ChangeSpec := { name := "fnExactHostLoad", fn := fun _ => fun
  | [d] => { results := [.lit (.bool true)], args := [d] }
  | _ => none }
def fnExactHostLoadRow : OpenClaim := { program := "ytfamknibfokfmaa", sum := "0a5a901db23d8cf4ac14f96b17c3bc7adb3f3b6c96d5aed133627b50b4f313d1", func := "loop.example/casket/laws.FnExactHostLoad", spec := "fnExactHostLoad", apart := false }
def FnExactHostLoadSaid : Prop := fnExactHostLoadRow.holds Try.pinned (OpenSpec.ofChange fnExactHostLoadSpec)

/-- ITS FALSE NEIGHBOUR: 'it returns false'. Refute it at one input. -/
def fnExactHostLoadWrong : ChangeSpec := { name := "fnExactHostLoad", fn := fun _ => fun
  | [d] => { results := [.lit (.bool false)], args := [d] }
  | _ => none }
def FnExactHostLoadWrongFalsely : Prop := fnExactHostLoadRow.holds Try.pinned (OpenSpec.ofChange fnExactHostLoadWrong)

/-- 'laws.FnExactHostOk': WHATEVER THE INPUT: true; the input reads as it did. -/
def fnExactHostOkSpec : ChangeSpec := { name := "fnExactHostOk", fn := fun _ => fun
  | [d] => { results := [.lit (.bool true)], args := [d] }
  | _ => none }
def fnExactHostOkRow : OpenClaim := { program := "ytfamknibfokfmaa", sum := "0a5a901db23d8cf4ac14f96b17c3bc7adb3f3b6c96d5aed133627b50b4f313d1", func := "loop.example/casket/laws.FnExactHostOk", spec := "fnExactHostOk", unfollowed := true, recurses := true, apart := false }
def FnExactHostOkSaid : Prop := fnExactHostOkRow.holds Try.pinned (OpenSpec.ofChange fnExactHostOkSpec)

/-- ITS FALSE NEIGHBOUR: 'it returns false'. Refute it at one input. -/
def fnExactHostOkWrong : ChangeSpec := { name := "fnExactHostOk", fn := fun _ => fun
  | [d] => { results := [.lit (.bool false)], args := [d] }
  | _ => none }
def FnExactHostOkWrongFalsely : Prop := fnExactHostOkRow.holds Try.pinned (OpenSpec.ofChange fnExactHostOkWrong)

/-- 'laws.FnExactHostFree': WHATEVER THE INPUT: true; the input reads as it did. -/
def fnExactHostFreeSpec : ChangeSpec := { name := "fnExactHostFree", fn := fun _ => fun
  | [d] => { results := [.lit (.bool true)], args := [d] }
  | _ => none }
def fnExactHostFreeRow : OpenClaim := { program := "ytfamknibfokfmaa", sum := "0a5a901db23d8cf4ac14f96b17c3bc7adb3f3b6c96d5aed133627b50b4f313d1", func := "loop.example/casket/laws.FnExactHostFree", spec := "fnExactHostFree", unfollowed := true, recurses := true, apart := false }
def FnExactHostFreeSaid : Prop := fnExactHostFreeRow.holds Try.pinned (OpenSpec.ofChange fnExactHostFreeSpec)

/-- ITS FALSE NEIGHBOUR: 'it returns false'. Refute it at one input. -/
def fnExactHostFreeWrong : ChangeSpec := { name := "fnExactHostFree", fn := fun _ => fun
  | [d] => { results := [.lit (.bool false)], args := [d] }
  | _ => none }
def FnExactHostFreeWrongFalsely : Prop := fnExactHostFreeRow.holds Try.pinned (OpenSpec.ofChange fnExactHostFreeWrong)

/- THE SECOND FORM. 'bulk': how many values and letters a reading holds, each counted each time it is reached (what is shared counts as often as it is met; a slice's spare places count too). A statement '..UptoSaid' is the law's where the arguments, and the package variables that the reading takes, are together of bulk at most 1048576: NARROWER than '..Said'. Prove '..Said' where nothing that the law and all that it calls make is longer than what came in: it says more and counts as full. Else prove '..UptoSaid'. A law counts once. -/
mutual
def uptoBulk {H : Type} : DataW H → Nat
  | .lit (.string bytes) => bytes.length + 1
  | .lit _ => 1
  | .nil => 1
  | .ptr d => uptoBulk d + 1
  | .slice elems spare => uptoBulkAll elems + uptoBulkAll spare + 1
  | .agg parts => uptoBulkAll parts + 1
  | .iface _ d => uptoBulk d + 1
  | .map entries => uptoBulkEntries entries + 1
  | .held _ => 1
def uptoBulkAll {H : Type} : List (DataW H) → Nat
  | [] => 0
  | d :: r => uptoBulk d + uptoBulkAll r
def uptoBulkEntries {H : Type} : List (Lit × DataW H) → Nat
  | [] => 0
  | x :: r => uptoBulkEntry x + uptoBulkEntries r
def uptoBulkEntry {H : Type} : Lit × DataW H → Nat
  | (.string bytes, d) => bytes.length + uptoBulk d + 1
  | (_, d) => uptoBulk d + 1
 end
def uptoSmall : (H : Type) → List (DataW H) → Bool := fun _ ds => decide (uptoBulkAll ds ≤ 1048576)
def OpenSpec.upto (s : _root_.Go.ChangeSpec) : _root_.Go.OpenSpec := { _root_.Go.OpenSpec.ofChange s with cond := some uptoSmall }

/-- 'laws.FnFlatAll', WHERE WHAT IT READS IS OF BULK AT MOST 1048576: true; the input reads as it did. -/
def fnFlatAllUptoRow : OpenClaim := { program := "ytfamknibfokfmaa", sum := "0a5a901db23d8cf4ac14f96b17c3bc7adb3f3b6c96d5aed133627b50b4f313d1", func := "loop.example/casket/laws.FnFlatAll", spec := "fnFlatAll", apart := false, narrowed := true }
def FnFlatAllUptoSaid : Prop := fnFlatAllUptoRow.holds Try.pinned (OpenSpec.upto fnFlatAllSpec)

/-- 'laws.FnLoadBad', WHERE WHAT IT READS IS OF BULK AT MOST 1048576: true; the input reads as it did. -/
def fnLoadBadUptoRow : OpenClaim := { program := "ytfamknibfokfmaa", sum := "0a5a901db23d8cf4ac14f96b17c3bc7adb3f3b6c96d5aed133627b50b4f313d1", func := "loop.example/casket/laws.FnLoadBad", spec := "fnLoadBad", apart := false, narrowed := true }
def FnLoadBadUptoSaid : Prop := fnLoadBadUptoRow.holds Try.pinned (OpenSpec.upto fnLoadBadSpec)

/-- 'laws.FnHostNew', WHERE WHAT IT READS IS OF BULK AT MOST 1048576: true; the input reads as it did. -/
def fnHostNewUptoRow : OpenClaim := { program := "ytfamknibfokfmaa", sum := "0a5a901db23d8cf4ac14f96b17c3bc7adb3f3b6c96d5aed133627b50b4f313d1", func := "loop.example/casket/laws.FnHostNew", spec := "fnHostNew", unfollowed := true, recurses := true, apart := false, narrowed := true }
def FnHostNewUptoSaid : Prop := fnHostNewUptoRow.holds Try.pinned (OpenSpec.upto fnHostNewSpec)

/-- 'laws.FnLoadWrite', WHERE WHAT IT READS IS OF BULK AT MOST 1048576: true; the input reads as it did. -/
def fnLoadWriteUptoRow : OpenClaim := { program := "ytfamknibfokfmaa", sum := "0a5a901db23d8cf4ac14f96b17c3bc7adb3f3b6c96d5aed133627b50b4f313d1", func := "loop.example/casket/laws.FnLoadWrite", spec := "fnLoadWrite", unfollowed := true, recurses := true, apart := false, narrowed := true }
def FnLoadWriteUptoSaid : Prop := fnLoadWriteUptoRow.holds Try.pinned (OpenSpec.upto fnLoadWriteSpec)

/-- 'laws.FnHostLoad', WHERE WHAT IT READS IS OF BULK AT MOST 1048576: true; the input reads as it did. -/
def fnHostLoadUptoRow : OpenClaim := { program := "ytfamknibfokfmaa", sum := "0a5a901db23d8cf4ac14f96b17c3bc7adb3f3b6c96d5aed133627b50b4f313d1", func := "loop.example/casket/laws.FnHostLoad", spec := "fnHostLoad", unfollowed := true, recurses := true, apart := false, narrowed := true }
def FnHostLoadUptoSaid : Prop := fnHostLoadUptoRow.holds Try.pinned (OpenSpec.upto fnHostLoadSpec)

/-- 'laws.FnExactHostNew', WHERE WHAT IT READS IS OF BULK AT MOST 1048576: true; the input reads as it did. -/
def fnExactHostNewUptoRow : OpenClaim := { program := "ytfamknibfokfmaa", sum := "0a5a901db23d8cf4ac14f96b17c3bc7adb3f3b6c96d5aed133627b50b4f313d1", func := "loop.example/casket/laws.FnExactHostNew", spec := "fnExactHostNew", apart := false, narrowed := true }
def FnExactHostNewUptoSaid : Prop := fnExactHostNewUptoRow.holds Try.pinned (OpenSpec.upto fnExactHostNewSpec)

/-- 'laws.FnExactHostLoad', WHERE WHAT IT READS IS OF BULK AT MOST 1048576: true; the input reads as it did. -/
def fnExactHostLoadUptoRow : OpenClaim := { program := "ytfamknibfokfmaa", sum := "0a5a901db23d8cf4ac14f96b17c3bc7adb3f3b6c96d5aed133627b50b4f313d1", func := "loop.example/casket/laws.FnExactHostLoad", spec := "fnExactHostLoad", apart := false, narrowed := true }
def FnExactHostLoadUptoSaid : Prop := fnExactHostLoadUptoRow.holds Try.pinned (OpenSpec.upto fnExactHostLoadSpec)

/-- 'laws.FnExactHostOk', WHERE WHAT IT READS IS OF BULK AT MOST 1048576: true; the input reads as it did. -/
def fnExactHostOkUptoRow : OpenClaim := { program := "ytfamknibfokfmaa", sum := "0a5a901db23d8cf4ac14f96b17c3bc7adb3f3b6c96d5aed133627b50b4f313d1", func := "loop.example/casket/laws.FnExactHostOk", spec := "fnExactHostOk", unfollowed := true, recurses := true, apart := false, narrowed := true }
def FnExactHostOkUptoSaid : Prop := fnExactHostOkUptoRow.holds Try.pinned (OpenSpec.upto fnExactHostOkSpec)

/-- 'laws.FnExactHostFree', WHERE WHAT IT READS IS OF BULK AT MOST 1048576: true; the input reads as it did. -/
def fnExactHostFreeUptoRow : OpenClaim := { program := "ytfamknibfokfmaa", sum := "0a5a901db23d8cf4ac14f96b17c3bc7adb3f3b6c96d5aed133627b50b4f313d1", func := "loop.example/casket/laws.FnExactHostFree", spec := "fnExactHostFree", unfollowed := true, recurses := true, apart := false, narrowed := true }
def FnExactHostFreeUptoSaid : Prop := fnExactHostFreeUptoRow.holds Try.pinned (OpenSpec.upto fnExactHostFreeSpec)

end Rows
end Go.Proofs.Ytfamknibfokfmaa
