/-
  No cell of these rows narrows 'for every input' (looked for: loops, veiled, ifaces, maps, wideKeys, modest, calm, conditions, laid).
  DERIVED. THE GIVEN ROWS OF THIS SEAT. 12 by the template 'for every input the law returns true; each argument reads behind the call as it read before'; 0 by the template 'total and deterministic' (their statements: YtpbhoimkcoggfaaTotals.lean).
  GIVEN WITH THE SEED: the statements are not yours to turn. If you find one false, say at which input.
  Laid BY PROGRAM, IN A SANDBOX (cutbox-rows.mjs): the forced cells as the released guide's own fill.sh prints them over the translation af888c347077f72f… (all of the seat's roots in one cut). By AI agents, Wed Nov 11 2026. No macro, syntax, notation, axiom, sorry.
-/
import Derived.Test.YtpbhoimkcoggfaaChecked
import GoSem.Claim
import GoSem.ClaimJoined
import GoSem.ClaimMapViews
import Derived.JoinedTies
import Derived.KernelRfl
namespace Go.Proofs.Ytpbhoimkcoggfaa
/- THE CELL 'sum', in the pinned program and in every row, IS THE sha256 OF THE DUMP (.gsa) THAT YtpbhoimkcoggfaaProg.lean LOADS. Nothing in Lean hashes anything: it is a label: what it is worth is what the hold of that sum in a sandbox is worth. -/
noncomputable def Try.pinned : Pinned := { name := "ytpbhoimkcoggfaa", sum := "af888c347077f72fb7b8b36a2881b58c224d42df660af674fc65bcae1bc84542", checked := Try.checked }
namespace Rows
def none {H : Type} : Left H := { results := [], args := [] }

/-- 'laws.FnExactFlatWrite': WHATEVER THE INPUT: true; the input reads as it did. -/
def fnExactFlatWriteSpec : ChangeSpec := { name := "fnExactFlatWrite", fn := fun _ => fun
  | [d1, d2, d3, d4] => { results := [.lit (.bool true)], args := [d1, d2, d3, d4] }
  | _ => none }
def fnExactFlatWriteRow : OpenClaim := { program := "ytpbhoimkcoggfaa", sum := "af888c347077f72fb7b8b36a2881b58c224d42df660af674fc65bcae1bc84542", func := "loop.example/casket/laws.FnExactFlatWrite", spec := "fnExactFlatWrite", apart := false }
def FnExactFlatWriteSaid : Prop := fnExactFlatWriteRow.holds Try.pinned (OpenSpec.ofChange fnExactFlatWriteSpec)

/-- ITS FALSE NEIGHBOUR: 'it returns false'. Refute it at one input. -/
def fnExactFlatWriteWrong : ChangeSpec := { name := "fnExactFlatWrite", fn := fun _ => fun
  | [d1, d2, d3, d4] => { results := [.lit (.bool false)], args := [d1, d2, d3, d4] }
  | _ => none }
def FnExactFlatWriteWrongFalsely : Prop := fnExactFlatWriteRow.holds Try.pinned (OpenSpec.ofChange fnExactFlatWriteWrong)

/-- 'laws.FnExactFlatReadIn': WHATEVER THE INPUT: true; the input reads as it did. -/
def fnExactFlatReadInSpec : ChangeSpec := { name := "fnExactFlatReadIn", fn := fun _ => fun
  | [d1, d2, d3] => { results := [.lit (.bool true)], args := [d1, d2, d3] }
  | _ => none }
def fnExactFlatReadInRow : OpenClaim := { program := "ytpbhoimkcoggfaa", sum := "af888c347077f72fb7b8b36a2881b58c224d42df660af674fc65bcae1bc84542", func := "loop.example/casket/laws.FnExactFlatReadIn", spec := "fnExactFlatReadIn", apart := false }
def FnExactFlatReadInSaid : Prop := fnExactFlatReadInRow.holds Try.pinned (OpenSpec.ofChange fnExactFlatReadInSpec)

/-- ITS FALSE NEIGHBOUR: 'it returns false'. Refute it at one input. -/
def fnExactFlatReadInWrong : ChangeSpec := { name := "fnExactFlatReadIn", fn := fun _ => fun
  | [d1, d2, d3] => { results := [.lit (.bool false)], args := [d1, d2, d3] }
  | _ => none }
def FnExactFlatReadInWrongFalsely : Prop := fnExactFlatReadInRow.holds Try.pinned (OpenSpec.ofChange fnExactFlatReadInWrong)

/-- 'laws.FnFlatBack': WHATEVER THE INPUT: true; the input reads as it did. -/
def fnFlatBackSpec : ChangeSpec := { name := "fnFlatBack", fn := fun _ => fun
  | [d] => { results := [.lit (.bool true)], args := [d] }
  | _ => none }
def fnFlatBackRow : OpenClaim := { program := "ytpbhoimkcoggfaa", sum := "af888c347077f72fb7b8b36a2881b58c224d42df660af674fc65bcae1bc84542", func := "loop.example/casket/laws.FnFlatBack", spec := "fnFlatBack", apart := false }
def FnFlatBackSaid : Prop := fnFlatBackRow.holds Try.pinned (OpenSpec.ofChange fnFlatBackSpec)

/-- ITS FALSE NEIGHBOUR: 'it returns false'. Refute it at one input. -/
def fnFlatBackWrong : ChangeSpec := { name := "fnFlatBack", fn := fun _ => fun
  | [d] => { results := [.lit (.bool false)], args := [d] }
  | _ => none }
def FnFlatBackWrongFalsely : Prop := fnFlatBackRow.holds Try.pinned (OpenSpec.ofChange fnFlatBackWrong)

/-- 'laws.FnFlatIn': WHATEVER THE INPUT: true; the input reads as it did. -/
def fnFlatInSpec : ChangeSpec := { name := "fnFlatIn", fn := fun _ => fun
  | [d] => { results := [.lit (.bool true)], args := [d] }
  | _ => none }
def fnFlatInRow : OpenClaim := { program := "ytpbhoimkcoggfaa", sum := "af888c347077f72fb7b8b36a2881b58c224d42df660af674fc65bcae1bc84542", func := "loop.example/casket/laws.FnFlatIn", spec := "fnFlatIn", apart := false }
def FnFlatInSaid : Prop := fnFlatInRow.holds Try.pinned (OpenSpec.ofChange fnFlatInSpec)

/-- ITS FALSE NEIGHBOUR: 'it returns false'. Refute it at one input. -/
def fnFlatInWrong : ChangeSpec := { name := "fnFlatIn", fn := fun _ => fun
  | [d] => { results := [.lit (.bool false)], args := [d] }
  | _ => none }
def FnFlatInWrongFalsely : Prop := fnFlatInRow.holds Try.pinned (OpenSpec.ofChange fnFlatInWrong)

/-- 'laws.FnFlatTab': WHATEVER THE INPUT: true; the input reads as it did. -/
def fnFlatTabSpec : ChangeSpec := { name := "fnFlatTab", fn := fun _ => fun
  | [d1, d2] => { results := [.lit (.bool true)], args := [d1, d2] }
  | _ => none }
def fnFlatTabRow : OpenClaim := { program := "ytpbhoimkcoggfaa", sum := "af888c347077f72fb7b8b36a2881b58c224d42df660af674fc65bcae1bc84542", func := "loop.example/casket/laws.FnFlatTab", spec := "fnFlatTab", apart := false }
def FnFlatTabSaid : Prop := fnFlatTabRow.holds Try.pinned (OpenSpec.ofChange fnFlatTabSpec)

/-- ITS FALSE NEIGHBOUR: 'it returns false'. Refute it at one input. -/
def fnFlatTabWrong : ChangeSpec := { name := "fnFlatTab", fn := fun _ => fun
  | [d1, d2] => { results := [.lit (.bool false)], args := [d1, d2] }
  | _ => none }
def FnFlatTabWrongFalsely : Prop := fnFlatTabRow.holds Try.pinned (OpenSpec.ofChange fnFlatTabWrong)

/-- 'laws.FnFlatOver': WHATEVER THE INPUT: true; the input reads as it did. -/
def fnFlatOverSpec : ChangeSpec := { name := "fnFlatOver", fn := fun _ => fun
  | [d] => { results := [.lit (.bool true)], args := [d] }
  | _ => none }
def fnFlatOverRow : OpenClaim := { program := "ytpbhoimkcoggfaa", sum := "af888c347077f72fb7b8b36a2881b58c224d42df660af674fc65bcae1bc84542", func := "loop.example/casket/laws.FnFlatOver", spec := "fnFlatOver", apart := false }
def FnFlatOverSaid : Prop := fnFlatOverRow.holds Try.pinned (OpenSpec.ofChange fnFlatOverSpec)

/-- ITS FALSE NEIGHBOUR: 'it returns false'. Refute it at one input. -/
def fnFlatOverWrong : ChangeSpec := { name := "fnFlatOver", fn := fun _ => fun
  | [d] => { results := [.lit (.bool false)], args := [d] }
  | _ => none }
def FnFlatOverWrongFalsely : Prop := fnFlatOverRow.holds Try.pinned (OpenSpec.ofChange fnFlatOverWrong)

/-- 'laws.FnFlatBad': WHATEVER THE INPUT: true; the input reads as it did. -/
def fnFlatBadSpec : ChangeSpec := { name := "fnFlatBad", fn := fun _ => fun
  | [d] => { results := [.lit (.bool true)], args := [d] }
  | _ => none }
def fnFlatBadRow : OpenClaim := { program := "ytpbhoimkcoggfaa", sum := "af888c347077f72fb7b8b36a2881b58c224d42df660af674fc65bcae1bc84542", func := "loop.example/casket/laws.FnFlatBad", spec := "fnFlatBad", apart := false }
def FnFlatBadSaid : Prop := fnFlatBadRow.holds Try.pinned (OpenSpec.ofChange fnFlatBadSpec)

/-- ITS FALSE NEIGHBOUR: 'it returns false'. Refute it at one input. -/
def fnFlatBadWrong : ChangeSpec := { name := "fnFlatBad", fn := fun _ => fun
  | [d] => { results := [.lit (.bool false)], args := [d] }
  | _ => none }
def FnFlatBadWrongFalsely : Prop := fnFlatBadRow.holds Try.pinned (OpenSpec.ofChange fnFlatBadWrong)

/-- 'laws.FnExactFlatWriteIn': WHATEVER THE INPUT: true; the input reads as it did. -/
def fnExactFlatWriteInSpec : ChangeSpec := { name := "fnExactFlatWriteIn", fn := fun _ => fun
  | [d1, d2, d3, d4] => { results := [.lit (.bool true)], args := [d1, d2, d3, d4] }
  | _ => none }
def fnExactFlatWriteInRow : OpenClaim := { program := "ytpbhoimkcoggfaa", sum := "af888c347077f72fb7b8b36a2881b58c224d42df660af674fc65bcae1bc84542", func := "loop.example/casket/laws.FnExactFlatWriteIn", spec := "fnExactFlatWriteIn", apart := false }
def FnExactFlatWriteInSaid : Prop := fnExactFlatWriteInRow.holds Try.pinned (OpenSpec.ofChange fnExactFlatWriteInSpec)

/-- ITS FALSE NEIGHBOUR: 'it returns false'. Refute it at one input. -/
def fnExactFlatWriteInWrong : ChangeSpec := { name := "fnExactFlatWriteIn", fn := fun _ => fun
  | [d1, d2, d3, d4] => { results := [.lit (.bool false)], args := [d1, d2, d3, d4] }
  | _ => none }
def FnExactFlatWriteInWrongFalsely : Prop := fnExactFlatWriteInRow.holds Try.pinned (OpenSpec.ofChange fnExactFlatWriteInWrong)

/-- 'laws.FnFlatInTwice': WHATEVER THE INPUT: true; the input reads as it did. -/
def fnFlatInTwiceSpec : ChangeSpec := { name := "fnFlatInTwice", fn := fun _ => fun
  | [d1, d2] => { results := [.lit (.bool true)], args := [d1, d2] }
  | _ => none }
def fnFlatInTwiceRow : OpenClaim := { program := "ytpbhoimkcoggfaa", sum := "af888c347077f72fb7b8b36a2881b58c224d42df660af674fc65bcae1bc84542", func := "loop.example/casket/laws.FnFlatInTwice", spec := "fnFlatInTwice", apart := false }
def FnFlatInTwiceSaid : Prop := fnFlatInTwiceRow.holds Try.pinned (OpenSpec.ofChange fnFlatInTwiceSpec)

/-- ITS FALSE NEIGHBOUR: 'it returns false'. Refute it at one input. -/
def fnFlatInTwiceWrong : ChangeSpec := { name := "fnFlatInTwice", fn := fun _ => fun
  | [d1, d2] => { results := [.lit (.bool false)], args := [d1, d2] }
  | _ => none }
def FnFlatInTwiceWrongFalsely : Prop := fnFlatInTwiceRow.holds Try.pinned (OpenSpec.ofChange fnFlatInTwiceWrong)

/-- 'laws.FnFlatDenied': WHATEVER THE INPUT: true; the input reads as it did. -/
def fnFlatDeniedSpec : ChangeSpec := { name := "fnFlatDenied", fn := fun _ => fun
  | [d] => { results := [.lit (.bool true)], args := [d] }
  | _ => none }
def fnFlatDeniedRow : OpenClaim := { program := "ytpbhoimkcoggfaa", sum := "af888c347077f72fb7b8b36a2881b58c224d42df660af674fc65bcae1bc84542", func := "loop.example/casket/laws.FnFlatDenied", spec := "fnFlatDenied", apart := false }
def FnFlatDeniedSaid : Prop := fnFlatDeniedRow.holds Try.pinned (OpenSpec.ofChange fnFlatDeniedSpec)

/-- ITS FALSE NEIGHBOUR: 'it returns false'. Refute it at one input. -/
def fnFlatDeniedWrong : ChangeSpec := { name := "fnFlatDenied", fn := fun _ => fun
  | [d] => { results := [.lit (.bool false)], args := [d] }
  | _ => none }
def FnFlatDeniedWrongFalsely : Prop := fnFlatDeniedRow.holds Try.pinned (OpenSpec.ofChange fnFlatDeniedWrong)

/-- 'laws.FnFlatMirror': WHATEVER THE INPUT: true; the input reads as it did. -/
def fnFlatMirrorSpec : ChangeSpec := { name := "fnFlatMirror", fn := fun _ => fun
  | [d1, d2] => { results := [.lit (.bool true)], args := [d1, d2] }
  | _ => none }
def fnFlatMirrorRow : OpenClaim := { program := "ytpbhoimkcoggfaa", sum := "af888c347077f72fb7b8b36a2881b58c224d42df660af674fc65bcae1bc84542", func := "loop.example/casket/laws.FnFlatMirror", spec := "fnFlatMirror", apart := false }
def FnFlatMirrorSaid : Prop := fnFlatMirrorRow.holds Try.pinned (OpenSpec.ofChange fnFlatMirrorSpec)

/-- ITS FALSE NEIGHBOUR: 'it returns false'. Refute it at one input. -/
def fnFlatMirrorWrong : ChangeSpec := { name := "fnFlatMirror", fn := fun _ => fun
  | [d1, d2] => { results := [.lit (.bool false)], args := [d1, d2] }
  | _ => none }
def FnFlatMirrorWrongFalsely : Prop := fnFlatMirrorRow.holds Try.pinned (OpenSpec.ofChange fnFlatMirrorWrong)

/-- 'laws.FnFlatInWrite': WHATEVER THE INPUT: true; the input reads as it did. -/
def fnFlatInWriteSpec : ChangeSpec := { name := "fnFlatInWrite", fn := fun _ => fun
  | [d] => { results := [.lit (.bool true)], args := [d] }
  | _ => none }
def fnFlatInWriteRow : OpenClaim := { program := "ytpbhoimkcoggfaa", sum := "af888c347077f72fb7b8b36a2881b58c224d42df660af674fc65bcae1bc84542", func := "loop.example/casket/laws.FnFlatInWrite", spec := "fnFlatInWrite", apart := false }
def FnFlatInWriteSaid : Prop := fnFlatInWriteRow.holds Try.pinned (OpenSpec.ofChange fnFlatInWriteSpec)

/-- ITS FALSE NEIGHBOUR: 'it returns false'. Refute it at one input. -/
def fnFlatInWriteWrong : ChangeSpec := { name := "fnFlatInWrite", fn := fun _ => fun
  | [d] => { results := [.lit (.bool false)], args := [d] }
  | _ => none }
def FnFlatInWriteWrongFalsely : Prop := fnFlatInWriteRow.holds Try.pinned (OpenSpec.ofChange fnFlatInWriteWrong)

/- THE SECOND FORM. 'bulk': how many values and letters a reading holds, each counted each time it is reached (what is shared counts as often as it is met; a slice's spare places count too). A statement '..UptoSaid' is the law's where the arguments, and the package variables that the reading takes, are together of bulk at most 1048576: NARROWER than '..Said'. Prove '..Said' where nothing that the law and all that it calls make is longer than what came in: it says more and counts as full. Else prove '..UptoSaid'. A law counts once. -/
mutual
def uptoBulk {H : Type} : DataW H → Nat
  | .lit (.string bytes) => bytes.length + 1
  | .lit _ => 1
  | .nil => 1
  | .ptr d => uptoBulk d + 1
  | .slice elems spare => uptoBulkAll elems + uptoBulkAll spare + 1
  | .agg parts => uptoBulkAll parts + 1
  | .iface _ d => uptoBulk d + 1
  | .map entries => uptoBulkEntries entries + 1
  | .held _ => 1
def uptoBulkAll {H : Type} : List (DataW H) → Nat
  | [] => 0
  | d :: r => uptoBulk d + uptoBulkAll r
def uptoBulkEntries {H : Type} : List (Lit × DataW H) → Nat
  | [] => 0
  | x :: r => uptoBulkEntry x + uptoBulkEntries r
def uptoBulkEntry {H : Type} : Lit × DataW H → Nat
  | (.string bytes, d) => bytes.length + uptoBulk d + 1
  | (_, d) => uptoBulk d + 1
 end
def uptoSmall : (H : Type) → List (DataW H) → Bool := fun _ ds => decide (uptoBulkAll ds ≤ 1048576)
def OpenSpec.upto (s : _root_.Go.ChangeSpec) : _root_.Go.OpenSpec := { _root_.Go.OpenSpec.ofChange s with cond := some uptoSmall }

/-- 'laws.FnExactFlatWrite', WHERE WHAT IT READS IS OF BULK AT MOST 1048576: true; the input reads as it did. -/
def fnExactFlatWriteUptoRow : OpenClaim := { program := "ytpbhoimkcoggfaa", sum := "af888c347077f72fb7b8b36a2881b58c224d42df660af674fc65bcae1bc84542", func := "loop.example/casket/laws.FnExactFlatWrite", spec := "fnExactFlatWrite", apart := false, narrowed := true }
def FnExactFlatWriteUptoSaid : Prop := fnExactFlatWriteUptoRow.holds Try.pinned (OpenSpec.upto fnExactFlatWriteSpec)

/-- 'laws.FnExactFlatReadIn', WHERE WHAT IT READS IS OF BULK AT MOST 1048576: true; the input reads as it did. -/
def fnExactFlatReadInUptoRow : OpenClaim := { program := "ytpbhoimkcoggfaa", sum := "af888c347077f72fb7b8b36a2881b58c224d42df660af674fc65bcae1bc84542", func := "loop.example/casket/laws.FnExactFlatReadIn", spec := "fnExactFlatReadIn", apart := false, narrowed := true }
def FnExactFlatReadInUptoSaid : Prop := fnExactFlatReadInUptoRow.holds Try.pinned (OpenSpec.upto fnExactFlatReadInSpec)

/-- 'laws.FnFlatBack', WHERE WHAT IT READS IS OF BULK AT MOST 1048576: true; the input reads as it did. -/
def fnFlatBackUptoRow : OpenClaim := { program := "ytpbhoimkcoggfaa", sum := "af888c347077f72fb7b8b36a2881b58c224d42df660af674fc65bcae1bc84542", func := "loop.example/casket/laws.FnFlatBack", spec := "fnFlatBack", apart := false, narrowed := true }
def FnFlatBackUptoSaid : Prop := fnFlatBackUptoRow.holds Try.pinned (OpenSpec.upto fnFlatBackSpec)

/-- 'laws.FnFlatIn', WHERE WHAT IT READS IS OF BULK AT MOST 1048576: true; the input reads as it did. -/
def fnFlatInUptoRow : OpenClaim := { program := "ytpbhoimkcoggfaa", sum := "af888c347077f72fb7b8b36a2881b58c224d42df660af674fc65bcae1bc84542", func := "loop.example/casket/laws.FnFlatIn", spec := "fnFlatIn", apart := false, narrowed := true }
def FnFlatInUptoSaid : Prop := fnFlatInUptoRow.holds Try.pinned (OpenSpec.upto fnFlatInSpec)

/-- 'laws.FnFlatTab', WHERE WHAT IT READS IS OF BULK AT MOST 1048576: true; the input reads as it did. -/
def fnFlatTabUptoRow : OpenClaim := { program := "ytpbhoimkcoggfaa", sum := "af888c347077f72fb7b8b36a2881b58c224d42df660af674fc65bcae1bc84542", func := "loop.example/casket/laws.FnFlatTab", spec := "fnFlatTab", apart := false, narrowed := true }
def FnFlatTabUptoSaid : Prop := fnFlatTabUptoRow.holds Try.pinned (OpenSpec.upto fnFlatTabSpec)

/-- 'laws.FnFlatOver', WHERE WHAT IT READS IS OF BULK AT MOST 1048576: true; the input reads as it did. -/
def fnFlatOverUptoRow : OpenClaim := { program := "ytpbhoimkcoggfaa", sum := "af888c347077f72fb7b8b36a2881b58c224d42df660af674fc65bcae1bc84542", func := "loop.example/casket/laws.FnFlatOver", spec := "fnFlatOver", apart := false, narrowed := true }
def FnFlatOverUptoSaid : Prop := fnFlatOverUptoRow.holds Try.pinned (OpenSpec.upto fnFlatOverSpec)

/-- 'laws.FnFlatBad', WHERE WHAT IT READS IS OF BULK AT MOST 1048576: true; the input reads as it did. -/
def fnFlatBadUptoRow : OpenClaim := { program := "ytpbhoimkcoggfaa", sum := "af888c347077f72fb7b8b36a2881b58c224d42df660af674fc65bcae1bc84542", func := "loop.example/casket/laws.FnFlatBad", spec := "fnFlatBad", apart := false, narrowed := true }
def FnFlatBadUptoSaid : Prop := fnFlatBadUptoRow.holds Try.pinned (OpenSpec.upto fnFlatBadSpec)

/-- 'laws.FnExactFlatWriteIn', WHERE WHAT IT READS IS OF BULK AT MOST 1048576: true; the input reads as it did. -/
def fnExactFlatWriteInUptoRow : OpenClaim := { program := "ytpbhoimkcoggfaa", sum := "af888c347077f72fb7b8b36a2881b58c224d42df660af674fc65bcae1bc84542", func := "loop.example/casket/laws.FnExactFlatWriteIn", spec := "fnExactFlatWriteIn", apart := false, narrowed := true }
def FnExactFlatWriteInUptoSaid : Prop := fnExactFlatWriteInUptoRow.holds Try.pinned (OpenSpec.upto fnExactFlatWriteInSpec)

/-- 'laws.FnFlatInTwice', WHERE WHAT IT READS IS OF BULK AT MOST 1048576: true; the input reads as it did. -/
def fnFlatInTwiceUptoRow : OpenClaim := { program := "ytpbhoimkcoggfaa", sum := "af888c347077f72fb7b8b36a2881b58c224d42df660af674fc65bcae1bc84542", func := "loop.example/casket/laws.FnFlatInTwice", spec := "fnFlatInTwice", apart := false, narrowed := true }
def FnFlatInTwiceUptoSaid : Prop := fnFlatInTwiceUptoRow.holds Try.pinned (OpenSpec.upto fnFlatInTwiceSpec)

/-- 'laws.FnFlatDenied', WHERE WHAT IT READS IS OF BULK AT MOST 1048576: true; the input reads as it did. -/
def fnFlatDeniedUptoRow : OpenClaim := { program := "ytpbhoimkcoggfaa", sum := "af888c347077f72fb7b8b36a2881b58c224d42df660af674fc65bcae1bc84542", func := "loop.example/casket/laws.FnFlatDenied", spec := "fnFlatDenied", apart := false, narrowed := true }
def FnFlatDeniedUptoSaid : Prop := fnFlatDeniedUptoRow.holds Try.pinned (OpenSpec.upto fnFlatDeniedSpec)

/-- 'laws.FnFlatMirror', WHERE WHAT IT READS IS OF BULK AT MOST 1048576: true; the input reads as it did. -/
def fnFlatMirrorUptoRow : OpenClaim := { program := "ytpbhoimkcoggfaa", sum := "af888c347077f72fb7b8b36a2881b58c224d42df660af674fc65bcae1bc84542", func := "loop.example/casket/laws.FnFlatMirror", spec := "fnFlatMirror", apart := false, narrowed := true }
def FnFlatMirrorUptoSaid : Prop := fnFlatMirrorUptoRow.holds Try.pinned (OpenSpec.upto fnFlatMirrorSpec)

/-- 'laws.FnFlatInWrite', WHERE WHAT IT READS IS OF BULK AT MOST 1048576: true; the input reads as it did. -/
def fnFlatInWriteUptoRow : OpenClaim := { program := "ytpbhoimkcoggfaa", sum := "af888c347077f72fb7b8b36a2881b58c224d42df660af674fc65bcae1bc84542", func := "loop.example/casket/laws.FnFlatInWrite", spec := "fnFlatInWrite", apart := false, narrowed := true }
def FnFlatInWriteUptoSaid : Prop := fnFlatInWriteUptoRow.holds Try.pinned (OpenSpec.upto fnFlatInWriteSpec)

end Rows
end Go.Proofs.Ytpbhoimkcoggfaa
