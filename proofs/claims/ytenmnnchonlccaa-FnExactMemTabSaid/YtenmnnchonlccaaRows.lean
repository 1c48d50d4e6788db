/-
  No cell of these rows narrows 'for every input' (looked for: loops, veiled, ifaces, maps, wideKeys, modest, calm, conditions, laid).
  DERIVED. THE GIVEN ROWS OF THIS SEAT. 12 by the template 'for every input the law returns true; each argument reads behind the call as it read before'; 0 by the template 'total and deterministic' (their statements: YtenmnnchonlccaaTotals.lean).
  GIVEN WITH THE SEED: the statements are not yours to turn. If you find one false, say at which input.
  Laid BY PROGRAM, IN A SANDBOX (cutbox-rows.mjs): the forced cells as the released guide's own fill.sh prints them over the translation ce33167d77c3e46b… (all of the seat's roots in one cut). By AI agents, Wed Nov 11 2026. No macro, syntax, notation, axiom, sorry.
-/
import Derived.Test.YtenmnnchonlccaaChecked
import GoSem.Claim
import GoSem.ClaimJoined
import GoSem.ClaimMapViews
import Derived.JoinedTies
import Derived.KernelRfl
namespace Go.Proofs.Ytenmnnchonlccaa
/- THE CELL 'sum', in the pinned program and in every row, IS THE sha256 OF THE DUMP (.gsa) THAT YtenmnnchonlccaaProg.lean LOADS. Nothing in Lean hashes anything: it is a label: what it is worth is what the hold of that sum in a sandbox is worth. -/
noncomputable def Try.pinned : Pinned := { name := "ytenmnnchonlccaa", sum := "ce33167d77c3e46b9388169602fc8daaa4d50a4e01b4047b11c4e8cd55ebb98c", checked := Try.checked }
namespace Rows
def none {H : Type} : Left H := { results := [], args := [] }

/-- 'laws.FnMemNew': WHATEVER THE INPUT: true; the input reads as it did. -/
def fnMemNewSpec : ChangeSpec := { name := "fnMemNew", fn := fun _ => fun
  | [d] => { results := [.lit (.bool true)], args := [d] }
  | _ => none }
def fnMemNewRow : OpenClaim := { program := "ytenmnnchonlccaa", sum := "ce33167d77c3e46b9388169602fc8daaa4d50a4e01b4047b11c4e8cd55ebb98c", func := "loop.example/casket/laws.FnMemNew", spec := "fnMemNew", apart := false }
def FnMemNewSaid : Prop := fnMemNewRow.holds Try.pinned (OpenSpec.ofChange fnMemNewSpec)

/-- ITS FALSE NEIGHBOUR: 'it returns false'. Refute it at one input. -/
def fnMemNewWrong : ChangeSpec := { name := "fnMemNew", fn := fun _ => fun
  | [d] => { results := [.lit (.bool false)], args := [d] }
  | _ => none }
def FnMemNewWrongFalsely : Prop := fnMemNewRow.holds Try.pinned (OpenSpec.ofChange fnMemNewWrong)

/-- 'laws.FnExactMemAt': WHATEVER THE INPUT: true; the input reads as it did. -/
def fnExactMemAtSpec : ChangeSpec := { name := "fnExactMemAt", fn := fun _ => fun
  | [d1, d2, d3] => { results := [.lit (.bool true)], args := [d1, d2, d3] }
  | _ => none }
def fnExactMemAtRow : OpenClaim := { program := "ytenmnnchonlccaa", sum := "ce33167d77c3e46b9388169602fc8daaa4d50a4e01b4047b11c4e8cd55ebb98c", func := "loop.example/casket/laws.FnExactMemAt", spec := "fnExactMemAt", apart := false }
def FnExactMemAtSaid : Prop := fnExactMemAtRow.holds Try.pinned (OpenSpec.ofChange fnExactMemAtSpec)

/-- ITS FALSE NEIGHBOUR: 'it returns false'. Refute it at one input. -/
def fnExactMemAtWrong : ChangeSpec := { name := "fnExactMemAt", fn := fun _ => fun
  | [d1, d2, d3] => { results := [.lit (.bool false)], args := [d1, d2, d3] }
  | _ => none }
def FnExactMemAtWrongFalsely : Prop := fnExactMemAtRow.holds Try.pinned (OpenSpec.ofChange fnExactMemAtWrong)

/-- 'laws.FnMemPart': WHATEVER THE INPUT: true; the input reads as it did. -/
def fnMemPartSpec : ChangeSpec := { name := "fnMemPart", fn := fun _ => fun
  | [d1, d2] => { results := [.lit (.bool true)], args := [d1, d2] }
  | _ => none }
def fnMemPartRow : OpenClaim := { program := "ytenmnnchonlccaa", sum := "ce33167d77c3e46b9388169602fc8daaa4d50a4e01b4047b11c4e8cd55ebb98c", func := "loop.example/casket/laws.FnMemPart", spec := "fnMemPart", apart := false }
def FnMemPartSaid : Prop := fnMemPartRow.holds Try.pinned (OpenSpec.ofChange fnMemPartSpec)

/-- ITS FALSE NEIGHBOUR: 'it returns false'. Refute it at one input. -/
def fnMemPartWrong : ChangeSpec := { name := "fnMemPart", fn := fun _ => fun
  | [d1, d2] => { results := [.lit (.bool false)], args := [d1, d2] }
  | _ => none }
def FnMemPartWrongFalsely : Prop := fnMemPartRow.holds Try.pinned (OpenSpec.ofChange fnMemPartWrong)

/-- 'laws.FnExactFlatRead': WHATEVER THE INPUT: true; the input reads as it did. -/
def fnExactFlatReadSpec : ChangeSpec := { name := "fnExactFlatRead", fn := fun _ => fun
  | [d1, d2, d3] => { results := [.lit (.bool true)], args := [d1, d2, d3] }
  | _ => none }
def fnExactFlatReadRow : OpenClaim := { program := "ytenmnnchonlccaa", sum := "ce33167d77c3e46b9388169602fc8daaa4d50a4e01b4047b11c4e8cd55ebb98c", func := "loop.example/casket/laws.FnExactFlatRead", spec := "fnExactFlatRead", apart := false }
def FnExactFlatReadSaid : Prop := fnExactFlatReadRow.holds Try.pinned (OpenSpec.ofChange fnExactFlatReadSpec)

/-- ITS FALSE NEIGHBOUR: 'it returns false'. Refute it at one input. -/
def fnExactFlatReadWrong : ChangeSpec := { name := "fnExactFlatRead", fn := fun _ => fun
  | [d1, d2, d3] => { results := [.lit (.bool false)], args := [d1, d2, d3] }
  | _ => none }
def FnExactFlatReadWrongFalsely : Prop := fnExactFlatReadRow.holds Try.pinned (OpenSpec.ofChange fnExactFlatReadWrong)

/-- 'laws.FnMemSame': WHATEVER THE INPUT: true; the input reads as it did. -/
def fnMemSameSpec : ChangeSpec := { name := "fnMemSame", fn := fun _ => fun
  | [d] => { results := [.lit (.bool true)], args := [d] }
  | _ => none }
def fnMemSameRow : OpenClaim := { program := "ytenmnnchonlccaa", sum := "ce33167d77c3e46b9388169602fc8daaa4d50a4e01b4047b11c4e8cd55ebb98c", func := "loop.example/casket/laws.FnMemSame", spec := "fnMemSame", apart := false }
def FnMemSameSaid : Prop := fnMemSameRow.holds Try.pinned (OpenSpec.ofChange fnMemSameSpec)

/-- ITS FALSE NEIGHBOUR: 'it returns false'. Refute it at one input. -/
def fnMemSameWrong : ChangeSpec := { name := "fnMemSame", fn := fun _ => fun
  | [d] => { results := [.lit (.bool false)], args := [d] }
  | _ => none }
def FnMemSameWrongFalsely : Prop := fnMemSameRow.holds Try.pinned (OpenSpec.ofChange fnMemSameWrong)

/-- 'laws.FnExactMemWith': WHATEVER THE INPUT: true; the input reads as it did. -/
def fnExactMemWithSpec : ChangeSpec := { name := "fnExactMemWith", fn := fun _ => fun
  | [d1, d2, d3, d4] => { results := [.lit (.bool true)], args := [d1, d2, d3, d4] }
  | _ => none }
def fnExactMemWithRow : OpenClaim := { program := "ytenmnnchonlccaa", sum := "ce33167d77c3e46b9388169602fc8daaa4d50a4e01b4047b11c4e8cd55ebb98c", func := "loop.example/casket/laws.FnExactMemWith", spec := "fnExactMemWith", apart := false }
def FnExactMemWithSaid : Prop := fnExactMemWithRow.holds Try.pinned (OpenSpec.ofChange fnExactMemWithSpec)

/-- ITS FALSE NEIGHBOUR: 'it returns false'. Refute it at one input. -/
def fnExactMemWithWrong : ChangeSpec := { name := "fnExactMemWith", fn := fun _ => fun
  | [d1, d2, d3, d4] => { results := [.lit (.bool false)], args := [d1, d2, d3, d4] }
  | _ => none }
def FnExactMemWithWrongFalsely : Prop := fnExactMemWithRow.holds Try.pinned (OpenSpec.ofChange fnExactMemWithWrong)

/-- 'laws.FnMemTwice': WHATEVER THE INPUT: true; the input reads as it did. -/
def fnMemTwiceSpec : ChangeSpec := { name := "fnMemTwice", fn := fun _ => fun
  | [d1, d2] => { results := [.lit (.bool true)], args := [d1, d2] }
  | _ => none }
def fnMemTwiceRow : OpenClaim := { program := "ytenmnnchonlccaa", sum := "ce33167d77c3e46b9388169602fc8daaa4d50a4e01b4047b11c4e8cd55ebb98c", func := "loop.example/casket/laws.FnMemTwice", spec := "fnMemTwice", apart := false }
def FnMemTwiceSaid : Prop := fnMemTwiceRow.holds Try.pinned (OpenSpec.ofChange fnMemTwiceSpec)

/-- ITS FALSE NEIGHBOUR: 'it returns false'. Refute it at one input. -/
def fnMemTwiceWrong : ChangeSpec := { name := "fnMemTwice", fn := fun _ => fun
  | [d1, d2] => { results := [.lit (.bool false)], args := [d1, d2] }
  | _ => none }
def FnMemTwiceWrongFalsely : Prop := fnMemTwiceRow.holds Try.pinned (OpenSpec.ofChange fnMemTwiceWrong)

/-- 'laws.FnMemWith': WHATEVER THE INPUT: true; the input reads as it did. -/
def fnMemWithSpec : ChangeSpec := { name := "fnMemWith", fn := fun _ => fun
  | [d] => { results := [.lit (.bool true)], args := [d] }
  | _ => none }
def fnMemWithRow : OpenClaim := { program := "ytenmnnchonlccaa", sum := "ce33167d77c3e46b9388169602fc8daaa4d50a4e01b4047b11c4e8cd55ebb98c", func := "loop.example/casket/laws.FnMemWith", spec := "fnMemWith", apart := false }
def FnMemWithSaid : Prop := fnMemWithRow.holds Try.pinned (OpenSpec.ofChange fnMemWithSpec)

/-- ITS FALSE NEIGHBOUR: 'it returns false'. Refute it at one input. -/
def fnMemWithWrong : ChangeSpec := { name := "fnMemWith", fn := fun _ => fun
  | [d] => { results := [.lit (.bool false)], args := [d] }
  | _ => none }
def FnMemWithWrongFalsely : Prop := fnMemWithRow.holds Try.pinned (OpenSpec.ofChange fnMemWithWrong)

/-- 'laws.FnMemTab': WHATEVER THE INPUT: true; the input reads as it did. -/
def fnMemTabSpec : ChangeSpec := { name := "fnMemTab", fn := fun _ => fun
  | [d] => { results := [.lit (.bool true)], args := [d] }
  | _ => none }
def fnMemTabRow : OpenClaim := { program := "ytenmnnchonlccaa", sum := "ce33167d77c3e46b9388169602fc8daaa4d50a4e01b4047b11c4e8cd55ebb98c", func := "loop.example/casket/laws.FnMemTab", spec := "fnMemTab", apart := false }
def FnMemTabSaid : Prop := fnMemTabRow.holds Try.pinned (OpenSpec.ofChange fnMemTabSpec)

/-- ITS FALSE NEIGHBOUR: 'it returns false'. Refute it at one input. -/
def fnMemTabWrong : ChangeSpec := { name := "fnMemTab", fn := fun _ => fun
  | [d] => { results := [.lit (.bool false)], args := [d] }
  | _ => none }
def FnMemTabWrongFalsely : Prop := fnMemTabRow.holds Try.pinned (OpenSpec.ofChange fnMemTabWrong)

/-- 'laws.FnMemTabLow': WHATEVER THE INPUT: true; the input reads as it did. -/
def fnMemTabLowSpec : ChangeSpec := { name := "fnMemTabLow", fn := fun _ => fun
  | [d] => { results := [.lit (.bool true)], args := [d] }
  | _ => none }
def fnMemTabLowRow : OpenClaim := { program := "ytenmnnchonlccaa", sum := "ce33167d77c3e46b9388169602fc8daaa4d50a4e01b4047b11c4e8cd55ebb98c", func := "loop.example/casket/laws.FnMemTabLow", spec := "fnMemTabLow", apart := false }
def FnMemTabLowSaid : Prop := fnMemTabLowRow.holds Try.pinned (OpenSpec.ofChange fnMemTabLowSpec)

/-- ITS FALSE NEIGHBOUR: 'it returns false'. Refute it at one input. -/
def fnMemTabLowWrong : ChangeSpec := { name := "fnMemTabLow", fn := fun _ => fun
  | [d] => { results := [.lit (.bool false)], args := [d] }
  | _ => none }
def FnMemTabLowWrongFalsely : Prop := fnMemTabLowRow.holds Try.pinned (OpenSpec.ofChange fnMemTabLowWrong)

/-- 'laws.FnExactMemTab': WHATEVER THE INPUT: true; the input reads as it did. -/
def fnExactMemTabSpec : ChangeSpec := { name := "fnExactMemTab", fn := fun _ => fun
  | [d] => { results := [.lit (.bool true)], args := [d] }
  | _ => none }
def fnExactMemTabRow : OpenClaim := { program := "ytenmnnchonlccaa", sum := "ce33167d77c3e46b9388169602fc8daaa4d50a4e01b4047b11c4e8cd55ebb98c", func := "loop.example/casket/laws.FnExactMemTab", spec := "fnExactMemTab", apart := false }
def FnExactMemTabSaid : Prop := fnExactMemTabRow.holds Try.pinned (OpenSpec.ofChange fnExactMemTabSpec)

/-- ITS FALSE NEIGHBOUR: 'it returns false'. Refute it at one input. -/
def fnExactMemTabWrong : ChangeSpec := { name := "fnExactMemTab", fn := fun _ => fun
  | [d] => { results := [.lit (.bool false)], args := [d] }
  | _ => none }
def FnExactMemTabWrongFalsely : Prop := fnExactMemTabRow.holds Try.pinned (OpenSpec.ofChange fnExactMemTabWrong)

/-- 'laws.FnMemEntry': WHATEVER THE INPUT: true; the input reads as it did. -/
def fnMemEntrySpec : ChangeSpec := { name := "fnMemEntry", fn := fun _ => fun
  | [d1, d2] => { results := [.lit (.bool true)], args := [d1, d2] }
  | _ => none }
def fnMemEntryRow : OpenClaim := { program := "ytenmnnchonlccaa", sum := "ce33167d77c3e46b9388169602fc8daaa4d50a4e01b4047b11c4e8cd55ebb98c", func := "loop.example/casket/laws.FnMemEntry", spec := "fnMemEntry", apart := false }
def FnMemEntrySaid : Prop := fnMemEntryRow.holds Try.pinned (OpenSpec.ofChange fnMemEntrySpec)

/-- ITS FALSE NEIGHBOUR: 'it returns false'. Refute it at one input. -/
def fnMemEntryWrong : ChangeSpec := { name := "fnMemEntry", fn := fun _ => fun
  | [d1, d2] => { results := [.lit (.bool false)], args := [d1, d2] }
  | _ => none }
def FnMemEntryWrongFalsely : Prop := fnMemEntryRow.holds Try.pinned (OpenSpec.ofChange fnMemEntryWrong)

/- THE SECOND FORM. 'bulk': how many values and letters a reading holds, each counted each time it is reached (what is shared counts as often as it is met; a slice's spare places count too). A statement '..UptoSaid' is the law's where the arguments, and the package variables that the reading takes, are together of bulk at most 1048576: NARROWER than '..Said'. Prove '..Said' where nothing that the law and all that it calls make is longer than what came in: it says more and counts as full. Else prove '..UptoSaid'. A law counts once. -/
mutual
def uptoBulk {H : Type} : DataW H → Nat
  | .lit (.string bytes) => bytes.length + 1
  | .lit _ => 1
  | .nil => 1
  | .ptr d => uptoBulk d + 1
  | .slice elems spare => uptoBulkAll elems + uptoBulkAll spare + 1
  | .agg parts => uptoBulkAll parts + 1
  | .iface _ d => uptoBulk d + 1
  | .map entries => uptoBulkEntries entries + 1
  | .held _ => 1
def uptoBulkAll {H : Type} : List (DataW H) → Nat
  | [] => 0
  | d :: r => uptoBulk d + uptoBulkAll r
def uptoBulkEntries {H : Type} : List (Lit × DataW H) → Nat
  | [] => 0
  | x :: r => uptoBulkEntry x + uptoBulkEntries r
def uptoBulkEntry {H : Type} : Lit × DataW H → Nat
  | (.string bytes, d) => bytes.length + uptoBulk d + 1
  | (_, d) => uptoBulk d + 1
 end
def uptoSmall : (H : Type) → List (DataW H) → Bool := fun _ ds => decide (uptoBulkAll ds ≤ 1048576)
def OpenSpec.upto (s : _root_.Go.ChangeSpec) : _root_.Go.OpenSpec := { _root_.Go.OpenSpec.ofChange s with cond := some uptoSmall }

/-- 'laws.FnMemNew', WHERE WHAT IT READS IS OF BULK AT MOST 1048576: true; the input reads as it did. -/
def fnMemNewUptoRow : OpenClaim := { program := "ytenmnnchonlccaa", sum := "ce33167d77c3e46b9388169602fc8daaa4d50a4e01b4047b11c4e8cd55ebb98c", func := "loop.example/casket/laws.FnMemNew", spec := "fnMemNew", apart := false, narrowed := true }
def FnMemNewUptoSaid : Prop := fnMemNewUptoRow.holds Try.pinned (OpenSpec.upto fnMemNewSpec)

/-- 'laws.FnExactMemAt', WHERE WHAT IT READS IS OF BULK AT MOST 1048576: true; the input reads as it did. -/
def fnExactMemAtUptoRow : OpenClaim := { program := "ytenmnnchonlccaa", sum := "ce33167d77c3e46b9388169602fc8daaa4d50a4e01b4047b11c4e8cd55ebb98c", func := "loop.example/casket/laws.FnExactMemAt", spec := "fnExactMemAt", apart := false, narrowed := true }
def FnExactMemAtUptoSaid : Prop := fnExactMemAtUptoRow.holds Try.pinned (OpenSpec.upto fnExactMemAtSpec)

/-- 'laws.FnMemPart', WHERE WHAT IT READS IS OF BULK AT MOST 1048576: true; the input reads as it did. -/
def fnMemPartUptoRow : OpenClaim := { program := "ytenmnnchonlccaa", sum := "ce33167d77c3e46b9388169602fc8daaa4d50a4e01b4047b11c4e8cd55ebb98c", func := "loop.example/casket/laws.FnMemPart", spec := "fnMemPart", apart := false, narrowed := true }
def FnMemPartUptoSaid : Prop := fnMemPartUptoRow.holds Try.pinned (OpenSpec.upto fnMemPartSpec)

/-- 'laws.FnExactFlatRead', WHERE WHAT IT READS IS OF BULK AT MOST 1048576: true; the input reads as it did. -/
def fnExactFlatReadUptoRow : OpenClaim := { program := "ytenmnnchonlccaa", sum := "ce33167d77c3e46b9388169602fc8daaa4d50a4e01b4047b11c4e8cd55ebb98c", func := "loop.example/casket/laws.FnExactFlatRead", spec := "fnExactFlatRead", apart := false, narrowed := true }
def FnExactFlatReadUptoSaid : Prop := fnExactFlatReadUptoRow.holds Try.pinned (OpenSpec.upto fnExactFlatReadSpec)

/-- 'laws.FnMemSame', WHERE WHAT IT READS IS OF BULK AT MOST 1048576: true; the input reads as it did. -/
def fnMemSameUptoRow : OpenClaim := { program := "ytenmnnchonlccaa", sum := "ce33167d77c3e46b9388169602fc8daaa4d50a4e01b4047b11c4e8cd55ebb98c", func := "loop.example/casket/laws.FnMemSame", spec := "fnMemSame", apart := false, narrowed := true }
def FnMemSameUptoSaid : Prop := fnMemSameUptoRow.holds Try.pinned (OpenSpec.upto fnMemSameSpec)

/-- 'laws.FnExactMemWith', WHERE WHAT IT READS IS OF BULK AT MOST 1048576: true; the input reads as it did. -/
def fnExactMemWithUptoRow : OpenClaim := { program := "ytenmnnchonlccaa", sum := "ce33167d77c3e46b9388169602fc8daaa4d50a4e01b4047b11c4e8cd55ebb98c", func := "loop.example/casket/laws.FnExactMemWith", spec := "fnExactMemWith", apart := false, narrowed := true }
def FnExactMemWithUptoSaid : Prop := fnExactMemWithUptoRow.holds Try.pinned (OpenSpec.upto fnExactMemWithSpec)

/-- 'laws.FnMemTwice', WHERE WHAT IT READS IS OF BULK AT MOST 1048576: true; the input reads as it did. -/
def fnMemTwiceUptoRow : OpenClaim := { program := "ytenmnnchonlccaa", sum := "ce33167d77c3e46b9388169602fc8daaa4d50a4e01b4047b11c4e8cd55ebb98c", func := "loop.example/casket/laws.FnMemTwice", spec := "fnMemTwice", apart := false, narrowed := true }
def FnMemTwiceUptoSaid : Prop := fnMemTwiceUptoRow.holds Try.pinned (OpenSpec.upto fnMemTwiceSpec)

/-- 'laws.FnMemWith', WHERE WHAT IT READS IS OF BULK AT MOST 1048576: true; the input reads as it did. -/
def fnMemWithUptoRow : OpenClaim := { program := "ytenmnnchonlccaa", sum := "ce33167d77c3e46b9388169602fc8daaa4d50a4e01b4047b11c4e8cd55ebb98c", func := "loop.example/casket/laws.FnMemWith", spec := "fnMemWith", apart := false, narrowed := true }
def FnMemWithUptoSaid : Prop := fnMemWithUptoRow.holds Try.pinned (OpenSpec.upto fnMemWithSpec)

/-- 'laws.FnMemTab', WHERE WHAT IT READS IS OF BULK AT MOST 1048576: true; the input reads as it did. -/
def fnMemTabUptoRow : OpenClaim := { program := "ytenmnnchonlccaa", sum := "ce33167d77c3e46b9388169602fc8daaa4d50a4e01b4047b11c4e8cd55ebb98c", func := "loop.example/casket/laws.FnMemTab", spec := "fnMemTab", apart := false, narrowed := true }
def FnMemTabUptoSaid : Prop := fnMemTabUptoRow.holds Try.pinned (OpenSpec.upto fnMemTabSpec)

/-- 'laws.FnMemTabLow', WHERE WHAT IT READS IS OF BULK AT MOST 1048576: true; the input reads as it did. -/
def fnMemTabLowUptoRow : OpenClaim := { program := "ytenmnnchonlccaa", sum := "ce33167d77c3e46b9388169602fc8daaa4d50a4e01b4047b11c4e8cd55ebb98c", func := "loop.example/casket/laws.FnMemTabLow", spec := "fnMemTabLow", apart := false, narrowed := true }
def FnMemTabLowUptoSaid : Prop := fnMemTabLowUptoRow.holds Try.pinned (OpenSpec.upto fnMemTabLowSpec)

/-- 'laws.FnExactMemTab', WHERE WHAT IT READS IS OF BULK AT MOST 1048576: true; the input reads as it did. -/
def fnExactMemTabUptoRow : OpenClaim := { program := "ytenmnnchonlccaa", sum := "ce33167d77c3e46b9388169602fc8daaa4d50a4e01b4047b11c4e8cd55ebb98c", func := "loop.example/casket/laws.FnExactMemTab", spec := "fnExactMemTab", apart := false, narrowed := true }
def FnExactMemTabUptoSaid : Prop := fnExactMemTabUptoRow.holds Try.pinned (OpenSpec.upto fnExactMemTabSpec)

/-- 'laws.FnMemEntry', WHERE WHAT IT READS IS OF BULK AT MOST 1048576: true; the input reads as it did. -/
def fnMemEntryUptoRow : OpenClaim := { program := "ytenmnnchonlccaa", sum := "ce33167d77c3e46b9388169602fc8daaa4d50a4e01b4047b11c4e8cd55ebb98c", func := "loop.example/casket/laws.FnMemEntry", spec := "fnMemEntry", apart := false, narrowed := true }
def FnMemEntryUptoSaid : Prop := fnMemEntryUptoRow.holds Try.pinned (OpenSpec.upto fnMemEntrySpec)

end Rows
end Go.Proofs.Ytenmnnchonlccaa
