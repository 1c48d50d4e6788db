/-
  No cell of these rows narrows 'for every input' (looked for: loops, veiled, ifaces, maps, wideKeys, modest, calm, conditions, laid).
  DERIVED. THE GIVEN ROWS OF THIS SEAT. 6 by the template 'for every input the law returns true; each argument reads behind the call as it read before'; 0 by the template 'total and deterministic' (their statements: YtgkhplaceedmaaaTotals.lean).
  GIVEN WITH THE SEED: the statements are not yours to turn. If you find one false, say at which input.
  Laid BY PROGRAM, IN A SANDBOX (cutbox-rows.mjs): the forced cells as the released guide's own fill.sh prints them over the translation 6498d3413b22d111… (all of the seat's roots in one cut). By AI agents, Wed Nov 11 2026. No macro, syntax, notation, axiom, sorry.
-/
import Derived.Test.YtgkhplaceedmaaaChecked
import GoSem.Claim
import GoSem.ClaimJoined
import GoSem.ClaimMapViews
import Derived.JoinedTies
import Derived.KernelRfl
namespace Go.Proofs.Ytgkhplaceedmaaa
/- THE CELL 'sum', in the pinned program and in every row, IS THE sha256 OF THE DUMP (.gsa) THAT YtgkhplaceedmaaaProg.lean LOADS. Nothing in Lean hashes anything: it is a label: what it is worth is what the hold of that sum in a sandbox is worth. -/
noncomputable def Try.pinned : Pinned := { name := "ytgkhplaceedmaaa", sum := "6498d3413b22d111e293471240a514bc520ded020a6180e0440a1bc7a50007f0", checked := Try.checked }
namespace Rows
def none {H : Type} : Left H := { results := [], args := [] }

/-- 'laws.FnExactConstants': WHATEVER THE INPUT: true; the input reads as it did. -/
def fnExactConstantsSpec : ChangeSpec := { name := "fnExactConstants", fn := fun _ => fun
  | [] => { results := [.lit (.bool true)], args := [] }
  | _ => none }
def fnExactConstantsRow : OpenClaim := { program := "ytgkhplaceedmaaa", sum := "6498d3413b22d111e293471240a514bc520ded020a6180e0440a1bc7a50007f0", func := "loop.example/casket/laws.FnExactConstants", spec := "fnExactConstants", apart := false }
def FnExactConstantsSaid : Prop := fnExactConstantsRow.holds Try.pinned (OpenSpec.ofChange fnExactConstantsSpec)

/-- ITS FALSE NEIGHBOUR: 'it returns false'. Refute it at one input. -/
def fnExactConstantsWrong : ChangeSpec := { name := "fnExactConstants", fn := fun _ => fun
  | [] => { results := [.lit (.bool false)], args := [] }
  | _ => none }
def FnExactConstantsWrongFalsely : Prop := fnExactConstantsRow.holds Try.pinned (OpenSpec.ofChange fnExactConstantsWrong)

/-- 'laws.FnExactEntryNum': WHATEVER THE INPUT: true; the input reads as it did. -/
def fnExactEntryNumSpec : ChangeSpec := { name := "fnExactEntryNum", fn := fun _ => fun
  | [d] => { results := [.lit (.bool true)], args := [d] }
  | _ => none }
def fnExactEntryNumRow : OpenClaim := { program := "ytgkhplaceedmaaa", sum := "6498d3413b22d111e293471240a514bc520ded020a6180e0440a1bc7a50007f0", func := "loop.example/casket/laws.FnExactEntryNum", spec := "fnExactEntryNum", apart := false }
def FnExactEntryNumSaid : Prop := fnExactEntryNumRow.holds Try.pinned (OpenSpec.ofChange fnExactEntryNumSpec)

/-- ITS FALSE NEIGHBOUR: 'it returns false'. Refute it at one input. -/
def fnExactEntryNumWrong : ChangeSpec := { name := "fnExactEntryNum", fn := fun _ => fun
  | [d] => { results := [.lit (.bool false)], args := [d] }
  | _ => none }
def FnExactEntryNumWrongFalsely : Prop := fnExactEntryNumRow.holds Try.pinned (OpenSpec.ofChange fnExactEntryNumWrong)

/-- 'laws.FnExactEntryOf': WHATEVER THE INPUT: true; the input reads as it did. -/
def fnExactEntryOfSpec : ChangeSpec := { name := "fnExactEntryOf", fn := fun _ => fun
  | [d] => { results := [.lit (.bool true)], args := [d] }
  | _ => none }
def fnExactEntryOfRow : OpenClaim := { program := "ytgkhplaceedmaaa", sum := "6498d3413b22d111e293471240a514bc520ded020a6180e0440a1bc7a50007f0", func := "loop.example/casket/laws.FnExactEntryOf", spec := "fnExactEntryOf", apart := false }
def FnExactEntryOfSaid : Prop := fnExactEntryOfRow.holds Try.pinned (OpenSpec.ofChange fnExactEntryOfSpec)

/-- ITS FALSE NEIGHBOUR: 'it returns false'. Refute it at one input. -/
def fnExactEntryOfWrong : ChangeSpec := { name := "fnExactEntryOf", fn := fun _ => fun
  | [d] => { results := [.lit (.bool false)], args := [d] }
  | _ => none }
def FnExactEntryOfWrongFalsely : Prop := fnExactEntryOfRow.holds Try.pinned (OpenSpec.ofChange fnExactEntryOfWrong)

/-- 'laws.FnEntryOf': WHATEVER THE INPUT: true; the input reads as it did. -/
def fnEntryOfSpec : ChangeSpec := { name := "fnEntryOf", fn := fun _ => fun
  | [d] => { results := [.lit (.bool true)], args := [d] }
  | _ => none }
def fnEntryOfRow : OpenClaim := { program := "ytgkhplaceedmaaa", sum := "6498d3413b22d111e293471240a514bc520ded020a6180e0440a1bc7a50007f0", func := "loop.example/casket/laws.FnEntryOf", spec := "fnEntryOf", apart := false }
def FnEntryOfSaid : Prop := fnEntryOfRow.holds Try.pinned (OpenSpec.ofChange fnEntryOfSpec)

/-- ITS FALSE NEIGHBOUR: 'it returns false'. Refute it at one input. -/
def fnEntryOfWrong : ChangeSpec := { name := "fnEntryOf", fn := fun _ => fun
  | [d] => { results := [.lit (.bool false)], args := [d] }
  | _ => none }
def FnEntryOfWrongFalsely : Prop := fnEntryOfRow.holds Try.pinned (OpenSpec.ofChange fnEntryOfWrong)

/-- 'laws.FnEntryOne': WHATEVER THE INPUT: true; the input reads as it did. -/
def fnEntryOneSpec : ChangeSpec := { name := "fnEntryOne", fn := fun _ => fun
  | [d1, d2] => { results := [.lit (.bool true)], args := [d1, d2] }
  | _ => none }
def fnEntryOneRow : OpenClaim := { program := "ytgkhplaceedmaaa", sum := "6498d3413b22d111e293471240a514bc520ded020a6180e0440a1bc7a50007f0", func := "loop.example/casket/laws.FnEntryOne", spec := "fnEntryOne", apart := false }
def FnEntryOneSaid : Prop := fnEntryOneRow.holds Try.pinned (OpenSpec.ofChange fnEntryOneSpec)

/-- ITS FALSE NEIGHBOUR: 'it returns false'. Refute it at one input. -/
def fnEntryOneWrong : ChangeSpec := { name := "fnEntryOne", fn := fun _ => fun
  | [d1, d2] => { results := [.lit (.bool false)], args := [d1, d2] }
  | _ => none }
def FnEntryOneWrongFalsely : Prop := fnEntryOneRow.holds Try.pinned (OpenSpec.ofChange fnEntryOneWrong)

/-- 'laws.FnExactTabOk': WHATEVER THE INPUT: true; the input reads as it did. -/
def fnExactTabOkSpec : ChangeSpec := { name := "fnExactTabOk", fn := fun _ => fun
  | [d] => { results := [.lit (.bool true)], args := [d] }
  | _ => none }
def fnExactTabOkRow : OpenClaim := { program := "ytgkhplaceedmaaa", sum := "6498d3413b22d111e293471240a514bc520ded020a6180e0440a1bc7a50007f0", func := "loop.example/casket/laws.FnExactTabOk", spec := "fnExactTabOk", apart := false }
def FnExactTabOkSaid : Prop := fnExactTabOkRow.holds Try.pinned (OpenSpec.ofChange fnExactTabOkSpec)

/-- ITS FALSE NEIGHBOUR: 'it returns false'. Refute it at one input. -/
def fnExactTabOkWrong : ChangeSpec := { name := "fnExactTabOk", fn := fun _ => fun
  | [d] => { results := [.lit (.bool false)], args := [d] }
  | _ => none }
def FnExactTabOkWrongFalsely : Prop := fnExactTabOkRow.holds Try.pinned (OpenSpec.ofChange fnExactTabOkWrong)

/- THE SECOND FORM. 'bulk': how many values and letters a reading holds, each counted each time it is reached (what is shared counts as often as it is met; a slice's spare places count too). A statement '..UptoSaid' is the law's where the arguments, and the package variables that the reading takes, are together of bulk at most 1048576: NARROWER than '..Said'. Prove '..Said' where nothing that the law and all that it calls make is longer than what came in: it says more and counts as full. Else prove '..UptoSaid'. A law counts once. -/
mutual
def uptoBulk {H : Type} : DataW H → Nat
  | .lit (.string bytes) => bytes.length + 1
  | .lit _ => 1
  | .nil => 1
  | .ptr d => uptoBulk d + 1
  | .slice elems spare => uptoBulkAll elems + uptoBulkAll spare + 1
  | .agg parts => uptoBulkAll parts + 1
  | .iface _ d => uptoBulk d + 1
  | .map entries => uptoBulkEntries entries + 1
  | .held _ => 1
def uptoBulkAll {H : Type} : List (DataW H) → Nat
  | [] => 0
  | d :: r => uptoBulk d + uptoBulkAll r
def uptoBulkEntries {H : Type} : List (Lit × DataW H) → Nat
  | [] => 0
  | x :: r => uptoBulkEntry x + uptoBulkEntries r
def uptoBulkEntry {H : Type} : Lit × DataW H → Nat
  | (.string bytes, d) => bytes.length + uptoBulk d + 1
  | (_, d) => uptoBulk d + 1
 end
def uptoSmall : (H : Type) → List (DataW H) → Bool := fun _ ds => decide (uptoBulkAll ds ≤ 1048576)
def OpenSpec.upto (s : _root_.Go.ChangeSpec) : _root_.Go.OpenSpec := { _root_.Go.OpenSpec.ofChange s with cond := some uptoSmall }

/-- 'laws.FnExactConstants', WHERE WHAT IT READS IS OF BULK AT MOST 1048576: true; the input reads as it did. -/
def fnExactConstantsUptoRow : OpenClaim := { program := "ytgkhplaceedmaaa", sum := "6498d3413b22d111e293471240a514bc520ded020a6180e0440a1bc7a50007f0", func := "loop.example/casket/laws.FnExactConstants", spec := "fnExactConstants", apart := false, narrowed := true }
def FnExactConstantsUptoSaid : Prop := fnExactConstantsUptoRow.holds Try.pinned (OpenSpec.upto fnExactConstantsSpec)

/-- 'laws.FnExactEntryNum', WHERE WHAT IT READS IS OF BULK AT MOST 1048576: true; the input reads as it did. -/
def fnExactEntryNumUptoRow : OpenClaim := { program := "ytgkhplaceedmaaa", sum := "6498d3413b22d111e293471240a514bc520ded020a6180e0440a1bc7a50007f0", func := "loop.example/casket/laws.FnExactEntryNum", spec := "fnExactEntryNum", apart := false, narrowed := true }
def FnExactEntryNumUptoSaid : Prop := fnExactEntryNumUptoRow.holds Try.pinned (OpenSpec.upto fnExactEntryNumSpec)

/-- 'laws.FnExactEntryOf', WHERE WHAT IT READS IS OF BULK AT MOST 1048576: true; the input reads as it did. -/
def fnExactEntryOfUptoRow : OpenClaim := { program := "ytgkhplaceedmaaa", sum := "6498d3413b22d111e293471240a514bc520ded020a6180e0440a1bc7a50007f0", func := "loop.example/casket/laws.FnExactEntryOf", spec := "fnExactEntryOf", apart := false, narrowed := true }
def FnExactEntryOfUptoSaid : Prop := fnExactEntryOfUptoRow.holds Try.pinned (OpenSpec.upto fnExactEntryOfSpec)

/-- 'laws.FnEntryOf', WHERE WHAT IT READS IS OF BULK AT MOST 1048576: true; the input reads as it did. -/
def fnEntryOfUptoRow : OpenClaim := { program := "ytgkhplaceedmaaa", sum := "6498d3413b22d111e293471240a514bc520ded020a6180e0440a1bc7a50007f0", func := "loop.example/casket/laws.FnEntryOf", spec := "fnEntryOf", apart := false, narrowed := true }
def FnEntryOfUptoSaid : Prop := fnEntryOfUptoRow.holds Try.pinned (OpenSpec.upto fnEntryOfSpec)

/-- 'laws.FnEntryOne', WHERE WHAT IT READS IS OF BULK AT MOST 1048576: true; the input reads as it did. -/
def fnEntryOneUptoRow : OpenClaim := { program := "ytgkhplaceedmaaa", sum := "6498d3413b22d111e293471240a514bc520ded020a6180e0440a1bc7a50007f0", func := "loop.example/casket/laws.FnEntryOne", spec := "fnEntryOne", apart := false, narrowed := true }
def FnEntryOneUptoSaid : Prop := fnEntryOneUptoRow.holds Try.pinned (OpenSpec.upto fnEntryOneSpec)

/-- 'laws.FnExactTabOk', WHERE WHAT IT READS IS OF BULK AT MOST 1048576: true; the input reads as it did. -/
def fnExactTabOkUptoRow : OpenClaim := { program := "ytgkhplaceedmaaa", sum := "6498d3413b22d111e293471240a514bc520ded020a6180e0440a1bc7a50007f0", func := "loop.example/casket/laws.FnExactTabOk", spec := "fnExactTabOk", apart := false, narrowed := true }
def FnExactTabOkUptoSaid : Prop := fnExactTabOkUptoRow.holds Try.pinned (OpenSpec.upto fnExactTabOkSpec)

end Rows
end Go.Proofs.Ytgkhplaceedmaaa
