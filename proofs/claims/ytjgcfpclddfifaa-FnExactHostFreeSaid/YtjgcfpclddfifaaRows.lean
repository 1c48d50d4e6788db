/-
  No cell of these rows narrows 'for every input' (looked for: loops, veiled, ifaces, maps, wideKeys, modest, calm, conditions, laid).
  DERIVED. THE GIVEN ROWS OF THIS SEAT. 4 by the template 'for every input the law returns true; each argument reads behind the call as it read before'; 0 by the template 'total and deterministic' (their statements: YtjgcfpclddfifaaTotals.lean).
  GIVEN WITH THE SEED: the statements are not yours to turn. If you find one false, say at which input.
  Laid BY PROGRAM, IN A SANDBOX (cutbox-rows.mjs): the forced cells as the released guide's own fill.sh prints them over the translation cbb0648855bf5bbe… (all of the seat's roots in one cut). By AI agents, Wed Nov 11 2026. No macro, syntax, notation, axiom, sorry.
-/
import Derived.Test.YtjgcfpclddfifaaChecked
import GoSem.Claim
import GoSem.ClaimJoined
import GoSem.ClaimMapViews
import Derived.JoinedTies
import Derived.KernelRfl
namespace Go.Proofs.Ytjgcfpclddfifaa
/- THE CELL 'sum', in the pinned program and in every row, IS THE sha256 OF THE DUMP (.gsa) THAT YtjgcfpclddfifaaProg.lean LOADS. Nothing in Lean hashes anything: it is a label: what it is worth is what the hold of that sum in a sandbox is worth. -/
noncomputable def Try.pinned : Pinned := { name := "ytjgcfpclddfifaa", sum := "cbb0648855bf5bbe24a875d7167158a3c9e94e2eaadf8d8afedc3df56f9e8f72", checked := Try.checked }
namespace Rows
def none {H : Type} : Left H := { results := [], args := [] }

/-- 'laws.FnMemPart': WHATEVER THE INPUT: true; the input reads as it did. -/
def fnMemPartSpec : ChangeSpec := { name := "fnMemPart", fn := fun _ => fun
  | [d1, d2] => { results := [.lit (.bool true)], args := [d1, d2] }
  | _ => none }
def fnMemPartRow : OpenClaim := { program := "ytjgcfpclddfifaa", sum := "cbb0648855bf5bbe24a875d7167158a3c9e94e2eaadf8d8afedc3df56f9e8f72", func := "loop.example/casket/laws.FnMemPart", spec := "fnMemPart", apart := false }
def FnMemPartSaid : Prop := fnMemPartRow.holds Try.pinned (OpenSpec.ofChange fnMemPartSpec)

/-- ITS FALSE NEIGHBOUR: 'it returns false'. Refute it at one input. -/
def fnMemPartWrong : ChangeSpec := { name := "fnMemPart", fn := fun _ => fun
  | [d1, d2] => { results := [.lit (.bool false)], args := [d1, d2] }
  | _ => none }
def FnMemPartWrongFalsely : Prop := fnMemPartRow.holds Try.pinned (OpenSpec.ofChange fnMemPartWrong)

/-- 'laws.FnExactHostNew': WHATEVER THE INPUT: true; the input reads as it did. -/
def fnExactHostNewSpec : ChangeSpec := { name := "fnExactHostNew", fn := fun _ => fun
  | [d] => { results := [.lit (.bool true)], args := [d] }
  | _ => none }
def fnExactHostNewRow : OpenClaim := { program := "ytjgcfpclddfifaa", sum := "cbb0648855bf5bbe24a875d7167158a3c9e94e2eaadf8d8afedc3df56f9e8f72", func := "loop.example/casket/laws.FnExactHostNew", spec := "fnExactHostNew", apart := false }
def FnExactHostNewSaid : Prop := fnExactHostNewRow.holds Try.pinned (OpenSpec.ofChange fnExactHostNewSpec)

/-- ITS FALSE NEIGHBOUR: 'it returns false'. Refute it at one input. -/
def fnExactHostNewWrong : ChangeSpec := { name := "fnExactHostNew", fn := fun _ => fun
  | [d] => { results := [.lit (.bool false)], args := [d] }
  | _ => none }
def FnExactHostNewWrongFalsely : Prop := fnExactHostNewRow.holds Try.pinned (OpenSpec.ofChange fnExactHostNewWrong)

/-- 'laws.FnExactHostLoad': WHATEVER THE INPUT: true; the input reads as it did. -/
def fnExactHostLoadSpec : ChangeSpec := { name := "fnExactHostLoad", fn := fun _ => fun
  | [d] => { results := [.lit (.bool true)], args := [d] }
  | _ => none }
def fnExactHostLoadRow : OpenClaim := { program := "ytjgcfpclddfifaa", sum := "cbb0648855bf5bbe24a875d7167158a3c9e94e2eaadf8d8afedc3df56f9e8f72", func := "loop.example/casket/laws.FnExactHostLoad", spec := "fnExactHostLoad", apart := false }
def FnExactHostLoadSaid : Prop := fnExactHostLoadRow.holds Try.pinned (OpenSpec.ofChange fnExactHostLoadSpec)

/-- ITS FALSE NEIGHBOUR: 'it returns false'. Refute it at one input. -/
def fnExactHostLoadWrong : ChangeSpec := { name := "fnExactHostLoad", fn := fun _ => fun
  | [d] => { results := [.lit (.bool false)], args := [d] }
  | _ => none }
def FnExactHostLoadWrongFalsely : Prop := fnExactHostLoadRow.holds Try.pinned (OpenSpec.ofChange fnExactHostLoadWrong)

/-- 'laws.FnExactHostFree': WHATEVER THE INPUT: true; the input reads as it did. -/
def fnExactHostFreeSpec : ChangeSpec := { name := "fnExactHostFree", fn := fun _ => fun
  | [d] => { results := [.lit (.bool true)], args := [d] }
  | _ => none }
def fnExactHostFreeRow : OpenClaim := { program := "ytjgcfpclddfifaa", sum := "cbb0648855bf5bbe24a875d7167158a3c9e94e2eaadf8d8afedc3df56f9e8f72", func := "loop.example/casket/laws.FnExactHostFree", spec := "fnExactHostFree", unfollowed := true, recurses := true, apart := false }
def FnExactHostFreeSaid : Prop := fnExactHostFreeRow.holds Try.pinned (OpenSpec.ofChange fnExactHostFreeSpec)

/-- ITS FALSE NEIGHBOUR: 'it returns false'. Refute it at one input. -/
def fnExactHostFreeWrong : ChangeSpec := { name := "fnExactHostFree", fn := fun _ => fun
  | [d] => { results := [.lit (.bool false)], args := [d] }
  | _ => none }
def FnExactHostFreeWrongFalsely : Prop := fnExactHostFreeRow.holds Try.pinned (OpenSpec.ofChange fnExactHostFreeWrong)

/- THE SECOND FORM. 'bulk': how many values and letters a reading holds, each counted each time it is reached (what is shared counts as often as it is met; a slice's spare places count too). A statement '..UptoSaid' is the law's where the arguments, and the package variables that the reading takes, are together of bulk at most 1048576: NARROWER than '..Said'. Prove '..Said' where nothing that the law and all that it calls make is longer than what came in: it says more and counts as full. Else prove '..UptoSaid'. A law counts once. -/
mutual
def uptoBulk {H : Type} : DataW H → Nat
  | .lit (.string bytes) => bytes.length + 1
  | .lit _ => 1
  | .nil => 1
  | .ptr d => uptoBulk d + 1
  | .slice elems spare => uptoBulkAll elems + uptoBulkAll spare + 1
  | .agg parts => uptoBulkAll parts + 1
  | .iface _ d => uptoBulk d + 1
  | .map entries => uptoBulkEntries entries + 1
  | .held _ => 1
def uptoBulkAll {H : Type} : List (DataW H) → Nat
  | [] => 0
  | d :: r => uptoBulk d + uptoBulkAll r
def uptoBulkEntries {H : Type} : List (Lit × DataW H) → Nat
  | [] => 0
  | x :: r => uptoBulkEntry x + uptoBulkEntries r
def uptoBulkEntry {H : Type} : Lit × DataW H → Nat
  | (.string bytes, d) => bytes.length + uptoBulk d + 1
  | (_, d) => uptoBulk d + 1
 end
def uptoSmall : (H : Type) → List (DataW H) → Bool := fun _ ds => decide (uptoBulkAll ds ≤ 1048576)
def OpenSpec.upto (s : _root_.Go.ChangeSpec) : _root_.Go.OpenSpec := { _root_.Go.OpenSpec.ofChange s with cond := some uptoSmall }

/-- 'laws.FnMemPart', WHERE WHAT IT READS IS OF BULK AT MOST 1048576: true; the input reads as it did. -/
def fnMemPartUptoRow : OpenClaim := { program := "ytjgcfpclddfifaa", sum := "cbb0648855bf5bbe24a875d7167158a3c9e94e2eaadf8d8afedc3df56f9e8f72", func := "loop.example/casket/laws.FnMemPart", spec := "fnMemPart", apart := false, narrowed := true }
def FnMemPartUptoSaid : Prop := fnMemPartUptoRow.holds Try.pinned (OpenSpec.upto fnMemPartSpec)

/-- 'laws.FnExactHostNew', WHERE WHAT IT READS IS OF BULK AT MOST 1048576: true; the input reads as it did. -/
def fnExactHostNewUptoRow : OpenClaim := { program := "ytjgcfpclddfifaa", sum := "cbb0648855bf5bbe24a875d7167158a3c9e94e2eaadf8d8afedc3df56f9e8f72", func := "loop.example/casket/laws.FnExactHostNew", spec := "fnExactHostNew", apart := false, narrowed := true }
def FnExactHostNewUptoSaid : Prop := fnExactHostNewUptoRow.holds Try.pinned (OpenSpec.upto fnExactHostNewSpec)

/-- 'laws.FnExactHostLoad', WHERE WHAT IT READS IS OF BULK AT MOST 1048576: true; the input reads as it did. -/
def fnExactHostLoadUptoRow : OpenClaim := { program := "ytjgcfpclddfifaa", sum := "cbb0648855bf5bbe24a875d7167158a3c9e94e2eaadf8d8afedc3df56f9e8f72", func := "loop.example/casket/laws.FnExactHostLoad", spec := "fnExactHostLoad", apart := false, narrowed := true }
def FnExactHostLoadUptoSaid : Prop := fnExactHostLoadUptoRow.holds Try.pinned (OpenSpec.upto fnExactHostLoadSpec)

/-- 'laws.FnExactHostFree', WHERE WHAT IT READS IS OF BULK AT MOST 1048576: true; the input reads as it did. -/
def fnExactHostFreeUptoRow : OpenClaim := { program := "ytjgcfpclddfifaa", sum := "cbb0648855bf5bbe24a875d7167158a3c9e94e2eaadf8d8afedc3df56f9e8f72", func := "loop.example/casket/laws.FnExactHostFree", spec := "fnExactHostFree", unfollowed := true, recurses := true, apart := false, narrowed := true }
def FnExactHostFreeUptoSaid : Prop := fnExactHostFreeUptoRow.holds Try.pinned (OpenSpec.upto fnExactHostFreeSpec)

end Rows
end Go.Proofs.Ytjgcfpclddfifaa
