/- The tied card of the law FnTabStrict: the row, its listed tables tied to the program's text (the tie is given). Conditions: none beyond the statement given. -/
import Derived.Test.YtkadphbjfhbapaaDoorRowFnTabStrict
import Derived.Test.YtkadphbjfhbapaaDoorCards
import Derived.Test.YtkadphbjfhbapaaDoorTie
import Derived.SevenTiedAt
namespace Go.Proofs.YtkadphbjfhbapaaDoor
open Go
theorem fnTabStrictCard_holds : Rows.FnTabStrictCardSaid :=
  Claim7.holds_tied_plain_at .later [] [.data, .data, .data, .data, .sentinel, .sentinel, .pinned] true (true, "6a66448867a9e208eac32b7edfda438f181d4342c960a419c3a09233c23c42f7") true
    fnTabStrict_holds (fun _ h => by cases h) (by kernel_rfl) (fun _ h => by cases h) fnTabStrict_row_tie rfl ⟨rfl, rfl⟩ (by kernel_rfl) rfl
    (fun f fn hf hfn => by
      obtain rfl : f = 5 := Option.some.inj ((show Tryd.prog.funcNamed "loop.example/casket/laws.FnTabStrict" = some 5 by kernel_rfl).symm.trans hf) |>.symm
      obtain rfl : fn = Tryd.f5 := (Option.some.inj (Tryd.func5.symm.trans hfn)).symm
      exact ⟨by kernel_rfl, fun j t ht => by
        rw [Tryd.params5] at ht
        have hm : t ∈ [22] := by simpa using Array.mem_of_getElem? ht
        have hall : ([22].all fun u => !Tryd.prog.wantsStandIn u) = true := by kernel_rfl
        exact (show Tryd.prog.wantsStandIn t = false by simpa using List.all_eq_true.1 hall t hm)⟩)
    (by kernel_rfl)
#print axioms fnTabStrictCard_holds
end Go.Proofs.YtkadphbjfhbapaaDoor
