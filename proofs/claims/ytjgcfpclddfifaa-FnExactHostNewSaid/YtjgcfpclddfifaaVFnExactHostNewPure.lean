/- The pure side of the law FnExactHostNew: what the printed functions compute answers true. Conditions: none beyond the statement given. -/
import Derived.Test.YtjgcfpclddfifaaVFnExactHostNewx0
import Derived.Test.YtjgcfpclddfifaaVFnExactHostNewx1
import Derived.Test.YtjgcfpclddfifaaVFnExactHostNewx2
import Derived.Test.YtjgcfpclddfifaaVFnExactHostNewx3
import Derived.Test.YtjgcfpclddfifaaVFnExactHostNewx4
import Derived.Test.YtjgcfpclddfifaaVFnExactHostNewx5
import Derived.Test.YtjgcfpclddfifaaVFnExactHostNewx6
import Derived.Test.YtjgcfpclddfifaaVFnExactHostNewx7
import Derived.Test.YtjgcfpclddfifaaVFnExactHostNewx8
import Derived.Test.YtjgcfpclddfifaaVFnExactHostNewx9
import Derived.Test.YtjgcfpclddfifaaVFnExactHostNewx10
import Derived.Laws.BitsLemmas
namespace Go.Proofs.Ytjgcfpclddfifaa.Pure
open Go Go.RowKit Go.Proofs.Ytjgcfpclddfifaa.QFnExactHostNew Go.Proofs.YtjgcfpclddfifaaW.PrintWords Go.Proofs.YtjgcfpclddfifaaW.PrintLast
set_option linter.unusedVariables false
set_option linter.unusedSimpArgs false

def wi (a lo hi : Int) : Bool := decide (lo ≤ a) && decide (a ≤ hi)
theorem wi_iff {a lo hi : Int} : wi a lo hi = true ↔ lo ≤ a ∧ a ≤ hi := by simp [wi]
theorem wi_not {a lo hi : Int} : wi a lo hi = false ↔ ¬ (lo ≤ a ∧ a ≤ hi) := by rw [← wi_iff]; simp
theorem l6In_eq (a lo hi : Int) : spec_l6In.f a lo hi = some (wi a lo hi) := by
  unfold spec_l6In.f wi
  by_cases h : a ≥ lo
  · rw [if_pos h]; simp [h]
  · rw [if_neg h]; simp; omega
theorem within_eq (a lo hi : Int) : impl_within.f a lo hi = some (wi a lo hi) := by
  unfold impl_within.f wi
  by_cases h : a ≥ lo
  · rw [if_pos h]; simp [h]
  · rw [if_neg h]; simp; omega

-- the law
theorem FnExactHostNew (n : Int) (_ : (Lit.int .i64 n).wf = true) : ∃ k, laws_FnExactHostNew.f k n = some true := by
  refine ⟨200, ?_⟩
  by_cases c : n = 1 ∨ n = 2
  · obtain rfl | rfl := c
    all_goals kernel_rfl
  · have hw : wi n 1 2 = false := wi_not.mpr (by omega)
    have h1 : spec_HostNew.f 200 n = some ([], [], 0, false) := by
      unfold spec_HostNew.f
      simp only [l6In_eq, hw, Option.bind_some, Bool.false_eq_true, if_false]
    have h2 : impl_HostNew.f 200 n = some ([], [], 0, false) := by
      unfold impl_HostNew.f
      simp only [within_eq, hw, Option.bind_some, Bool.false_eq_true, if_false]
    unfold laws_FnExactHostNew.f
    rw [h1]
    simp only [h2]
    refine Eq.trans (b := some true) ?_ rfl
    kernel_rfl

end Go.Proofs.Ytjgcfpclddfifaa.Pure
