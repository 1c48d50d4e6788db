/- The pure side of the law FnExactMemNew: what the printed functions compute answers true. Conditions: none beyond the statement given. -/
import Derived.Test.YtbphhgahedahdaaQFnExactMemNewx0
import Derived.Test.YtbphhgahedahdaaQFnExactMemNewx1
import Derived.Test.YtbphhgahedahdaaQFnExactMemNewx2
import Derived.Laws.BitsLemmas
namespace Go.Proofs.Ytbphhgahedahdaa.Pure
open Go Go.RowKit Go.Proofs.Ytbphhgahedahdaa.QFnExactMemNew Go.Proofs.YtbphhgahedahdaaW.PrintWords Go.Proofs.YtbphhgahedahdaaW.PrintLast
set_option linter.unusedVariables false
set_option linter.unusedSimpArgs false


-- the law
theorem FnExactMemNew (n : Int) (_ : (Lit.int .i64 n).wf = true) : ∃ k, laws_FnExactMemNew.f k n = some true := by
  by_cases c : 0 ≤ n ∧ n ≤ 6
  · refine ⟨100, ?_⟩
    obtain rfl | rfl | rfl | rfl | rfl | rfl | rfl : n = 0 ∨ n = 1 ∨ n = 2 ∨ n = 3 ∨ n = 4 ∨ n = 5 ∨ n = 6 := by omega
    all_goals kernel_rfl
  · have h1 : ∀ k, spec_MemNew.f k n = some [] := by
      intro k
      unfold spec_MemNew.f spec_l6In.f
      by_cases a : n ≥ 0
      · simp [a, show ¬ n ≤ 6 by omega]
      · simp [a]
    have h2 : impl_MemNew.f 100 n = some [] := by
      unfold impl_MemNew.f
      by_cases a : n < 0
      · rw [show mn (mx n 0) 7 = 0 by unfold mn mx; first | omega | (split <;> split <;> omega) | (repeat' split) <;> omega]; kernel_rfl
      · rw [show mn (mx n 0) 7 = 7 by unfold mn mx; first | omega | (split <;> split <;> omega) | (repeat' split) <;> omega]; kernel_rfl
    refine ⟨100, ?_⟩
    unfold laws_FnExactMemNew.f
    simp only [h1, h2, Option.bind_some]
    kernel_rfl

end Go.Proofs.Ytbphhgahedahdaa.Pure
