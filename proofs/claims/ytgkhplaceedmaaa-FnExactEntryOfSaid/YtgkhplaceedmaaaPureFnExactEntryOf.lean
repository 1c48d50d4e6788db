/- The pure side of the law FnExactEntryOf: what the printed functions compute answers true. Conditions: none beyond the statement given. -/
import Derived.Test.YtgkhplaceedmaaaPFnExactEntryOfx0
import Derived.Test.YtgkhplaceedmaaaPFnExactEntryOfx1
import Derived.Laws.BitsLemmas
namespace Go.Proofs.Ytgkhplaceedmaaa.Pure
open Go Go.RowKit Go.Proofs.Ytgkhplaceedmaaa.PFnExactEntryOf Go.Proofs.YtgkhplaceedmaaaW.PrintWords Go.Proofs.YtgkhplaceedmaaaW.PrintLast
set_option linter.unusedVariables false
set_option linter.unusedSimpArgs false

-- core
theorem Ev.succ {α : Type} {g : Nat → Option α} {r : α} (h : Ev (fun k => g (k + 1)) r) : Ev g r := Ev.step (fun _ => rfl) h
theorem Ev.cast {α : Type} {g : Nat → Option α} {r r' : α} (e : r = r') (h : Ev g r) : Ev g r' := e ▸ h
theorem Ev.uniq {α : Type} {g : Nat → Option α} {r r' : α} (h : Ev g r) (h' : Ev g r') : r = r' := by
  obtain ⟨K, h⟩ := h; obtain ⟨K', h'⟩ := h'
  have a := h (K + K') (by omega); have b := h' (K + K') (by omega)
  exact Option.some.inj (a.symm.trans b)
theorem wr (n : Int) (h : -9223372036854775808 ≤ n ∧ n ≤ 9223372036854775807) : wrap64 n = n := by unfold wrap64; omega
theorem wr1 (i : Nat) (h : (i : Int) ≤ 1000000000000000000) : wrap64 ((i : Int) + 1) = ((i + 1 : Nat) : Int) := by rw [wr _ (by omega)]; rfl
theorem Ev.down {σ ρ : Type} (g : Nat → Int → σ → Option ρ) (R : Nat → σ → ρ) (n : Nat) (hend : ∀ st, Ev (fun k => g k n st) (R n st))
    (hstep : ∀ i : Nat, i < n → (∀ st, Ev (fun k => g k ((i + 1 : Nat) : Int) st) (R (i + 1) st)) → ∀ st, Ev (fun k => g k (i : Int) st) (R i st)) :
    ∀ st, Ev (fun k => g k 0 st) (R 0 st) := by
  have H : ∀ d i : Nat, i + d = n → ∀ st, Ev (fun k => g k (i : Int) st) (R i st) := by
    intro d
    induction d with
    | zero => intro i hi st; obtain rfl : i = n := by omega
              exact hend st
    | succ d ih => intro i hi; exact hstep i (by omega) (ih (i + 1) (by omega))
  exact H n 0 (by omega)
theorem drop_cons {α : Type} {l : List α} {i : Nat} (h : i < l.length) : l.drop i = l[i] :: l.drop (i + 1) := List.drop_eq_getElem_cons h
theorem rd_at {l : List Int} {i : Nat} (h : i < l.length) : rd l (i : Int) = l[i] := by simp [rd, h]
theorem getD_at {α : Type} {l : List α} {i : Nat} (z : α) (h : i < l.length) : l.getD ((i : Int)).toNat z = l[i] := by simp [h]
-- bounds
theorem u8_in {n : Int} (h : (Lit.int .u8 n).wf = true) : 0 ≤ n ∧ n ≤ 255 := by
  have e1 : IntKind.u8.min = 0 := by decide
  have e2 : IntKind.u8.max = 255 := by decide
  simp only [Lit.wf, e1, e2, Bool.and_eq_true, decide_eq_true_eq] at h; exact h
theorem i64_in {n : Int} (h : (Lit.int .i64 n).wf = true) : -9223372036854775808 ≤ n ∧ n ≤ 9223372036854775807 := by
  have e1 : IntKind.i64.min = -9223372036854775808 := by decide
  have e2 : IntKind.i64.max = 9223372036854775807 := by decide
  simp only [Lit.wf, e1, e2, Bool.and_eq_true, decide_eq_true_eq] at h; exact h
-- wi
def wi (a lo hi : Int) : Bool := decide (lo ≤ a) && decide (a ≤ hi)
theorem wi_iff {a lo hi : Int} : wi a lo hi = true ↔ lo ≤ a ∧ a ≤ hi := by simp [wi]
theorem wi_not {a lo hi : Int} : wi a lo hi = false ↔ ¬ (lo ≤ a ∧ a ≤ hi) := by rw [← wi_iff]; simp
-- l6In
theorem l6In_eq (a lo hi : Int) : spec_l6In.f a lo hi = some (wi a lo hi) := by
  unfold spec_l6In.f wi
  by_cases h : a ≥ lo
  · rw [if_pos h]; simp [h]
  · rw [if_neg h]; simp; omega
-- eof
def eof (n : Int) : Bool × Int × Bool := if 5 ≤ n ∧ n ≤ 12 then (true, (n - 1) / 2, decide (n % 2 = 0)) else (false, 0, false)
theorem eof_cases (n : Int) : (5 ≤ n ∧ n ≤ 12 ∧ eof n = (true, (n - 1) / 2, decide (n % 2 = 0))) ∨ (¬ (5 ≤ n ∧ n ≤ 12) ∧ eof n = (false, 0, false)) := by
  unfold eof
  by_cases h : 5 ≤ n ∧ n ≤ 12
  · exact .inl ⟨h.1, h.2, if_pos h⟩
  · exact .inr ⟨h, if_neg h⟩
-- iEof
theorem iEof_20 (n : Int) : impl_EntryOf.f 20 n = if 5 = n then some (true, 2, false) else if 6 = n then some (true, 2, true) else if 7 = n then some (true, 3, false) else if 8 = n then some (true, 3, true) else if 9 = n then some (true, 4, false) else if 10 = n then some (true, 4, true) else if 11 = n then some (true, 5, false) else if 12 = n then some (true, 5, true) else some (false, 0, false) := by kernel_rfl
theorem iEof_ev (n : Int) : Ev (fun k => impl_EntryOf.f k n) (eof n) := by
  refine Ev.of (fun k => impl_EntryOf.mono n k) (k := 20) ?_
  rw [iEof_20]
  by_cases h : 5 ≤ n ∧ n ≤ 12
  · obtain rfl | rfl | rfl | rfl | rfl | rfl | rfl | rfl : n = 5 ∨ n = 6 ∨ n = 7 ∨ n = 8 ∨ n = 9 ∨ n = 10 ∨ n = 11 ∨ n = 12 := by omega
    all_goals rfl
  · unfold eof; rw [if_neg h]
    rw [if_neg (by omega), if_neg (by omega), if_neg (by omega), if_neg (by omega), if_neg (by omega), if_neg (by omega), if_neg (by omega), if_neg (by omega)]
-- sEof
theorem tdiv2 (x : Int) (h : 0 ≤ x) : Int.tdiv x 2 = x / 2 := Int.tdiv_eq_ediv_of_nonneg h
theorem tmod2 (x : Int) (h : 0 ≤ x) : Int.tmod x 2 = x % 2 := Int.tmod_eq_emod_of_nonneg h
theorem sEof_eq (n : Int) (h1 : -9223372036854775808 ≤ n) (h2 : n ≤ 9223372036854775807) : spec_EntryOf.f n = some (eof n) := by
  unfold spec_EntryOf.f eof
  by_cases h : n < 1
  · rw [if_pos h, if_neg (by omega)]
  · rw [if_neg h, wr (n - 1) (by omega), tdiv2 _ (by omega), wr ((n - 1) / 2) (by omega), l6In_eq, tmod2 _ (by omega), Option.bind_some]
    by_cases g : 5 ≤ n ∧ n ≤ 12
    · rw [if_pos g, if_pos (wi_iff.mpr (by omega))]; rfl
    · rw [if_neg g, if_neg (by rw [wi_iff]; omega)]

-- the law
theorem FnExactEntryOf : laws_FnExactEntryOf.Pure := by
  intro n hn
  have hb : -9223372036854775808 ≤ n ∧ n ≤ 9223372036854775807 := i64_in hn
  apply Ev.rounds
  unfold laws_FnExactEntryOf.f
  simp only [sEof_eq n hb.1 hb.2, Option.bind_some]
  refine Ev.bind (iEof_ev n) ?_
  simp only [laws_eqEntry.f, bne_self_eq_false, Bool.false_eq_true, if_false, if_true, Option.bind_some]
  exact Ev.now _

end Go.Proofs.Ytgkhplaceedmaaa.Pure
