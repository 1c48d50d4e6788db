/- The pure side of the law FnExactEntryNum: what the printed functions compute answers true. Conditions: none beyond the statement given. -/
import Derived.Test.YtgkhplaceedmaaaQFnExactEntryNumx0
import Derived.Test.YtgkhplaceedmaaaQFnExactEntryNumx1
import Derived.Laws.BitsLemmas
namespace Go.Proofs.Ytgkhplaceedmaaa.Pure
open Go Go.RowKit Go.Proofs.Ytgkhplaceedmaaa.QFnExactEntryNum Go.Proofs.YtgkhplaceedmaaaW.PrintWords Go.Proofs.YtgkhplaceedmaaaW.PrintLast
set_option linter.unusedVariables false
set_option linter.unusedSimpArgs false

-- core
theorem Ev.succ {α : Type} {g : Nat → Option α} {r : α} (h : Ev (fun k => g (k + 1)) r) : Ev g r := Ev.step (fun _ => rfl) h
theorem Ev.cast {α : Type} {g : Nat → Option α} {r r' : α} (e : r = r') (h : Ev g r) : Ev g r' := e ▸ h
theorem Ev.uniq {α : Type} {g : Nat → Option α} {r r' : α} (h : Ev g r) (h' : Ev g r') : r = r' := by
  obtain ⟨K, h⟩ := h; obtain ⟨K', h'⟩ := h'
  have a := h (K + K') (by omega); have b := h' (K + K') (by omega)
  exact Option.some.inj (a.symm.trans b)
theorem wr (n : Int) (h : -9223372036854775808 ≤ n ∧ n ≤ 9223372036854775807) : wrap64 n = n := by unfold wrap64; omega
theorem wr1 (i : Nat) (h : (i : Int) ≤ 1000000000000000000) : wrap64 ((i : Int) + 1) = ((i + 1 : Nat) : Int) := by rw [wr _ (by omega)]; rfl
theorem Ev.down {σ ρ : Type} (g : Nat → Int → σ → Option ρ) (R : Nat → σ → ρ) (n : Nat) (hend : ∀ st, Ev (fun k => g k n st) (R n st))
    (hstep : ∀ i : Nat, i < n → (∀ st, Ev (fun k => g k ((i + 1 : Nat) : Int) st) (R (i + 1) st)) → ∀ st, Ev (fun k => g k (i : Int) st) (R i st)) :
    ∀ st, Ev (fun k => g k 0 st) (R 0 st) := by
  have H : ∀ d i : Nat, i + d = n → ∀ st, Ev (fun k => g k (i : Int) st) (R i st) := by
    intro d
    induction d with
    | zero => intro i hi st; obtain rfl : i = n := by omega
              exact hend st
    | succ d ih => intro i hi; exact hstep i (by omega) (ih (i + 1) (by omega))
  exact H n 0 (by omega)
theorem drop_cons {α : Type} {l : List α} {i : Nat} (h : i < l.length) : l.drop i = l[i] :: l.drop (i + 1) := List.drop_eq_getElem_cons h
theorem rd_at {l : List Int} {i : Nat} (h : i < l.length) : rd l (i : Int) = l[i] := by simp [rd, h]
theorem getD_at {α : Type} {l : List α} {i : Nat} (z : α) (h : i < l.length) : l.getD ((i : Int)).toNat z = l[i] := by simp [h]
-- num
def num (a : Bool) (p : Int) (w : Bool) : Int := if a = true then (if w = true then wrap64 (wrap64 (2 * p) + 2) else wrap64 (wrap64 (2 * p) + 1)) else 0
theorem num_in (p : Int) (w : Bool) (h : -1000 ≤ p ∧ p ≤ 1000) : num true p w = 2 * p + (if w = true then 2 else 1) := by
  unfold num; rw [if_pos rfl]; cases w <;> simp <;> (rw [wr (2 * p) (by omega), wr _ (by omega)])
-- iNum
theorem iNum_eq (a : Bool) (p : Int) (w : Bool) : impl_EntryNum.f a p w = some (num a p w) := by
  unfold impl_EntryNum.f num
  cases a <;> cases w <;> simp
-- sNum
theorem sNum_eq (a : Bool) (p : Int) (w : Bool) : spec_EntryNum.f a p w = some (num a p w) := by
  unfold spec_EntryNum.f num
  cases a <;> cases w <;> simp <;> (unfold wrap64; omega)

-- the law
theorem FnExactEntryNum (a : Bool) (p : Int) (w : Bool) : laws_FnExactEntryNum.f a p w = some true := by
  unfold laws_FnExactEntryNum.f laws_toEntry.f
  simp only [Option.bind_some, sNum_eq, iNum_eq, if_true]

end Go.Proofs.Ytgkhplaceedmaaa.Pure
