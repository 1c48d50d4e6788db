/- The pure side of the law FnExactTabAt: what the printed functions compute answers true. Conditions: none beyond the statement given. -/
import Derived.Test.YtbphhgahedahdaaQFnExactTabAtx0
import Derived.Test.YtbphhgahedahdaaQFnExactTabAtx1
import Derived.Test.YtbphhgahedahdaaQFnExactTabAtx2
import Derived.Test.YtbphhgahedahdaaQFnExactTabAtx3
import Derived.Laws.BitsLemmas
namespace Go.Proofs.Ytbphhgahedahdaa.Pure
open Go Go.RowKit Go.Proofs.Ytbphhgahedahdaa.QFnExactTabAt Go.Proofs.YtbphhgahedahdaaW.PrintWords Go.Proofs.YtbphhgahedahdaaW.PrintLast
set_option linter.unusedVariables false
set_option linter.unusedSimpArgs false

theorem Ev.succ {α : Type} {g : Nat → Option α} {r : α} (h : Ev (fun k => g (k + 1)) r) : Ev g r := Ev.step (fun _ => rfl) h
theorem Ev.cast {α : Type} {g : Nat → Option α} {r r' : α} (e : r = r') (h : Ev g r) : Ev g r' := e ▸ h
theorem wr (n : Int) (h : -9223372036854775808 ≤ n ∧ n ≤ 9223372036854775807) : wrap64 n = n := by unfold wrap64; omega
theorem wr1 (i : Nat) (h : (i : Int) ≤ 1000000000000000000) : wrap64 ((i : Int) + 1) = ((i + 1 : Nat) : Int) := by rw [wr _ (by omega)]; rfl
theorem Ev.down {σ ρ : Type} (g : Nat → Int → σ → Option ρ) (R : Nat → σ → ρ) (n : Nat) (hend : ∀ st, Ev (fun k => g k n st) (R n st))
    (hstep : ∀ i : Nat, i < n → (∀ st, Ev (fun k => g k ((i + 1 : Nat) : Int) st) (R (i + 1) st)) → ∀ st, Ev (fun k => g k (i : Int) st) (R i st)) :
    ∀ st, Ev (fun k => g k 0 st) (R 0 st) := by
  have H : ∀ d i : Nat, i + d = n → ∀ st, Ev (fun k => g k (i : Int) st) (R i st) := by
    intro d
    induction d with
    | zero => intro i hi st; obtain rfl : i = n := by omega
              exact hend st
    | succ d ih => intro i hi; exact hstep i (by omega) (ih (i + 1) (by omega))
  exact H n 0 (by omega)
theorem drop_cons {α : Type} {l : List α} {i : Nat} (h : i < l.length) : l.drop i = l[i] :: l.drop (i + 1) := List.drop_eq_getElem_cons h
theorem getD_at {α : Type} {l : List α} {i : Nat} (z : α) (h : i < l.length) : l.getD ((i : Int)).toNat z = l[i] := by simp [h]
def wi (a lo hi : Int) : Bool := decide (lo ≤ a) && decide (a ≤ hi)
theorem wi_iff {a lo hi : Int} : wi a lo hi = true ↔ lo ≤ a ∧ a ≤ hi := by simp [wi]
theorem l6In_eq (a lo hi : Int) : spec_l6In.f a lo hi = some (wi a lo hi) := by
  unfold spec_l6In.f wi
  by_cases h : a ≥ lo
  · rw [if_pos h]; simp [h]
  · rw [if_neg h]; simp; omega
theorem within_eq (a lo hi : Int) : impl_within.f a lo hi = some (wi a lo hi) := by
  unfold impl_within.f wi
  by_cases h : a ≥ lo
  · rw [if_pos h]; simp [h]
  · rw [if_neg h]; simp; omega
theorem rdE_at {l : List S24} {i : Nat} (h : i < l.length) : rd_T24 l (i : Int) = l[i] := getD_at _ h
def entB (e : S24) : Bool := if e.f0 = true then wi e.f1 0 5 else (e.f1 == 0 && (!e.f2))
def tabB (l : List S24) : Bool := l.all entB && ((l.length : Int) == 6)
theorem l1Entry_eq (e : S24) : spec_l1Entry.f e.f0 e.f1 e.f2 = some (entB e) := by
  unfold spec_l1Entry.f entB
  by_cases h : e.f0 = true
  · rw [if_pos h, if_pos h, l6In_eq]; rfl
  · rw [if_neg h, if_neg h]; simp [h]
theorem sTabOk_ev (l : List S24) (hl : (l.length : Int) ≤ 1000000000000000) : Ev (fun k => spec_TabOk.f k l) (tabB l) := by
  unfold spec_TabOk.f
  have H := Ev.down (σ := Unit) (fun k i _ => spec_TabOk.l0 k l i) (fun i _ => (l.drop i).all entB && ((l.length : Int) == 6)) l.length
    (fun _ => Ev.succ (by simp only [spec_TabOk.l0, Int.lt_irrefl, if_false]; exact Ev.cast (by simp) (Ev.now _)))
    (fun i hi ih _ => by
      refine Ev.succ ?_
      simp only [spec_TabOk.l0, if_pos (Int.ofNat_lt.mpr hi), if_pos (Int.natCast_nonneg i), rdE_at hi, l1Entry_eq, Option.bind_some, wr1 i (by omega)]
      rw [drop_cons hi, List.all_cons]
      cases h : entB l[i]
      · exact Ev.now _
      · exact ih ())
  exact H ()
theorem iTabOk_ev (l : List S24) (hl : (l.length : Int) ≤ 1000000000000000) : Ev (fun k => impl_TabOk.f k l) (tabB l) := by
  unfold impl_TabOk.f
  have H := Ev.down (σ := Unit) (fun k i _ => impl_TabOk.l0 k l l l.length i) (fun i _ => (l.drop i).all entB && ((l.length : Int) == 6)) l.length
    (fun _ => Ev.succ (by simp only [impl_TabOk.l0, Int.lt_irrefl, if_false]; exact Ev.cast (by simp) (Ev.now _)))
    (fun i hi ih _ => by
      refine Ev.succ ?_
      simp only [impl_TabOk.l0, if_pos (Int.ofNat_lt.mpr hi), if_pos (Int.natCast_nonneg i), rdE_at hi, within_eq, Option.bind_some, wr1 i (by omega)]
      rw [drop_cons hi, List.all_cons]
      unfold entB
      by_cases h : l[i].f0 = true
      · simp only [if_pos h]
        cases g : wi l[i].f1 0 5
        · exact Ev.now _
        · exact ih ()
      · simp only [if_neg h]
        cases g : (l[i].f1 == 0 && (!l[i].f2))
        · rw [show (l[i].f0 || (!(l[i].f1 == 0) || l[i].f2)) = true by revert g h; cases l[i].f0 <;> cases l[i].f2 <;> simp]
          exact Ev.now _
        · have g1 : l[i].f1 = 0 := by revert g; simp; intro a _; exact a
          rw [show (l[i].f0 || (!(l[i].f1 == 0) || l[i].f2)) = false by revert g h; cases l[i].f0 <;> cases l[i].f2 <;> simp]
          simp only [Bool.false_eq_true, if_false, g1, show wi 0 0 5 = true from rfl, if_true]
          exact ih ())
  exact H ()
def tabAt (l : List S24) (p : Int) : Bool × Int × Bool := if tabB l = true ∧ wi p 0 5 = true then ((rd_T24 l p).f0, (rd_T24 l p).f1, (rd_T24 l p).f2) else (false, 0, false)
theorem tabB_len {l : List S24} (h : tabB l = true) : l.length = 6 := by
  simp [tabB] at h; omega
theorem iTabAt_ev (l : List S24) (p : Int) (hl : (l.length : Int) ≤ 1000000000000000) : Ev (fun k => impl_TabAt.f k l p) (tabAt l p) := by
  unfold impl_TabAt.f tabAt
  refine Ev.bind (iTabOk_ev l hl) ?_
  cases t : tabB l
  · exact Ev.now _
  · simp only [if_true, within_eq, Option.bind_some]
    cases g : wi p 0 5
    · exact Ev.now _
    · have g' := wi_iff.mp g
      have := tabB_len t
      simp only [if_true, if_pos g'.1, if_pos (show p < (l.length : Int) by omega)]
      exact Ev.now _
theorem sTabAt_ev (l : List S24) (p : Int) (hl : (l.length : Int) ≤ 1000000000000000) : Ev (fun k => spec_TabAt.f k l p) (tabAt l p) := by
  unfold spec_TabAt.f tabAt
  refine Ev.bind (sTabOk_ev l hl) ?_
  cases t : tabB l
  · exact Ev.now _
  · simp only [if_true, l6In_eq, Option.bind_some]
    cases g : wi p 0 5
    · exact Ev.now _
    · have g' := wi_iff.mp g
      have := tabB_len t
      simp only [if_true, if_pos g'.1, if_pos (show p < (l.length : Int) by omega)]
      exact Ev.now _
theorem rdLE_at {l : List S65} {i : Nat} (h : i < l.length) : rd_T65 l (i : Int) = l[i] := getD_at _ h
def toE (e : S65) : S24 := ⟨e.f0, e.f1, e.f2⟩
theorem set_snoc {α : Type} (xs : List α) (z : α) (n : Nat) (y : α) : (xs ++ List.replicate (n + 1) z).set xs.length y = (xs ++ [y]) ++ List.replicate n z := by
  rw [List.set_append_right _ _ (Nat.le_refl _)]; simp [List.replicate_succ]
theorem toEntryS_ev (l : List S65) (hl : (l.length : Int) ≤ 1048576) : Ev (fun k => laws_toEntryS.f k l) (l.map toE) := by
  unfold laws_toEntryS.f
  simp only [if_pos (Int.natCast_nonneg l.length), Int.toNat_natCast, if_pos (show l.length ≤ 11728124029610 by omega)]
  have H : ∀ d i : Nat, i + d = l.length → Ev (fun k => laws_toEntryS.l0 k l ((l.take i).map toE ++ List.replicate d z24) (i : Int)) (l.map toE) := by
    intro d
    induction d with
    | zero =>
      intro i hi
      obtain rfl : i = l.length := by omega
      refine Ev.succ ?_
      simp only [laws_toEntryS.l0, Int.lt_irrefl, if_false, List.take_length, List.replicate_zero, List.append_nil]
      exact Ev.now _
    | succ d ih =>
      intro i hi
      have hlt : i < l.length := by omega
      have ih' := ih (i + 1) (by omega)
      refine Ev.succ ?_
      simp only [laws_toEntryS.l0, if_pos (Int.ofNat_lt.mpr hlt), if_pos (Int.natCast_nonneg i), laws_toEntry.f, Option.bind_some, rdLE_at hlt, wr1 i (by omega), Int.toNat_natCast]
      simp only [if_pos (show (i : Int) < (((l.take i).map toE ++ List.replicate (d + 1) z24).length : Int) by simp; omega)]
      have e := set_snoc ((l.take i).map toE) z24 d (toE l[i])
      rw [show ((l.take i).map toE).length = i by simp; omega] at e
      have e2 : (l.take i).map toE ++ [toE l[i]] = (l.take (i + 1)).map toE := by rw [List.take_succ_eq_append_getElem hlt, List.map_append]; rfl
      rw [e2] at e
      unfold toE at e ih' ⊢
      simp only [e]
      exact ih'
  exact H l.length 0 (by omega)
theorem eqEntryS_refl (l : List S24) (hl : (l.length : Int) ≤ 1000000000000000) : Ev (fun k => laws_eqEntryS.f k l l) true := by
  unfold laws_eqEntryS.f
  simp only [if_true]
  have H := Ev.down (σ := Unit) (fun k i _ => laws_eqEntryS.l0 k l l i) (fun i _ => true) l.length
    (fun _ => Ev.succ (by simp only [laws_eqEntryS.l0, Int.lt_irrefl, if_false]; exact Ev.now _))
    (fun i hi ih _ => by
      refine Ev.succ ?_
      simp only [laws_eqEntryS.l0, if_pos (Int.ofNat_lt.mpr hi), if_pos (Int.natCast_nonneg i), laws_eqEntry.f, bne_self_eq_false, Bool.false_eq_true, if_false, if_true, Option.bind_some, wr1 i (by omega)]
      exact ih ())
  exact H ()
theorem szEntryS_eq (l : List S65) (hl : l.length ≤ 9223372036854775807) : (laws_szEntryS.f l 1048576 = some (-1)) ∨ (∃ n, laws_szEntryS.f l 1048576 = some n ∧ 0 ≤ n ∧ (l.length : Int) ≤ 1048576) := by
  unfold laws_szEntryS.f
  rw [wr (1048576 - (l.length : Int)) (by omega)]
  by_cases h : 1048576 - (l.length : Int) < 0
  · exact .inl (if_pos h)
  · exact .inr ⟨_, if_neg h, by omega, by omega⟩

-- the law
theorem FnExactTabAt (l : List S65) (p : Int) (hl : l.length ≤ 9223372036854775807) (_ : (Lit.int .i64 p).wf = true) : ∃ k, laws_FnExactTabAt.f k l p = some true := by
  apply Ev.rounds
  unfold laws_FnExactTabAt.f
  rcases szEntryS_eq l hl with e | ⟨n, e, h0, hL⟩
  · simp only [e, Option.bind_some, show ((-1 : Int) < 0) by decide, if_true]; exact Ev.now _
  · simp only [e, Option.bind_some, if_neg (show ¬ n < 0 by omega)]
    have T := toEntryS_ev l hL
    have hm : ((l.map toE).length : Int) ≤ 1000000000000000 := by simp; omega
    refine Ev.bind T (Ev.bind (sTabAt_ev _ p hm) (Ev.bind T (Ev.bind (iTabAt_ev _ p hm) ?_)))
    simp only [laws_eqEntry.f, bne_self_eq_false, Bool.false_eq_true, if_false, if_true, Option.bind_some]
    refine Ev.bind T (Ev.bind (eqEntryS_refl _ hm) ?_)
    simp only [if_true]
    exact Ev.now _

end Go.Proofs.Ytbphhgahedahdaa.Pure
