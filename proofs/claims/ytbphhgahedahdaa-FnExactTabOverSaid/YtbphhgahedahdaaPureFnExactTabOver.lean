/- The pure side of the law FnExactTabOver: what the printed functions compute answers true. Conditions: none beyond the statement given. -/
import Derived.Test.YtbphhgahedahdaaQFnExactTabOverx0
import Derived.Test.YtbphhgahedahdaaQFnExactTabOverx1
import Derived.Test.YtbphhgahedahdaaQFnExactTabOverx2
import Derived.Test.YtbphhgahedahdaaQFnExactTabOverx3
import Derived.Test.YtbphhgahedahdaaQFnExactTabOverx4
import Derived.Test.YtbphhgahedahdaaQFnExactTabOverx5
import Derived.Laws.BitsLemmas
namespace Go.Proofs.Ytbphhgahedahdaa.Pure
open Go Go.RowKit Go.Proofs.Ytbphhgahedahdaa.QFnExactTabOver Go.Proofs.YtbphhgahedahdaaW.PrintWords Go.Proofs.YtbphhgahedahdaaW.PrintLast
set_option linter.unusedVariables false
set_option linter.unusedSimpArgs false

theorem Ev.succ {α : Type} {g : Nat → Option α} {r : α} (h : Ev (fun k => g (k + 1)) r) : Ev g r := Ev.step (fun _ => rfl) h
theorem Ev.cast {α : Type} {g : Nat → Option α} {r r' : α} (e : r = r') (h : Ev g r) : Ev g r' := e ▸ h
theorem wr (n : Int) (h : -9223372036854775808 ≤ n ∧ n ≤ 9223372036854775807) : wrap64 n = n := by unfold wrap64; omega
theorem wr1 (i : Nat) (h : (i : Int) ≤ 1000000000000000000) : wrap64 ((i : Int) + 1) = ((i + 1 : Nat) : Int) := by rw [wr _ (by omega)]; rfl
theorem Ev.down {σ ρ : Type} (g : Nat → Int → σ → Option ρ) (R : Nat → σ → ρ) (n : Nat) (hend : ∀ st, Ev (fun k => g k n st) (R n st))
    (hstep : ∀ i : Nat, i < n → (∀ st, Ev (fun k => g k ((i + 1 : Nat) : Int) st) (R (i + 1) st)) → ∀ st, Ev (fun k => g k (i : Int) st) (R i st)) :
    ∀ st, Ev (fun k => g k 0 st) (R 0 st) := by
  have H : ∀ d i : Nat, i + d = n → ∀ st, Ev (fun k => g k (i : Int) st) (R i st) := by
    intro d
    induction d with
    | zero => intro i hi st; obtain rfl : i = n := by omega
              exact hend st
    | succ d ih => intro i hi; exact hstep i (by omega) (ih (i + 1) (by omega))
  exact H n 0 (by omega)
theorem drop_cons {α : Type} {l : List α} {i : Nat} (h : i < l.length) : l.drop i = l[i] :: l.drop (i + 1) := List.drop_eq_getElem_cons h
theorem getD_at {α : Type} {l : List α} {i : Nat} (z : α) (h : i < l.length) : l.getD ((i : Int)).toNat z = l[i] := by simp [h]
def wi (a lo hi : Int) : Bool := decide (lo ≤ a) && decide (a ≤ hi)
theorem wi_iff {a lo hi : Int} : wi a lo hi = true ↔ lo ≤ a ∧ a ≤ hi := by simp [wi]
theorem l6In_eq (a lo hi : Int) : spec_l6In.f a lo hi = some (wi a lo hi) := by
  unfold spec_l6In.f wi
  by_cases h : a ≥ lo
  · rw [if_pos h]; simp [h]
  · rw [if_neg h]; simp; omega
theorem within_eq (a lo hi : Int) : impl_within.f a lo hi = some (wi a lo hi) := by
  unfold impl_within.f wi
  by_cases h : a ≥ lo
  · rw [if_pos h]; simp [h]
  · rw [if_neg h]; simp; omega
theorem rdE_at {l : List S24} {i : Nat} (h : i < l.length) : rd_T24 l (i : Int) = l[i] := getD_at _ h
def entB (e : S24) : Bool := if e.f0 = true then wi e.f1 0 5 else (e.f1 == 0 && (!e.f2))
def tabB (l : List S24) : Bool := l.all entB && ((l.length : Int) == 6)
theorem l1Entry_eq (e : S24) : spec_l1Entry.f e.f0 e.f1 e.f2 = some (entB e) := by
  unfold spec_l1Entry.f entB
  by_cases h : e.f0 = true
  · rw [if_pos h, if_pos h, l6In_eq]; rfl
  · rw [if_neg h, if_neg h]; simp [h]
theorem sTabOk_ev (l : List S24) (hl : (l.length : Int) ≤ 1000000000000000) : Ev (fun k => spec_TabOk.f k l) (tabB l) := by
  unfold spec_TabOk.f
  have H := Ev.down (σ := Unit) (fun k i _ => spec_TabOk.l0 k l i) (fun i _ => (l.drop i).all entB && ((l.length : Int) == 6)) l.length
    (fun _ => Ev.succ (by simp only [spec_TabOk.l0, Int.lt_irrefl, if_false]; exact Ev.cast (by simp) (Ev.now _)))
    (fun i hi ih _ => by
      refine Ev.succ ?_
      simp only [spec_TabOk.l0, if_pos (Int.ofNat_lt.mpr hi), if_pos (Int.natCast_nonneg i), rdE_at hi, l1Entry_eq, Option.bind_some, wr1 i (by omega)]
      rw [drop_cons hi, List.all_cons]
      cases h : entB l[i]
      · exact Ev.now _
      · exact ih ())
  exact H ()
theorem iTabOk_ev (l : List S24) (hl : (l.length : Int) ≤ 1000000000000000) : Ev (fun k => impl_TabOk.f k l) (tabB l) := by
  unfold impl_TabOk.f
  have H := Ev.down (σ := Unit) (fun k i _ => impl_TabOk.l0 k l l l.length i) (fun i _ => (l.drop i).all entB && ((l.length : Int) == 6)) l.length
    (fun _ => Ev.succ (by simp only [impl_TabOk.l0, Int.lt_irrefl, if_false]; exact Ev.cast (by simp) (Ev.now _)))
    (fun i hi ih _ => by
      refine Ev.succ ?_
      simp only [impl_TabOk.l0, if_pos (Int.ofNat_lt.mpr hi), if_pos (Int.natCast_nonneg i), rdE_at hi, within_eq, Option.bind_some, wr1 i (by omega)]
      rw [drop_cons hi, List.all_cons]
      unfold entB
      by_cases h : l[i].f0 = true
      · simp only [if_pos h]
        cases g : wi l[i].f1 0 5
        · exact Ev.now _
        · exact ih ()
      · simp only [if_neg h]
        cases g : (l[i].f1 == 0 && (!l[i].f2))
        · rw [show (l[i].f0 || (!(l[i].f1 == 0) || l[i].f2)) = true by revert g h; cases l[i].f0 <;> cases l[i].f2 <;> simp]
          exact Ev.now _
        · have g1 : l[i].f1 = 0 := by revert g; simp; intro a _; exact a
          rw [show (l[i].f0 || (!(l[i].f1 == 0) || l[i].f2)) = false by revert g h; cases l[i].f0 <;> cases l[i].f2 <;> simp]
          simp only [Bool.false_eq_true, if_false, g1, show wi 0 0 5 = true from rfl, if_true]
          exact ih ())
  exact H ()
theorem tabB_len {l : List S24} (h : tabB l = true) : l.length = 6 := by
  simp [tabB] at h; omega
theorem tabB_ent {l : List S24} (h : tabB l = true) (e : S24) (he : e ∈ l) : entB e = true := by
  simp [tabB] at h; exact h.1 e he
def ov (b : List S24) (e : S24) : S24 := if e.f0 = true ∧ (rd_T24 b e.f1).f0 = true then ⟨true, (rd_T24 b e.f1).f1, e.f2 && (rd_T24 b e.f1).f2⟩ else ⟨false, 0, false⟩
def tabOver (a b : List S24) : List S24 := if tabB a = true ∧ tabB b = true then a.map (ov b) else []
theorem tabOver_len (a b : List S24) : (tabOver a b).length ≤ 6 := by
  unfold tabOver
  split
  · next h => simp [tabB_len h.1]
  · simp
theorem ent_page {e : S24} (h : entB e = true) (g : e.f0 = true) : 0 ≤ e.f1 ∧ e.f1 < 6 := by
  unfold entB at h; rw [if_pos g, wi_iff] at h; omega
theorem iOver_l0 (a b : List S24) (ha : tabB a = true) (hb : tabB b = true) : ∀ d i : Nat, i + d = a.length → ∀ xs : List S24, xs.length ≤ 100000 + i →
    Ev (fun k => impl_TabOver.l0 k b xs a a.length (i : Int)) (xs ++ (a.drop i).map (ov b)) := by
  have la := tabB_len ha; have lb := tabB_len hb
  intro d
  induction d with
  | zero =>
    intro i hi xs hx
    obtain rfl : i = a.length := by omega
    refine Ev.succ ?_
    simp only [impl_TabOver.l0, Int.lt_irrefl, if_false]
    exact Ev.cast (by simp) (Ev.now _)
  | succ d ih =>
    intro i hi xs hx
    have hlt : i < a.length := by omega
    have he := tabB_ent ha a[i] (List.getElem_mem hlt)
    have ih' := fun z => ih (i + 1) (by omega) (xs ++ [z]) (by simp; omega)
    refine Ev.succ ?_
    rw [drop_cons hlt, List.map_cons, show xs ++ ov b a[i] :: List.map (ov b) (List.drop (i + 1) a) = (xs ++ [ov b a[i]]) ++ List.map (ov b) (List.drop (i + 1) a) by simp]
    simp only [impl_TabOver.l0, if_pos (Int.ofNat_lt.mpr hlt), if_pos (Int.natCast_nonneg i), rdE_at hlt, wr1 i (by omega), if_pos (show xs.length < 5864062014805 by omega)]
    have h0 := ih' (ov b a[i])
    generalize a[i] = e at *
    by_cases c : e.f0 = true
    · have hp := ent_page he c
      simp only [if_pos c, if_pos hp.1, if_pos (show e.f1 < (b.length : Int) by omega)]
      unfold ov at h0 ⊢
      by_cases c2 : (rd_T24 b e.f1).f0 = true
      · simp only [if_pos c2, if_pos (And.intro c c2)] at h0 ⊢
        by_cases c3 : e.f2 = true
        · simp only [c3, if_true, Bool.true_and] at h0 ⊢; exact h0
        · simp only [c3, if_false, Bool.false_and, Bool.false_eq_true] at h0 ⊢; exact h0
      · simp only [if_neg c2, if_neg (show ¬ (e.f0 = true ∧ (rd_T24 b e.f1).f0 = true) from fun x => c2 x.2)] at h0 ⊢; exact h0
    · unfold ov at h0 ⊢
      simp only [if_neg c, if_neg (show ¬ (e.f0 = true ∧ (rd_T24 b e.f1).f0 = true) from fun x => c x.1)] at h0 ⊢; exact h0
theorem iOver_ev (a b : List S24) (ha : (a.length : Int) ≤ 1000000000000000) (hb : (b.length : Int) ≤ 1000000000000000) : Ev (fun k => impl_TabOver.f k a b) (tabOver a b) := by
  unfold impl_TabOver.f tabOver
  have J : ∀ c, (c = false → tabB a = true ∧ tabB b = true) → Ev (fun k => impl_TabOver.j0 k a b [] c) (if c = false then a.map (ov b) else []) := by
    intro c h
    refine Ev.succ ?_
    cases c
    · simp only [impl_TabOver.j0, Bool.false_eq_true, if_false, if_true]
      exact iOver_l0 a b (h rfl).1 (h rfl).2 a.length 0 (by omega) [] (by simp)
    · simp only [impl_TabOver.j0, if_true]
      exact Ev.now _
  simp only [Option.bind_some]
  refine Ev.bind (iTabOk_ev a ha) ?_
  cases ta : tabB a
  · exact Ev.cast (by simp) (J true (by simp))
  · simp only [if_true]
    refine Ev.bind (iTabOk_ev b hb) ?_
    cases tb : tabB b
    · exact Ev.cast (by simp) (J true (by simp))
    · exact Ev.cast (by simp) (J false (fun _ => ⟨ta, tb⟩))
theorem sOver_l0 (a b : List S24) (ha : tabB a = true) (hb : tabB b = true) : ∀ d i : Nat, i + d = a.length → ∀ xs : List S24, xs.length ≤ 100000 + i →
    Ev (fun k => spec_TabOver.l0 k a b xs (i : Int)) (xs ++ (a.drop i).map (ov b)) := by
  have la := tabB_len ha; have lb := tabB_len hb
  intro d
  induction d with
  | zero =>
    intro i hi xs hx
    obtain rfl : i = a.length := by omega
    refine Ev.succ ?_
    simp only [spec_TabOver.l0, Int.lt_irrefl, if_false]
    exact Ev.cast (by simp) (Ev.now _)
  | succ d ih =>
    intro i hi xs hx
    have hlt : i < a.length := by omega
    have he := tabB_ent ha a[i] (List.getElem_mem hlt)
    have ih' := fun z => ih (i + 1) (by omega) (xs ++ [z]) (by simp; omega)
    refine Ev.succ ?_
    rw [drop_cons hlt, List.map_cons, show xs ++ ov b a[i] :: List.map (ov b) (List.drop (i + 1) a) = (xs ++ [ov b a[i]]) ++ List.map (ov b) (List.drop (i + 1) a) by simp]
    simp only [spec_TabOver.l0, if_pos (Int.ofNat_lt.mpr hlt), if_pos (Int.natCast_nonneg i), rdE_at hlt, wr1 i (by omega), if_pos (show xs.length < 5864062014805 by omega)]
    have h0 := ih' (ov b a[i])
    generalize a[i] = e at *
    by_cases c : e.f0 = true
    · have hp := ent_page he c
      simp only [if_pos c, if_pos hp.1, if_pos (show e.f1 < (b.length : Int) by omega)]
      unfold ov at h0 ⊢
      by_cases c2 : (rd_T24 b e.f1).f0 = true
      · simp only [if_pos (And.intro c c2)] at h0 ⊢
        simp only [c2, if_true]
        by_cases c3 : (rd_T24 b e.f1).f2 = true
        · simp only [c3, if_true, Bool.and_true] at h0 ⊢; exact h0
        · simp only [c3, if_false, Bool.and_false, Bool.false_eq_true] at h0 ⊢; exact h0
      · simp only [if_neg c2, if_neg (show ¬ (e.f0 = true ∧ (rd_T24 b e.f1).f0 = true) from fun x => c2 x.2)] at h0 ⊢; exact h0
    · unfold ov at h0 ⊢
      simp only [if_neg c, if_neg (show ¬ (e.f0 = true ∧ (rd_T24 b e.f1).f0 = true) from fun x => c x.1)] at h0 ⊢; exact h0
theorem sOver_ev (a b : List S24) (ha : (a.length : Int) ≤ 1000000000000000) (hb : (b.length : Int) ≤ 1000000000000000) : Ev (fun k => spec_TabOver.f k a b) (tabOver a b) := by
  unfold spec_TabOver.f tabOver
  have J : ∀ c, (c = false → tabB a = true ∧ tabB b = true) → Ev (fun k => spec_TabOver.j0 k a b [] c) (if c = false then a.map (ov b) else []) := by
    intro c h
    refine Ev.succ ?_
    cases c
    · simp only [spec_TabOver.j0, Bool.false_eq_true, if_false, if_true]
      exact sOver_l0 a b (h rfl).1 (h rfl).2 a.length 0 (by omega) [] (by simp)
    · simp only [spec_TabOver.j0, if_true]
      exact Ev.now _
  simp only [Option.bind_some]
  refine Ev.bind (sTabOk_ev a ha) ?_
  cases ta : tabB a
  · exact Ev.cast (by simp) (J true (by simp))
  · simp only [if_true]
    refine Ev.bind (sTabOk_ev b hb) ?_
    cases tb : tabB b
    · exact Ev.cast (by simp) (J true (by simp))
    · exact Ev.cast (by simp) (J false (fun _ => ⟨ta, tb⟩))
theorem rdLE_at {l : List S65} {i : Nat} (h : i < l.length) : rd_T65 l (i : Int) = l[i] := getD_at _ h
def toE (e : S65) : S24 := ⟨e.f0, e.f1, e.f2⟩
theorem set_snoc {α : Type} (xs : List α) (z : α) (n : Nat) (y : α) : (xs ++ List.replicate (n + 1) z).set xs.length y = (xs ++ [y]) ++ List.replicate n z := by
  rw [List.set_append_right _ _ (Nat.le_refl _)]; simp [List.replicate_succ]
theorem toEntryS_ev (l : List S65) (hl : (l.length : Int) ≤ 1048576) : Ev (fun k => laws_toEntryS.f k l) (l.map toE) := by
  unfold laws_toEntryS.f
  simp only [if_pos (Int.natCast_nonneg l.length), Int.toNat_natCast, if_pos (show l.length ≤ 11728124029610 by omega)]
  have H : ∀ d i : Nat, i + d = l.length → Ev (fun k => laws_toEntryS.l0 k l ((l.take i).map toE ++ List.replicate d z24) (i : Int)) (l.map toE) := by
    intro d
    induction d with
    | zero =>
      intro i hi
      obtain rfl : i = l.length := by omega
      refine Ev.succ ?_
      simp only [laws_toEntryS.l0, Int.lt_irrefl, if_false, List.take_length, List.replicate_zero, List.append_nil]
      exact Ev.now _
    | succ d ih =>
      intro i hi
      have hlt : i < l.length := by omega
      have ih' := ih (i + 1) (by omega)
      refine Ev.succ ?_
      simp only [laws_toEntryS.l0, if_pos (Int.ofNat_lt.mpr hlt), if_pos (Int.natCast_nonneg i), laws_toEntry.f, Option.bind_some, rdLE_at hlt, wr1 i (by omega), Int.toNat_natCast]
      simp only [if_pos (show (i : Int) < (((l.take i).map toE ++ List.replicate (d + 1) z24).length : Int) by simp; omega)]
      have e := set_snoc ((l.take i).map toE) z24 d (toE l[i])
      rw [show ((l.take i).map toE).length = i by simp; omega] at e
      have e2 : (l.take i).map toE ++ [toE l[i]] = (l.take (i + 1)).map toE := by rw [List.take_succ_eq_append_getElem hlt, List.map_append]; rfl
      rw [e2] at e
      unfold toE at e ih' ⊢
      simp only [e]
      exact ih'
  exact H l.length 0 (by omega)
theorem eqEntryS_refl (l : List S24) (hl : (l.length : Int) ≤ 1000000000000000) : Ev (fun k => laws_eqEntryS.f k l l) true := by
  unfold laws_eqEntryS.f
  simp only [if_true]
  have H := Ev.down (σ := Unit) (fun k i _ => laws_eqEntryS.l0 k l l i) (fun i _ => true) l.length
    (fun _ => Ev.succ (by simp only [laws_eqEntryS.l0, Int.lt_irrefl, if_false]; exact Ev.now _))
    (fun i hi ih _ => by
      refine Ev.succ ?_
      simp only [laws_eqEntryS.l0, if_pos (Int.ofNat_lt.mpr hi), if_pos (Int.natCast_nonneg i), laws_eqEntry.f, bne_self_eq_false, Bool.false_eq_true, if_false, if_true, Option.bind_some, wr1 i (by omega)]
      exact ih ())
  exact H ()
def mkE (v : Int) (n : Nat) : List S24 := (List.range n).map fun (j : Nat) => (⟨(Int.tmod (v + 3 * (j : Int)) 3 == 0), v + 3 * (j : Int) + 1, (Int.tmod (v + 3 * (j : Int) + 1 + 1) 3 == 0)⟩ : S24)
theorem mkE_len (v : Int) (n : Nat) : (mkE v n).length = n := by simp [mkE]
theorem mkE_succ (v : Int) (n : Nat) : mkE v (n + 1) = mkE v n ++ [⟨(Int.tmod (v + 3 * (n : Int)) 3 == 0), v + 3 * (n : Int) + 1, (Int.tmod (v + 3 * (n : Int) + 1 + 1) 3 == 0)⟩] := by simp [mkE, List.range_succ]
theorem rdE_set {l : List S24} {i : Nat} (h : i < l.length) (e : S24) : rd_T24 (l.set i e) (i : Int) = e := by
  rw [rdE_at (show i < (l.set i e).length by simpa using h)]; simp
theorem markEntry_ev (l : List S24) (v : Int) (h0 : 0 ≤ v) (h1 : v ≤ 10000000) (hl : (l.length : Int) ≤ 10000000) : Ev (fun k => laws_markEntryS.f k l v) (v + 3 * (l.length : Int), mkE v l.length) := by
  unfold laws_markEntryS.f
  have H : ∀ d i : Nat, i + d = l.length → Ev (fun k => laws_markEntryS.l0 k (mkE v i ++ l.drop i) (v + 3 * (i : Int)) (i : Int)) (v + 3 * (l.length : Int), mkE v l.length) := by
    intro d
    induction d with
    | zero =>
      intro i hi
      obtain rfl : i = l.length := by omega
      refine Ev.succ ?_
      simp only [laws_markEntryS.l0, List.drop_length, List.append_nil, mkE_len, Int.lt_irrefl, if_false]
      exact Ev.now _
    | succ d ih =>
      intro i hi
      have hlt : i < l.length := by omega
      have hL : (mkE v i ++ l.drop i).length = l.length := by simp [mkE_len]; omega
      have hi2 : i < (mkE v i ++ l.drop i).length := by omega
      refine Ev.succ ?_
      simp only [laws_markEntryS.l0, hL, if_pos (Int.ofNat_lt.mpr hlt), if_pos (Int.natCast_nonneg i), Option.bind_some, Int.toNat_natCast, wr1 i (by omega), wr (v + 3 * (i : Int) + 1) (by omega), wr (v + 3 * (i : Int) + 1 + 1) (by omega), wr (v + 3 * (i : Int) + 1 + 1 + 1) (by omega)]
      rw [rdE_set hi2, rdE_set (show i < ((mkE v i ++ l.drop i).set i _).length by simp only [List.length_set]; exact hi2)]
      simp only [List.set_set]
      have e : (mkE v i ++ l.drop i).set i ⟨(Int.tmod (v + 3 * (i : Int)) 3 == 0), v + 3 * (i : Int) + 1, (Int.tmod (v + 3 * (i : Int) + 1 + 1) 3 == 0)⟩ = mkE v (i + 1) ++ l.drop (i + 1) := by
        rw [drop_cons hlt, List.set_append_right _ _ (by simp [mkE_len]), mkE_len, Nat.sub_self, List.set_cons_zero, mkE_succ]; simp
      rw [e, show v + 3 * (i : Int) + 1 + 1 + 1 = v + 3 * ((i + 1 : Nat) : Int) by omega]
      exact ih (i + 1) (by omega)
  have := H l.length 0 (by omega)
  simpa [mkE] using this
theorem heldEntry_ev (n : Nat) (v : Int) (h0 : 0 ≤ v) (h1 : v ≤ 10000000) (hl : (n : Int) ≤ 10000000) : Ev (fun k => laws_heldEntryS.f k (mkE v n) v) (v + 3 * (n : Int)) := by
  unfold laws_heldEntryS.f
  have H : ∀ d i : Nat, i + d = n → Ev (fun k => laws_heldEntryS.l0 k (mkE v n) (v + 3 * (i : Int)) (i : Int)) (v + 3 * (n : Int)) := by
    intro d
    induction d with
    | zero =>
      intro i hi
      obtain rfl : i = n := by omega
      refine Ev.succ ?_
      simp only [laws_heldEntryS.l0, mkE_len, Int.lt_irrefl, if_false]
      exact Ev.now _
    | succ d ih =>
      intro i hi
      have hlt : i < n := by omega
      have e : rd_T24 (mkE v n) (i : Int) = ⟨(Int.tmod (v + 3 * (i : Int)) 3 == 0), v + 3 * (i : Int) + 1, (Int.tmod (v + 3 * (i : Int) + 1 + 1) 3 == 0)⟩ := by
        rw [rdE_at (show i < (mkE v n).length by rw [mkE_len]; exact hlt)]; simp [mkE]
      refine Ev.succ ?_
      simp only [laws_heldEntryS.l0, mkE_len, if_pos (Int.ofNat_lt.mpr hlt), if_pos (Int.natCast_nonneg i), wr1 i (by omega), wr (v + 3 * (i : Int) + 1) (by omega), wr (v + 3 * (i : Int) + 1 + 1) (by omega), wr (v + 3 * (i : Int) + 1 + 1 + 1) (by omega), e, bne_self_eq_false, Bool.false_eq_true, if_false, if_true]
      rw [show v + 3 * (i : Int) + 1 + 1 + 1 = v + 3 * ((i + 1 : Nat) : Int) by omega]
      exact ih (i + 1) (by omega)
  have := H n 0 (by omega)
  simpa using this
theorem szEntryS_ev (l : List S65) (left : Int) (h0 : 0 ≤ left) (h1 : left ≤ 1048576) (hl : l.length ≤ 9223372036854775807) : (laws_szEntryS.f l left = some (-1)) ∨ (∃ n, laws_szEntryS.f l left = some n ∧ 0 ≤ n ∧ n ≤ 1048576 ∧ (l.length : Int) ≤ 1048576) := by
  unfold laws_szEntryS.f
  rw [wr (left - (l.length : Int)) (by omega)]
  by_cases h : left - (l.length : Int) < 0
  · exact .inl (if_pos h)
  · exact .inr ⟨_, if_neg h, by omega, by omega, by omega⟩

-- the law
theorem FnExactTabOver (a b : List S65) (ha : a.length ≤ 9223372036854775807) (hb : b.length ≤ 9223372036854775807) : ∃ k, laws_FnExactTabOver.f k a b = some true := by
  apply Ev.rounds
  unfold laws_FnExactTabOver.f
  rcases szEntryS_ev a 1048576 (by omega) (by omega) ha with e | ⟨n, e, n0, n1, hA⟩
  · simp only [e, Option.bind_some, show ((-1 : Int) < 0) by decide, if_true]; exact Ev.now _
  simp only [e, Option.bind_some, if_neg (show ¬ n < 0 by omega)]
  rcases szEntryS_ev b n n0 n1 hb with e | ⟨n', e, n0', n1', hB⟩
  · simp only [e, Option.bind_some, show ((-1 : Int) < 0) by decide, if_true]; exact Ev.now _
  simp only [e, Option.bind_some, if_neg (show ¬ n' < 0 by omega)]
  have TA := toEntryS_ev a hA; have TB := toEntryS_ev b hB
  have la : ((a.map toE).length : Int) ≤ 1048576 := by simp; omega
  have lb : ((b.map toE).length : Int) ≤ 1048576 := by simp; omega
  have ho := tabOver_len (a.map toE) (b.map toE)
  have EO := eqEntryS_refl (tabOver (a.map toE) (b.map toE)) (by omega)
  refine Ev.bind TA (Ev.bind TB (Ev.bind (sOver_ev _ _ (by omega) (by omega)) (Ev.bind TA (Ev.bind TB (Ev.bind (iOver_ev _ _ (by omega) (by omega)) (Ev.bind EO ?_))))))
  simp only [if_true]
  refine Ev.bind TA (Ev.bind (eqEntryS_refl _ (by omega)) ?_)
  simp only [if_true]
  refine Ev.bind TB (Ev.bind (eqEntryS_refl _ (by omega)) ?_)
  simp only [if_true]
  refine Ev.bind (markEntry_ev _ 1 (by omega) (by omega) (by omega)) (Ev.bind (markEntry_ev _ (1 + 3 * ((a.map toE).length : Int)) (by omega) (by omega) (by omega)) ?_)
  simp only [if_neg (show ¬ 1 + 3 * ((a.map toE).length : Int) + 3 * ((b.map toE).length : Int) < 0 by omega)]
  refine Ev.bind EO ?_
  simp only [Bool.not_true]
  have M := markEntry_ev (tabOver (a.map toE) (b.map toE)) 1 (by omega) (by omega) (by omega)
  have Hd := heldEntry_ev (tabOver (a.map toE) (b.map toE)).length 1 (by omega) (by omega) (by omega)
  refine Ev.succ ?_
  simp only [laws_FnExactTabOver.j0, Bool.false_eq_true, if_false]
  refine Ev.bind M (Ev.bind Hd ?_)
  simp only [if_neg (show ¬ 1 + 3 * ((tabOver (a.map toE) (b.map toE)).length : Int) < 0 by omega), if_true]
  refine Ev.bind TA (Ev.bind TB (Ev.bind (iOver_ev _ _ (by omega) (by omega)) (Ev.bind EO ?_)))
  simp only [if_true]
  refine Ev.bind Hd ?_
  simp only [if_neg (show ¬ 1 + 3 * ((tabOver (a.map toE) (b.map toE)).length : Int) < 0 by omega), if_true]
  exact Ev.now _

end Go.Proofs.Ytbphhgahedahdaa.Pure
