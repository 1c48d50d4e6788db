/- The pure side of the law FnExactMemOk: what the printed functions compute answers true. Conditions: none beyond the statement given. -/
import Derived.Test.YtbphhgahedahdaaQFnExactMemOkx0
import Derived.Test.YtbphhgahedahdaaQFnExactMemOkx1
import Derived.Test.YtbphhgahedahdaaQFnExactMemOkx2
import Derived.Laws.BitsLemmas
namespace Go.Proofs.Ytbphhgahedahdaa.Pure
open Go Go.RowKit Go.Proofs.Ytbphhgahedahdaa.QFnExactMemOk Go.Proofs.YtbphhgahedahdaaW.PrintWords Go.Proofs.YtbphhgahedahdaaW.PrintLast
set_option linter.unusedVariables false
set_option linter.unusedSimpArgs false

theorem Ev.succ {α : Type} {g : Nat → Option α} {r : α} (h : Ev (fun k => g (k + 1)) r) : Ev g r := Ev.step (fun _ => rfl) h
theorem Ev.cast {α : Type} {g : Nat → Option α} {r r' : α} (e : r = r') (h : Ev g r) : Ev g r' := e ▸ h
theorem wr (n : Int) (h : -9223372036854775808 ≤ n ∧ n ≤ 9223372036854775807) : wrap64 n = n := by unfold wrap64; omega
theorem wr1 (i : Nat) (h : (i : Int) ≤ 1000000000000000000) : wrap64 ((i : Int) + 1) = ((i + 1 : Nat) : Int) := by rw [wr _ (by omega)]; rfl
theorem Ev.down {σ ρ : Type} (g : Nat → Int → σ → Option ρ) (R : Nat → σ → ρ) (n : Nat) (hend : ∀ st, Ev (fun k => g k n st) (R n st))
    (hstep : ∀ i : Nat, i < n → (∀ st, Ev (fun k => g k ((i + 1 : Nat) : Int) st) (R (i + 1) st)) → ∀ st, Ev (fun k => g k (i : Int) st) (R i st)) :
    ∀ st, Ev (fun k => g k 0 st) (R 0 st) := by
  have H : ∀ d i : Nat, i + d = n → ∀ st, Ev (fun k => g k (i : Int) st) (R i st) := by
    intro d
    induction d with
    | zero => intro i hi st; obtain rfl : i = n := by omega
              exact hend st
    | succ d ih => intro i hi; exact hstep i (by omega) (ih (i + 1) (by omega))
  exact H n 0 (by omega)
theorem drop_cons {α : Type} {l : List α} {i : Nat} (h : i < l.length) : l.drop i = l[i] :: l.drop (i + 1) := List.drop_eq_getElem_cons h
theorem rd_at {l : List Int} {i : Nat} (h : i < l.length) : rd l (i : Int) = l[i] := by simp [rd, h]
theorem getD_at {α : Type} {l : List α} {i : Nat} (z : α) (h : i < l.length) : l.getD ((i : Int)).toNat z = l[i] := by simp [h]
def wi (a lo hi : Int) : Bool := decide (lo ≤ a) && decide (a ≤ hi)
theorem l6In_eq (a lo hi : Int) : spec_l6In.f a lo hi = some (wi a lo hi) := by
  unfold spec_l6In.f wi
  by_cases h : a ≥ lo
  · rw [if_pos h]; simp [h]
  · rw [if_neg h]; simp; omega
theorem within_eq (a lo hi : Int) : impl_within.f a lo hi = some (wi a lo hi) := by
  unfold impl_within.f wi
  by_cases h : a ≥ lo
  · rw [if_pos h]; simp [h]
  · rw [if_neg h]; simp; omega
theorem set_snoc {α : Type} (xs : List α) (z : α) (n : Nat) (y : α) : (xs ++ List.replicate (n + 1) z).set xs.length y = (xs ++ [y]) ++ List.replicate n z := by
  rw [List.set_append_right _ _ (Nat.le_refl _)]; simp [List.replicate_succ]
theorem rdL_at {l : List (List Int)} {i : Nat} (h : i < l.length) : rd_L1 l (i : Int) = l[i] := getD_at _ h
def pageB (p : List Int) : Bool := p.all (fun w => wi w 0 63) && ((p.length : Int) == 4)
def memB (m : List (List Int)) : Bool := m.all pageB
def Small (m : List (List Int)) : Prop := (m.length : Int) ≤ 1000000000000 ∧ ∀ r ∈ m, (r.length : Int) ≤ 1000000000000
theorem sPage_ev (p : List Int) (hl : (p.length : Int) ≤ 1000000000000) : Ev (fun k => spec_l2PageOk.f k p) (pageB p) := by
  unfold spec_l2PageOk.f
  have H := Ev.down (σ := Unit) (fun k i _ => spec_l2PageOk.l0 k p i) (fun i _ => (p.drop i).all (fun w => wi w 0 63) && ((p.length : Int) == 4)) p.length
    (fun _ => Ev.succ (by simp only [spec_l2PageOk.l0, Int.lt_irrefl, if_false]; exact Ev.cast (by simp) (Ev.now _)))
    (fun i hi ih _ => by
      refine Ev.succ ?_
      simp only [spec_l2PageOk.l0, if_pos (Int.ofNat_lt.mpr hi), if_pos (Int.natCast_nonneg i), rd_at hi, l6In_eq, Option.bind_some, wr1 i (by omega)]
      rw [drop_cons hi, List.all_cons]
      cases h : wi p[i] 0 63
      · exact Ev.now _
      · exact ih ())
  exact H ()
theorem sMemOk_ev (m : List (List Int)) (hm : Small m) : Ev (fun k => spec_MemOk.f k m) (memB m) := by
  unfold spec_MemOk.f
  have hl := hm.1
  have H := Ev.down (σ := Unit) (fun k i _ => spec_MemOk.l0 k m i) (fun i _ => (m.drop i).all pageB) m.length
    (fun _ => Ev.succ (by simp only [spec_MemOk.l0, Int.lt_irrefl, if_false]; exact Ev.cast (by simp) (Ev.now _)))
    (fun i hi ih _ => by
      refine Ev.succ ?_
      simp only [spec_MemOk.l0, if_pos (Int.ofNat_lt.mpr hi), if_pos (Int.natCast_nonneg i), rdL_at hi, wr1 i (by omega)]
      refine Ev.bind (sPage_ev m[i] (hm.2 _ (List.getElem_mem hi))) ?_
      rw [drop_cons hi, List.all_cons]
      cases h : pageB m[i]
      · exact Ev.now _
      · exact ih ())
  exact H ()
theorem iPage_ev (p : List Int) (hl : (p.length : Int) ≤ 1000000000000) : Ev (fun k => impl_pageOk.f k p) (pageB p) := by
  unfold impl_pageOk.f
  have H := Ev.down (σ := Unit) (fun k i _ => impl_pageOk.l0 k p p p.length i) (fun i _ => (p.drop i).all (fun w => wi w 0 63) && ((p.length : Int) == 4)) p.length
    (fun _ => Ev.succ (by simp only [impl_pageOk.l0, Int.lt_irrefl, if_false]; exact Ev.cast (by simp) (Ev.now _)))
    (fun i hi ih _ => by
      refine Ev.succ ?_
      simp only [impl_pageOk.l0, if_pos (Int.ofNat_lt.mpr hi), if_pos (Int.natCast_nonneg i), rd_at hi, within_eq, Option.bind_some, wr1 i (by omega)]
      rw [drop_cons hi, List.all_cons]
      cases h : wi p[i] 0 63
      · exact Ev.now _
      · exact ih ())
  exact H ()
theorem iMemOk_ev (m : List (List Int)) (hm : Small m) : Ev (fun k => impl_MemOk.f k m) (memB m) := by
  unfold impl_MemOk.f
  have hl := hm.1
  have H := Ev.down (σ := Unit) (fun k i _ => impl_MemOk.l0 k m m.length i) (fun i _ => (m.drop i).all pageB) m.length
    (fun _ => Ev.succ (by simp only [impl_MemOk.l0, Int.lt_irrefl, if_false]; exact Ev.cast (by simp) (Ev.now _)))
    (fun i hi ih _ => by
      refine Ev.succ ?_
      simp only [impl_MemOk.l0, if_pos (Int.ofNat_lt.mpr hi), if_pos (Int.natCast_nonneg i), rdL_at hi, wr1 i (by omega)]
      refine Ev.bind (iPage_ev m[i] (hm.2 _ (List.getElem_mem hi))) ?_
      rw [drop_cons hi, List.all_cons]
      cases h : pageB m[i]
      · exact Ev.now _
      · exact ih ())
  exact H ()
theorem szIntSS_ev (m : List (List Int)) (hl : m.length ≤ 9223372036854775807) (hr : ∀ r ∈ m, r.length ≤ 9223372036854775807) :
    Ev (fun k => laws_szIntSS.f k m 1048576) (-1) ∨ ∃ n, Ev (fun k => laws_szIntSS.f k m 1048576) n ∧ 0 ≤ n ∧ (m.length : Int) ≤ 1048576 ∧ ∀ r ∈ m, (r.length : Int) ≤ 1048576 := by
  unfold laws_szIntSS.f
  simp only [wr (1048576 - (m.length : Int)) (by omega)]
  by_cases h : 1048576 - (m.length : Int) < 0
  · simp only [if_pos h]; exact .inl (Ev.now _)
  · simp only [if_neg h]
    have H : ∀ d i : Nat, i + d = m.length → ∀ left : Int, 0 ≤ left → left ≤ 1048576 →
        Ev (fun k => laws_szIntSS.l0 k m left (i : Int)) (-1) ∨ ∃ n, Ev (fun k => laws_szIntSS.l0 k m left (i : Int)) n ∧ 0 ≤ n ∧ ∀ r ∈ m.drop i, (r.length : Int) ≤ 1048576 := by
      intro d
      induction d with
      | zero =>
        intro i hi left h0 h1
        obtain rfl : i = m.length := by omega
        refine .inr ⟨left, Ev.succ ?_, h0, by simp⟩
        simp only [laws_szIntSS.l0, Int.lt_irrefl, if_false]
        exact Ev.now _
      | succ d ih =>
        intro i hi left h0 h1
        have hlt : i < m.length := by omega
        have hri := hr _ (List.getElem_mem hlt)
        by_cases c : left - (m[i].length : Int) < 0
        · refine .inl (Ev.succ ?_)
          simp only [laws_szIntSS.l0, if_pos (Int.ofNat_lt.mpr hlt), if_pos (Int.natCast_nonneg i), rdL_at hlt, laws_szIntS.f, wr (left - (m[i].length : Int)) (by omega), if_pos c, Option.bind_some, show ((-1 : Int) < 0) = True by simp, if_true]
          exact Ev.now _
        · have e : ∀ k, laws_szIntSS.l0 (k + 1) m left (i : Int) = laws_szIntSS.l0 k m (left - (m[i].length : Int)) ((i + 1 : Nat) : Int) := by
            intro k
            simp only [laws_szIntSS.l0, if_pos (Int.ofNat_lt.mpr hlt), if_pos (Int.natCast_nonneg i), rdL_at hlt, laws_szIntS.f, wr (left - (m[i].length : Int)) (by omega), if_neg c, Option.bind_some, wr1 i (by omega)]
          rcases ih (i + 1) (by omega) (left - (m[i].length : Int)) (by omega) (by omega) with a | ⟨n, a, n0, hn⟩
          · exact .inl (Ev.step e a)
          · refine .inr ⟨n, Ev.step e a, n0, ?_⟩
            rw [drop_cons hlt]
            intro r hr'
            rcases List.mem_cons.mp hr' with rfl | hr'
            · omega
            · exact hn r hr'
    rcases H m.length 0 (by omega) (1048576 - (m.length : Int)) (by omega) (by omega) with a | ⟨n, a, n0, hn⟩
    · exact .inl a
    · exact .inr ⟨n, a, n0, by omega, by simpa using hn⟩
theorem toIntS_ev (l : List Int) (hl : (l.length : Int) ≤ 1048576) : Ev (fun k => laws_toIntS.f k l) l := by
  unfold laws_toIntS.f
  simp only [if_pos (Int.natCast_nonneg l.length), Int.toNat_natCast, if_pos (show l.length ≤ 35184372088832 by omega)]
  have H : ∀ d i : Nat, i + d = l.length → Ev (fun k => laws_toIntS.l0 k l (l.take i ++ List.replicate d 0) (i : Int)) l := by
    intro d
    induction d with
    | zero =>
      intro i hi
      obtain rfl : i = l.length := by omega
      refine Ev.succ ?_
      simp only [laws_toIntS.l0, Int.lt_irrefl, if_false, List.take_length, List.replicate_zero, List.append_nil]
      exact Ev.now _
    | succ d ih =>
      intro i hi
      have hlt : i < l.length := by omega
      have ih' := ih (i + 1) (by omega)
      refine Ev.succ ?_
      simp only [laws_toIntS.l0, if_pos (Int.ofNat_lt.mpr hlt), if_pos (Int.natCast_nonneg i), rd_at hlt, wr1 i (by omega), Int.toNat_natCast]
      simp only [if_pos (show (i : Int) < ((l.take i ++ List.replicate (d + 1) (0 : Int)).length : Int) by simp; omega)]
      have e := set_snoc (l.take i) (0 : Int) d l[i]
      rw [show (l.take i).length = i by simp; omega, ← List.take_succ_eq_append_getElem hlt] at e
      simp only [e]
      exact ih'
  exact H l.length 0 (by omega)
theorem toIntSS_ev (l : List (List Int)) (hl : (l.length : Int) ≤ 1048576) (hr : ∀ r ∈ l, (r.length : Int) ≤ 1048576) : Ev (fun k => laws_toIntSS.f k l) l := by
  unfold laws_toIntSS.f
  simp only [if_pos (Int.natCast_nonneg l.length), Int.toNat_natCast, if_pos (show l.length ≤ 11728124029610 by omega)]
  have H : ∀ d i : Nat, i + d = l.length → Ev (fun k => laws_toIntSS.l0 k l (l.take i ++ List.replicate d []) (i : Int)) l := by
    intro d
    induction d with
    | zero =>
      intro i hi
      obtain rfl : i = l.length := by omega
      refine Ev.succ ?_
      simp only [laws_toIntSS.l0, Int.lt_irrefl, if_false, List.take_length, List.replicate_zero, List.append_nil]
      exact Ev.now _
    | succ d ih =>
      intro i hi
      have hlt : i < l.length := by omega
      have ih' := ih (i + 1) (by omega)
      refine Ev.succ ?_
      simp only [laws_toIntSS.l0, if_pos (Int.ofNat_lt.mpr hlt), if_pos (Int.natCast_nonneg i), rdL_at hlt, wr1 i (by omega), Int.toNat_natCast]
      refine Ev.bind (toIntS_ev l[i] (hr _ (List.getElem_mem hlt))) ?_
      simp only [if_pos (show (i : Int) < ((l.take i ++ List.replicate (d + 1) ([] : List Int)).length : Int) by simp; omega)]
      have e := set_snoc (l.take i) ([] : List Int) d l[i]
      rw [show (l.take i).length = i by simp; omega, ← List.take_succ_eq_append_getElem hlt] at e
      simp only [e]
      exact ih'
  exact H l.length 0 (by omega)
theorem eqIntS_refl (l : List Int) (hl : (l.length : Int) ≤ 1000000000000) : Ev (fun k => laws_eqIntS.f k l l) true := by
  unfold laws_eqIntS.f
  simp only [if_true]
  have H := Ev.down (σ := Unit) (fun k i _ => laws_eqIntS.l0 k l l i) (fun i _ => true) l.length
    (fun _ => Ev.succ (by simp only [laws_eqIntS.l0, Int.lt_irrefl, if_false]; exact Ev.now _))
    (fun i hi ih _ => by
      refine Ev.succ ?_
      simp only [laws_eqIntS.l0, if_pos (Int.ofNat_lt.mpr hi), if_pos (Int.natCast_nonneg i), if_true, wr1 i (by omega)]
      exact ih ())
  exact H ()
theorem eqIntSS_refl (l : List (List Int)) (hl : Small l) : Ev (fun k => laws_eqIntSS.f k l l) true := by
  unfold laws_eqIntSS.f
  simp only [if_true]
  have h1 := hl.1
  have H := Ev.down (σ := Unit) (fun k i _ => laws_eqIntSS.l0 k l l i) (fun i _ => true) l.length
    (fun _ => Ev.succ (by simp only [laws_eqIntSS.l0, Int.lt_irrefl, if_false]; exact Ev.now _))
    (fun i hi ih _ => by
      refine Ev.succ ?_
      simp only [laws_eqIntSS.l0, if_pos (Int.ofNat_lt.mpr hi), if_pos (Int.natCast_nonneg i), rdL_at hi, wr1 i (by omega)]
      refine Ev.bind (eqIntS_refl _ (hl.2 _ (List.getElem_mem hi))) ?_
      simp only [if_true]
      exact ih ())
  exact H ()

-- the law
theorem FnExactMemOk (m : List (List Int)) (hl : m.length ≤ 9223372036854775807) (hr : ∀ r ∈ m, r.length ≤ 9223372036854775807) : ∃ k, laws_FnExactMemOk.f k m = some true := by
  apply Ev.rounds
  unfold laws_FnExactMemOk.f
  rcases szIntSS_ev m hl hr with e | ⟨n, e, h0, hL, hR⟩
  · refine Ev.bind e ?_
    simp only [show ((-1 : Int) < 0) = True by simp, if_true]; exact Ev.now _
  · refine Ev.bind e ?_
    simp only [if_neg (show ¬ n < 0 by omega)]
    have T := toIntSS_ev m hL hR
    have hm : Small m := ⟨by omega, fun r h => by have := hR r h; omega⟩
    refine Ev.bind T (Ev.bind (sMemOk_ev m hm) (Ev.bind T (Ev.bind (iMemOk_ev m hm) ?_)))
    simp only [bne_self_eq_false, Bool.false_eq_true, if_false]
    refine Ev.bind T (Ev.bind (eqIntSS_refl m hm) ?_)
    simp only [if_true]
    exact Ev.now _

end Go.Proofs.Ytbphhgahedahdaa.Pure
