/- The pure side of the law FnExactHostLoad: what the printed functions compute answers true. Conditions: none beyond the statement given. -/
import Derived.Test.YtjgcfpclddfifaaVFnExactHostLoadx0
import Derived.Test.YtjgcfpclddfifaaVFnExactHostLoadx1
import Derived.Test.YtjgcfpclddfifaaVFnExactHostLoadx2
import Derived.Test.YtjgcfpclddfifaaVFnExactHostLoadx3
import Derived.Test.YtjgcfpclddfifaaVFnExactHostLoadx4
import Derived.Test.YtjgcfpclddfifaaVFnExactHostLoadx5
import Derived.Test.YtjgcfpclddfifaaVFnExactHostLoadx6
import Derived.Test.YtjgcfpclddfifaaVFnExactHostLoadx7
import Derived.Test.YtjgcfpclddfifaaVFnExactHostLoadx8
import Derived.Test.YtjgcfpclddfifaaVFnExactHostLoadx9
import Derived.Test.YtjgcfpclddfifaaVFnExactHostLoadx10
import Derived.Test.YtjgcfpclddfifaaVFnExactHostLoadx11
import Derived.Laws.BitsLemmas
namespace Go.Proofs.Ytjgcfpclddfifaa.Pure
open Go Go.RowKit Go.Proofs.Ytjgcfpclddfifaa.QFnExactHostLoad Go.Proofs.YtjgcfpclddfifaaW.PrintWords Go.Proofs.YtjgcfpclddfifaaW.PrintLast
set_option linter.unusedVariables false
set_option linter.unusedSimpArgs false

theorem Ev.succ {α : Type} {g : Nat → Option α} {r : α} (h : Ev (fun k => g (k + 1)) r) : Ev g r := Ev.step (fun _ => rfl) h
theorem Ev.cast {α : Type} {g : Nat → Option α} {r r' : α} (e : r = r') (h : Ev g r) : Ev g r' := e ▸ h
theorem wr (n : Int) (h : -9223372036854775808 ≤ n ∧ n ≤ 9223372036854775807) : wrap64 n = n := by unfold wrap64; omega
theorem wr1 (i : Nat) (h : (i : Int) ≤ 9000000000000000000) : wrap64 ((i : Int) + 1) = ((i + 1 : Nat) : Int) := by rw [wr _ (by omega)]; rfl
theorem Ev.down {σ ρ : Type} (g : Nat → Int → σ → Option ρ) (R : Nat → σ → ρ) (n : Nat) (hend : ∀ st, Ev (fun k => g k n st) (R n st))
    (hstep : ∀ i : Nat, i < n → (∀ st, Ev (fun k => g k ((i + 1 : Nat) : Int) st) (R (i + 1) st)) → ∀ st, Ev (fun k => g k (i : Int) st) (R i st)) :
    ∀ st, Ev (fun k => g k 0 st) (R 0 st) := by
  have H : ∀ d i : Nat, i + d = n → ∀ st, Ev (fun k => g k (i : Int) st) (R i st) := by
    intro d
    induction d with
    | zero => intro i hi st; obtain rfl : i = n := by omega
              exact hend st
    | succ d ih => intro i hi; exact hstep i (by omega) (ih (i + 1) (by omega))
  exact H n 0 (by omega)
theorem drop_cons {α : Type} {l : List α} {i : Nat} (h : i < l.length) : l.drop i = l[i] :: l.drop (i + 1) := List.drop_eq_getElem_cons h
theorem rd_at {l : List Int} {i : Nat} (h : i < l.length) : rd l (i : Int) = l[i] := by simp [rd, h]
theorem getD_at {α : Type} {l : List α} {i : Nat} (z : α) (h : i < l.length) : l.getD ((i : Int)).toNat z = l[i] := by simp [h]
def wi (a lo hi : Int) : Bool := decide (lo ≤ a) && decide (a ≤ hi)
theorem wi_iff {a lo hi : Int} : wi a lo hi = true ↔ lo ≤ a ∧ a ≤ hi := by simp [wi]
theorem wi_not {a lo hi : Int} : wi a lo hi = false ↔ ¬ (lo ≤ a ∧ a ≤ hi) := by rw [← wi_iff]; simp
theorem l6In_eq (a lo hi : Int) : spec_l6In.f a lo hi = some (wi a lo hi) := by
  unfold spec_l6In.f wi
  by_cases h : a ≥ lo
  · rw [if_pos h]; simp [h]
  · rw [if_neg h]; simp; omega
theorem within_eq (a lo hi : Int) : impl_within.f a lo hi = some (wi a lo hi) := by
  unfold impl_within.f wi
  by_cases h : a ≥ lo
  · rw [if_pos h]; simp [h]
  · rw [if_neg h]; simp; omega
theorem set_snoc {α : Type} (xs : List α) (z : α) (n : Nat) (y : α) : (xs ++ List.replicate (n + 1) z).set xs.length y = (xs ++ [y]) ++ List.replicate n z := by
  rw [List.set_append_right _ _ (Nat.le_refl _)]; simp [List.replicate_succ]
theorem rdL_at {l : List (List Int)} {i : Nat} (h : i < l.length) : rd_L1 l (i : Int) = l[i] := getD_at _ h
def pageB (p : List Int) : Bool := p.all (fun w => wi w 0 63) && ((p.length : Int) == 4)
def memB (m : List (List Int)) : Bool := m.all pageB
def Small (m : List (List Int)) : Prop := (m.length : Int) ≤ 1000000000000 ∧ ∀ r ∈ m, (r.length : Int) ≤ 1000000000000
theorem sPage_ev (p : List Int) (hl : (p.length : Int) ≤ 1000000000000) : Ev (fun k => spec_l2PageOk.f k p) (pageB p) := by
  unfold spec_l2PageOk.f
  have H := Ev.down (σ := Unit) (fun k i _ => spec_l2PageOk.l0 k p i) (fun i _ => (p.drop i).all (fun w => wi w 0 63) && ((p.length : Int) == 4)) p.length
    (fun _ => Ev.succ (by simp only [spec_l2PageOk.l0, Int.lt_irrefl, if_false]; exact Ev.cast (by simp) (Ev.now _)))
    (fun i hi ih _ => by
      refine Ev.succ ?_
      simp only [spec_l2PageOk.l0, if_pos (Int.ofNat_lt.mpr hi), if_pos (Int.natCast_nonneg i), rd_at hi, l6In_eq, Option.bind_some, wr1 i (by omega)]
      rw [drop_cons hi, List.all_cons]
      cases h : wi p[i] 0 63
      · exact Ev.now _
      · exact ih ())
  exact H ()
theorem sMemOk_ev (m : List (List Int)) (hm : Small m) : Ev (fun k => spec_MemOk.f k m) (memB m) := by
  unfold spec_MemOk.f
  have hl := hm.1
  have H := Ev.down (σ := Unit) (fun k i _ => spec_MemOk.l0 k m i) (fun i _ => (m.drop i).all pageB) m.length
    (fun _ => Ev.succ (by simp only [spec_MemOk.l0, Int.lt_irrefl, if_false]; exact Ev.cast (by simp) (Ev.now _)))
    (fun i hi ih _ => by
      refine Ev.succ ?_
      simp only [spec_MemOk.l0, if_pos (Int.ofNat_lt.mpr hi), if_pos (Int.natCast_nonneg i), rdL_at hi, wr1 i (by omega)]
      refine Ev.bind (sPage_ev m[i] (hm.2 _ (List.getElem_mem hi))) ?_
      rw [drop_cons hi, List.all_cons]
      cases h : pageB m[i]
      · exact Ev.now _
      · exact ih ())
  exact H ()
theorem iPage_ev (p : List Int) (hl : (p.length : Int) ≤ 1000000000000) : Ev (fun k => impl_pageOk.f k p) (pageB p) := by
  unfold impl_pageOk.f
  have H := Ev.down (σ := Unit) (fun k i _ => impl_pageOk.l0 k p p p.length i) (fun i _ => (p.drop i).all (fun w => wi w 0 63) && ((p.length : Int) == 4)) p.length
    (fun _ => Ev.succ (by simp only [impl_pageOk.l0, Int.lt_irrefl, if_false]; exact Ev.cast (by simp) (Ev.now _)))
    (fun i hi ih _ => by
      refine Ev.succ ?_
      simp only [impl_pageOk.l0, if_pos (Int.ofNat_lt.mpr hi), if_pos (Int.natCast_nonneg i), rd_at hi, within_eq, Option.bind_some, wr1 i (by omega)]
      rw [drop_cons hi, List.all_cons]
      cases h : wi p[i] 0 63
      · exact Ev.now _
      · exact ih ())
  exact H ()
theorem iMemOk_ev (m : List (List Int)) (hm : Small m) : Ev (fun k => impl_MemOk.f k m) (memB m) := by
  unfold impl_MemOk.f
  have hl := hm.1
  have H := Ev.down (σ := Unit) (fun k i _ => impl_MemOk.l0 k m m.length i) (fun i _ => (m.drop i).all pageB) m.length
    (fun _ => Ev.succ (by simp only [impl_MemOk.l0, Int.lt_irrefl, if_false]; exact Ev.cast (by simp) (Ev.now _)))
    (fun i hi ih _ => by
      refine Ev.succ ?_
      simp only [impl_MemOk.l0, if_pos (Int.ofNat_lt.mpr hi), if_pos (Int.natCast_nonneg i), rdL_at hi, wr1 i (by omega)]
      refine Ev.bind (iPage_ev m[i] (hm.2 _ (List.getElem_mem hi))) ?_
      rw [drop_cons hi, List.all_cons]
      cases h : pageB m[i]
      · exact Ev.now _
      · exact ih ())
  exact H ()
theorem clone_ev (m : List (List Int)) (hm : Small m) : Ev (fun k => impl_cloneMem.f k m) m := by
  unfold impl_cloneMem.f
  have hl := hm.1
  have H : ∀ d i : Nat, i + d = m.length → ∀ xs : List (List Int), xs.length = i → Ev (fun k => impl_cloneMem.l0 k xs m m.length (i : Int)) (xs ++ m.drop i) := by
    intro d
    induction d with
    | zero =>
      intro i hi xs hx
      obtain rfl : i = m.length := by omega
      refine Ev.succ ?_
      simp only [impl_cloneMem.l0, Int.lt_irrefl, if_false]
      exact Ev.cast (by simp) (Ev.now _)
    | succ d ih =>
      intro i hi xs hx
      have hlt : i < m.length := by omega
      have hr := hm.2 _ (List.getElem_mem hlt)
      refine Ev.succ ?_
      simp only [impl_cloneMem.l0, if_pos (Int.ofNat_lt.mpr hlt), if_pos (Int.natCast_nonneg i), rdL_at hlt, Option.bind_some, List.length_nil, Nat.zero_add, List.nil_append, if_pos (show m[i].length < 17592186044416 by omega), if_pos (show xs.length < 5864062014805 by omega), wr1 i (by omega)]
      exact Ev.cast (by rw [drop_cons hlt, List.append_assoc]; rfl) (ih (i + 1) (by omega) (xs ++ [m[i]]) (by simp [hx]))
  exact H m.length 0 (by omega) [] rfl
theorem copy_ev (m : List (List Int)) (hm : Small m) : Ev (fun k => spec_l2Copy.f k m) m := by
  unfold spec_l2Copy.f
  have hl := hm.1
  have H : ∀ d i : Nat, i + d = m.length → ∀ xs : List (List Int), xs.length = i → Ev (fun k => spec_l2Copy.l0 k m xs (i : Int)) (xs ++ m.drop i) := by
    intro d
    induction d with
    | zero =>
      intro i hi xs hx
      obtain rfl : i = m.length := by omega
      refine Ev.succ ?_
      simp only [spec_l2Copy.l0, Int.lt_irrefl, if_false]
      exact Ev.cast (by simp) (Ev.now _)
    | succ d ih =>
      intro i hi xs hx
      have hlt : i < m.length := by omega
      have hr := hm.2 _ (List.getElem_mem hlt)
      refine Ev.succ ?_
      simp only [spec_l2Copy.l0, if_pos (Int.ofNat_lt.mpr hlt), if_pos (Int.natCast_nonneg i), rdL_at hlt, Option.bind_some, List.length_nil, Nat.zero_add, List.nil_append, if_pos (show m[i].length < 17592186044416 by omega), if_pos (show xs.length < 5864062014805 by omega), wr1 i (by omega)]
      exact Ev.cast (by rw [drop_cons hlt, List.append_assoc]; rfl) (ih (i + 1) (by omega) (xs ++ [m[i]]) (by simp [hx]))
  exact H m.length 0 (by omega) [] rfl
theorem szIntSS_ev (m : List (List Int)) (hl : m.length ≤ 9223372036854775807) (hr : ∀ r ∈ m, r.length ≤ 9223372036854775807) :
    Ev (fun k => laws_szIntSS.f k m 1048576) (-1) ∨ ∃ n, Ev (fun k => laws_szIntSS.f k m 1048576) n ∧ 0 ≤ n ∧ (m.length : Int) ≤ 1048576 ∧ ∀ r ∈ m, (r.length : Int) ≤ 1048576 := by
  unfold laws_szIntSS.f
  simp only [wr (1048576 - (m.length : Int)) (by omega)]
  by_cases h : 1048576 - (m.length : Int) < 0
  · simp only [if_pos h]; exact .inl (Ev.now _)
  · simp only [if_neg h]
    have H : ∀ d i : Nat, i + d = m.length → ∀ left : Int, 0 ≤ left → left ≤ 1048576 →
        Ev (fun k => laws_szIntSS.l0 k m left (i : Int)) (-1) ∨ ∃ n, Ev (fun k => laws_szIntSS.l0 k m left (i : Int)) n ∧ 0 ≤ n ∧ ∀ r ∈ m.drop i, (r.length : Int) ≤ 1048576 := by
      intro d
      induction d with
      | zero =>
        intro i hi left h0 h1
        obtain rfl : i = m.length := by omega
        refine .inr ⟨left, Ev.succ ?_, h0, by simp⟩
        simp only [laws_szIntSS.l0, Int.lt_irrefl, if_false]
        exact Ev.now _
      | succ d ih =>
        intro i hi left h0 h1
        have hlt : i < m.length := by omega
        have hri := hr _ (List.getElem_mem hlt)
        by_cases c : left - (m[i].length : Int) < 0
        · refine .inl (Ev.succ ?_)
          simp only [laws_szIntSS.l0, if_pos (Int.ofNat_lt.mpr hlt), if_pos (Int.natCast_nonneg i), rdL_at hlt, laws_szIntS.f, wr (left - (m[i].length : Int)) (by omega), if_pos c, Option.bind_some, show ((-1 : Int) < 0) = True by simp, if_true]
          exact Ev.now _
        · have e : ∀ k, laws_szIntSS.l0 (k + 1) m left (i : Int) = laws_szIntSS.l0 k m (left - (m[i].length : Int)) ((i + 1 : Nat) : Int) := by
            intro k
            simp only [laws_szIntSS.l0, if_pos (Int.ofNat_lt.mpr hlt), if_pos (Int.natCast_nonneg i), rdL_at hlt, laws_szIntS.f, wr (left - (m[i].length : Int)) (by omega), if_neg c, Option.bind_some, wr1 i (by omega)]
          rcases ih (i + 1) (by omega) (left - (m[i].length : Int)) (by omega) (by omega) with a | ⟨n, a, n0, hn⟩
          · exact .inl (Ev.step e a)
          · refine .inr ⟨n, Ev.step e a, n0, ?_⟩
            rw [drop_cons hlt]
            intro r hr'
            rcases List.mem_cons.mp hr' with rfl | hr'
            · omega
            · exact hn r hr'
    rcases H m.length 0 (by omega) (1048576 - (m.length : Int)) (by omega) (by omega) with a | ⟨n, a, n0, hn⟩
    · exact .inl a
    · exact .inr ⟨n, a, n0, by omega, by simpa using hn⟩
theorem toIntS_ev (l : List Int) (hl : (l.length : Int) ≤ 1048576) : Ev (fun k => laws_toIntS.f k l) l := by
  unfold laws_toIntS.f
  simp only [if_pos (Int.natCast_nonneg l.length), Int.toNat_natCast, if_pos (show l.length ≤ 35184372088832 by omega)]
  have H : ∀ d i : Nat, i + d = l.length → Ev (fun k => laws_toIntS.l0 k l (l.take i ++ List.replicate d 0) (i : Int)) l := by
    intro d
    induction d with
    | zero =>
      intro i hi
      obtain rfl : i = l.length := by omega
      refine Ev.succ ?_
      simp only [laws_toIntS.l0, Int.lt_irrefl, if_false, List.take_length, List.replicate_zero, List.append_nil]
      exact Ev.now _
    | succ d ih =>
      intro i hi
      have hlt : i < l.length := by omega
      have ih' := ih (i + 1) (by omega)
      refine Ev.succ ?_
      simp only [laws_toIntS.l0, if_pos (Int.ofNat_lt.mpr hlt), if_pos (Int.natCast_nonneg i), rd_at hlt, wr1 i (by omega), Int.toNat_natCast]
      simp only [if_pos (show (i : Int) < ((l.take i ++ List.replicate (d + 1) (0 : Int)).length : Int) by simp; omega)]
      have e := set_snoc (l.take i) (0 : Int) d l[i]
      rw [show (l.take i).length = i by simp; omega, ← List.take_succ_eq_append_getElem hlt] at e
      simp only [e]
      exact ih'
  exact H l.length 0 (by omega)
theorem toIntSS_ev (l : List (List Int)) (hl : (l.length : Int) ≤ 1048576) (hr : ∀ r ∈ l, (r.length : Int) ≤ 1048576) : Ev (fun k => laws_toIntSS.f k l) l := by
  unfold laws_toIntSS.f
  simp only [if_pos (Int.natCast_nonneg l.length), Int.toNat_natCast, if_pos (show l.length ≤ 11728124029610 by omega)]
  have H : ∀ d i : Nat, i + d = l.length → Ev (fun k => laws_toIntSS.l0 k l (l.take i ++ List.replicate d []) (i : Int)) l := by
    intro d
    induction d with
    | zero =>
      intro i hi
      obtain rfl : i = l.length := by omega
      refine Ev.succ ?_
      simp only [laws_toIntSS.l0, Int.lt_irrefl, if_false, List.take_length, List.replicate_zero, List.append_nil]
      exact Ev.now _
    | succ d ih =>
      intro i hi
      have hlt : i < l.length := by omega
      have ih' := ih (i + 1) (by omega)
      refine Ev.succ ?_
      simp only [laws_toIntSS.l0, if_pos (Int.ofNat_lt.mpr hlt), if_pos (Int.natCast_nonneg i), rdL_at hlt, wr1 i (by omega), Int.toNat_natCast]
      refine Ev.bind (toIntS_ev l[i] (hr _ (List.getElem_mem hlt))) ?_
      simp only [if_pos (show (i : Int) < ((l.take i ++ List.replicate (d + 1) ([] : List Int)).length : Int) by simp; omega)]
      have e := set_snoc (l.take i) ([] : List Int) d l[i]
      rw [show (l.take i).length = i by simp; omega, ← List.take_succ_eq_append_getElem hlt] at e
      simp only [e]
      exact ih'
  exact H l.length 0 (by omega)
theorem eqIntS_refl (l : List Int) (hl : (l.length : Int) ≤ 1000000000000) : Ev (fun k => laws_eqIntS.f k l l) true := by
  unfold laws_eqIntS.f
  simp only [if_true]
  have H := Ev.down (σ := Unit) (fun k i _ => laws_eqIntS.l0 k l l i) (fun i _ => true) l.length
    (fun _ => Ev.succ (by simp only [laws_eqIntS.l0, Int.lt_irrefl, if_false]; exact Ev.now _))
    (fun i hi ih _ => by
      refine Ev.succ ?_
      simp only [laws_eqIntS.l0, if_pos (Int.ofNat_lt.mpr hi), if_pos (Int.natCast_nonneg i), if_true, wr1 i (by omega)]
      exact ih ())
  exact H ()
theorem eqIntSS_refl (l : List (List Int)) (hl : Small l) : Ev (fun k => laws_eqIntSS.f k l l) true := by
  unfold laws_eqIntSS.f
  simp only [if_true]
  have h1 := hl.1
  have H := Ev.down (σ := Unit) (fun k i _ => laws_eqIntSS.l0 k l l i) (fun i _ => true) l.length
    (fun _ => Ev.succ (by simp only [laws_eqIntSS.l0, Int.lt_irrefl, if_false]; exact Ev.now _))
    (fun i hi ih _ => by
      refine Ev.succ ?_
      simp only [laws_eqIntSS.l0, if_pos (Int.ofNat_lt.mpr hi), if_pos (Int.natCast_nonneg i), rdL_at hi, wr1 i (by omega)]
      refine Ev.bind (eqIntS_refl _ (hl.2 _ (List.getElem_mem hi))) ?_
      simp only [if_true]
      exact ih ())
  exact H ()
def ups (v : Int) (n : Nat) : List Int := (List.range n).map fun (j : Nat) => v + (j : Int)
theorem ups_len (v : Int) (n : Nat) : (ups v n).length = n := by simp [ups]
theorem ups_succ (v : Int) (n : Nat) : ups v (n + 1) = ups v n ++ [v + (n : Int)] := by simp [ups, List.range_succ]
theorem markIntS_ev (l : List Int) (v : Int) (h0 : 0 ≤ v) (h1 : v + (l.length : Int) ≤ 4000000000000000000) : Ev (fun k => laws_markIntS.f k l v) (v + (l.length : Int), ups v l.length) := by
  unfold laws_markIntS.f
  have H : ∀ d i : Nat, i + d = l.length → Ev (fun k => laws_markIntS.l0 k (ups v i ++ l.drop i) (v + (i : Int)) (i : Int)) (v + (l.length : Int), ups v l.length) := by
    intro d
    induction d with
    | zero =>
      intro i hi
      obtain rfl : i = l.length := by omega
      refine Ev.succ ?_
      simp only [laws_markIntS.l0, List.drop_length, List.append_nil, ups_len, Int.lt_irrefl, if_false]
      exact Ev.now _
    | succ d ih =>
      intro i hi
      have hlt : i < l.length := by omega
      have hL : (ups v i ++ l.drop i).length = l.length := by simp [ups_len]; omega
      refine Ev.succ ?_
      simp only [laws_markIntS.l0, hL, if_pos (Int.ofNat_lt.mpr hlt), if_pos (Int.natCast_nonneg i), Int.toNat_natCast, wr1 i (by omega), wr (v + (i : Int) + 1) (by omega)]
      have e : (ups v i ++ l.drop i).set i (v + (i : Int)) = ups v (i + 1) ++ l.drop (i + 1) := by
        rw [drop_cons hlt, List.set_append_right _ _ (by simp [ups_len]), ups_len, Nat.sub_self, List.set_cons_zero, ups_succ]; simp
      rw [e, show v + (i : Int) + 1 = v + ((i + 1 : Nat) : Int) by omega]
      exact ih (i + 1) (by omega)
  have := H l.length 0 (by omega)
  simpa [ups] using this
theorem heldIntS_ev (n : Nat) (v : Int) (h0 : 0 ≤ v) (h1 : v + (n : Int) ≤ 4000000000000000000) : Ev (fun k => laws_heldIntS.f k (ups v n) v) (v + (n : Int)) := by
  unfold laws_heldIntS.f
  have H : ∀ d i : Nat, i + d = n → Ev (fun k => laws_heldIntS.l0 k (ups v n) (v + (i : Int)) (i : Int)) (v + (n : Int)) := by
    intro d
    induction d with
    | zero =>
      intro i hi
      obtain rfl : i = n := by omega
      refine Ev.succ ?_
      simp only [laws_heldIntS.l0, ups_len, Int.lt_irrefl, if_false]
      exact Ev.now _
    | succ d ih =>
      intro i hi
      have hlt : i < n := by omega
      have e : rd (ups v n) (i : Int) = v + (i : Int) := by
        unfold rd; rw [Int.toNat_natCast, List.getD_eq_getElem?_getD, List.getElem?_eq_getElem (show i < (ups v n).length by rw [ups_len]; exact hlt)]; simp [ups]
      refine Ev.succ ?_
      simp only [laws_heldIntS.l0, ups_len, if_pos (Int.ofNat_lt.mpr hlt), if_pos (Int.natCast_nonneg i), wr1 i (by omega), wr (v + (i : Int) + 1) (by omega), e, if_true]
      rw [show v + (i : Int) + 1 = v + ((i + 1 : Nat) : Int) by omega]
      exact ih (i + 1) (by omega)
  have := H n 0 (by omega)
  simpa using this
def tot : List (List Int) → Int
  | [] => 0
  | r :: rs => (r.length : Int) + tot rs
def mkSS : Int → List (List Int) → List (List Int)
  | _, [] => []
  | v, r :: rs => ups v r.length :: mkSS (v + (r.length : Int)) rs
theorem tot_nonneg : ∀ l : List (List Int), 0 ≤ tot l
  | [] => by simp [tot]
  | r :: rs => by have := tot_nonneg rs; simp only [tot]; omega
theorem tot_le : ∀ l : List (List Int), (∀ r ∈ l, (r.length : Int) ≤ 1048576) → tot l ≤ 1048576 * (l.length : Int)
  | [], _ => by simp [tot]
  | r :: rs, h => by
    have h1 := h r List.mem_cons_self
    have h2 := tot_le rs fun x hx => h x (List.mem_cons_of_mem _ hx)
    simp only [tot, List.length_cons]
    omega
theorem rdL_mid (a : List (List Int)) (r : List Int) (b : List (List Int)) : rd_L1 (a ++ r :: b) (a.length : Int) = r := by
  unfold rd_L1; rw [Int.toNat_natCast, List.getD_eq_getElem?_getD, List.getElem?_append_right (Nat.le_refl _)]; simp
theorem markIntSS_ev (l : List (List Int)) (v : Int) (h0 : 0 ≤ v) (h1 : v + tot l ≤ 4000000000000000000) (h2 : (l.length : Int) ≤ 4000000000000000000) : Ev (fun k => laws_markIntSS.f k l v) (v + tot l, mkSS v l) := by
  unfold laws_markIntSS.f
  have H : ∀ (rest done : List (List Int)) (v : Int), 0 ≤ v → v + tot rest ≤ 4000000000000000000 → (done.length : Int) + (rest.length : Int) ≤ 4000000000000000000 → Ev (fun k => laws_markIntSS.l0 k (done ++ rest) v (done.length : Int)) (v + tot rest, done ++ mkSS v rest) := by
    intro rest
    induction rest with
    | nil =>
      intro done v _ _ _
      refine Ev.succ ?_
      simp only [laws_markIntSS.l0, List.append_nil, Int.lt_irrefl, if_false]
      exact Ev.cast (by simp [tot, mkSS]) (Ev.now _)
    | cons r rs ih =>
      intro done v a b c
      have tn := tot_nonneg rs
      simp only [tot, List.length_cons] at b c
      refine Ev.succ ?_
      simp only [laws_markIntSS.l0, if_pos (show (done.length : Int) < ((done ++ r :: rs).length : Int) by simp only [List.length_append, List.length_cons]; omega), if_pos (Int.natCast_nonneg done.length), rdL_mid, wr1 done.length (by omega)]
      refine Ev.bind (markIntS_ev r v a (by omega)) ?_
      have e : (done ++ r :: rs).set ((done.length : Int)).toNat (ups v r.length) = (done ++ [ups v r.length]) ++ rs := by
        rw [Int.toNat_natCast, List.set_append_right _ _ (Nat.le_refl _), Nat.sub_self, List.set_cons_zero]; simp
      simp only [e]
      have := ih (done ++ [ups v r.length]) (v + (r.length : Int)) (by omega) (by omega) (by simp only [List.length_append, List.length_cons, List.length_nil]; omega)
      rw [show ((done ++ [ups v r.length]).length : Int) = ((done.length + 1 : Nat) : Int) by simp] at this
      exact Ev.cast (by simp [tot, mkSS]; omega) this
  have := H l [] v h0 h1 (by simp; omega)
  simpa using this
theorem heldIntSS_ev (l : List (List Int)) (v : Int) (h0 : 0 ≤ v) (h1 : v + tot l ≤ 4000000000000000000) (h2 : (l.length : Int) ≤ 4000000000000000000) : Ev (fun k => laws_heldIntSS.f k (mkSS v l) v) (v + tot l) := by
  unfold laws_heldIntSS.f
  have H : ∀ (rest done : List (List Int)) (v : Int), 0 ≤ v → v + tot rest ≤ 4000000000000000000 → (done.length : Int) + (rest.length : Int) ≤ 4000000000000000000 → Ev (fun k => laws_heldIntSS.l0 k (done ++ mkSS v rest) v (done.length : Int)) (v + tot rest) := by
    intro rest
    induction rest with
    | nil =>
      intro done v _ _ _
      refine Ev.succ ?_
      simp only [laws_heldIntSS.l0, mkSS, List.append_nil, Int.lt_irrefl, if_false]
      exact Ev.cast (by simp [tot]) (Ev.now _)
    | cons r rs ih =>
      intro done v a b c
      have tn := tot_nonneg rs
      simp only [tot, List.length_cons] at b c
      refine Ev.succ ?_
      simp only [laws_heldIntSS.l0, mkSS, if_pos (show (done.length : Int) < ((done ++ ups v r.length :: mkSS (v + (r.length : Int)) rs).length : Int) by simp only [List.length_append, List.length_cons]; omega), if_pos (Int.natCast_nonneg done.length), rdL_mid, wr1 done.length (by omega)]
      refine Ev.bind (heldIntS_ev r.length v a (by omega)) ?_
      simp only [if_neg (show ¬ v + (r.length : Int) < 0 by omega)]
      have := ih (done ++ [ups v r.length]) (v + (r.length : Int)) (by omega) (by omega) (by simp only [List.length_append, List.length_cons, List.length_nil]; omega)
      rw [show ((done ++ [ups v r.length]).length : Int) = ((done.length + 1 : Nat) : Int) by simp, List.append_assoc, List.singleton_append] at this
      exact Ev.cast (by simp [tot]; omega) this
  have := H l [] v h0 h1 (by simp; omega)
  simpa using this
def Fit (m : List (List Int)) : Prop := (m.length : Int) ≤ 1048576 ∧ ∀ r ∈ m, (r.length : Int) ≤ 1048576
theorem fit_small {m : List (List Int)} (h : Fit m) : Small m := ⟨by have := h.1; omega, fun r hr => by have := h.2 r hr; omega⟩
theorem fit_tot {m : List (List Int)} (h : Fit m) : tot m ≤ 2000000000000 := by have := tot_le m h.2; have := h.1; omega
theorem small_sub {m n : List (List Int)} (h : Small m) (hl : n.length ≤ m.length) (hs : ∀ r ∈ n, r ∈ m) : Small n := ⟨by have := h.1; omega, fun r hr => h.2 r (hs r hr)⟩
def frames0 : List (List Int) := List.replicate 8 (List.replicate 4 0)
def gst (d : List (List Int)) : S61 := ⟨List.replicate 6 z83, d, List.replicate 6 z86⟩
def part (l : List (List Int)) (i : Nat) : List (List Int) := (l.take ((i + 1) * 6)).drop (i * 6)
def loadG (l : List (List Int)) (n : Nat) : List S61 := (List.range n).map (fun i => gst (part l i))
theorem loadG_succ (l : List (List Int)) (n : Nat) : loadG l n ++ [gst (part l n)] = loadG l (n + 1) := by simp [loadG, List.range_succ]
theorem loadG_len (l : List (List Int)) (n : Nat) : (loadG l n).length = n := by simp [loadG]
theorem part_sub (l : List (List Int)) (i : Nat) : ∀ r ∈ part l i, r ∈ l := fun r hr => List.mem_of_mem_take (List.mem_of_mem_drop hr)
theorem part_small {l : List (List Int)} (h : Small l) (i : Nat) : Small (part l i) := small_sub h (by simp [part]; omega) (part_sub l i)
def loadOk (l : List (List Int)) : Prop := memB l = true ∧ (l.length = 6 ∨ l.length = 12)
instance (l : List (List Int)) : Decidable (loadOk l) := by unfold loadOk; infer_instance
def hostLoad (l : List (List Int)) : List (List Int) × List S61 × Int × Bool := if loadOk l then (frames0, loadG l (l.length / 6), 0, true) else ([], [], 0, false)
theorem iHostLoad_ev (l : List (List Int)) (hm : Small l) : Ev (fun k => impl_HostLoad.f k l) (hostLoad l) := by
  unfold impl_HostLoad.f
  have hl := hm.1
  have J : ∀ n, ¬ loadOk l → Ev (fun k => impl_HostLoad.j0 k l n true) (hostLoad l) := by
    intro n h
    refine Ev.succ ?_
    simp only [impl_HostLoad.j0, if_true, hostLoad, if_neg h]
    exact Ev.now _
  refine Ev.bind (iMemOk_ev l hm) ?_
  cases hb : memB l
  · simp only [Bool.false_eq_true, if_false, wr ((l.length : Int) / 6) (by omega)]
    exact J _ (fun x => by have := x.1; rw [hb] at this; cases this)
  simp only [if_true, wr ((l.length : Int) / 6) (by omega), within_eq, Option.bind_some]
  cases hn : wi ((l.length : Int) / 6) 1 2
  · simp only [Bool.false_eq_true, if_false]
    rw [wi_not] at hn
    exact J _ (fun x => by have := x.2; omega)
  rw [wi_iff] at hn
  simp only [if_true, wr ((l.length : Int) / 6 * 6) (by omega)]
  by_cases hc : (l.length : Int) = (l.length : Int) / 6 * 6
  · have h : loadOk l := ⟨hb, by omega⟩
    rw [show ((l.length : Int) != (l.length : Int) / 6 * 6) = false by simp; exact hc]
    obtain ⟨n, hn', hln⟩ : ∃ n : Nat, (l.length : Int) / 6 = (n : Int) ∧ l.length = n * 6 := ⟨l.length / 6, by omega, by omega⟩
    have h2 : n = 1 ∨ n = 2 := by omega
    have e : hostLoad l = (frames0, loadG l n, 0, true) := by rw [hostLoad, if_pos h, show l.length / 6 = n by omega]
    rw [hn', e]
    refine Ev.succ ?_
    simp only [impl_HostLoad.j0, Bool.false_eq_true, if_false]
    have H1 : ∀ d i : Nat, i + d = n → Ev (fun k => impl_HostLoad.l1 k l (n : Int) (i : Int) frames0 (loadG l i) 0) (frames0, loadG l n, 0, true) := by
      intro d
      induction d with
      | zero =>
        intro i hi
        obtain rfl : i = n := by omega
        refine Ev.succ ?_
        simp only [impl_HostLoad.l1, Int.lt_irrefl, if_false]
        exact Ev.now _
      | succ d ih =>
        intro i hi
        have ih' := ih (i + 1) (by omega)
        refine Ev.succ ?_
        simp only [impl_HostLoad.l1, if_pos (show (i : Int) < (n : Int) by omega), wr1 i (by omega), wr ((i : Int) * 6) (by omega), wr (((i + 1 : Nat) : Int) * 6) (by omega), if_pos (show (6 : Nat) ≤ 11728124029610 by decide), if_pos (show (6 : Nat) ≤ 8796093022208 by decide), if_pos (show (0 : Int) ≤ (i : Int) * 6 by omega), if_pos (show (i : Int) * 6 ≤ ((i + 1 : Nat) : Int) * 6 by omega), if_pos (show ((i + 1 : Nat) : Int) * 6 ≤ (l.length : Int) by omega), show ((i : Int) * 6).toNat = i * 6 by omega, show (((i + 1 : Nat) : Int) * 6).toNat = (i + 1) * 6 by omega, loadG_len, if_pos (show i < 1954687338268 by omega)]
        refine Ev.bind (clone_ev (part l i) (part_small hm i)) ?_
        rw [show (⟨List.replicate 6 z83, part l i, List.replicate 6 z86⟩ : S61) = gst (part l i) from rfl, loadG_succ]
        exact ih'
    have H0 : ∀ d i : Nat, i + d = 8 → Ev (fun k => impl_HostLoad.l0 k l (n : Int) (i : Int) (List.replicate i (List.replicate 4 0)) [] 0) (frames0, loadG l n, 0, true) := by
      intro d
      induction d with
      | zero =>
        intro i hi
        obtain rfl : i = 8 := by omega
        refine Ev.succ ?_
        simp only [impl_HostLoad.l0, show ¬ (((8 : Nat) : Int) < 8) by decide, if_false]
        exact H1 n 0 (by omega)
      | succ d ih =>
        intro i hi
        have ih' := ih (i + 1) (by omega)
        rw [List.replicate_succ'] at ih'
        refine Ev.succ ?_
        simp only [impl_HostLoad.l0, if_pos (show (i : Int) < 8 by omega), if_pos (show (4 : Nat) ≤ 35184372088832 by decide), List.length_replicate, if_pos (show i < 5864062014805 by omega), wr1 i (by omega)]
        exact ih'
    exact H0 8 0 (by omega)
  · rw [show ((l.length : Int) != (l.length : Int) / 6 * 6) = true by simp; exact hc]
    exact J _ (fun x => by have := x.2; omega)
theorem l12New_ev : Ev (fun k => spec_l12New.f k) (frames0, [], 0) := by
  unfold spec_l12New.f
  have H0 : ∀ d i : Nat, i + d = 8 → Ev (fun k => spec_l12New.l0 k (i : Int) (List.replicate i (List.replicate 4 0)) 0) (frames0, ([] : List S61), 0) := by
    intro d
    induction d with
    | zero =>
      intro i hi
      obtain rfl : i = 8 := by omega
      refine Ev.succ ?_
      simp only [spec_l12New.l0, show ¬ (((8 : Nat) : Int) < 8) by decide, if_false]
      exact Ev.now _
    | succ d ih =>
      intro i hi
      have ih' := ih (i + 1) (by omega)
      rw [List.replicate_succ'] at ih'
      refine Ev.succ ?_
      simp only [spec_l12New.l0, spec_l2Page.f, if_pos (show (i : Int) < 8 by omega), if_pos (show (4 : Nat) ≤ 35184372088832 by decide), Option.bind_some, List.length_replicate, if_pos (show i < 5864062014805 by omega), wr1 i (by omega)]
      exact ih'
  exact H0 8 0 (by omega)
theorem l12Guest_ev (d : List (List Int)) (hs : Small d) : Ev (fun k => spec_l12Guest.f k d) (List.replicate 6 z83, d, List.replicate 6 z86) := by
  unfold spec_l12Guest.f
  simp only [if_pos (show (6 : Nat) ≤ 11728124029610 by decide), if_pos (show (6 : Nat) ≤ 8796093022208 by decide)]
  exact Ev.bind (copy_ev d hs) (Ev.now _)
theorem sHostLoad_ev (l : List (List Int)) (hm : Small l) : Ev (fun k => spec_HostLoad.f k l) (hostLoad l) := by
  unfold spec_HostLoad.f
  have hl := hm.1
  have J : ∀ n, ¬ loadOk l → Ev (fun k => spec_HostLoad.j0 k l n true) (hostLoad l) := by
    intro n h
    refine Ev.succ ?_
    simp only [spec_HostLoad.j0, if_true, hostLoad, if_neg h]
    exact Ev.now _
  refine Ev.bind (sMemOk_ev l hm) ?_
  cases hb : memB l
  · simp only [Bool.false_eq_true, if_false, wr ((l.length : Int) / 6) (by omega)]
    exact J _ (fun x => by have := x.1; rw [hb] at this; cases this)
  simp only [if_true, wr ((l.length : Int) / 6) (by omega), l6In_eq, Option.bind_some]
  by_cases hc : (l.length : Int) % 6 = 0
  · simp only [if_pos hc]
    cases hn : wi ((l.length : Int) / 6) 1 2
    · rw [wi_not] at hn
      exact J _ (fun x => by have := x.2; omega)
    rw [wi_iff] at hn
    have h : loadOk l := ⟨hb, by omega⟩
    obtain ⟨n, hn', hln⟩ : ∃ n : Nat, (l.length : Int) / 6 = (n : Int) ∧ l.length = n * 6 := ⟨l.length / 6, by omega, by omega⟩
    have h2 : n = 1 ∨ n = 2 := by omega
    have e : hostLoad l = (frames0, loadG l n, 0, true) := by rw [hostLoad, if_pos h, show l.length / 6 = n by omega]
    rw [hn', e]
    refine Ev.succ ?_
    simp only [spec_HostLoad.j0, Bool.not_true, Bool.false_eq_true, if_false]
    refine Ev.bind l12New_ev ?_
    have H1 : ∀ d i : Nat, i + d = n → Ev (fun k => spec_HostLoad.l0 k l (n : Int) (i : Int) frames0 (loadG l i) 0) (frames0, loadG l n, 0, true) := by
      intro d
      induction d with
      | zero =>
        intro i hi
        obtain rfl : i = n := by omega
        refine Ev.succ ?_
        simp only [spec_HostLoad.l0, Int.lt_irrefl, if_false]
        exact Ev.now _
      | succ d ih =>
        intro i hi
        have ih' := ih (i + 1) (by omega)
        refine Ev.succ ?_
        simp only [spec_HostLoad.l0, if_pos (show (i : Int) < (n : Int) by omega), wr1 i (by omega), wr ((i : Int) * 6) (by omega), wr (((i + 1 : Nat) : Int) * 6) (by omega), if_pos (show (0 : Int) ≤ (i : Int) * 6 by omega), if_pos (show (i : Int) * 6 ≤ ((i + 1 : Nat) : Int) * 6 by omega), if_pos (show ((i + 1 : Nat) : Int) * 6 ≤ (l.length : Int) by omega), show ((i : Int) * 6).toNat = i * 6 by omega, show (((i + 1 : Nat) : Int) * 6).toNat = (i + 1) * 6 by omega]
        refine Ev.bind (l12Guest_ev (part l i) (part_small hm i)) ?_
        simp only [loadG_len, if_pos (show i < 1954687338268 by omega)]
        rw [show (⟨List.replicate 6 z83, part l i, List.replicate 6 z86⟩ : S61) = gst (part l i) from rfl, loadG_succ]
        exact ih'
    exact H1 n 0 (by omega)
  · simp only [if_neg hc]
    exact J _ (fun x => by have := x.2; omega)
def HostFit (F : List (List Int)) (G : List S61) : Prop := Small F ∧ (G.length : Int) ≤ 1048576 ∧ ∀ g ∈ G, (g.f0.length : Int) ≤ 1048576 ∧ Small g.f1 ∧ (g.f2.length : Int) ≤ 1048576
theorem rdG_at {G : List S61} {i : Nat} (hi : i < G.length) : rd_T61 G (i : Int) = G[i] := getD_at _ hi
theorem eqMapS_refl (l : List S83) (hl : (l.length : Int) ≤ 1000000000000) : Ev (fun k => laws_eqMapS.f k l l) true := by
  unfold laws_eqMapS.f
  simp only [if_true]
  have H := Ev.down (σ := Unit) (fun k i _ => laws_eqMapS.l0 k l l i) (fun i _ => true) l.length
    (fun _ => Ev.succ (by simp only [laws_eqMapS.l0, Int.lt_irrefl, if_false]; exact Ev.now _))
    (fun i hi ih _ => by
      refine Ev.succ ?_
      simp only [laws_eqMapS.l0, if_pos (Int.ofNat_lt.mpr hi), if_pos (Int.natCast_nonneg i), laws_eqMap.f, bne_self_eq_false, Bool.false_eq_true, if_false, if_true, Option.bind_some, wr1 i (by omega)]
      exact ih ())
  exact H ()
theorem eqShadeS_refl (l : List S86) (hl : (l.length : Int) ≤ 1000000000000) : Ev (fun k => laws_eqShadeS.f k l l) true := by
  unfold laws_eqShadeS.f
  simp only [if_true]
  have H := Ev.down (σ := Unit) (fun k i _ => laws_eqShadeS.l0 k l l i) (fun i _ => true) l.length
    (fun _ => Ev.succ (by simp only [laws_eqShadeS.l0, Int.lt_irrefl, if_false]; exact Ev.now _))
    (fun i hi ih _ => by
      refine Ev.succ ?_
      simp only [laws_eqShadeS.l0, if_pos (Int.ofNat_lt.mpr hi), if_pos (Int.natCast_nonneg i), laws_eqShade.f, bne_self_eq_false, Bool.false_eq_true, if_false, if_true, Option.bind_some, wr1 i (by omega)]
      exact ih ())
  exact H ()
theorem eqHost_refl (F : List (List Int)) (G : List S61) (h : Int) (hf : HostFit F G) : Ev (fun k => laws_eqHost.f k F G h F G h) true := by
  unfold laws_eqHost.f
  refine Ev.bind (eqIntSS_refl F hf.1) ?_
  simp only [if_true]
  have hq : Ev (fun k => laws_eqGuestS.f k G G) true := by
    unfold laws_eqGuestS.f
    simp only [if_true]
    have H := Ev.down (σ := Unit) (fun k i _ => laws_eqGuestS.l0 k G G i) (fun i _ => true) G.length
      (fun _ => Ev.succ (by simp only [laws_eqGuestS.l0, Int.lt_irrefl, if_false]; exact Ev.now _))
      (fun i hi ih _ => by
        have hg := hf.2.2 _ (List.getElem_mem hi)
        have hl := hf.2.1
        have hw : Ev (fun k => laws_eqGuest.f k G[i].f0 G[i].f1 G[i].f2 G[i].f0 G[i].f1 G[i].f2) true := by
          unfold laws_eqGuest.f
          refine Ev.bind (eqMapS_refl _ (by omega)) ?_
          simp only [if_true]
          refine Ev.bind (eqIntSS_refl _ hg.2.1) ?_
          simp only [if_true]
          refine Ev.bind (eqShadeS_refl _ (by omega)) ?_
          simp only [if_true]
          exact Ev.now _
        refine Ev.succ ?_
        simp only [laws_eqGuestS.l0, if_pos (Int.ofNat_lt.mpr hi), if_pos (Int.natCast_nonneg i), rdG_at hi, wr1 i (by omega)]
        refine Ev.bind hw ?_
        simp only [if_true]
        exact ih ())
    exact H ()
  refine Ev.bind hq ?_
  simp only [if_true]
  exact Ev.now _
def mkM (v : Int) (n : Nat) : List S83 := (List.range n).map fun (j : Nat) => (⟨(Int.tmod (v + 3 * (j : Int)) 3 == 0), v + 3 * (j : Int) + 1, (Int.tmod (v + 3 * (j : Int) + 1 + 1) 3 == 0)⟩ : S83)
theorem mkM_len (v : Int) (n : Nat) : (mkM v n).length = n := by simp [mkM]
theorem mkM_succ (v : Int) (n : Nat) : mkM v (n + 1) = mkM v n ++ [⟨(Int.tmod (v + 3 * (n : Int)) 3 == 0), v + 3 * (n : Int) + 1, (Int.tmod (v + 3 * (n : Int) + 1 + 1) 3 == 0)⟩] := by simp [mkM, List.range_succ]
theorem rdM_set {l : List S83} {i : Nat} (h : i < l.length) (e : S83) : rd_T83 (l.set i e) (i : Int) = e := by
  unfold rd_T83; rw [getD_at _ (show i < (l.set i e).length by simpa using h)]; simp
theorem markMapS_ev (l : List S83) (v : Int) (h0 : 0 ≤ v) (h1 : v + 3 * (l.length : Int) ≤ 4000000000000000000) : Ev (fun k => laws_markMapS.f k l v) (v + 3 * (l.length : Int), mkM v l.length) := by
  unfold laws_markMapS.f
  have H : ∀ d i : Nat, i + d = l.length → Ev (fun k => laws_markMapS.l0 k (mkM v i ++ l.drop i) (v + 3 * (i : Int)) (i : Int)) (v + 3 * (l.length : Int), mkM v l.length) := by
    intro d
    induction d with
    | zero =>
      intro i hi
      obtain rfl : i = l.length := by omega
      refine Ev.succ ?_
      simp only [laws_markMapS.l0, List.drop_length, List.append_nil, mkM_len, Int.lt_irrefl, if_false]
      exact Ev.now _
    | succ d ih =>
      intro i hi
      have hlt : i < l.length := by omega
      have hL : (mkM v i ++ l.drop i).length = l.length := by simp [mkM_len]; omega
      have hi2 : i < (mkM v i ++ l.drop i).length := by omega
      refine Ev.succ ?_
      simp only [laws_markMapS.l0, hL, if_pos (Int.ofNat_lt.mpr hlt), if_pos (Int.natCast_nonneg i), Option.bind_some, Int.toNat_natCast, wr1 i (by omega), wr (v + 3 * (i : Int) + 1) (by omega), wr (v + 3 * (i : Int) + 1 + 1) (by omega), wr (v + 3 * (i : Int) + 1 + 1 + 1) (by omega)]
      rw [rdM_set (show i < (_ : List S83).length by first | exact hi2 | (simp only [List.length_set]; exact hi2))]
      rw [rdM_set (show i < (_ : List S83).length by first | exact hi2 | (simp only [List.length_set]; exact hi2))]
      simp only [List.set_set]
      have e : (mkM v i ++ l.drop i).set i ⟨(Int.tmod (v + 3 * (i : Int)) 3 == 0), v + 3 * (i : Int) + 1, (Int.tmod (v + 3 * (i : Int) + 1 + 1) 3 == 0)⟩ = mkM v (i + 1) ++ l.drop (i + 1) := by
        rw [drop_cons hlt, List.set_append_right _ _ (by simp [mkM_len]), mkM_len, Nat.sub_self, List.set_cons_zero, mkM_succ]; simp
      rw [e, show v + 3 * (i : Int) + 1 + 1 + 1 = v + 3 * ((i + 1 : Nat) : Int) by omega]
      exact ih (i + 1) (by omega)
  have := H l.length 0 (by omega)
  simpa [mkM] using this
theorem heldMapS_ev (n : Nat) (v : Int) (h0 : 0 ≤ v) (h1 : v + 3 * (n : Int) ≤ 4000000000000000000) : Ev (fun k => laws_heldMapS.f k (mkM v n) v) (v + 3 * (n : Int)) := by
  unfold laws_heldMapS.f
  have H : ∀ d i : Nat, i + d = n → Ev (fun k => laws_heldMapS.l0 k (mkM v n) (v + 3 * (i : Int)) (i : Int)) (v + 3 * (n : Int)) := by
    intro d
    induction d with
    | zero =>
      intro i hi
      obtain rfl : i = n := by omega
      refine Ev.succ ?_
      simp only [laws_heldMapS.l0, mkM_len, Int.lt_irrefl, if_false]
      exact Ev.now _
    | succ d ih =>
      intro i hi
      have hlt : i < n := by omega
      have e : rd_T83 (mkM v n) (i : Int) = ⟨(Int.tmod (v + 3 * (i : Int)) 3 == 0), v + 3 * (i : Int) + 1, (Int.tmod (v + 3 * (i : Int) + 1 + 1) 3 == 0)⟩ := by
        unfold rd_T83; rw [getD_at _ (show i < (mkM v n).length by rw [mkM_len]; exact hlt)]; simp [mkM]
      refine Ev.succ ?_
      simp only [laws_heldMapS.l0, mkM_len, if_pos (Int.ofNat_lt.mpr hlt), if_pos (Int.natCast_nonneg i), wr1 i (by omega), wr (v + 3 * (i : Int) + 1) (by omega), wr (v + 3 * (i : Int) + 1 + 1) (by omega), wr (v + 3 * (i : Int) + 1 + 1 + 1) (by omega), e, bne_self_eq_false, Bool.false_eq_true, if_false, if_true]
      rw [show v + 3 * (i : Int) + 1 + 1 + 1 = v + 3 * ((i + 1 : Nat) : Int) by omega]
      exact ih (i + 1) (by omega)
  have := H n 0 (by omega)
  simpa using this
def mkSh (v : Int) (n : Nat) : List S86 := (List.range n).map fun (j : Nat) => (⟨(Int.tmod (v + 4 * (j : Int)) 3 == 0), v + 4 * (j : Int) + 1, v + 4 * (j : Int) + 1 + 1, (Int.tmod (v + 4 * (j : Int) + 1 + 1 + 1) 3 == 0)⟩ : S86)
theorem mkSh_len (v : Int) (n : Nat) : (mkSh v n).length = n := by simp [mkSh]
theorem mkSh_succ (v : Int) (n : Nat) : mkSh v (n + 1) = mkSh v n ++ [⟨(Int.tmod (v + 4 * (n : Int)) 3 == 0), v + 4 * (n : Int) + 1, v + 4 * (n : Int) + 1 + 1, (Int.tmod (v + 4 * (n : Int) + 1 + 1 + 1) 3 == 0)⟩] := by simp [mkSh, List.range_succ]
theorem rdSh_set {l : List S86} {i : Nat} (h : i < l.length) (e : S86) : rd_T86 (l.set i e) (i : Int) = e := by
  unfold rd_T86; rw [getD_at _ (show i < (l.set i e).length by simpa using h)]; simp
theorem markShadeS_ev (l : List S86) (v : Int) (h0 : 0 ≤ v) (h1 : v + 4 * (l.length : Int) ≤ 4000000000000000000) : Ev (fun k => laws_markShadeS.f k l v) (v + 4 * (l.length : Int), mkSh v l.length) := by
  unfold laws_markShadeS.f
  have H : ∀ d i : Nat, i + d = l.length → Ev (fun k => laws_markShadeS.l0 k (mkSh v i ++ l.drop i) (v + 4 * (i : Int)) (i : Int)) (v + 4 * (l.length : Int), mkSh v l.length) := by
    intro d
    induction d with
    | zero =>
      intro i hi
      obtain rfl : i = l.length := by omega
      refine Ev.succ ?_
      simp only [laws_markShadeS.l0, List.drop_length, List.append_nil, mkSh_len, Int.lt_irrefl, if_false]
      exact Ev.now _
    | succ d ih =>
      intro i hi
      have hlt : i < l.length := by omega
      have hL : (mkSh v i ++ l.drop i).length = l.length := by simp [mkSh_len]; omega
      have hi2 : i < (mkSh v i ++ l.drop i).length := by omega
      refine Ev.succ ?_
      simp only [laws_markShadeS.l0, hL, if_pos (Int.ofNat_lt.mpr hlt), if_pos (Int.natCast_nonneg i), Option.bind_some, Int.toNat_natCast, wr1 i (by omega), wr (v + 4 * (i : Int) + 1) (by omega), wr (v + 4 * (i : Int) + 1 + 1) (by omega), wr (v + 4 * (i : Int) + 1 + 1 + 1) (by omega), wr (v + 4 * (i : Int) + 1 + 1 + 1 + 1) (by omega)]
      rw [rdSh_set (show i < (_ : List S86).length by first | exact hi2 | (simp only [List.length_set]; exact hi2))]
      rw [rdSh_set (show i < (_ : List S86).length by first | exact hi2 | (simp only [List.length_set]; exact hi2))]
      rw [rdSh_set (show i < (_ : List S86).length by first | exact hi2 | (simp only [List.length_set]; exact hi2))]
      simp only [List.set_set]
      have e : (mkSh v i ++ l.drop i).set i ⟨(Int.tmod (v + 4 * (i : Int)) 3 == 0), v + 4 * (i : Int) + 1, v + 4 * (i : Int) + 1 + 1, (Int.tmod (v + 4 * (i : Int) + 1 + 1 + 1) 3 == 0)⟩ = mkSh v (i + 1) ++ l.drop (i + 1) := by
        rw [drop_cons hlt, List.set_append_right _ _ (by simp [mkSh_len]), mkSh_len, Nat.sub_self, List.set_cons_zero, mkSh_succ]; simp
      rw [e, show v + 4 * (i : Int) + 1 + 1 + 1 + 1 = v + 4 * ((i + 1 : Nat) : Int) by omega]
      exact ih (i + 1) (by omega)
  have := H l.length 0 (by omega)
  simpa [mkSh] using this
theorem heldShadeS_ev (n : Nat) (v : Int) (h0 : 0 ≤ v) (h1 : v + 4 * (n : Int) ≤ 4000000000000000000) : Ev (fun k => laws_heldShadeS.f k (mkSh v n) v) (v + 4 * (n : Int)) := by
  unfold laws_heldShadeS.f
  have H : ∀ d i : Nat, i + d = n → Ev (fun k => laws_heldShadeS.l0 k (mkSh v n) (v + 4 * (i : Int)) (i : Int)) (v + 4 * (n : Int)) := by
    intro d
    induction d with
    | zero =>
      intro i hi
      obtain rfl : i = n := by omega
      refine Ev.succ ?_
      simp only [laws_heldShadeS.l0, mkSh_len, Int.lt_irrefl, if_false]
      exact Ev.now _
    | succ d ih =>
      intro i hi
      have hlt : i < n := by omega
      have e : rd_T86 (mkSh v n) (i : Int) = ⟨(Int.tmod (v + 4 * (i : Int)) 3 == 0), v + 4 * (i : Int) + 1, v + 4 * (i : Int) + 1 + 1, (Int.tmod (v + 4 * (i : Int) + 1 + 1 + 1) 3 == 0)⟩ := by
        unfold rd_T86; rw [getD_at _ (show i < (mkSh v n).length by rw [mkSh_len]; exact hlt)]; simp [mkSh]
      refine Ev.succ ?_
      simp only [laws_heldShadeS.l0, mkSh_len, if_pos (Int.ofNat_lt.mpr hlt), if_pos (Int.natCast_nonneg i), wr1 i (by omega), wr (v + 4 * (i : Int) + 1) (by omega), wr (v + 4 * (i : Int) + 1 + 1) (by omega), wr (v + 4 * (i : Int) + 1 + 1 + 1) (by omega), wr (v + 4 * (i : Int) + 1 + 1 + 1 + 1) (by omega), e, bne_self_eq_false, Bool.false_eq_true, if_false, if_true]
      rw [show v + 4 * (i : Int) + 1 + 1 + 1 + 1 = v + 4 * ((i + 1 : Nat) : Int) by omega]
      exact ih (i + 1) (by omega)
  have := H n 0 (by omega)
  simpa using this
def gTot (g : S61) : Int := 3 * (g.f0.length : Int) + tot g.f1 + 4 * (g.f2.length : Int)
def hTot : List S61 → Int
  | [] => 0
  | g :: gs => gTot g + hTot gs
def mkG (v : Int) (g : S61) : S61 := ⟨mkM v g.f0.length, mkSS (v + 3 * (g.f0.length : Int)) g.f1, mkSh (v + 3 * (g.f0.length : Int) + tot g.f1) g.f2.length⟩
def mkGS : Int → List S61 → List S61
  | _, [] => []
  | v, g :: gs => mkG v g :: mkGS (v + gTot g) gs
theorem gTot_nonneg (g : S61) : 0 ≤ gTot g := by have := tot_nonneg g.f1; unfold gTot; omega
theorem hTot_nonneg : ∀ l : List S61, 0 ≤ hTot l
  | [] => by simp [hTot]
  | g :: gs => by have := hTot_nonneg gs; have := gTot_nonneg g; simp only [hTot]; omega
theorem rdG_mid (a : List S61) (r : S61) (b : List S61) : rd_T61 (a ++ r :: b) (a.length : Int) = r := by
  unfold rd_T61; rw [Int.toNat_natCast, List.getD_eq_getElem?_getD, List.getElem?_append_right (Nat.le_refl _)]; simp
def GSm (G : List S61) : Prop := (G.length : Int) ≤ 1000000000000 ∧ ∀ g ∈ G, (g.f1.length : Int) ≤ 1000000000000
theorem markGuestS_ev (l : List S61) (v : Int) (h0 : 0 ≤ v) (h1 : v + hTot l ≤ 4000000000000000000) (hs : GSm l) : Ev (fun k => laws_markGuestS.f k l v) (v + hTot l, mkGS v l) := by
  unfold laws_markGuestS.f
  have H : ∀ (rest done : List S61) (v : Int), 0 ≤ v → v + hTot rest ≤ 4000000000000000000 → (done.length : Int) + (rest.length : Int) ≤ 1000000000000 → (∀ g ∈ rest, (g.f1.length : Int) ≤ 1000000000000) → Ev (fun k => laws_markGuestS.l0 k (done ++ rest) v (done.length : Int)) (v + hTot rest, done ++ mkGS v rest) := by
    intro rest
    induction rest with
    | nil =>
      intro done v _ _ _ _
      refine Ev.succ ?_
      simp only [laws_markGuestS.l0, List.append_nil, Int.lt_irrefl, if_false]
      exact Ev.cast (by simp [hTot, mkGS]) (Ev.now _)
    | cons g gs ih =>
      intro done v a b c hd
      have tn := hTot_nonneg gs
      have gn := tot_nonneg g.f1
      have gl := hd g List.mem_cons_self
      simp only [hTot, gTot, List.length_cons] at b c
      refine Ev.succ ?_
      simp only [laws_markGuestS.l0, if_pos (show (done.length : Int) < ((done ++ g :: gs).length : Int) by simp only [List.length_append, List.length_cons]; omega), if_pos (Int.natCast_nonneg done.length), rdG_mid, wr1 done.length (by omega)]
      refine Ev.bind (markMapS_ev g.f0 v a (by omega)) ?_
      refine Ev.bind (markIntSS_ev g.f1 _ (by first | omega | (simp only; omega)) (by first | omega | (simp only; omega)) (by omega)) ?_
      refine Ev.bind (markShadeS_ev g.f2 _ (by first | omega | (simp only; omega)) (by first | omega | (simp only; omega))) ?_
      have e : (done ++ g :: gs).set ((done.length : Int)).toNat (mkG v g) = (done ++ [mkG v g]) ++ gs := by
        rw [Int.toNat_natCast, List.set_append_right _ _ (Nat.le_refl _), Nat.sub_self, List.set_cons_zero]; simp
      show Ev (fun k => laws_markGuestS.l0 k ((done ++ g :: gs).set ((done.length : Int)).toNat (mkG v g)) (v + 3 * (g.f0.length : Int) + tot g.f1 + 4 * (g.f2.length : Int)) ((done.length + 1 : Nat) : Int)) _
      rw [e]
      have := ih (done ++ [mkG v g]) (v + 3 * (g.f0.length : Int) + tot g.f1 + 4 * (g.f2.length : Int)) (by omega) (by omega) (by simp only [List.length_append, List.length_cons, List.length_nil]; omega) (fun x hx => hd x (List.mem_cons_of_mem _ hx))
      rw [show ((done ++ [mkG v g]).length : Int) = ((done.length + 1 : Nat) : Int) by simp] at this
      refine Ev.cast ?_ this
      have q : v + gTot g = v + 3 * (g.f0.length : Int) + tot g.f1 + 4 * (g.f2.length : Int) := by unfold gTot; omega
      simp only [hTot, mkGS, q, Prod.mk.injEq, List.append_assoc, List.singleton_append, and_true]
      omega
  have := H l [] v h0 h1 (by simpa using hs.1) hs.2
  simpa using this
theorem heldGuestS_ev (l : List S61) (v : Int) (h0 : 0 ≤ v) (h1 : v + hTot l ≤ 4000000000000000000) (hs : GSm l) : Ev (fun k => laws_heldGuestS.f k (mkGS v l) v) (v + hTot l) := by
  unfold laws_heldGuestS.f
  have H : ∀ (rest done : List S61) (v : Int), 0 ≤ v → v + hTot rest ≤ 4000000000000000000 → (done.length : Int) + (rest.length : Int) ≤ 1000000000000 → (∀ g ∈ rest, (g.f1.length : Int) ≤ 1000000000000) → Ev (fun k => laws_heldGuestS.l0 k (done ++ mkGS v rest) v (done.length : Int)) (v + hTot rest) := by
    intro rest
    induction rest with
    | nil =>
      intro done v _ _ _ _
      refine Ev.succ ?_
      simp only [laws_heldGuestS.l0, mkGS, List.append_nil, Int.lt_irrefl, if_false]
      exact Ev.cast (by simp [hTot]) (Ev.now _)
    | cons g gs ih =>
      intro done v a b c hd
      have tn := hTot_nonneg gs
      have gn := tot_nonneg g.f1
      have gl := hd g List.mem_cons_self
      simp only [hTot, gTot, List.length_cons] at b c
      have q : v + gTot g = v + 3 * (g.f0.length : Int) + tot g.f1 + 4 * (g.f2.length : Int) := by unfold gTot; omega
      refine Ev.succ ?_
      simp only [laws_heldGuestS.l0, mkGS, if_pos (show (done.length : Int) < ((done ++ mkG v g :: mkGS (v + gTot g) gs).length : Int) by simp only [List.length_append, List.length_cons]; omega), if_pos (Int.natCast_nonneg done.length), rdG_mid, wr1 done.length (by omega)]
      refine Ev.bind (heldMapS_ev g.f0.length v a (by omega)) ?_
      simp only [if_neg (show ¬ v + 3 * (g.f0.length : Int) < 0 by omega)]
      refine Ev.bind (heldIntSS_ev g.f1 (v + 3 * (g.f0.length : Int)) (by omega) (by omega) (by omega)) ?_
      simp only [if_neg (show ¬ v + 3 * (g.f0.length : Int) + tot g.f1 < 0 by omega)]
      refine Ev.bind (heldShadeS_ev g.f2.length (v + 3 * (g.f0.length : Int) + tot g.f1) (by omega) (by omega)) ?_
      simp only [if_neg (show ¬ v + 3 * (g.f0.length : Int) + tot g.f1 + 4 * (g.f2.length : Int) < 0 by omega)]
      have := ih (done ++ [mkG v g]) (v + gTot g) (by omega) (by omega) (by simp only [List.length_append, List.length_cons, List.length_nil]; omega) (fun x hx => hd x (List.mem_cons_of_mem _ hx))
      rw [show ((done ++ [mkG v g]).length : Int) = ((done.length + 1 : Nat) : Int) by simp, List.append_assoc, List.singleton_append] at this
      rw [← q]
      exact Ev.cast (by simp only [hTot]; omega) this
  have := H l [] v h0 h1 (by simpa using hs.1) hs.2
  simpa using this
theorem markHost_ev (F : List (List Int)) (G : List S61) (h v : Int) (h0 : 0 ≤ v) (h1 : v + tot F + hTot G ≤ 4000000000000000000) (hF : (F.length : Int) ≤ 1000000000000) (hs : GSm G) : Ev (fun k => laws_markHost.f k F G h v) (v + tot F + hTot G, mkSS v F, mkGS (v + tot F) G) := by
  have a := tot_nonneg F
  have b := hTot_nonneg G
  unfold laws_markHost.f
  exact Ev.bind (markIntSS_ev F v h0 (by omega) (by omega)) (Ev.bind (markGuestS_ev G (v + tot F) (by omega) h1 hs) (Ev.now _))
theorem heldHost_ev (F : List (List Int)) (G : List S61) (h v : Int) (h0 : 0 ≤ v) (h1 : v + tot F + hTot G ≤ 4000000000000000000) (hF : (F.length : Int) ≤ 1000000000000) (hs : GSm G) : Ev (fun k => laws_heldHost.f k (mkSS v F) (mkGS (v + tot F) G) h v) (v + tot F + hTot G) := by
  have a := tot_nonneg F
  have b := hTot_nonneg G
  unfold laws_heldHost.f
  refine Ev.bind (heldIntSS_ev F v h0 (by omega) (by omega)) ?_
  simp only [if_neg (show ¬ v + tot F < 0 by omega)]
  refine Ev.bind (heldGuestS_ev G (v + tot F) (by omega) h1 hs) ?_
  simp only [if_neg (show ¬ v + tot F + hTot G < 0 by omega)]
  exact Ev.now _
def HostSz (F : List (List Int)) (G : List S61) : Prop := Fit F ∧ (G.length : Int) ≤ 1048576 ∧ ∀ g ∈ G, (g.f0.length : Int) ≤ 1048576 ∧ Fit g.f1 ∧ (g.f2.length : Int) ≤ 1048576
theorem hTot_le (B : Int) (hB : 0 ≤ B) : ∀ l : List S61, (∀ g ∈ l, gTot g ≤ B) → hTot l ≤ B * (l.length : Int)
  | [], _ => by simp [hTot]
  | g :: gs, h => by
    have h1 := h g List.mem_cons_self
    have h2 := hTot_le B hB gs fun x hx => h x (List.mem_cons_of_mem _ hx)
    simp only [hTot, List.length_cons]
    rw [show ((gs.length + 1 : Nat) : Int) = (gs.length : Int) + 1 by omega, Int.mul_add, Int.mul_one]
    omega
theorem hostSz_tot {F : List (List Int)} {G : List S61} (h : HostSz F G) : tot F + hTot G ≤ 3000000000000000000 := by
  obtain ⟨hF, hl, hg⟩ := h
  have a := fit_tot hF
  have b := hTot_le 2100000000000 (by omega) G (fun g hx => by
    obtain ⟨x, y, z⟩ := hg g hx
    have := fit_tot y
    unfold gTot
    omega)
  omega
theorem hostSz_gsm {F : List (List Int)} {G : List S61} (h : HostSz F G) : GSm G := ⟨by have := h.2.1; omega, fun g hg => by have := (h.2.2 g hg).2.1.1; omega⟩
theorem hostSz_fit {F : List (List Int)} {G : List S61} (h : HostSz F G) : HostFit F G := ⟨fit_small h.1, h.2.1, fun g hg => ⟨(h.2.2 g hg).1, fit_small (h.2.2 g hg).2.1, (h.2.2 g hg).2.2⟩⟩
theorem hostLoad_sz {m : List (List Int)} (h : Fit m) : HostSz (hostLoad m).1 (hostLoad m).2.1 := by
  unfold hostLoad
  by_cases c : loadOk m
  · rw [if_pos c]
    refine ⟨⟨show ((frames0.length : Nat) : Int) ≤ 1048576 from by decide, fun r hr => by rw [List.eq_of_mem_replicate hr]; decide⟩, by have := c.2; simp only [loadG_len]; omega, fun g hg => ?_⟩
    obtain ⟨i, _, rfl⟩ := List.mem_map.mp hg
    exact ⟨by simp [gst], ⟨by have := h.1; simp only [gst, part, List.length_drop, List.length_take]; omega, fun r hr => h.2 r (part_sub m i r hr)⟩, by simp [gst]⟩
  · rw [if_neg c]
    exact ⟨⟨by simp, fun r hr => by cases hr⟩, by simp, fun g hg => by cases hg⟩

-- the law
theorem FnExactHostLoad (m : List (List Int)) (hl : m.length ≤ 9223372036854775807) (hr : ∀ r ∈ m, r.length ≤ 9223372036854775807) : ∃ k, laws_FnExactHostLoad.f k m = some true := by
  apply Ev.rounds
  unfold laws_FnExactHostLoad.f
  rcases szIntSS_ev m hl hr with e | ⟨n, e, h0, hL, hR⟩
  · refine Ev.bind e ?_
    simp only [show ((-1 : Int) < 0) = True by simp, if_true]; exact Ev.now _
  · refine Ev.bind e ?_
    simp only [if_neg (show ¬ n < 0 by omega)]
    have T := toIntSS_ev m hL hR
    have hfit : Fit m := ⟨hL, hR⟩
    have hm : Small m := fit_small hfit
    have S := sHostLoad_ev m hm
    have I := iHostLoad_ev m hm
    have hz := hostLoad_sz hfit
    generalize hostLoad m = X at S I hz
    obtain ⟨F, G, h, b⟩ := X
    dsimp only at hz
    have ht := hostSz_tot hz
    have hg := hostSz_gsm hz
    have hF := hz.1.1
    have tF := tot_nonneg F
    have tG := hTot_nonneg G
    have tm := fit_tot hfit
    have tn := tot_nonneg m
    have EQ := eqHost_refl F G h (hostSz_fit hz)
    have M := markHost_ev F G h 1 (by omega) (by omega) (by omega) hg
    have Hd := heldHost_ev F G h 1 (by omega) (by omega) (by omega) hg
    refine Ev.bind T (Ev.bind S (Ev.bind T (Ev.bind I (Ev.bind EQ ?_))))
    simp only [if_true]
    refine Ev.bind T (Ev.bind (eqIntSS_refl m hm) ?_)
    simp only [if_true]
    refine Ev.bind (markIntSS_ev m 1 (by omega) (by omega) (by omega)) ?_
    simp only [if_neg (show ¬ 1 + tot m < 0 by omega)]
    refine Ev.bind EQ ?_
    simp only [if_true]
    refine Ev.bind M (Ev.bind Hd ?_)
    simp only [if_neg (show ¬ 1 + tot F + hTot G < 0 by omega), if_true]
    refine Ev.bind T (Ev.bind I (Ev.bind EQ ?_))
    simp only [if_true]
    refine Ev.bind Hd ?_
    simp only [if_neg (show ¬ 1 + tot F + hTot G < 0 by omega), if_true]
    exact Ev.now _

end Go.Proofs.Ytjgcfpclddfifaa.Pure
