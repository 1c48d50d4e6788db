/- The pure side of the law FnExactHostFree: what the printed functions compute answers true. Conditions: none beyond the statement given. -/
import Derived.Test.YtjgcfpclddfifaaVFnExactHostFreex0
import Derived.Test.YtjgcfpclddfifaaVFnExactHostFreex1
import Derived.Test.YtjgcfpclddfifaaVFnExactHostFreex2
import Derived.Test.YtjgcfpclddfifaaVFnExactHostFreex3
import Derived.Test.YtjgcfpclddfifaaVFnExactHostFreex4
import Derived.Test.YtjgcfpclddfifaaVFnExactHostFreex5
import Derived.Test.YtjgcfpclddfifaaVFnExactHostFreex6
import Derived.Test.YtjgcfpclddfifaaVFnExactHostFreex7
import Derived.Test.YtjgcfpclddfifaaVFnExactHostFreex8
import Derived.Test.YtjgcfpclddfifaaVFnExactHostFreex9
import Derived.Test.YtjgcfpclddfifaaVFnExactHostFreex10
import Derived.Test.YtjgcfpclddfifaaVFnExactHostFreex11
import Derived.Test.YtjgcfpclddfifaaVFnExactHostFreex12
import Derived.Test.YtjgcfpclddfifaaVFnExactHostFreex13
import Derived.Test.YtjgcfpclddfifaaVFnExactHostFreex14
import Derived.Test.YtjgcfpclddfifaaVFnExactHostFreex15
import Derived.Laws.BitsLemmas
namespace Go.Proofs.Ytjgcfpclddfifaa.Pure
open Go Go.RowKit Go.Proofs.Ytjgcfpclddfifaa.QFnExactHostFree Go.Proofs.YtjgcfpclddfifaaW.PrintWords Go.Proofs.YtjgcfpclddfifaaW.PrintLast
set_option linter.unusedVariables false
set_option linter.unusedSimpArgs false

theorem Ev.succ {α : Type} {g : Nat → Option α} {r : α} (h : Ev (fun k => g (k + 1)) r) : Ev g r := Ev.step (fun _ => rfl) h
theorem Ev.cast {α : Type} {g : Nat → Option α} {r r' : α} (e : r = r') (h : Ev g r) : Ev g r' := e ▸ h
theorem wr (n : Int) (h : -9223372036854775808 ≤ n ∧ n ≤ 9223372036854775807) : wrap64 n = n := by unfold wrap64; omega
theorem wr1 (i : Nat) (h : (i : Int) ≤ 9000000000000000000) : wrap64 ((i : Int) + 1) = ((i + 1 : Nat) : Int) := by rw [wr _ (by omega)]; rfl
theorem Ev.down {σ ρ : Type} (g : Nat → Int → σ → Option ρ) (R : Nat → σ → ρ) (n : Nat) (hend : ∀ st, Ev (fun k => g k n st) (R n st))
    (hstep : ∀ i : Nat, i < n → (∀ st, Ev (fun k => g k ((i + 1 : Nat) : Int) st) (R (i + 1) st)) → ∀ st, Ev (fun k => g k (i : Int) st) (R i st)) :
    ∀ st, Ev (fun k => g k 0 st) (R 0 st) := by
  have H : ∀ d i : Nat, i + d = n → ∀ st, Ev (fun k => g k (i : Int) st) (R i st) := by
    intro d
    induction d with
    | zero => intro i hi st; obtain rfl : i = n := by omega
              exact hend st
    | succ d ih => intro i hi; exact hstep i (by omega) (ih (i + 1) (by omega))
  exact H n 0 (by omega)
theorem drop_cons {α : Type} {l : List α} {i : Nat} (h : i < l.length) : l.drop i = l[i] :: l.drop (i + 1) := List.drop_eq_getElem_cons h
theorem rd_at {l : List Int} {i : Nat} (h : i < l.length) : rd l (i : Int) = l[i] := by simp [rd, h]
theorem getD_at {α : Type} {l : List α} {i : Nat} (z : α) (h : i < l.length) : l.getD ((i : Int)).toNat z = l[i] := by simp [h]
def wi (a lo hi : Int) : Bool := decide (lo ≤ a) && decide (a ≤ hi)
theorem wi_iff {a lo hi : Int} : wi a lo hi = true ↔ lo ≤ a ∧ a ≤ hi := by simp [wi]
theorem l6In_eq (a lo hi : Int) : spec_l6In.f a lo hi = some (wi a lo hi) := by
  unfold spec_l6In.f wi
  by_cases h : a ≥ lo
  · rw [if_pos h]; simp [h]
  · rw [if_neg h]; simp; omega
theorem within_eq (a lo hi : Int) : impl_within.f a lo hi = some (wi a lo hi) := by
  unfold impl_within.f wi
  by_cases h : a ≥ lo
  · rw [if_pos h]; simp [h]
  · rw [if_neg h]; simp; omega
theorem set_snoc {α : Type} (xs : List α) (z : α) (n : Nat) (y : α) : (xs ++ List.replicate (n + 1) z).set xs.length y = (xs ++ [y]) ++ List.replicate n z := by
  rw [List.set_append_right _ _ (Nat.le_refl _)]; simp [List.replicate_succ]
theorem rdL_at {l : List (List Int)} {i : Nat} (h : i < l.length) : rd_L1 l (i : Int) = l[i] := getD_at _ h
def pageB (p : List Int) : Bool := p.all (fun w => wi w 0 63) && ((p.length : Int) == 4)
def memB (m : List (List Int)) : Bool := m.all pageB
def Small (m : List (List Int)) : Prop := (m.length : Int) ≤ 1000000000000 ∧ ∀ r ∈ m, (r.length : Int) ≤ 1000000000000
theorem rdL_mem {m : List (List Int)} {i : Int} (h0 : 0 ≤ i) (h : i < m.length) : rd_L1 m i ∈ m := by
  have e : i = ((i.toNat : Nat) : Int) := by omega
  rw [e, rdL_at (show i.toNat < m.length by omega)]; exact List.getElem_mem _
theorem sPage_ev (p : List Int) (hl : (p.length : Int) ≤ 1000000000000) : Ev (fun k => spec_l2PageOk.f k p) (pageB p) := by
  unfold spec_l2PageOk.f
  have H := Ev.down (σ := Unit) (fun k i _ => spec_l2PageOk.l0 k p i) (fun i _ => (p.drop i).all (fun w => wi w 0 63) && ((p.length : Int) == 4)) p.length
    (fun _ => Ev.succ (by simp only [spec_l2PageOk.l0, Int.lt_irrefl, if_false]; exact Ev.cast (by simp) (Ev.now _)))
    (fun i hi ih _ => by
      refine Ev.succ ?_
      simp only [spec_l2PageOk.l0, if_pos (Int.ofNat_lt.mpr hi), if_pos (Int.natCast_nonneg i), rd_at hi, l6In_eq, Option.bind_some, wr1 i (by omega)]
      rw [drop_cons hi, List.all_cons]
      cases h : wi p[i] 0 63
      · exact Ev.now _
      · exact ih ())
  exact H ()
theorem sMemOk_ev (m : List (List Int)) (hm : Small m) : Ev (fun k => spec_MemOk.f k m) (memB m) := by
  unfold spec_MemOk.f
  have hl := hm.1
  have H := Ev.down (σ := Unit) (fun k i _ => spec_MemOk.l0 k m i) (fun i _ => (m.drop i).all pageB) m.length
    (fun _ => Ev.succ (by simp only [spec_MemOk.l0, Int.lt_irrefl, if_false]; exact Ev.cast (by simp) (Ev.now _)))
    (fun i hi ih _ => by
      refine Ev.succ ?_
      simp only [spec_MemOk.l0, if_pos (Int.ofNat_lt.mpr hi), if_pos (Int.natCast_nonneg i), rdL_at hi, wr1 i (by omega)]
      refine Ev.bind (sPage_ev m[i] (hm.2 _ (List.getElem_mem hi))) ?_
      rw [drop_cons hi, List.all_cons]
      cases h : pageB m[i]
      · exact Ev.now _
      · exact ih ())
  exact H ()
theorem iPage_ev (p : List Int) (hl : (p.length : Int) ≤ 1000000000000) : Ev (fun k => impl_pageOk.f k p) (pageB p) := by
  unfold impl_pageOk.f
  have H := Ev.down (σ := Unit) (fun k i _ => impl_pageOk.l0 k p p p.length i) (fun i _ => (p.drop i).all (fun w => wi w 0 63) && ((p.length : Int) == 4)) p.length
    (fun _ => Ev.succ (by simp only [impl_pageOk.l0, Int.lt_irrefl, if_false]; exact Ev.cast (by simp) (Ev.now _)))
    (fun i hi ih _ => by
      refine Ev.succ ?_
      simp only [impl_pageOk.l0, if_pos (Int.ofNat_lt.mpr hi), if_pos (Int.natCast_nonneg i), rd_at hi, within_eq, Option.bind_some, wr1 i (by omega)]
      rw [drop_cons hi, List.all_cons]
      cases h : wi p[i] 0 63
      · exact Ev.now _
      · exact ih ())
  exact H ()
theorem iMemOk_ev (m : List (List Int)) (hm : Small m) : Ev (fun k => impl_MemOk.f k m) (memB m) := by
  unfold impl_MemOk.f
  have hl := hm.1
  have H := Ev.down (σ := Unit) (fun k i _ => impl_MemOk.l0 k m m.length i) (fun i _ => (m.drop i).all pageB) m.length
    (fun _ => Ev.succ (by simp only [impl_MemOk.l0, Int.lt_irrefl, if_false]; exact Ev.cast (by simp) (Ev.now _)))
    (fun i hi ih _ => by
      refine Ev.succ ?_
      simp only [impl_MemOk.l0, if_pos (Int.ofNat_lt.mpr hi), if_pos (Int.natCast_nonneg i), rdL_at hi, wr1 i (by omega)]
      refine Ev.bind (iPage_ev m[i] (hm.2 _ (List.getElem_mem hi))) ?_
      rw [drop_cons hi, List.all_cons]
      cases h : pageB m[i]
      · exact Ev.now _
      · exact ih ())
  exact H ()
def guestB (m : List (List Int)) : Bool := memB m && ((m.length : Int) == 6)
theorem guest_iff {m : List (List Int)} : guestB m = true ↔ memB m = true ∧ m.length = 6 := by
  simp [guestB]; intro _; omega
theorem iGuest_ev (m : List (List Int)) (hm : Small m) : Ev (fun k => impl_guestMem.f k m) (guestB m) := by
  unfold impl_guestMem.f guestB
  refine Ev.bind (iMemOk_ev m hm) ?_
  cases memB m
  · exact Ev.now _
  · exact Ev.cast (by simp) (Ev.now _)
theorem sGuest_ev (m : List (List Int)) (hm : Small m) : Ev (fun k => spec_l11Guest.f k m) (guestB m) := by
  unfold spec_l11Guest.f guestB
  refine Ev.bind (sMemOk_ev m hm) ?_
  cases memB m
  · exact Ev.now _
  · exact Ev.cast (by simp) (Ev.now _)
theorem toIntS_ev (l : List Int) (hl : (l.length : Int) ≤ 1048576) : Ev (fun k => laws_toIntS.f k l) l := by
  unfold laws_toIntS.f
  simp only [if_pos (Int.natCast_nonneg l.length), Int.toNat_natCast, if_pos (show l.length ≤ 35184372088832 by omega)]
  have H : ∀ d i : Nat, i + d = l.length → Ev (fun k => laws_toIntS.l0 k l (l.take i ++ List.replicate d 0) (i : Int)) l := by
    intro d
    induction d with
    | zero =>
      intro i hi
      obtain rfl : i = l.length := by omega
      refine Ev.succ ?_
      simp only [laws_toIntS.l0, Int.lt_irrefl, if_false, List.take_length, List.replicate_zero, List.append_nil]
      exact Ev.now _
    | succ d ih =>
      intro i hi
      have hlt : i < l.length := by omega
      have ih' := ih (i + 1) (by omega)
      refine Ev.succ ?_
      simp only [laws_toIntS.l0, if_pos (Int.ofNat_lt.mpr hlt), if_pos (Int.natCast_nonneg i), rd_at hlt, wr1 i (by omega), Int.toNat_natCast]
      simp only [if_pos (show (i : Int) < ((l.take i ++ List.replicate (d + 1) (0 : Int)).length : Int) by simp; omega)]
      have e := set_snoc (l.take i) (0 : Int) d l[i]
      rw [show (l.take i).length = i by simp; omega, ← List.take_succ_eq_append_getElem hlt] at e
      simp only [e]
      exact ih'
  exact H l.length 0 (by omega)
theorem toIntSS_ev (l : List (List Int)) (hl : (l.length : Int) ≤ 1048576) (hr : ∀ r ∈ l, (r.length : Int) ≤ 1048576) : Ev (fun k => laws_toIntSS.f k l) l := by
  unfold laws_toIntSS.f
  simp only [if_pos (Int.natCast_nonneg l.length), Int.toNat_natCast, if_pos (show l.length ≤ 11728124029610 by omega)]
  have H : ∀ d i : Nat, i + d = l.length → Ev (fun k => laws_toIntSS.l0 k l (l.take i ++ List.replicate d []) (i : Int)) l := by
    intro d
    induction d with
    | zero =>
      intro i hi
      obtain rfl : i = l.length := by omega
      refine Ev.succ ?_
      simp only [laws_toIntSS.l0, Int.lt_irrefl, if_false, List.take_length, List.replicate_zero, List.append_nil]
      exact Ev.now _
    | succ d ih =>
      intro i hi
      have hlt : i < l.length := by omega
      have ih' := ih (i + 1) (by omega)
      refine Ev.succ ?_
      simp only [laws_toIntSS.l0, if_pos (Int.ofNat_lt.mpr hlt), if_pos (Int.natCast_nonneg i), rdL_at hlt, wr1 i (by omega), Int.toNat_natCast]
      refine Ev.bind (toIntS_ev l[i] (hr _ (List.getElem_mem hlt))) ?_
      simp only [if_pos (show (i : Int) < ((l.take i ++ List.replicate (d + 1) ([] : List Int)).length : Int) by simp; omega)]
      have e := set_snoc (l.take i) ([] : List Int) d l[i]
      rw [show (l.take i).length = i by simp; omega, ← List.take_succ_eq_append_getElem hlt] at e
      simp only [e]
      exact ih'
  exact H l.length 0 (by omega)
theorem eqIntS_refl (l : List Int) (hl : (l.length : Int) ≤ 1000000000000) : Ev (fun k => laws_eqIntS.f k l l) true := by
  unfold laws_eqIntS.f
  simp only [if_true]
  have H := Ev.down (σ := Unit) (fun k i _ => laws_eqIntS.l0 k l l i) (fun i _ => true) l.length
    (fun _ => Ev.succ (by simp only [laws_eqIntS.l0, Int.lt_irrefl, if_false]; exact Ev.now _))
    (fun i hi ih _ => by
      refine Ev.succ ?_
      simp only [laws_eqIntS.l0, if_pos (Int.ofNat_lt.mpr hi), if_pos (Int.natCast_nonneg i), if_true, wr1 i (by omega)]
      exact ih ())
  exact H ()
theorem eqIntSS_refl (l : List (List Int)) (hl : Small l) : Ev (fun k => laws_eqIntSS.f k l l) true := by
  unfold laws_eqIntSS.f
  simp only [if_true]
  have h1 := hl.1
  have H := Ev.down (σ := Unit) (fun k i _ => laws_eqIntSS.l0 k l l i) (fun i _ => true) l.length
    (fun _ => Ev.succ (by simp only [laws_eqIntSS.l0, Int.lt_irrefl, if_false]; exact Ev.now _))
    (fun i hi ih _ => by
      refine Ev.succ ?_
      simp only [laws_eqIntSS.l0, if_pos (Int.ofNat_lt.mpr hi), if_pos (Int.natCast_nonneg i), rdL_at hi, wr1 i (by omega)]
      refine Ev.bind (eqIntS_refl _ (hl.2 _ (List.getElem_mem hi))) ?_
      simp only [if_true]
      exact ih ())
  exact H ()
def ups (v : Int) (n : Nat) : List Int := (List.range n).map fun (j : Nat) => v + (j : Int)
theorem ups_len (v : Int) (n : Nat) : (ups v n).length = n := by simp [ups]
theorem ups_succ (v : Int) (n : Nat) : ups v (n + 1) = ups v n ++ [v + (n : Int)] := by simp [ups, List.range_succ]
theorem markIntS_ev (l : List Int) (v : Int) (h0 : 0 ≤ v) (h1 : v + (l.length : Int) ≤ 4000000000000000000) : Ev (fun k => laws_markIntS.f k l v) (v + (l.length : Int), ups v l.length) := by
  unfold laws_markIntS.f
  have H : ∀ d i : Nat, i + d = l.length → Ev (fun k => laws_markIntS.l0 k (ups v i ++ l.drop i) (v + (i : Int)) (i : Int)) (v + (l.length : Int), ups v l.length) := by
    intro d
    induction d with
    | zero =>
      intro i hi
      obtain rfl : i = l.length := by omega
      refine Ev.succ ?_
      simp only [laws_markIntS.l0, List.drop_length, List.append_nil, ups_len, Int.lt_irrefl, if_false]
      exact Ev.now _
    | succ d ih =>
      intro i hi
      have hlt : i < l.length := by omega
      have hL : (ups v i ++ l.drop i).length = l.length := by simp [ups_len]; omega
      refine Ev.succ ?_
      simp only [laws_markIntS.l0, hL, if_pos (Int.ofNat_lt.mpr hlt), if_pos (Int.natCast_nonneg i), Int.toNat_natCast, wr1 i (by omega), wr (v + (i : Int) + 1) (by omega)]
      have e : (ups v i ++ l.drop i).set i (v + (i : Int)) = ups v (i + 1) ++ l.drop (i + 1) := by
        rw [drop_cons hlt, List.set_append_right _ _ (by simp [ups_len]), ups_len, Nat.sub_self, List.set_cons_zero, ups_succ]; simp
      rw [e, show v + (i : Int) + 1 = v + ((i + 1 : Nat) : Int) by omega]
      exact ih (i + 1) (by omega)
  have := H l.length 0 (by omega)
  simpa [ups] using this
theorem heldIntS_ev (n : Nat) (v : Int) (h0 : 0 ≤ v) (h1 : v + (n : Int) ≤ 4000000000000000000) : Ev (fun k => laws_heldIntS.f k (ups v n) v) (v + (n : Int)) := by
  unfold laws_heldIntS.f
  have H : ∀ d i : Nat, i + d = n → Ev (fun k => laws_heldIntS.l0 k (ups v n) (v + (i : Int)) (i : Int)) (v + (n : Int)) := by
    intro d
    induction d with
    | zero =>
      intro i hi
      obtain rfl : i = n := by omega
      refine Ev.succ ?_
      simp only [laws_heldIntS.l0, ups_len, Int.lt_irrefl, if_false]
      exact Ev.now _
    | succ d ih =>
      intro i hi
      have hlt : i < n := by omega
      have e : rd (ups v n) (i : Int) = v + (i : Int) := by
        unfold rd; rw [Int.toNat_natCast, List.getD_eq_getElem?_getD, List.getElem?_eq_getElem (show i < (ups v n).length by rw [ups_len]; exact hlt)]; simp [ups]
      refine Ev.succ ?_
      simp only [laws_heldIntS.l0, ups_len, if_pos (Int.ofNat_lt.mpr hlt), if_pos (Int.natCast_nonneg i), wr1 i (by omega), wr (v + (i : Int) + 1) (by omega), e, if_true]
      rw [show v + (i : Int) + 1 = v + ((i + 1 : Nat) : Int) by omega]
      exact ih (i + 1) (by omega)
  have := H n 0 (by omega)
  simpa using this
def tot : List (List Int) → Int
  | [] => 0
  | r :: rs => (r.length : Int) + tot rs
def mkSS : Int → List (List Int) → List (List Int)
  | _, [] => []
  | v, r :: rs => ups v r.length :: mkSS (v + (r.length : Int)) rs
theorem tot_nonneg : ∀ l : List (List Int), 0 ≤ tot l
  | [] => by simp [tot]
  | r :: rs => by have := tot_nonneg rs; simp only [tot]; omega
theorem tot_le : ∀ l : List (List Int), (∀ r ∈ l, (r.length : Int) ≤ 1048576) → tot l ≤ 1048576 * (l.length : Int)
  | [], _ => by simp [tot]
  | r :: rs, h => by
    have h1 := h r List.mem_cons_self
    have h2 := tot_le rs fun x hx => h x (List.mem_cons_of_mem _ hx)
    simp only [tot, List.length_cons]
    omega
theorem rdL_mid (a : List (List Int)) (r : List Int) (b : List (List Int)) : rd_L1 (a ++ r :: b) (a.length : Int) = r := by
  unfold rd_L1; rw [Int.toNat_natCast, List.getD_eq_getElem?_getD, List.getElem?_append_right (Nat.le_refl _)]; simp
theorem markIntSS_ev (l : List (List Int)) (v : Int) (h0 : 0 ≤ v) (h1 : v + tot l ≤ 4000000000000000000) (h2 : (l.length : Int) ≤ 4000000000000000000) : Ev (fun k => laws_markIntSS.f k l v) (v + tot l, mkSS v l) := by
  unfold laws_markIntSS.f
  have H : ∀ (rest done : List (List Int)) (v : Int), 0 ≤ v → v + tot rest ≤ 4000000000000000000 → (done.length : Int) + (rest.length : Int) ≤ 4000000000000000000 → Ev (fun k => laws_markIntSS.l0 k (done ++ rest) v (done.length : Int)) (v + tot rest, done ++ mkSS v rest) := by
    intro rest
    induction rest with
    | nil =>
      intro done v _ _ _
      refine Ev.succ ?_
      simp only [laws_markIntSS.l0, List.append_nil, Int.lt_irrefl, if_false]
      exact Ev.cast (by simp [tot, mkSS]) (Ev.now _)
    | cons r rs ih =>
      intro done v a b c
      have tn := tot_nonneg rs
      simp only [tot, List.length_cons] at b c
      refine Ev.succ ?_
      simp only [laws_markIntSS.l0, if_pos (show (done.length : Int) < ((done ++ r :: rs).length : Int) by simp only [List.length_append, List.length_cons]; omega), if_pos (Int.natCast_nonneg done.length), rdL_mid, wr1 done.length (by omega)]
      refine Ev.bind (markIntS_ev r v a (by omega)) ?_
      have e : (done ++ r :: rs).set ((done.length : Int)).toNat (ups v r.length) = (done ++ [ups v r.length]) ++ rs := by
        rw [Int.toNat_natCast, List.set_append_right _ _ (Nat.le_refl _), Nat.sub_self, List.set_cons_zero]; simp
      simp only [e]
      have := ih (done ++ [ups v r.length]) (v + (r.length : Int)) (by omega) (by omega) (by simp only [List.length_append, List.length_cons, List.length_nil]; omega)
      rw [show ((done ++ [ups v r.length]).length : Int) = ((done.length + 1 : Nat) : Int) by simp] at this
      exact Ev.cast (by simp [tot, mkSS]; omega) this
  have := H l [] v h0 h1 (by simp; omega)
  simpa using this
def Fit (m : List (List Int)) : Prop := (m.length : Int) ≤ 1048576 ∧ ∀ r ∈ m, (r.length : Int) ≤ 1048576
theorem fit_small {m : List (List Int)} (h : Fit m) : Small m := ⟨by have := h.1; omega, fun r hr => by have := h.2 r hr; omega⟩
theorem fit_tot {m : List (List Int)} (h : Fit m) : tot m ≤ 2000000000000 := by have := tot_le m h.2; have := h.1; omega
def cntM (l : List S83) (fr : Int) : Nat := l.countP (fun m => m.f0 && m.f1 == fr)
def cntG (G : List S61) (fr : Int) : Nat := (G.map (fun g => cntM g.f0 fr)).sum
def allFrom (P : Nat → Bool) (i d : Nat) : Bool := (List.range' i d).all P
theorem allFrom_succ (P : Nat → Bool) (i d : Nat) : allFrom P i (d + 1) = (P i && allFrom P (i + 1) d) := rfl
theorem allFrom_iff (P : Nat → Bool) (i d : Nat) : allFrom P i d = true ↔ ∀ j, i ≤ j → j < i + d → P j = true := by
  unfold allFrom; rw [List.all_eq_true]
  exact ⟨fun h j a b => h j (List.mem_range'_1.mpr ⟨a, b⟩), fun h j hj => by have := List.mem_range'_1.mp hj; exact h j this.1 this.2⟩
def noW (p : List Int) : Bool := p.all (fun x => x == 0)
def mapB (G : List S61) (m : S83) (d : List Int) : Bool := if m.f0 = true then (wi m.f1 0 7 && (noW d && (!m.f2 || decide (cntG G m.f1 ≤ 1)))) else (m.f1 == 0 && !m.f2)
def shadeB (M : List S83) (s : S86) : Bool := if s.f0 = true then (wi s.f1 2 5 && ((rd_T83 M s.f1).f0 && ((rd_T83 M s.f1).f1 == s.f2 && (!s.f3 || (rd_T83 M s.f1).f2)))) else (s.f1 == 0 && (s.f2 == 0 && !s.f3))
def structB (g : S61) : Bool := (g.f0.length : Int) == 6 && ((g.f2.length : Int) == 6 && guestB g.f1)
def mapsB (G : List S61) (g : S61) : Bool := allFrom (fun p => mapB G (rd_T83 g.f0 (p : Int)) (rd_L1 g.f1 (p : Int))) 0 6
def shadesB (g : S61) : Bool := allFrom (fun p => shadeB g.f0 (rd_T86 g.f2 (p : Int))) 0 6
def hostB (F : List (List Int)) (G : List S61) (h : Int) : Bool := memB F && ((F.length : Int) == 8 && (wi (G.length : Int) 1 2 && (wi h 0 7 && G.all (fun g => structB g && (mapsB G g && shadesB g)))))
def HostFit (F : List (List Int)) (G : List S61) : Prop := Small F ∧ (G.length : Int) ≤ 1048576 ∧ ∀ g ∈ G, (g.f0.length : Int) ≤ 1048576 ∧ Small g.f1 ∧ (g.f2.length : Int) ≤ 1048576
theorem cntM_cons (m : S83) (l : List S83) (fr : Int) : cntM (m :: l) fr = (if m.f0 = true ∧ m.f1 = fr then 1 else 0) + cntM l fr := by
  unfold cntM; rw [List.countP_cons]
  by_cases h : m.f0 = true ∧ m.f1 = fr
  · rw [if_pos h, if_pos (by simp [h.1, h.2])]; omega
  · rw [if_neg h, if_neg (by simpa using h)]; omega
theorem cntG_cons (g : S61) (G : List S61) (fr : Int) : cntG (g :: G) fr = cntM g.f0 fr + cntG G fr := by simp [cntG]
theorem rdG_at {G : List S61} {i : Nat} (hi : i < G.length) : rd_T61 G (i : Int) = G[i] := getD_at _ hi
theorem rdM_at {l : List S83} {i : Nat} (hi : i < l.length) : rd_T83 l (i : Int) = l[i] := getD_at _ hi
theorem cntM_pos {l : List S83} {fr : Int} {i : Nat} (hi : i < l.length) (h0 : l[i].f0 = true) (h1 : l[i].f1 = fr) : 1 ≤ cntM l fr := by
  unfold cntM
  exact List.countP_pos_iff.mpr ⟨l[i], List.getElem_mem hi, by simp [h0, h1]⟩
theorem cntG_ge {G : List S61} {g : S61} (hg : g ∈ G) (fr : Int) : cntM g.f0 fr ≤ cntG G fr := by
  induction G with
  | nil => cases hg
  | cons x r ih =>
    rw [cntG_cons]
    rcases List.mem_cons.mp hg with rfl | h
    · omega
    · have := ih h; omega
theorem iMany_ev (F : List (List Int)) (G : List S61) (h fr : Int) (hf : HostFit F G) (hn : G.length ≤ 2) : Ev (fun k => impl_Host_many.f k F G h fr) (cntG G fr : Int) := by
  unfold impl_Host_many.f
  have H : ∀ d i : Nat, i + d = G.length → ∀ acc : Nat, (acc : Int) ≤ 1048576 * i → Ev (fun k => impl_Host_many.l0 k fr (acc : Int) G (G.length : Int) (i : Int)) ((acc + cntG (G.drop i) fr : Nat) : Int) := by
    intro d
    induction d with
    | zero =>
      intro i hi acc ha
      obtain rfl : i = G.length := by omega
      refine Ev.succ ?_
      simp only [impl_Host_many.l0, Int.lt_irrefl, if_false]
      exact Ev.cast (by rw [List.drop_length]; simp [cntG]) (Ev.now _)
    | succ d ih =>
      intro i hi acc ha
      have hlt : i < G.length := by omega
      have hg := (hf.2.2 _ (List.getElem_mem hlt)).1
      refine Ev.succ ?_
      simp only [impl_Host_many.l0, if_pos (Int.ofNat_lt.mpr hlt), if_pos (Int.natCast_nonneg i), rdG_at hlt]
      have H1 : ∀ e j : Nat, j + e = G[i].f0.length → ∀ acc' : Nat, (acc' : Int) ≤ 1048576 * i + j → acc' + cntM (G[i].f0.drop j) fr = acc + cntM G[i].f0 fr → Ev (fun k => impl_Host_many.l1 k fr (acc' : Int) G (G.length : Int) (i : Int) G[i].f0 (G[i].f0.length : Int) (j : Int)) ((acc + cntG (G.drop i) fr : Nat) : Int) := by
        intro e
        induction e with
        | zero =>
          intro j hj acc' ha' hs
          obtain rfl : j = G[i].f0.length := by omega
          rw [List.drop_length] at hs
          refine Ev.succ ?_
          simp only [impl_Host_many.l1, Int.lt_irrefl, if_false, wr1 i (by omega)]
          refine Ev.cast ?_ (ih (i + 1) (by omega) acc' (by omega))
          rw [drop_cons hlt, cntG_cons]
          simp only [cntM, List.countP_nil] at hs
          simp only [cntM]; omega
        | succ e ih2 =>
          intro j hj acc' ha' hs
          have hjl : j < G[i].f0.length := by omega
          rw [drop_cons hjl, cntM_cons] at hs
          refine Ev.succ ?_
          simp only [impl_Host_many.l1, if_pos (Int.ofNat_lt.mpr hjl), if_pos (Int.natCast_nonneg j), rdM_at hjl, wr1 j (by omega), wr ((acc' : Int) + 1) (by omega)]
          by_cases c0 : G[i].f0[j].f0 = true
          · simp only [if_pos c0]
            by_cases c1 : G[i].f0[j].f1 = fr
            · simp only [if_pos c1]
              rw [if_pos ⟨c0, c1⟩] at hs
              have := ih2 (j + 1) (by omega) (acc' + 1) (by omega) (by omega)
              exact this
            · simp only [if_neg c1]
              rw [if_neg (fun x => c1 x.2)] at hs
              exact ih2 (j + 1) (by omega) acc' (by omega) (by omega)
          · simp only [if_neg c0]
            rw [if_neg (fun x => c0 x.1)] at hs
            exact ih2 (j + 1) (by omega) acc' (by omega) (by omega)
      exact H1 G[i].f0.length 0 (by omega) acc (by omega) (by simp)
  have := H G.length 0 (by omega) 0 (by omega)
  simpa using this
theorem sUsers_ev (F : List (List Int)) (G : List S61) (h fr : Int) (hf : HostFit F G) (hn : G.length ≤ 2) : Ev (fun k => spec_l12Users.f k F G h fr) (cntG G fr : Int) := by
  unfold spec_l12Users.f
  have H : ∀ d i : Nat, i + d = G.length → ∀ acc : Nat, (acc : Int) ≤ 1048576 * i → Ev (fun k => spec_l12Users.l0 k fr (acc : Int) (i : Int) F G h) ((acc + cntG (G.drop i) fr : Nat) : Int) := by
    intro d
    induction d with
    | zero =>
      intro i hi acc ha
      obtain rfl : i = G.length := by omega
      refine Ev.succ ?_
      simp only [spec_l12Users.l0, Int.lt_irrefl, if_false]
      exact Ev.cast (by rw [List.drop_length]; simp [cntG]) (Ev.now _)
    | succ d ih =>
      intro i hi acc ha
      have hlt : i < G.length := by omega
      have hg := (hf.2.2 _ (List.getElem_mem hlt)).1
      refine Ev.succ ?_
      simp only [spec_l12Users.l0, if_pos (Int.ofNat_lt.mpr hlt)]
      have H1 : ∀ e j : Nat, j + e = G[i].f0.length → ∀ acc' : Nat, (acc' : Int) ≤ 1048576 * i + j → acc' + cntM (G[i].f0.drop j) fr = acc + cntM G[i].f0 fr → Ev (fun k => spec_l12Users.l1 k fr (acc' : Int) (i : Int) (j : Int) F G h) ((acc + cntG (G.drop i) fr : Nat) : Int) := by
        intro e
        induction e with
        | zero =>
          intro j hj acc' ha' hs
          obtain rfl : j = G[i].f0.length := by omega
          rw [List.drop_length] at hs
          refine Ev.succ ?_
          simp only [spec_l12Users.l1, if_pos (Int.ofNat_lt.mpr hlt), if_pos (Int.natCast_nonneg i), rdG_at hlt, Int.lt_irrefl, if_false, wr1 i (by omega)]
          refine Ev.cast ?_ (ih (i + 1) (by omega) acc' (by omega))
          rw [drop_cons hlt, cntG_cons]
          simp only [cntM, List.countP_nil] at hs
          simp only [cntM]; omega
        | succ e ih2 =>
          intro j hj acc' ha' hs
          have hjl : j < G[i].f0.length := by omega
          rw [drop_cons hjl, cntM_cons] at hs
          refine Ev.succ ?_
          simp only [spec_l12Users.l1, if_pos (Int.ofNat_lt.mpr hlt), if_pos (Int.natCast_nonneg i), rdG_at hlt, if_pos (Int.ofNat_lt.mpr hjl), if_pos (Int.natCast_nonneg j), rdM_at hjl, wr1 j (by omega), wr ((acc' : Int) + 1) (by omega)]
          by_cases c0 : G[i].f0[j].f0 = true
          · simp only [if_pos c0]
            by_cases c1 : G[i].f0[j].f1 = fr
            · simp only [if_pos c1]
              rw [if_pos ⟨c0, c1⟩] at hs
              have := ih2 (j + 1) (by omega) (acc' + 1) (by omega) (by omega)
              exact this
            · simp only [if_neg c1]
              rw [if_neg (fun x => c1 x.2)] at hs
              exact ih2 (j + 1) (by omega) acc' (by omega) (by omega)
          · simp only [if_neg c0]
            rw [if_neg (fun x => c0 x.1)] at hs
            exact ih2 (j + 1) (by omega) acc' (by omega) (by omega)
      exact H1 G[i].f0.length 0 (by omega) acc (by omega) (by simp)
  have := H G.length 0 (by omega) 0 (by omega)
  simpa using this
theorem noW_cons (x : Int) (l : List Int) : noW (x :: l) = ((x == 0) && noW l) := rfl
theorem zeros_ev (p : List Int) (hl : (p.length : Int) ≤ 1000000000000) : Ev (fun k => impl_zeros.f k p) (noW p) := by
  unfold impl_zeros.f
  have H : ∀ d i : Nat, i + d = p.length → ∃ n : Int, Ev (fun k => zeros_idx.l0 k p (i : Int)) n ∧ (!(decide (n ≥ 0))) = noW (p.drop i) := by
    intro d
    induction d with
    | zero =>
      intro i hi
      obtain rfl : i = p.length := by omega
      refine ⟨-1, Ev.succ ?_, by rw [List.drop_length]; rfl⟩
      simp only [zeros_idx.l0, Int.lt_irrefl, if_false]
      exact Ev.now _
    | succ d ih =>
      intro i hi
      have hlt : i < p.length := by omega
      by_cases c : p[i] = 0
      · obtain ⟨n, g, e⟩ := ih (i + 1) (by omega)
        refine ⟨n, Ev.succ ?_, by rw [e, drop_cons hlt, noW_cons, c]; rfl⟩
        simp only [zeros_idx.l0, if_pos (Int.ofNat_lt.mpr hlt), if_pos (Int.natCast_nonneg i), rd_at hlt, if_pos c, wr1 i (by omega)]
        exact g
      · refine ⟨(i : Int), Ev.succ ?_, by rw [drop_cons hlt, noW_cons, beq_eq_false_iff_ne.mpr c, decide_eq_true (show (i : Int) ≥ 0 by omega)]; rfl⟩
        simp only [zeros_idx.l0, if_pos (Int.ofNat_lt.mpr hlt), if_pos (Int.natCast_nonneg i), rd_at hlt, if_neg c]
        exact Ev.now _
  obtain ⟨n, g, e⟩ := H p.length 0 (by omega)
  refine Ev.bind g ?_
  exact Ev.cast (by simpa using e) (Ev.now _)
theorem blank_ev (p : List Int) (hl : (p.length : Int) ≤ 1000000000000) : Ev (fun k => spec_l12Blank.f k p) (noW p) := by
  unfold spec_l12Blank.f
  have H := Ev.down (σ := Unit) (fun k i _ => spec_l12Blank.l0 k p i) (fun i _ => noW (p.drop i)) p.length
    (fun _ => Ev.succ (by simp only [spec_l12Blank.l0, Int.lt_irrefl, if_false]; exact Ev.cast (by rw [List.drop_length]; rfl) (Ev.now _)))
    (fun i hi ih _ => by
      refine Ev.succ ?_
      simp only [spec_l12Blank.l0, if_pos (Int.ofNat_lt.mpr hi), if_pos (Int.natCast_nonneg i), rd_at hi, wr1 i (by omega)]
      rw [drop_cons hi, noW_cons]
      by_cases c : p[i] = 0
      · simp only [if_pos c]; rw [c]; exact ih ()
      · simp only [if_neg c]; rw [beq_eq_false_iff_ne.mpr c]; exact Ev.now _)
  exact H ()
theorem iGuestOk_ev (F : List (List Int)) (G : List S61) (h : Int) (hf : HostFit F G) (hn : G.length ≤ 2) (g : S61) (hg : (g.f0.length : Int) ≤ 1048576 ∧ Small g.f1 ∧ (g.f2.length : Int) ≤ 1048576) :
    Ev (fun k => impl_Host_guestOk.f k F G h g.f0 g.f1 g.f2) (structB g && (mapsB G g && shadesB g)) := by
  obtain ⟨M, D, S⟩ := g
  obtain ⟨hM, hD, hS⟩ := hg
  simp only at hM hD hS
  unfold impl_Host_guestOk.f structB
  simp only
  have J : ∀ b, Ev (fun k => impl_Host_guestOk.j0 k true F G h M D S) (false && b) := fun b => by
    refine Ev.succ ?_
    simp only [impl_Host_guestOk.j0, if_true]
    exact Ev.now _
  by_cases c6 : (M.length : Int) = 6
  · simp only [if_pos c6, c6, beq_self_eq_true, Bool.true_and]
    refine Ev.bind (iGuest_ev D hD) ?_
    cases hgd : guestB D
    · simp only [Bool.false_eq_true, if_false, Bool.and_false]; exact J _
    simp only [if_true]
    by_cases cs : (S.length : Int) = 6
    · simp only [cs, bne_self_eq_false, beq_self_eq_true, Bool.true_and]
      have hM6 : M.length = 6 := by omega
      have hS6 : S.length = 6 := by omega
      have hD6 := (guest_iff.mp hgd).2
      refine Ev.succ ?_
      simp only [impl_Host_guestOk.j0, Bool.false_eq_true, if_false, c6]
      have HS : ∀ d i : Nat, i + d = 6 → Ev (fun k => impl_Host_guestOk.l1 k S (S.length : Int) (i : Int) M D S) (allFrom (fun p => shadeB M (rd_T86 S (p : Int))) i d) := by
        intro d
        induction d with
        | zero =>
          intro i hi
          obtain rfl : i = 6 := by omega
          refine Ev.succ ?_
          simp only [impl_Host_guestOk.l1, cs, show ¬ (((6 : Nat) : Int) < 6) by decide, if_false]
          exact Ev.now _
        | succ d ih =>
          intro i hi
          have hlt : i < S.length := by omega
          have ih' := ih (i + 1) (by omega)
          refine Ev.succ ?_
          simp only [impl_Host_guestOk.l1, if_pos (Int.ofNat_lt.mpr hlt), if_pos (Int.natCast_nonneg i), wr1 i (by omega), within_eq, Option.bind_some]
          rw [allFrom_succ]
          by_cases s0 : (rd_T86 S (i : Int)).f0 = true
          · simp only [if_pos s0]
            unfold shadeB
            simp only [if_pos s0]
            cases hw : wi (rd_T86 S (i : Int)).f1 2 5
            · exact Ev.now _
            rw [wi_iff] at hw
            simp only [if_true, if_pos (show 0 ≤ (rd_T86 S (i : Int)).f1 by omega), if_pos (show (rd_T86 S (i : Int)).f1 < (M.length : Int) by omega), Bool.true_and]
            cases m0 : (rd_T83 M (rd_T86 S (i : Int)).f1).f0
            · simp only [Bool.false_eq_true, if_false, Bool.false_and]; exact Ev.now _
            simp only [if_true, Bool.true_and]
            by_cases m1 : (rd_T83 M (rd_T86 S (i : Int)).f1).f1 = (rd_T86 S (i : Int)).f2
            · simp only [if_pos m1, beq_iff_eq.mpr m1, Bool.true_and]
              cases s3 : (rd_T86 S (i : Int)).f3
              · simp only [Bool.false_eq_true, if_false, Bool.not_false, Bool.true_or, Bool.true_and]; exact ih'
              · simp only [if_true, Bool.not_true, Bool.false_or]
                cases m2 : (rd_T83 M (rd_T86 S (i : Int)).f1).f2
                · simp only [Bool.false_eq_true, if_false, Bool.false_and]; exact Ev.now _
                · simp only [if_true, Bool.true_and]; exact ih'
            · simp only [if_neg m1, beq_eq_false_iff_ne.mpr m1, Bool.false_and]; exact Ev.now _
          · simp only [if_neg s0]
            unfold shadeB
            simp only [if_neg s0, Bool.eq_false_iff.mpr s0, Bool.false_or]
            cases e1 : ((rd_T86 S (i : Int)).f1 == 0)
            · simp only [Bool.not_false, Bool.true_or, if_true, Bool.false_and]; exact Ev.now _
            cases e2 : ((rd_T86 S (i : Int)).f2 == 0)
            · simp only [Bool.not_true, Bool.not_false, Bool.true_or, Bool.false_or, if_true, Bool.false_and, Bool.and_false]; exact Ev.now _
            cases e3 : (rd_T86 S (i : Int)).f3
            · simp only [Bool.not_true, Bool.not_false, Bool.false_or, Bool.false_eq_true, if_false, Bool.true_and, Bool.and_self]; exact ih'
            · simp only [Bool.not_true, Bool.false_or, if_true, Bool.false_and, Bool.and_false]; exact Ev.now _
      have HM : ∀ d i : Nat, i + d = 6 → Ev (fun k => impl_Host_guestOk.l0 k M (M.length : Int) (i : Int) F G h M D S) (allFrom (fun p => mapB G (rd_T83 M (p : Int)) (rd_L1 D (p : Int))) i d && shadesB ⟨M, D, S⟩) := by
        intro d
        induction d with
        | zero =>
          intro i hi
          obtain rfl : i = 6 := by omega
          refine Ev.succ ?_
          simp only [impl_Host_guestOk.l0, c6, show ¬ (((6 : Nat) : Int) < 6) by decide, if_false]
          exact HS 6 0 (by omega)
        | succ d ih =>
          intro i hi
          have hlt : i < M.length := by omega
          have ih' := ih (i + 1) (by omega)
          have hdr := hD.2 _ (rdL_mem (m := D) (i := (i : Int)) (by omega) (by omega))
          refine Ev.succ ?_
          simp only [impl_Host_guestOk.l0, if_pos (Int.ofNat_lt.mpr hlt), if_pos (Int.natCast_nonneg i), wr1 i (by omega), within_eq, Option.bind_some]
          rw [allFrom_succ]
          by_cases m0 : (rd_T83 M (i : Int)).f0 = true
          · simp only [if_pos m0]
            unfold mapB
            simp only [if_pos m0]
            cases hw : wi (rd_T83 M (i : Int)).f1 0 7
            · exact Ev.now _
            simp only [if_true, if_pos (show (i : Int) < (D.length : Int) by omega), Bool.true_and]
            refine Ev.bind (zeros_ev _ hdr) ?_
            cases hz : noW (rd_L1 D (i : Int))
            · simp only [Bool.false_eq_true, if_false, Bool.false_and]; exact Ev.now _
            simp only [if_true, Bool.true_and]
            cases m2 : (rd_T83 M (i : Int)).f2
            · simp only [Bool.false_eq_true, if_false, Bool.not_false, Bool.true_or, Bool.true_and]; exact ih'
            · simp only [if_true, Bool.not_true, Bool.false_or]
              refine Ev.bind (iMany_ev F G h _ hf hn) ?_
              by_cases hc : cntG G (rd_T83 M (i : Int)).f1 ≤ 1
              · simp only [decide_eq_true hc, if_neg (show ¬ (cntG G (rd_T83 M (i : Int)).f1 : Int) > 1 by omega), Bool.true_and]; exact ih'
              · simp only [decide_eq_false hc, if_pos (show (cntG G (rd_T83 M (i : Int)).f1 : Int) > 1 by omega), Bool.false_and]; exact Ev.now _
          · simp only [if_neg m0]
            unfold mapB
            simp only [if_neg m0, Bool.eq_false_iff.mpr m0, Bool.false_or]
            cases e1 : ((rd_T83 M (i : Int)).f1 == 0)
            · simp only [Bool.not_false, Bool.true_or, if_true, Bool.false_and]; exact Ev.now _
            cases e2 : (rd_T83 M (i : Int)).f2
            · simp only [Bool.not_true, Bool.not_false, Bool.false_or, Bool.false_eq_true, if_false, Bool.true_and, Bool.and_self]; exact ih'
            · simp only [Bool.not_true, Bool.false_or, if_true, Bool.false_and, Bool.and_false]; exact Ev.now _
      have := HM 6 0 (by omega)
      rw [c6] at this
      exact this
    · rw [show ((S.length : Int) != 6) = true by simpa using cs, show ((S.length : Int) == 6) = false by simpa using cs]
      exact J _
  · simp only [if_neg c6, beq_eq_false_iff_ne.mpr c6]
    exact J _
theorem iHostOk_ev (F : List (List Int)) (G : List S61) (h : Int) (hf : HostFit F G) : Ev (fun k => impl_HostOk.f k F G h) (hostB F G h) := by
  unfold impl_HostOk.f hostB
  have J : ∀ b, Ev (fun k => impl_HostOk.j0 k true F G h) (b && false) := fun b => by
    refine Ev.succ ?_
    simp only [impl_HostOk.j0, if_true, Bool.and_false]
    exact Ev.now _
  by_cases c8 : (F.length : Int) = 8
  · simp only [if_pos c8, c8, beq_self_eq_true, Bool.true_and]
    refine Ev.bind (iMemOk_ev F hf.1) ?_
    cases hb : memB F
    · simp only [Bool.false_eq_true, if_false, Bool.false_and]; exact J false
    simp only [if_true, within_eq, Option.bind_some, Bool.true_and]
    cases hw : wi (G.length : Int) 1 2
    · simp only [Bool.false_eq_true, if_false, Bool.false_and]; exact J false
    rw [wi_iff] at hw
    simp only [if_true, Bool.true_and]
    cases hh : wi h 0 7
    · simp only [Bool.not_false, Bool.false_and]; exact J false
    simp only [Bool.not_true, Bool.true_and]
    refine Ev.succ ?_
    simp only [impl_HostOk.j0, Bool.false_eq_true, if_false]
    have H : ∀ d i : Nat, i + d = G.length → Ev (fun k => impl_HostOk.l0 k G (G.length : Int) (i : Int) F G h) ((G.drop i).all (fun g => structB g && (mapsB G g && shadesB g))) := by
      intro d
      induction d with
      | zero =>
        intro i hi
        obtain rfl : i = G.length := by omega
        refine Ev.succ ?_
        simp only [impl_HostOk.l0, Int.lt_irrefl, if_false]
        exact Ev.cast (by rw [List.drop_length]; rfl) (Ev.now _)
      | succ d ih =>
        intro i hi
        have hlt : i < G.length := by omega
        have ih' := ih (i + 1) (by omega)
        refine Ev.succ ?_
        simp only [impl_HostOk.l0, if_pos (Int.ofNat_lt.mpr hlt), if_pos (Int.natCast_nonneg i), rdG_at hlt, wr1 i (by omega)]
        refine Ev.bind (iGuestOk_ev F G h hf (by omega) G[i] (hf.2.2 _ (List.getElem_mem hlt))) ?_
        rw [drop_cons hlt, List.all_cons]
        cases hc : (structB G[i] && (mapsB G G[i] && shadesB G[i]))
        · exact Ev.now _
        · exact ih'
    exact H G.length 0 (by omega)
  · simp only [if_neg c8, beq_eq_false_iff_ne.mpr c8, Bool.false_and]
    exact J _
theorem sMapOk_ev (F : List (List Int)) (G : List S61) (h : Int) (hf : HostFit F G) (hn : G.length ≤ 2) (m : S83) (d : List Int) (hd : (d.length : Int) ≤ 1000000000000) (hp : m.f0 = true → 1 ≤ cntG G m.f1) :
    Ev (fun k => spec_l12MapOk.f k F G h m.f0 m.f1 m.f2 d) (mapB G m d) := by
  unfold spec_l12MapOk.f mapB
  by_cases m0 : m.f0 = true
  · have hp := hp m0
    simp only [if_pos m0, l6In_eq, Option.bind_some]
    cases hw : wi m.f1 0 7
    · exact Ev.now _
    simp only [if_true, Bool.true_and]
    refine Ev.bind (blank_ev d hd) ?_
    cases hz : noW d
    · exact Ev.now _
    simp only [if_true, Bool.true_and]
    cases m2 : m.f2
    · exact Ev.now _
    · simp only [if_true, Bool.not_true, Bool.false_or]
      refine Ev.bind (sUsers_ev F G h _ hf hn) ?_
      refine Ev.cast ?_ (Ev.now _)
      by_cases hc : cntG G m.f1 ≤ 1
      · rw [decide_eq_true hc]; exact beq_iff_eq.mpr (by omega)
      · rw [decide_eq_false hc]; exact beq_eq_false_iff_ne.mpr (by omega)
  · simp only [if_neg m0, Bool.eq_false_iff.mpr m0, Bool.not_false, Bool.true_and]
    exact Ev.now _
theorem sShadeOk_eq (M : List S83) (D : List (List Int)) (S : List S86) (s : S86) (hM : M.length = 6) : spec_l12ShadeOk.f M D S s.f0 s.f1 s.f2 s.f3 = some (shadeB M s) := by
  unfold spec_l12ShadeOk.f shadeB
  by_cases s0 : s.f0 = true
  · simp only [if_pos s0, l6In_eq, Option.bind_some]
    cases hw : wi s.f1 2 5
    · simp
    rw [wi_iff] at hw
    simp only [if_true, if_pos (show 0 ≤ s.f1 by omega), if_pos (show s.f1 < (M.length : Int) by omega), Bool.true_and]
    cases m0 : (rd_T83 M s.f1).f0
    · simp
    simp only [if_true, Bool.true_and]
    by_cases m1 : (rd_T83 M s.f1).f1 = s.f2
    · simp only [if_pos m1, beq_iff_eq.mpr m1, Bool.true_and]
      cases s3 : s.f3 <;> simp
    · simp only [if_neg m1, beq_eq_false_iff_ne.mpr m1, Bool.false_and]
  · simp only [if_neg s0, Bool.eq_false_iff.mpr s0, Bool.not_false, Bool.true_and, Bool.false_eq_true, if_false]
def bothB (G : List S61) (g : S61) : Bool := allFrom (fun p => mapB G (rd_T83 g.f0 (p : Int)) (rd_L1 g.f1 (p : Int)) && shadeB g.f0 (rd_T86 g.f2 (p : Int))) 0 6
theorem both_eq (G : List S61) (g : S61) : bothB G g = (mapsB G g && shadesB g) := by
  rw [Bool.eq_iff_iff, Bool.and_eq_true]
  unfold bothB mapsB shadesB
  rw [allFrom_iff, allFrom_iff, allFrom_iff]
  exact ⟨fun h => ⟨fun j a b => (Bool.and_eq_true _ _ ▸ h j a b).1, fun j a b => (Bool.and_eq_true _ _ ▸ h j a b).2⟩, fun h j a b => by rw [Bool.and_eq_true]; exact ⟨h.1 j a b, h.2 j a b⟩⟩
theorem struct_iff {g : S61} : structB g = true ↔ g.f0.length = 6 ∧ g.f2.length = 6 ∧ guestB g.f1 = true := by
  unfold structB; simp only [Bool.and_eq_true, beq_iff_eq]
  exact ⟨fun h => ⟨by omega, by omega, h.2.2⟩, fun h => ⟨by omega, by omega, h.2.2⟩⟩
theorem sRest_ev (F : List (List Int)) (G : List S61) (h : Int) (hf : HostFit F G) (hn : G.length ≤ 2) (hs : ∀ g ∈ G, structB g = true) :
    Ev (fun k => spec_HostOk.l1 k 0 F G h) (G.all (bothB G)) := by
  have H : ∀ d i : Nat, i + d = G.length → Ev (fun k => spec_HostOk.l1 k (i : Int) F G h) ((G.drop i).all (bothB G)) := by
    intro d
    induction d with
    | zero =>
      intro i hi
      obtain rfl : i = G.length := by omega
      refine Ev.succ ?_
      simp only [spec_HostOk.l1, Int.lt_irrefl, if_false]
      exact Ev.cast (by rw [List.drop_length]; rfl) (Ev.now _)
    | succ d ih =>
      intro i hi
      have hlt : i < G.length := by omega
      have ih' := ih (i + 1) (by omega)
      have hm := List.getElem_mem hlt
      have hst := struct_iff.mp (hs _ hm)
      have hg := hf.2.2 _ hm
      have hD6 := (guest_iff.mp hst.2.2).2
      refine Ev.succ ?_
      simp only [spec_HostOk.l1, if_pos (Int.ofNat_lt.mpr hlt), if_pos (Int.natCast_nonneg i), rdG_at hlt]
      have H2 : ∀ e j : Nat, j + e = 6 → Ev (fun k => spec_HostOk.l2 k (i : Int) (j : Int) F G h G[i].f0 G[i].f1 G[i].f2) (allFrom (fun p => mapB G (rd_T83 G[i].f0 (p : Int)) (rd_L1 G[i].f1 (p : Int)) && shadeB G[i].f0 (rd_T86 G[i].f2 (p : Int))) j e && (G.drop (i + 1)).all (bothB G)) := by
        intro e
        induction e with
        | zero =>
          intro j hj
          obtain rfl : j = 6 := by omega
          refine Ev.succ ?_
          simp only [spec_HostOk.l2, show ¬ (((6 : Nat) : Int) < 6) by decide, if_false, wr1 i (by omega)]
          exact ih'
        | succ e ih2 =>
          intro j hj
          have ih2' := ih2 (j + 1) (by omega)
          have hjm : j < G[i].f0.length := by omega
          have hdr := hg.2.1.2 _ (rdL_mem (m := G[i].f1) (i := (j : Int)) (by omega) (by omega))
          have hpos : (rd_T83 G[i].f0 (j : Int)).f0 = true → 1 ≤ cntG G (rd_T83 G[i].f0 (j : Int)).f1 := by
            intro m0
            rw [rdM_at hjm] at m0 ⊢
            exact Nat.le_trans (cntM_pos hjm m0 rfl) (cntG_ge hm _)
          refine Ev.succ ?_
          simp only [spec_HostOk.l2, if_pos (show (j : Int) < 6 by omega), if_pos (Int.natCast_nonneg j), if_pos (show (j : Int) < (G[i].f0.length : Int) by omega), if_pos (show (j : Int) < (G[i].f1.length : Int) by omega), if_pos (show (j : Int) < (G[i].f2.length : Int) by omega), wr1 j (by omega)]
          rw [allFrom_succ]
          refine Ev.bind (sMapOk_ev F G h hf hn _ _ hdr hpos) ?_
          cases hmb : mapB G (rd_T83 G[i].f0 (j : Int)) (rd_L1 G[i].f1 (j : Int))
          · exact Ev.now _
          simp only [if_true, sShadeOk_eq _ G[i].f1 G[i].f2 _ hst.1, Option.bind_some, Bool.true_and]
          cases hsb : shadeB G[i].f0 (rd_T86 G[i].f2 (j : Int))
          · exact Ev.now _
          · exact ih2'
      have := H2 6 0 (by omega)
      rw [drop_cons hlt, List.all_cons]
      exact this
  have := H G.length 0 (by omega)
  simpa using this
theorem sHostOk_ev (F : List (List Int)) (G : List S61) (h : Int) (hf : HostFit F G) : Ev (fun k => spec_HostOk.f k F G h) (hostB F G h) := by
  unfold spec_HostOk.f hostB
  have J : Ev (fun k => spec_HostOk.j0 k true F G h) false := by
    refine Ev.succ ?_
    simp only [spec_HostOk.j0, if_true]
    exact Ev.now _
  refine Ev.bind (sMemOk_ev F hf.1) ?_
  cases hb : memB F
  · exact J
  by_cases c8 : (F.length : Int) = 8
  · simp only [if_true, if_pos c8, c8, beq_self_eq_true, Bool.true_and, l6In_eq, Option.bind_some]
    cases hw : wi (G.length : Int) 1 2
    · exact J
    rw [wi_iff] at hw
    simp only [if_true, Bool.true_and]
    cases hh : wi h 0 7
    · exact J
    simp only [Bool.not_true, Bool.true_and]
    refine Ev.succ ?_
    simp only [spec_HostOk.j0, Bool.false_eq_true, if_false]
    have hall : G.all (fun g => structB g && (mapsB G g && shadesB g)) = (G.all structB && G.all (bothB G)) := by
      rw [Bool.eq_iff_iff, Bool.and_eq_true]
      simp only [List.all_eq_true, Bool.and_eq_true, both_eq]
      exact ⟨fun x => ⟨fun g hg => (x g hg).1, fun g hg => (x g hg).2⟩, fun x g hg => ⟨x.1 g hg, x.2 g hg⟩⟩
    rw [hall]
    have H : ∀ d i : Nat, i + d = G.length → (∀ j (hj : j < G.length), j < i → structB G[j] = true) → Ev (fun k => spec_HostOk.l0 k (i : Int) F G h) ((G.drop i).all structB && G.all (bothB G)) := by
      intro d
      induction d with
      | zero =>
        intro i hi hst
        obtain rfl : i = G.length := by omega
        refine Ev.succ ?_
        simp only [spec_HostOk.l0, Int.lt_irrefl, if_false]
        refine Ev.cast (by rw [List.drop_length]; rfl) (sRest_ev F G h hf (by omega) (fun g hg => ?_))
        obtain ⟨j, hj, rfl⟩ := List.mem_iff_getElem.mp hg
        exact hst j hj hj
      | succ d ih =>
        intro i hi hst
        have hlt : i < G.length := by omega
        have hg := hf.2.2 _ (List.getElem_mem hlt)
        refine Ev.succ ?_
        simp only [spec_HostOk.l0, if_pos (Int.ofNat_lt.mpr hlt), if_pos (Int.natCast_nonneg i), rdG_at hlt, wr1 i (by omega)]
        rw [drop_cons hlt, List.all_cons]
        by_cases c6 : (G[i].f0.length : Int) = 6
        · simp only [if_pos c6]
          by_cases cs : (G[i].f2.length : Int) = 6
          · simp only [if_pos cs]
            refine Ev.bind (sGuest_ev G[i].f1 hg.2.1) ?_
            cases hgd : guestB G[i].f1
            · have : structB G[i] = false := by unfold structB; rw [hgd]; simp
              simp only [Bool.false_eq_true, if_false, this, Bool.false_and]; exact Ev.now _
            · have : structB G[i] = true := struct_iff.mpr ⟨by omega, by omega, hgd⟩
              simp only [if_true, this, Bool.true_and]
              refine ih (i + 1) (by omega) (fun j hj hji => ?_)
              by_cases e : j = i
              · subst e; exact this
              · exact hst j hj (by omega)
          · have : structB G[i] = false := by unfold structB; rw [beq_eq_false_iff_ne.mpr cs]; simp
            simp only [if_neg cs, this, Bool.false_and]; exact Ev.now _
        · have : structB G[i] = false := by unfold structB; rw [beq_eq_false_iff_ne.mpr c6]; simp
          simp only [if_neg c6, this, Bool.false_and]; exact Ev.now _
    have := H G.length 0 (by omega) (fun j hj hji => by omega)
    simpa using this
  · simp only [if_true, if_neg c8, beq_eq_false_iff_ne.mpr c8, Bool.false_and, Bool.and_false]
    exact J
theorem szSS_ev (m : List (List Int)) (left : Int) (h0 : 0 ≤ left ∧ left ≤ 1048576) (hl : m.length ≤ 9223372036854775807) (hr : ∀ r ∈ m, r.length ≤ 9223372036854775807) :
    Ev (fun k => laws_szIntSS.f k m left) (-1) ∨ ∃ n, Ev (fun k => laws_szIntSS.f k m left) n ∧ 0 ≤ n ∧ n ≤ left ∧ (m.length : Int) ≤ 1048576 ∧ ∀ r ∈ m, (r.length : Int) ≤ 1048576 := by
  unfold laws_szIntSS.f
  simp only [wr (left - (m.length : Int)) (by omega)]
  by_cases h : left - (m.length : Int) < 0
  · simp only [if_pos h]; exact .inl (Ev.now _)
  · simp only [if_neg h]
    have H : ∀ d i : Nat, i + d = m.length → ∀ lf : Int, 0 ≤ lf → lf ≤ left →
        Ev (fun k => laws_szIntSS.l0 k m lf (i : Int)) (-1) ∨ ∃ n, Ev (fun k => laws_szIntSS.l0 k m lf (i : Int)) n ∧ 0 ≤ n ∧ n ≤ lf ∧ ∀ r ∈ m.drop i, (r.length : Int) ≤ 1048576 := by
      intro d
      induction d with
      | zero =>
        intro i hi lf h0 h1
        obtain rfl : i = m.length := by omega
        refine .inr ⟨lf, Ev.succ ?_, h0, by omega, by simp⟩
        simp only [laws_szIntSS.l0, Int.lt_irrefl, if_false]
        exact Ev.now _
      | succ d ih =>
        intro i hi lf h0 h1
        have hlt : i < m.length := by omega
        have hri := hr _ (List.getElem_mem hlt)
        by_cases c : lf - (m[i].length : Int) < 0
        · refine .inl (Ev.succ ?_)
          simp only [laws_szIntSS.l0, if_pos (Int.ofNat_lt.mpr hlt), if_pos (Int.natCast_nonneg i), rdL_at hlt, laws_szIntS.f, wr (lf - (m[i].length : Int)) (by omega), if_pos c, Option.bind_some, show ((-1 : Int) < 0) = True by simp, if_true]
          exact Ev.now _
        · have e : ∀ k, laws_szIntSS.l0 (k + 1) m lf (i : Int) = laws_szIntSS.l0 k m (lf - (m[i].length : Int)) ((i + 1 : Nat) : Int) := by
            intro k
            simp only [laws_szIntSS.l0, if_pos (Int.ofNat_lt.mpr hlt), if_pos (Int.natCast_nonneg i), rdL_at hlt, laws_szIntS.f, wr (lf - (m[i].length : Int)) (by omega), if_neg c, Option.bind_some, wr1 i (by omega)]
          rcases ih (i + 1) (by omega) (lf - (m[i].length : Int)) (by omega) (by omega) with a | ⟨n, a, n0, n1, hn⟩
          · exact .inl (Ev.step e a)
          · refine .inr ⟨n, Ev.step e a, n0, by omega, ?_⟩
            rw [drop_cons hlt]
            intro r hr'
            rcases List.mem_cons.mp hr' with rfl | hr'
            · omega
            · exact hn r hr'
    rcases H m.length 0 (by omega) (left - (m.length : Int)) (by omega) (by omega) with a | ⟨n, a, n0, n1, hn⟩
    · exact .inl a
    · exact .inr ⟨n, a, n0, by omega, by omega, by simpa using hn⟩
def GuestMax (g : S80) : Prop := g.f0.length ≤ 9223372036854775807 ∧ (g.f1.length ≤ 9223372036854775807 ∧ ∀ r ∈ g.f1, r.length ≤ 9223372036854775807) ∧ g.f2.length ≤ 9223372036854775807
def GuestFit (g : S80) : Prop := (g.f0.length : Int) ≤ 1048576 ∧ ((g.f1.length : Int) ≤ 1048576 ∧ ∀ r ∈ g.f1, (r.length : Int) ≤ 1048576) ∧ (g.f2.length : Int) ≤ 1048576
theorem szGuest_ev (g : S80) (hg : GuestMax g) (left : Int) (h0 : 0 ≤ left ∧ left ≤ 1048576) :
    Ev (fun k => laws_szGuest.f k g.f0 g.f1 g.f2 left) (-1) ∨ ∃ n, Ev (fun k => laws_szGuest.f k g.f0 g.f1 g.f2 left) n ∧ 0 ≤ n ∧ n ≤ left ∧ GuestFit g := by
  obtain ⟨g0, g1, g2⟩ := hg
  unfold laws_szGuest.f laws_szMapS.f laws_szShadeS.f
  simp only [wr (left - (g.f0.length : Int)) (by omega)]
  by_cases h : left - (g.f0.length : Int) < 0
  · simp only [if_pos h, Option.bind_some, show ((-1 : Int) < 0) = True by simp, if_true]; exact .inl (Ev.now _)
  simp only [if_neg h, Option.bind_some]
  rcases szSS_ev g.f1 (left - (g.f0.length : Int)) (by omega) g1.1 g1.2 with a | ⟨n, a, n0, n1, n2, n3⟩
  · refine .inl (Ev.bind a ?_)
    simp only [show ((-1 : Int) < 0) = True by simp, if_true]; exact Ev.now _
  by_cases h2 : n - (g.f2.length : Int) < 0
  · refine .inl (Ev.bind a ?_)
    simp only [if_neg (show ¬ n < 0 by omega), wr (n - (g.f2.length : Int)) (by omega), if_pos h2, Option.bind_some, show ((-1 : Int) < 0) = True by simp, if_true]; exact Ev.now _
  · refine .inr ⟨n - (g.f2.length : Int), Ev.bind a ?_, by omega, by omega, by omega, ⟨n2, n3⟩, by omega⟩
    simp only [if_neg (show ¬ n < 0 by omega), wr (n - (g.f2.length : Int)) (by omega), if_neg h2, Option.bind_some]; exact Ev.now _
theorem szGuestS_ev (G : List S80) (hl : G.length ≤ 9223372036854775807) (hG : ∀ g ∈ G, GuestMax g) (left : Int) (h0 : 0 ≤ left ∧ left ≤ 1048576) :
    Ev (fun k => laws_szGuestS.f k G left) (-1) ∨ ∃ n, Ev (fun k => laws_szGuestS.f k G left) n ∧ 0 ≤ n ∧ (G.length : Int) ≤ 1048576 ∧ ∀ g ∈ G, GuestFit g := by
  unfold laws_szGuestS.f
  simp only [wr (left - (G.length : Int)) (by omega)]
  by_cases h : left - (G.length : Int) < 0
  · simp only [if_pos h]; exact .inl (Ev.now _)
  simp only [if_neg h]
  have H : ∀ d i : Nat, i + d = G.length → ∀ lf : Int, 0 ≤ lf → lf ≤ left →
      Ev (fun k => laws_szGuestS.l0 k G lf (i : Int)) (-1) ∨ ∃ n, Ev (fun k => laws_szGuestS.l0 k G lf (i : Int)) n ∧ 0 ≤ n ∧ ∀ g ∈ G.drop i, GuestFit g := by
    intro d
    induction d with
    | zero =>
      intro i hi lf h0 h1
      obtain rfl : i = G.length := by omega
      refine .inr ⟨lf, Ev.succ ?_, h0, by simp⟩
      simp only [laws_szGuestS.l0, Int.lt_irrefl, if_false]
      exact Ev.now _
    | succ d ih =>
      intro i hi lf h0 h1
      have hlt : i < G.length := by omega
      have e : rd_T80 G (i : Int) = G[i] := getD_at _ hlt
      rcases szGuest_ev G[i] (hG _ (List.getElem_mem hlt)) lf (by omega) with a | ⟨n, a, n0, n1, hn⟩
      · refine .inl (Ev.succ ?_)
        simp only [laws_szGuestS.l0, if_pos (Int.ofNat_lt.mpr hlt), if_pos (Int.natCast_nonneg i), e]
        refine Ev.bind a ?_
        simp only [show ((-1 : Int) < 0) = True by simp, if_true]; exact Ev.now _
      · have st : ∀ {r : Int}, Ev (fun k => laws_szGuestS.l0 k G n ((i + 1 : Nat) : Int)) r → Ev (fun k => laws_szGuestS.l0 k G lf (i : Int)) r := by
          intro r hr
          refine Ev.succ ?_
          simp only [laws_szGuestS.l0, if_pos (Int.ofNat_lt.mpr hlt), if_pos (Int.natCast_nonneg i), e]
          refine Ev.bind a ?_
          simp only [if_neg (show ¬ n < 0 by omega), wr1 i (by omega)]
          exact hr
        rcases ih (i + 1) (by omega) n n0 (by omega) with b | ⟨n', b, n0', hn'⟩
        · exact .inl (st b)
        · refine .inr ⟨n', st b, n0', ?_⟩
          rw [drop_cons hlt]
          intro g hg
          rcases List.mem_cons.mp hg with rfl | hg
          · exact hn
          · exact hn' g hg
  rcases H G.length 0 (by omega) (left - (G.length : Int)) (by omega) (by omega) with a | ⟨n, a, n0, hn⟩
  · exact .inl a
  · exact .inr ⟨n, a, n0, by omega, by simpa using hn⟩
theorem szHost_ev (F : List (List Int)) (G : List S80) (h : Int) (hl : F.length ≤ 9223372036854775807) (hr : ∀ r ∈ F, r.length ≤ 9223372036854775807) (hl' : G.length ≤ 9223372036854775807) (hG : ∀ g ∈ G, GuestMax g) :
    Ev (fun k => laws_szHost.f k F G h 1048576) (-1) ∨ ∃ n, Ev (fun k => laws_szHost.f k F G h 1048576) n ∧ 0 ≤ n ∧ ((F.length : Int) ≤ 1048576 ∧ ∀ r ∈ F, (r.length : Int) ≤ 1048576) ∧ (G.length : Int) ≤ 1048576 ∧ ∀ g ∈ G, GuestFit g := by
  unfold laws_szHost.f
  rcases szSS_ev F 1048576 (by omega) hl hr with a | ⟨n, a, n0, n1, n2, n3⟩
  · refine .inl (Ev.bind a ?_)
    simp only [show ((-1 : Int) < 0) = True by simp, if_true]; exact Ev.now _
  rcases szGuestS_ev G hl' hG n (by omega) with b | ⟨n', b, b0, b1, b2⟩
  · refine .inl (Ev.bind a ?_)
    simp only [if_neg (show ¬ n < 0 by omega)]
    refine Ev.bind b ?_
    simp only [show ((-1 : Int) < 0) = True by simp, if_true]; exact Ev.now _
  · refine .inr ⟨n', Ev.bind a ?_, b0, ⟨n2, n3⟩, b1, b2⟩
    simp only [if_neg (show ¬ n < 0 by omega)]
    refine Ev.bind b ?_
    simp only [if_neg (show ¬ n' < 0 by omega)]; exact Ev.now _
def toM (e : S99) : S83 := ⟨e.f0, e.f1, e.f2⟩
def toS (e : S101) : S86 := ⟨e.f0, e.f1, e.f2, e.f3⟩
def toG (g : S80) : S61 := ⟨g.f0.map toM, g.f1, g.f2.map toS⟩
theorem snoc_set {α : Type} (xs : List α) (z : α) (n : Nat) (y : α) : (xs ++ List.replicate (n + 1) z).set xs.length y = (xs ++ [y]) ++ List.replicate n z := by
  rw [List.set_append_right _ _ (Nat.le_refl _)]; simp [List.replicate_succ]
theorem toMapS_ev (l : List S99) (hl : (l.length : Int) ≤ 1048576) : Ev (fun k => laws_toMapS.f k l) (l.map toM) := by
  unfold laws_toMapS.f
  simp only [if_pos (Int.natCast_nonneg l.length), Int.toNat_natCast, if_pos (show l.length ≤ 11728124029610 by omega)]
  have H : ∀ d i : Nat, i + d = l.length → Ev (fun k => laws_toMapS.l0 k l ((l.take i).map toM ++ List.replicate d z83) (i : Int)) (l.map toM) := by
    intro d
    induction d with
    | zero =>
      intro i hi
      obtain rfl : i = l.length := by omega
      refine Ev.succ ?_
      simp only [laws_toMapS.l0, Int.lt_irrefl, if_false, List.take_length, List.replicate_zero, List.append_nil]
      exact Ev.now _
    | succ d ih =>
      intro i hi
      have hlt : i < l.length := by omega
      have ih' := ih (i + 1) (by omega)
      have er : rd_T99 l (i : Int) = l[i] := getD_at _ hlt
      refine Ev.succ ?_
      simp only [laws_toMapS.l0, if_pos (Int.ofNat_lt.mpr hlt), if_pos (Int.natCast_nonneg i), laws_toMap.f, Option.bind_some, er, wr1 i (by omega), Int.toNat_natCast]
      simp only [if_pos (show (i : Int) < (((l.take i).map toM ++ List.replicate (d + 1) z83).length : Int) by simp; omega)]
      have e := snoc_set ((l.take i).map toM) z83 d (toM l[i])
      rw [show ((l.take i).map toM).length = i by simp; omega] at e
      have e2 : (l.take i).map toM ++ [toM l[i]] = (l.take (i + 1)).map toM := by rw [List.take_succ_eq_append_getElem hlt, List.map_append]; rfl
      rw [e2] at e
      unfold toM at e ih' ⊢
      simp only [e]
      exact ih'
  exact H l.length 0 (by omega)
theorem toShadeS_ev (l : List S101) (hl : (l.length : Int) ≤ 1048576) : Ev (fun k => laws_toShadeS.f k l) (l.map toS) := by
  unfold laws_toShadeS.f
  simp only [if_pos (Int.natCast_nonneg l.length), Int.toNat_natCast, if_pos (show l.length ≤ 8796093022208 by omega)]
  have H : ∀ d i : Nat, i + d = l.length → Ev (fun k => laws_toShadeS.l0 k l ((l.take i).map toS ++ List.replicate d z86) (i : Int)) (l.map toS) := by
    intro d
    induction d with
    | zero =>
      intro i hi
      obtain rfl : i = l.length := by omega
      refine Ev.succ ?_
      simp only [laws_toShadeS.l0, Int.lt_irrefl, if_false, List.take_length, List.replicate_zero, List.append_nil]
      exact Ev.now _
    | succ d ih =>
      intro i hi
      have hlt : i < l.length := by omega
      have ih' := ih (i + 1) (by omega)
      have er : rd_T101 l (i : Int) = l[i] := getD_at _ hlt
      refine Ev.succ ?_
      simp only [laws_toShadeS.l0, if_pos (Int.ofNat_lt.mpr hlt), if_pos (Int.natCast_nonneg i), laws_toShade.f, Option.bind_some, er, wr1 i (by omega), Int.toNat_natCast]
      simp only [if_pos (show (i : Int) < (((l.take i).map toS ++ List.replicate (d + 1) z86).length : Int) by simp; omega)]
      have e := snoc_set ((l.take i).map toS) z86 d (toS l[i])
      rw [show ((l.take i).map toS).length = i by simp; omega] at e
      have e2 : (l.take i).map toS ++ [toS l[i]] = (l.take (i + 1)).map toS := by rw [List.take_succ_eq_append_getElem hlt, List.map_append]; rfl
      rw [e2] at e
      unfold toS at e ih' ⊢
      simp only [e]
      exact ih'
  exact H l.length 0 (by omega)
theorem toGuest_ev (g : S80) (hg : GuestFit g) : Ev (fun k => laws_toGuest.f k g.f0 g.f1 g.f2) ((toG g).f0, (toG g).f1, (toG g).f2) := by
  unfold laws_toGuest.f
  exact Ev.bind (toMapS_ev _ hg.1) (Ev.bind (toIntSS_ev _ hg.2.1.1 hg.2.1.2) (Ev.bind (toShadeS_ev _ hg.2.2) (Ev.now _)))
theorem toGuestS_ev (l : List S80) (hl : (l.length : Int) ≤ 1048576) (hg : ∀ g ∈ l, GuestFit g) : Ev (fun k => laws_toGuestS.f k l) (l.map toG) := by
  unfold laws_toGuestS.f
  simp only [if_pos (Int.natCast_nonneg l.length), Int.toNat_natCast, if_pos (show l.length ≤ 3909374676536 by omega)]
  have H : ∀ d i : Nat, i + d = l.length → Ev (fun k => laws_toGuestS.l0 k l ((l.take i).map toG ++ List.replicate d z61) (i : Int)) (l.map toG) := by
    intro d
    induction d with
    | zero =>
      intro i hi
      obtain rfl : i = l.length := by omega
      refine Ev.succ ?_
      simp only [laws_toGuestS.l0, Int.lt_irrefl, if_false, List.take_length, List.replicate_zero, List.append_nil]
      exact Ev.now _
    | succ d ih =>
      intro i hi
      have hlt : i < l.length := by omega
      have ih' := ih (i + 1) (by omega)
      have er : rd_T80 l (i : Int) = l[i] := getD_at _ hlt
      refine Ev.succ ?_
      simp only [laws_toGuestS.l0, if_pos (Int.ofNat_lt.mpr hlt), if_pos (Int.natCast_nonneg i), er, wr1 i (by omega), Int.toNat_natCast]
      refine Ev.bind (toGuest_ev l[i] (hg _ (List.getElem_mem hlt))) ?_
      simp only [if_pos (show (i : Int) < (((l.take i).map toG ++ List.replicate (d + 1) z61).length : Int) by simp; omega)]
      have e := snoc_set ((l.take i).map toG) z61 d (toG l[i])
      rw [show ((l.take i).map toG).length = i by simp; omega] at e
      have e2 : (l.take i).map toG ++ [toG l[i]] = (l.take (i + 1)).map toG := by rw [List.take_succ_eq_append_getElem hlt, List.map_append]; rfl
      rw [e2] at e
      rw [show (⟨(toG l[i]).f0, (toG l[i]).f1, (toG l[i]).f2⟩ : S61) = toG l[i] from rfl, e]
      exact ih'
  exact H l.length 0 (by omega)
theorem eqMapS_refl (l : List S83) (hl : (l.length : Int) ≤ 1000000000000) : Ev (fun k => laws_eqMapS.f k l l) true := by
  unfold laws_eqMapS.f
  simp only [if_true]
  have H := Ev.down (σ := Unit) (fun k i _ => laws_eqMapS.l0 k l l i) (fun i _ => true) l.length
    (fun _ => Ev.succ (by simp only [laws_eqMapS.l0, Int.lt_irrefl, if_false]; exact Ev.now _))
    (fun i hi ih _ => by
      refine Ev.succ ?_
      simp only [laws_eqMapS.l0, if_pos (Int.ofNat_lt.mpr hi), if_pos (Int.natCast_nonneg i), laws_eqMap.f, bne_self_eq_false, Bool.false_eq_true, if_false, if_true, Option.bind_some, wr1 i (by omega)]
      exact ih ())
  exact H ()
theorem eqShadeS_refl (l : List S86) (hl : (l.length : Int) ≤ 1000000000000) : Ev (fun k => laws_eqShadeS.f k l l) true := by
  unfold laws_eqShadeS.f
  simp only [if_true]
  have H := Ev.down (σ := Unit) (fun k i _ => laws_eqShadeS.l0 k l l i) (fun i _ => true) l.length
    (fun _ => Ev.succ (by simp only [laws_eqShadeS.l0, Int.lt_irrefl, if_false]; exact Ev.now _))
    (fun i hi ih _ => by
      refine Ev.succ ?_
      simp only [laws_eqShadeS.l0, if_pos (Int.ofNat_lt.mpr hi), if_pos (Int.natCast_nonneg i), laws_eqShade.f, bne_self_eq_false, Bool.false_eq_true, if_false, if_true, Option.bind_some, wr1 i (by omega)]
      exact ih ())
  exact H ()
theorem eqHost_refl (F : List (List Int)) (G : List S61) (h : Int) (hf : HostFit F G) : Ev (fun k => laws_eqHost.f k F G h F G h) true := by
  unfold laws_eqHost.f
  refine Ev.bind (eqIntSS_refl F hf.1) ?_
  simp only [if_true]
  have hq : Ev (fun k => laws_eqGuestS.f k G G) true := by
    unfold laws_eqGuestS.f
    simp only [if_true]
    have H := Ev.down (σ := Unit) (fun k i _ => laws_eqGuestS.l0 k G G i) (fun i _ => true) G.length
      (fun _ => Ev.succ (by simp only [laws_eqGuestS.l0, Int.lt_irrefl, if_false]; exact Ev.now _))
      (fun i hi ih _ => by
        have hg := hf.2.2 _ (List.getElem_mem hi)
        have hl := hf.2.1
        have hw : Ev (fun k => laws_eqGuest.f k G[i].f0 G[i].f1 G[i].f2 G[i].f0 G[i].f1 G[i].f2) true := by
          unfold laws_eqGuest.f
          refine Ev.bind (eqMapS_refl _ (by omega)) ?_
          simp only [if_true]
          refine Ev.bind (eqIntSS_refl _ hg.2.1) ?_
          simp only [if_true]
          refine Ev.bind (eqShadeS_refl _ (by omega)) ?_
          simp only [if_true]
          exact Ev.now _
        refine Ev.succ ?_
        simp only [laws_eqGuestS.l0, if_pos (Int.ofNat_lt.mpr hi), if_pos (Int.natCast_nonneg i), rdG_at hi, wr1 i (by omega)]
        refine Ev.bind hw ?_
        simp only [if_true]
        exact ih ())
    exact H ()
  refine Ev.bind hq ?_
  simp only [if_true]
  exact Ev.now _
def mkM (v : Int) (n : Nat) : List S83 := (List.range n).map fun (j : Nat) => (⟨(Int.tmod (v + 3 * (j : Int)) 3 == 0), v + 3 * (j : Int) + 1, (Int.tmod (v + 3 * (j : Int) + 1 + 1) 3 == 0)⟩ : S83)
theorem mkM_len (v : Int) (n : Nat) : (mkM v n).length = n := by simp [mkM]
theorem mkM_succ (v : Int) (n : Nat) : mkM v (n + 1) = mkM v n ++ [⟨(Int.tmod (v + 3 * (n : Int)) 3 == 0), v + 3 * (n : Int) + 1, (Int.tmod (v + 3 * (n : Int) + 1 + 1) 3 == 0)⟩] := by simp [mkM, List.range_succ]
theorem rdM_set {l : List S83} {i : Nat} (h : i < l.length) (e : S83) : rd_T83 (l.set i e) (i : Int) = e := by
  unfold rd_T83; rw [getD_at _ (show i < (l.set i e).length by simpa using h)]; simp
theorem markMapS_ev (l : List S83) (v : Int) (h0 : 0 ≤ v) (h1 : v + 3 * (l.length : Int) ≤ 4000000000000000000) : Ev (fun k => laws_markMapS.f k l v) (v + 3 * (l.length : Int), mkM v l.length) := by
  unfold laws_markMapS.f
  have H : ∀ d i : Nat, i + d = l.length → Ev (fun k => laws_markMapS.l0 k (mkM v i ++ l.drop i) (v + 3 * (i : Int)) (i : Int)) (v + 3 * (l.length : Int), mkM v l.length) := by
    intro d
    induction d with
    | zero =>
      intro i hi
      obtain rfl : i = l.length := by omega
      refine Ev.succ ?_
      simp only [laws_markMapS.l0, List.drop_length, List.append_nil, mkM_len, Int.lt_irrefl, if_false]
      exact Ev.now _
    | succ d ih =>
      intro i hi
      have hlt : i < l.length := by omega
      have hL : (mkM v i ++ l.drop i).length = l.length := by simp [mkM_len]; omega
      have hi2 : i < (mkM v i ++ l.drop i).length := by omega
      refine Ev.succ ?_
      simp only [laws_markMapS.l0, hL, if_pos (Int.ofNat_lt.mpr hlt), if_pos (Int.natCast_nonneg i), Option.bind_some, Int.toNat_natCast, wr1 i (by omega), wr (v + 3 * (i : Int) + 1) (by omega), wr (v + 3 * (i : Int) + 1 + 1) (by omega), wr (v + 3 * (i : Int) + 1 + 1 + 1) (by omega)]
      rw [rdM_set (show i < (_ : List S83).length by first | exact hi2 | (simp only [List.length_set]; exact hi2))]
      rw [rdM_set (show i < (_ : List S83).length by first | exact hi2 | (simp only [List.length_set]; exact hi2))]
      simp only [List.set_set]
      have e : (mkM v i ++ l.drop i).set i ⟨(Int.tmod (v + 3 * (i : Int)) 3 == 0), v + 3 * (i : Int) + 1, (Int.tmod (v + 3 * (i : Int) + 1 + 1) 3 == 0)⟩ = mkM v (i + 1) ++ l.drop (i + 1) := by
        rw [drop_cons hlt, List.set_append_right _ _ (by simp [mkM_len]), mkM_len, Nat.sub_self, List.set_cons_zero, mkM_succ]; simp
      rw [e, show v + 3 * (i : Int) + 1 + 1 + 1 = v + 3 * ((i + 1 : Nat) : Int) by omega]
      exact ih (i + 1) (by omega)
  have := H l.length 0 (by omega)
  simpa [mkM] using this
def mkSh (v : Int) (n : Nat) : List S86 := (List.range n).map fun (j : Nat) => (⟨(Int.tmod (v + 4 * (j : Int)) 3 == 0), v + 4 * (j : Int) + 1, v + 4 * (j : Int) + 1 + 1, (Int.tmod (v + 4 * (j : Int) + 1 + 1 + 1) 3 == 0)⟩ : S86)
theorem mkSh_len (v : Int) (n : Nat) : (mkSh v n).length = n := by simp [mkSh]
theorem mkSh_succ (v : Int) (n : Nat) : mkSh v (n + 1) = mkSh v n ++ [⟨(Int.tmod (v + 4 * (n : Int)) 3 == 0), v + 4 * (n : Int) + 1, v + 4 * (n : Int) + 1 + 1, (Int.tmod (v + 4 * (n : Int) + 1 + 1 + 1) 3 == 0)⟩] := by simp [mkSh, List.range_succ]
theorem rdSh_set {l : List S86} {i : Nat} (h : i < l.length) (e : S86) : rd_T86 (l.set i e) (i : Int) = e := by
  unfold rd_T86; rw [getD_at _ (show i < (l.set i e).length by simpa using h)]; simp
theorem markShadeS_ev (l : List S86) (v : Int) (h0 : 0 ≤ v) (h1 : v + 4 * (l.length : Int) ≤ 4000000000000000000) : Ev (fun k => laws_markShadeS.f k l v) (v + 4 * (l.length : Int), mkSh v l.length) := by
  unfold laws_markShadeS.f
  have H : ∀ d i : Nat, i + d = l.length → Ev (fun k => laws_markShadeS.l0 k (mkSh v i ++ l.drop i) (v + 4 * (i : Int)) (i : Int)) (v + 4 * (l.length : Int), mkSh v l.length) := by
    intro d
    induction d with
    | zero =>
      intro i hi
      obtain rfl : i = l.length := by omega
      refine Ev.succ ?_
      simp only [laws_markShadeS.l0, List.drop_length, List.append_nil, mkSh_len, Int.lt_irrefl, if_false]
      exact Ev.now _
    | succ d ih =>
      intro i hi
      have hlt : i < l.length := by omega
      have hL : (mkSh v i ++ l.drop i).length = l.length := by simp [mkSh_len]; omega
      have hi2 : i < (mkSh v i ++ l.drop i).length := by omega
      refine Ev.succ ?_
      simp only [laws_markShadeS.l0, hL, if_pos (Int.ofNat_lt.mpr hlt), if_pos (Int.natCast_nonneg i), Option.bind_some, Int.toNat_natCast, wr1 i (by omega), wr (v + 4 * (i : Int) + 1) (by omega), wr (v + 4 * (i : Int) + 1 + 1) (by omega), wr (v + 4 * (i : Int) + 1 + 1 + 1) (by omega), wr (v + 4 * (i : Int) + 1 + 1 + 1 + 1) (by omega)]
      rw [rdSh_set (show i < (_ : List S86).length by first | exact hi2 | (simp only [List.length_set]; exact hi2))]
      rw [rdSh_set (show i < (_ : List S86).length by first | exact hi2 | (simp only [List.length_set]; exact hi2))]
      rw [rdSh_set (show i < (_ : List S86).length by first | exact hi2 | (simp only [List.length_set]; exact hi2))]
      simp only [List.set_set]
      have e : (mkSh v i ++ l.drop i).set i ⟨(Int.tmod (v + 4 * (i : Int)) 3 == 0), v + 4 * (i : Int) + 1, v + 4 * (i : Int) + 1 + 1, (Int.tmod (v + 4 * (i : Int) + 1 + 1 + 1) 3 == 0)⟩ = mkSh v (i + 1) ++ l.drop (i + 1) := by
        rw [drop_cons hlt, List.set_append_right _ _ (by simp [mkSh_len]), mkSh_len, Nat.sub_self, List.set_cons_zero, mkSh_succ]; simp
      rw [e, show v + 4 * (i : Int) + 1 + 1 + 1 + 1 = v + 4 * ((i + 1 : Nat) : Int) by omega]
      exact ih (i + 1) (by omega)
  have := H l.length 0 (by omega)
  simpa [mkSh] using this
def gTot (g : S61) : Int := 3 * (g.f0.length : Int) + tot g.f1 + 4 * (g.f2.length : Int)
def hTot : List S61 → Int
  | [] => 0
  | g :: gs => gTot g + hTot gs
def mkG (v : Int) (g : S61) : S61 := ⟨mkM v g.f0.length, mkSS (v + 3 * (g.f0.length : Int)) g.f1, mkSh (v + 3 * (g.f0.length : Int) + tot g.f1) g.f2.length⟩
def mkGS : Int → List S61 → List S61
  | _, [] => []
  | v, g :: gs => mkG v g :: mkGS (v + gTot g) gs
theorem gTot_nonneg (g : S61) : 0 ≤ gTot g := by have := tot_nonneg g.f1; unfold gTot; omega
theorem hTot_nonneg : ∀ l : List S61, 0 ≤ hTot l
  | [] => by simp [hTot]
  | g :: gs => by have := hTot_nonneg gs; have := gTot_nonneg g; simp only [hTot]; omega
theorem rdG_mid (a : List S61) (r : S61) (b : List S61) : rd_T61 (a ++ r :: b) (a.length : Int) = r := by
  unfold rd_T61; rw [Int.toNat_natCast, List.getD_eq_getElem?_getD, List.getElem?_append_right (Nat.le_refl _)]; simp
def GSm (G : List S61) : Prop := (G.length : Int) ≤ 1000000000000 ∧ ∀ g ∈ G, (g.f1.length : Int) ≤ 1000000000000
theorem markGuestS_ev (l : List S61) (v : Int) (h0 : 0 ≤ v) (h1 : v + hTot l ≤ 4000000000000000000) (hs : GSm l) : Ev (fun k => laws_markGuestS.f k l v) (v + hTot l, mkGS v l) := by
  unfold laws_markGuestS.f
  have H : ∀ (rest done : List S61) (v : Int), 0 ≤ v → v + hTot rest ≤ 4000000000000000000 → (done.length : Int) + (rest.length : Int) ≤ 1000000000000 → (∀ g ∈ rest, (g.f1.length : Int) ≤ 1000000000000) → Ev (fun k => laws_markGuestS.l0 k (done ++ rest) v (done.length : Int)) (v + hTot rest, done ++ mkGS v rest) := by
    intro rest
    induction rest with
    | nil =>
      intro done v _ _ _ _
      refine Ev.succ ?_
      simp only [laws_markGuestS.l0, List.append_nil, Int.lt_irrefl, if_false]
      exact Ev.cast (by simp [hTot, mkGS]) (Ev.now _)
    | cons g gs ih =>
      intro done v a b c hd
      have tn := hTot_nonneg gs
      have gn := tot_nonneg g.f1
      have gl := hd g List.mem_cons_self
      simp only [hTot, gTot, List.length_cons] at b c
      refine Ev.succ ?_
      simp only [laws_markGuestS.l0, if_pos (show (done.length : Int) < ((done ++ g :: gs).length : Int) by simp only [List.length_append, List.length_cons]; omega), if_pos (Int.natCast_nonneg done.length), rdG_mid, wr1 done.length (by omega)]
      refine Ev.bind (markMapS_ev g.f0 v a (by omega)) ?_
      refine Ev.bind (markIntSS_ev g.f1 _ (by first | omega | (simp only; omega)) (by first | omega | (simp only; omega)) (by omega)) ?_
      refine Ev.bind (markShadeS_ev g.f2 _ (by first | omega | (simp only; omega)) (by first | omega | (simp only; omega))) ?_
      have e : (done ++ g :: gs).set ((done.length : Int)).toNat (mkG v g) = (done ++ [mkG v g]) ++ gs := by
        rw [Int.toNat_natCast, List.set_append_right _ _ (Nat.le_refl _), Nat.sub_self, List.set_cons_zero]; simp
      show Ev (fun k => laws_markGuestS.l0 k ((done ++ g :: gs).set ((done.length : Int)).toNat (mkG v g)) (v + 3 * (g.f0.length : Int) + tot g.f1 + 4 * (g.f2.length : Int)) ((done.length + 1 : Nat) : Int)) _
      rw [e]
      have := ih (done ++ [mkG v g]) (v + 3 * (g.f0.length : Int) + tot g.f1 + 4 * (g.f2.length : Int)) (by omega) (by omega) (by simp only [List.length_append, List.length_cons, List.length_nil]; omega) (fun x hx => hd x (List.mem_cons_of_mem _ hx))
      rw [show ((done ++ [mkG v g]).length : Int) = ((done.length + 1 : Nat) : Int) by simp] at this
      refine Ev.cast ?_ this
      have q : v + gTot g = v + 3 * (g.f0.length : Int) + tot g.f1 + 4 * (g.f2.length : Int) := by unfold gTot; omega
      simp only [hTot, mkGS, q, Prod.mk.injEq, List.append_assoc, List.singleton_append, and_true]
      omega
  have := H l [] v h0 h1 (by simpa using hs.1) hs.2
  simpa using this
theorem markHost_ev (F : List (List Int)) (G : List S61) (h v : Int) (h0 : 0 ≤ v) (h1 : v + tot F + hTot G ≤ 4000000000000000000) (hF : (F.length : Int) ≤ 1000000000000) (hs : GSm G) : Ev (fun k => laws_markHost.f k F G h v) (v + tot F + hTot G, mkSS v F, mkGS (v + tot F) G) := by
  have a := tot_nonneg F
  have b := hTot_nonneg G
  unfold laws_markHost.f
  exact Ev.bind (markIntSS_ev F v h0 (by omega) (by omega)) (Ev.bind (markGuestS_ev G (v + tot F) (by omega) h1 hs) (Ev.now _))
def HostSz (F : List (List Int)) (G : List S61) : Prop := Fit F ∧ (G.length : Int) ≤ 1048576 ∧ ∀ g ∈ G, (g.f0.length : Int) ≤ 1048576 ∧ Fit g.f1 ∧ (g.f2.length : Int) ≤ 1048576
theorem hTot_le (B : Int) (hB : 0 ≤ B) : ∀ l : List S61, (∀ g ∈ l, gTot g ≤ B) → hTot l ≤ B * (l.length : Int)
  | [], _ => by simp [hTot]
  | g :: gs, h => by
    have h1 := h g List.mem_cons_self
    have h2 := hTot_le B hB gs fun x hx => h x (List.mem_cons_of_mem _ hx)
    simp only [hTot, List.length_cons]
    rw [show ((gs.length + 1 : Nat) : Int) = (gs.length : Int) + 1 by omega, Int.mul_add, Int.mul_one]
    omega
theorem hostSz_tot {F : List (List Int)} {G : List S61} (h : HostSz F G) : tot F + hTot G ≤ 3000000000000000000 := by
  obtain ⟨hF, hl, hg⟩ := h
  have a := fit_tot hF
  have b := hTot_le 2100000000000 (by omega) G (fun g hx => by
    obtain ⟨x, y, z⟩ := hg g hx
    have := fit_tot y
    unfold gTot
    omega)
  omega
theorem hostSz_gsm {F : List (List Int)} {G : List S61} (h : HostSz F G) : GSm G := ⟨by have := h.2.1; omega, fun g hg => by have := (h.2.2 g hg).2.1.1; omega⟩
theorem hostSz_fit {F : List (List Int)} {G : List S61} (h : HostSz F G) : HostFit F G := ⟨fit_small h.1, h.2.1, fun g hg => ⟨(h.2.2 g hg).1, fit_small (h.2.2 g hg).2.1, (h.2.2 g hg).2.2⟩⟩

-- the law
def freeL (G : List S61) (n : Nat) : List Int := ((List.range n).filter (fun (p : Nat) => cntG G ((p : Nat) : Int) == 0)).map (fun (p : Nat) => ((p : Nat) : Int))
theorem freeL_succ (G : List S61) (n : Nat) : freeL G (n + 1) = if cntG G (n : Int) = 0 then freeL G n ++ [(n : Int)] else freeL G n := by
  unfold freeL
  rw [List.range_succ, List.filter_append, List.map_append]
  by_cases c : cntG G (n : Int) = 0
  · rw [if_pos c, List.filter_cons_of_pos (by simp [c])]; rfl
  · rw [if_neg c, List.filter_cons_of_neg (by simp [c])]; simp
theorem freeL_len (G : List S61) (n : Nat) : (freeL G n).length ≤ n := by
  unfold freeL
  rw [List.length_map]
  exact Nat.le_trans (List.length_filter_le _ _) (by simp)
def hostFreeL (F : List (List Int)) (G : List S61) (h : Int) : List Int := if hostB F G h = true then freeL G 8 else []
theorem hostFreeL_len (F : List (List Int)) (G : List S61) (h : Int) : (hostFreeL F G h).length ≤ 8 := by
  unfold hostFreeL
  by_cases c : hostB F G h = true
  · rw [if_pos c]; exact freeL_len G 8
  · rw [if_neg c]; simp
theorem hostB_two {F : List (List Int)} {G : List S61} {h : Int} (c : hostB F G h = true) : G.length ≤ 2 := by
  simp only [hostB, Bool.and_eq_true] at c
  have := wi_iff.mp c.2.2.1
  omega
theorem iFree_ev (F : List (List Int)) (G : List S61) (h : Int) (hf : HostFit F G) : Ev (fun k => impl_HostFree.f k F G h) (hostFreeL F G h) := by
  unfold impl_HostFree.f hostFreeL
  refine Ev.bind (iHostOk_ev F G h hf) ?_
  by_cases c : hostB F G h = true
  · rw [c]
    simp only [if_true]
    refine Ev.bind ?_ (Ev.now _)
    unfold impl_Host_free.f
    have H : ∀ d i : Nat, i + d = 8 → Ev (fun k => impl_Host_free.l0 k (freeL G i) (i : Int) F G h) (freeL G 8) := by
      intro d
      induction d with
      | zero =>
        intro i hi
        obtain rfl : i = 8 := by omega
        refine Ev.succ ?_
        simp only [impl_Host_free.l0]
        exact Ev.now _
      | succ d ih =>
        intro i hi
        refine Ev.succ ?_
        simp only [impl_Host_free.l0, if_pos (show (i : Int) < 8 by omega)]
        refine Ev.bind (iMany_ev F G h _ hf (hostB_two c)) ?_
        have g := ih (i + 1) (by omega)
        rw [freeL_succ] at g
        by_cases z : cntG G (i : Int) = 0
        · rw [if_pos z] at g
          have hl := freeL_len G i
          simp only [if_pos (show ((cntG G (i : Int) : Nat) : Int) = 0 by omega), if_pos (show (freeL G i).length < 17592186044416 by omega), wr1 i (by omega)]
          exact g
        · rw [if_neg z] at g
          simp only [if_neg (show ¬ ((cntG G (i : Int) : Nat) : Int) = 0 by omega), wr1 i (by omega)]
          exact g
    exact H 8 0 (by omega)
  · rw [Bool.eq_false_iff.mpr c]
    simp only [Bool.false_eq_true, if_false]
    exact Ev.now _
theorem sFree_ev (F : List (List Int)) (G : List S61) (h : Int) (hf : HostFit F G) : Ev (fun k => spec_HostFree.f k F G h) (hostFreeL F G h) := by
  unfold spec_HostFree.f hostFreeL
  refine Ev.bind (Ev.now _) (Ev.bind (sHostOk_ev F G h hf) ?_)
  by_cases c : hostB F G h = true
  · rw [c]
    simp only [if_true]
    have H : ∀ d i : Nat, i + d = 8 → Ev (fun k => spec_HostFree.l0 k (freeL G i) (i : Int) F G h) (freeL G 8) := by
      intro d
      induction d with
      | zero =>
        intro i hi
        obtain rfl : i = 8 := by omega
        refine Ev.succ ?_
        simp only [spec_HostFree.l0]
        exact Ev.now _
      | succ d ih =>
        intro i hi
        refine Ev.succ ?_
        simp only [spec_HostFree.l0, if_pos (show (i : Int) < 8 by omega)]
        refine Ev.bind (sUsers_ev F G h _ hf (hostB_two c)) ?_
        have g := ih (i + 1) (by omega)
        rw [freeL_succ] at g
        by_cases z : cntG G (i : Int) = 0
        · rw [if_pos z] at g
          have hl := freeL_len G i
          simp only [if_pos (show ((cntG G (i : Int) : Nat) : Int) = 0 by omega), if_pos (show (freeL G i).length < 17592186044416 by omega), wr1 i (by omega)]
          exact g
        · rw [if_neg z] at g
          simp only [if_neg (show ¬ ((cntG G (i : Int) : Nat) : Int) = 0 by omega), wr1 i (by omega)]
          exact g
    exact H 8 0 (by omega)
  · rw [Bool.eq_false_iff.mpr c]
    simp only [Bool.false_eq_true, if_false]
    exact Ev.now _
theorem FnExactHostFree (F : List (List Int)) (G : List S80) (h : Int) (hl : F.length ≤ 9223372036854775807) (hr : ∀ r ∈ F, r.length ≤ 9223372036854775807) (hl' : G.length ≤ 9223372036854775807)
    (hG : ∀ g ∈ G, g.f0.length ≤ 9223372036854775807 ∧ (g.f1.length ≤ 9223372036854775807 ∧ ∀ r ∈ g.f1, r.length ≤ 9223372036854775807) ∧ g.f2.length ≤ 9223372036854775807) (_ : (Lit.int .i64 h).wf = true) : ∃ k, laws_FnExactHostFree.f k F G h = some true := by
  apply Ev.rounds
  unfold laws_FnExactHostFree.f
  rcases szHost_ev F G h hl hr hl' hG with e | ⟨n, e, n0, hF, hGl, hGf⟩
  · refine Ev.bind e ?_
    simp only [show ((-1 : Int) < 0) = True by simp, if_true]; exact Ev.now _
  refine Ev.bind e ?_
  simp only [if_neg (show ¬ n < 0 by omega)]
  have T : Ev (fun k => laws_toHost.f k F G h) (F, G.map toG, h) := by
    unfold laws_toHost.f
    exact Ev.bind (toIntSS_ev F hF.1 hF.2) (Ev.bind (toGuestS_ev G hGl hGf) (Ev.now _))
  have hz : HostSz F (G.map toG) := by
    refine ⟨hF, by simpa using hGl, fun g hg => ?_⟩
    obtain ⟨x, hx, rfl⟩ := List.mem_map.mp hg
    have := hGf x hx
    exact ⟨by simpa [toG] using this.1, this.2.1, by simpa [toG] using this.2.2⟩
  generalize G.map toG = G' at T hz
  have hf := hostSz_fit hz
  have ht := hostSz_tot hz
  have tF := tot_nonneg F
  have tG := hTot_nonneg G'
  have S := sFree_ev F G' h hf
  have I := iFree_ev F G' h hf
  have hL := hostFreeL_len F G' h
  generalize hostFreeL F G' h = L at S I hL
  have E := eqIntS_refl L (by omega)
  have Hd := heldIntS_ev L.length 1 (by omega) (by omega)
  refine Ev.bind T (Ev.bind S (Ev.bind T (Ev.bind I (Ev.bind E ?_))))
  simp only [if_true]
  refine Ev.bind T (Ev.bind (eqHost_refl _ _ _ hf) ?_)
  simp only [if_true]
  refine Ev.bind (markHost_ev F G' h 1 (by omega) (by omega) (by have := hF.1; omega) (hostSz_gsm hz)) ?_
  simp only [if_neg (show ¬ 1 + tot F + hTot G' < 0 by omega)]
  refine Ev.bind E ?_
  simp only [if_true]
  refine Ev.bind (markIntS_ev L 1 (by omega) (by omega)) (Ev.bind Hd ?_)
  simp only [if_neg (show ¬ 1 + (L.length : Int) < 0 by omega), if_true]
  refine Ev.bind T (Ev.bind I (Ev.bind E ?_))
  simp only [if_true]
  refine Ev.bind Hd ?_
  simp only [if_neg (show ¬ 1 + (L.length : Int) < 0 by omega), if_true]
  exact Ev.now _

end Go.Proofs.Ytjgcfpclddfifaa.Pure
