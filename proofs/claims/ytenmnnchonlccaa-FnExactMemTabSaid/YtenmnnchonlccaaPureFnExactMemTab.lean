/- The pure side of the law FnExactMemTab: what the printed functions compute answers true. Conditions: none beyond the statement given. -/
import Derived.Test.YtenmnnchonlccaaQFnExactMemTabx0
import Derived.Test.YtenmnnchonlccaaQFnExactMemTabx1
import Derived.Test.YtenmnnchonlccaaQFnExactMemTabx2
import Derived.Test.YtenmnnchonlccaaQFnExactMemTabx3
import Derived.Test.YtenmnnchonlccaaQFnExactMemTabx4
import Derived.Test.YtenmnnchonlccaaQFnExactMemTabx5
import Derived.Laws.BitsLemmas
namespace Go.Proofs.Ytenmnnchonlccaa.Pure
open Go Go.RowKit Go.Proofs.Ytenmnnchonlccaa.QFnExactMemTab Go.Proofs.YtenmnnchonlccaaW.PrintWords Go.Proofs.YtenmnnchonlccaaW.PrintLast
set_option linter.unusedVariables false
set_option linter.unusedSimpArgs false

theorem Ev.succ {α : Type} {g : Nat → Option α} {r : α} (h : Ev (fun k => g (k + 1)) r) : Ev g r := Ev.step (fun _ => rfl) h
theorem Ev.cast {α : Type} {g : Nat → Option α} {r r' : α} (e : r = r') (h : Ev g r) : Ev g r' := e ▸ h
theorem wr (n : Int) (h : -9223372036854775808 ≤ n ∧ n ≤ 9223372036854775807) : wrap64 n = n := by unfold wrap64; omega
theorem wr1 (i : Nat) (h : (i : Int) ≤ 1000000000000000000) : wrap64 ((i : Int) + 1) = ((i + 1 : Nat) : Int) := by rw [wr _ (by omega)]; rfl
theorem Ev.down {σ ρ : Type} (g : Nat → Int → σ → Option ρ) (R : Nat → σ → ρ) (n : Nat) (hend : ∀ st, Ev (fun k => g k n st) (R n st))
    (hstep : ∀ i : Nat, i < n → (∀ st, Ev (fun k => g k ((i + 1 : Nat) : Int) st) (R (i + 1) st)) → ∀ st, Ev (fun k => g k (i : Int) st) (R i st)) :
    ∀ st, Ev (fun k => g k 0 st) (R 0 st) := by
  have H : ∀ d i : Nat, i + d = n → ∀ st, Ev (fun k => g k (i : Int) st) (R i st) := by
    intro d
    induction d with
    | zero => intro i hi st; obtain rfl : i = n := by omega
              exact hend st
    | succ d ih => intro i hi; exact hstep i (by omega) (ih (i + 1) (by omega))
  exact H n 0 (by omega)
theorem drop_cons {α : Type} {l : List α} {i : Nat} (h : i < l.length) : l.drop i = l[i] :: l.drop (i + 1) := List.drop_eq_getElem_cons h
theorem rd_at {l : List Int} {i : Nat} (h : i < l.length) : rd l (i : Int) = l[i] := by simp [rd, h]
theorem getD_at {α : Type} {l : List α} {i : Nat} (z : α) (h : i < l.length) : l.getD ((i : Int)).toNat z = l[i] := by simp [h]
def wi (a lo hi : Int) : Bool := decide (lo ≤ a) && decide (a ≤ hi)
theorem wi_iff {a lo hi : Int} : wi a lo hi = true ↔ lo ≤ a ∧ a ≤ hi := by simp [wi]
theorem l6In_eq (a lo hi : Int) : spec_l6In.f a lo hi = some (wi a lo hi) := by
  unfold spec_l6In.f wi
  by_cases h : a ≥ lo
  · rw [if_pos h]; simp [h]
  · rw [if_neg h]; simp; omega
theorem within_eq (a lo hi : Int) : impl_within.f a lo hi = some (wi a lo hi) := by
  unfold impl_within.f wi
  by_cases h : a ≥ lo
  · rw [if_pos h]; simp [h]
  · rw [if_neg h]; simp; omega
def eof (n : Int) : Bool × Int × Bool := if 5 ≤ n ∧ n ≤ 12 then (true, (n - 1) / 2, decide (n % 2 = 0)) else (false, 0, false)
theorem iEof_20 (n : Int) : impl_EntryOf.f 20 n = if 5 = n then some (true, 2, false) else if 6 = n then some (true, 2, true) else if 7 = n then some (true, 3, false) else if 8 = n then some (true, 3, true) else if 9 = n then some (true, 4, false) else if 10 = n then some (true, 4, true) else if 11 = n then some (true, 5, false) else if 12 = n then some (true, 5, true) else some (false, 0, false) := by kernel_rfl
theorem iEof_ev (n : Int) : Ev (fun k => impl_EntryOf.f k n) (eof n) := by
  refine Ev.of (fun k => impl_EntryOf.mono n k) (k := 20) ?_
  rw [iEof_20]
  by_cases h : 5 ≤ n ∧ n ≤ 12
  · obtain rfl | rfl | rfl | rfl | rfl | rfl | rfl | rfl : n = 5 ∨ n = 6 ∨ n = 7 ∨ n = 8 ∨ n = 9 ∨ n = 10 ∨ n = 11 ∨ n = 12 := by omega
    all_goals rfl
  · unfold eof; rw [if_neg h]
    rw [if_neg (by omega), if_neg (by omega), if_neg (by omega), if_neg (by omega), if_neg (by omega), if_neg (by omega), if_neg (by omega), if_neg (by omega)]
theorem tdiv2 (x : Int) (h : 0 ≤ x) : Int.tdiv x 2 = x / 2 := Int.tdiv_eq_ediv_of_nonneg h
theorem tmod2 (x : Int) (h : 0 ≤ x) : Int.tmod x 2 = x % 2 := Int.tmod_eq_emod_of_nonneg h
theorem sEof_eq (n : Int) (h1 : -9223372036854775808 ≤ n) (h2 : n ≤ 9223372036854775807) : spec_EntryOf.f n = some (eof n) := by
  unfold spec_EntryOf.f eof
  by_cases h : n < 1
  · rw [if_pos h, if_neg (by omega)]
  · rw [if_neg h, wr (n - 1) (by omega), tdiv2 _ (by omega), wr ((n - 1) / 2) (by omega), l6In_eq, tmod2 _ (by omega), Option.bind_some]
    by_cases g : 5 ≤ n ∧ n ≤ 12
    · rw [if_pos g, if_pos (wi_iff.mpr (by omega))]; rfl
    · rw [if_neg g, if_neg (by rw [wi_iff]; omega)]
theorem rdE_at {l : List S48} {i : Nat} (h : i < l.length) : rd_T48 l (i : Int) = l[i] := getD_at _ h
theorem set_snoc {α : Type} (xs : List α) (z : α) (n : Nat) (y : α) : (xs ++ List.replicate (n + 1) z).set xs.length y = (xs ++ [y]) ++ List.replicate n z := by
  rw [List.set_append_right _ _ (Nat.le_refl _)]; simp [List.replicate_succ]
theorem eqEntryS_refl (l : List S48) (hl : (l.length : Int) ≤ 1000000000000000) : Ev (fun k => laws_eqEntryS.f k l l) true := by
  unfold laws_eqEntryS.f
  simp only [if_true]
  have H := Ev.down (σ := Unit) (fun k i _ => laws_eqEntryS.l0 k l l i) (fun i _ => true) l.length
    (fun _ => Ev.succ (by simp only [laws_eqEntryS.l0, Int.lt_irrefl, if_false]; exact Ev.now _))
    (fun i hi ih _ => by
      refine Ev.succ ?_
      simp only [laws_eqEntryS.l0, if_pos (Int.ofNat_lt.mpr hi), if_pos (Int.natCast_nonneg i), laws_eqEntry.f, bne_self_eq_false, Bool.false_eq_true, if_false, if_true, Option.bind_some, wr1 i (by omega)]
      exact ih ())
  exact H ()
def mkE (v : Int) (n : Nat) : List S48 := (List.range n).map fun (j : Nat) => (⟨(Int.tmod (v + 3 * (j : Int)) 3 == 0), v + 3 * (j : Int) + 1, (Int.tmod (v + 3 * (j : Int) + 1 + 1) 3 == 0)⟩ : S48)
theorem mkE_len (v : Int) (n : Nat) : (mkE v n).length = n := by simp [mkE]
theorem mkE_succ (v : Int) (n : Nat) : mkE v (n + 1) = mkE v n ++ [⟨(Int.tmod (v + 3 * (n : Int)) 3 == 0), v + 3 * (n : Int) + 1, (Int.tmod (v + 3 * (n : Int) + 1 + 1) 3 == 0)⟩] := by simp [mkE, List.range_succ]
theorem rdE_set {l : List S48} {i : Nat} (h : i < l.length) (e : S48) : rd_T48 (l.set i e) (i : Int) = e := by
  rw [rdE_at (show i < (l.set i e).length by simpa using h)]; simp
theorem markEntry_ev (l : List S48) (v : Int) (h0 : 0 ≤ v) (h1 : v ≤ 10000000) (hl : (l.length : Int) ≤ 10000000) : Ev (fun k => laws_markEntryS.f k l v) (v + 3 * (l.length : Int), mkE v l.length) := by
  unfold laws_markEntryS.f
  have H : ∀ d i : Nat, i + d = l.length → Ev (fun k => laws_markEntryS.l0 k (mkE v i ++ l.drop i) (v + 3 * (i : Int)) (i : Int)) (v + 3 * (l.length : Int), mkE v l.length) := by
    intro d
    induction d with
    | zero =>
      intro i hi
      obtain rfl : i = l.length := by omega
      refine Ev.succ ?_
      simp only [laws_markEntryS.l0, List.drop_length, List.append_nil, mkE_len, Int.lt_irrefl, if_false]
      exact Ev.now _
    | succ d ih =>
      intro i hi
      have hlt : i < l.length := by omega
      have hL : (mkE v i ++ l.drop i).length = l.length := by simp [mkE_len]; omega
      have hi2 : i < (mkE v i ++ l.drop i).length := by omega
      refine Ev.succ ?_
      simp only [laws_markEntryS.l0, hL, if_pos (Int.ofNat_lt.mpr hlt), if_pos (Int.natCast_nonneg i), Option.bind_some, Int.toNat_natCast, wr1 i (by omega), wr (v + 3 * (i : Int) + 1) (by omega), wr (v + 3 * (i : Int) + 1 + 1) (by omega), wr (v + 3 * (i : Int) + 1 + 1 + 1) (by omega)]
      rw [rdE_set hi2, rdE_set (show i < ((mkE v i ++ l.drop i).set i _).length by simp only [List.length_set]; exact hi2)]
      simp only [List.set_set]
      have e : (mkE v i ++ l.drop i).set i ⟨(Int.tmod (v + 3 * (i : Int)) 3 == 0), v + 3 * (i : Int) + 1, (Int.tmod (v + 3 * (i : Int) + 1 + 1) 3 == 0)⟩ = mkE v (i + 1) ++ l.drop (i + 1) := by
        rw [drop_cons hlt, List.set_append_right _ _ (by simp [mkE_len]), mkE_len, Nat.sub_self, List.set_cons_zero, mkE_succ]; simp
      rw [e, show v + 3 * (i : Int) + 1 + 1 + 1 = v + 3 * ((i + 1 : Nat) : Int) by omega]
      exact ih (i + 1) (by omega)
  have := H l.length 0 (by omega)
  simpa [mkE] using this
theorem heldEntry_ev (n : Nat) (v : Int) (h0 : 0 ≤ v) (h1 : v ≤ 10000000) (hl : (n : Int) ≤ 10000000) : Ev (fun k => laws_heldEntryS.f k (mkE v n) v) (v + 3 * (n : Int)) := by
  unfold laws_heldEntryS.f
  have H : ∀ d i : Nat, i + d = n → Ev (fun k => laws_heldEntryS.l0 k (mkE v n) (v + 3 * (i : Int)) (i : Int)) (v + 3 * (n : Int)) := by
    intro d
    induction d with
    | zero =>
      intro i hi
      obtain rfl : i = n := by omega
      refine Ev.succ ?_
      simp only [laws_heldEntryS.l0, mkE_len, Int.lt_irrefl, if_false]
      exact Ev.now _
    | succ d ih =>
      intro i hi
      have hlt : i < n := by omega
      have e : rd_T48 (mkE v n) (i : Int) = ⟨(Int.tmod (v + 3 * (i : Int)) 3 == 0), v + 3 * (i : Int) + 1, (Int.tmod (v + 3 * (i : Int) + 1 + 1) 3 == 0)⟩ := by
        rw [rdE_at (show i < (mkE v n).length by rw [mkE_len]; exact hlt)]; simp [mkE]
      refine Ev.succ ?_
      simp only [laws_heldEntryS.l0, mkE_len, if_pos (Int.ofNat_lt.mpr hlt), if_pos (Int.natCast_nonneg i), wr1 i (by omega), wr (v + 3 * (i : Int) + 1) (by omega), wr (v + 3 * (i : Int) + 1 + 1) (by omega), wr (v + 3 * (i : Int) + 1 + 1 + 1) (by omega), e, bne_self_eq_false, Bool.false_eq_true, if_false, if_true]
      rw [show v + 3 * (i : Int) + 1 + 1 + 1 = v + 3 * ((i + 1 : Nat) : Int) by omega]
      exact ih (i + 1) (by omega)
  have := H n 0 (by omega)
  simpa using this
theorem rdL_at {l : List (List Int)} {i : Nat} (h : i < l.length) : rd_L1 l (i : Int) = l[i] := getD_at _ h
def pageB (p : List Int) : Bool := p.all (fun w => wi w 0 63) && ((p.length : Int) == 4)
def memB (m : List (List Int)) : Bool := m.all pageB
def Small (m : List (List Int)) : Prop := (m.length : Int) ≤ 1000000000000 ∧ ∀ r ∈ m, (r.length : Int) ≤ 1000000000000
theorem rdL_mem {m : List (List Int)} {i : Int} (h0 : 0 ≤ i) (h : i < m.length) : rd_L1 m i ∈ m := by
  have e : i = ((i.toNat : Nat) : Int) := by omega
  rw [e, rdL_at (show i.toNat < m.length by omega)]; exact List.getElem_mem _
theorem memB_page {m : List (List Int)} (h : memB m = true) {r : List Int} (hr : r ∈ m) : pageB r = true := List.all_eq_true.mp h r hr
theorem page_len {r : List Int} (h : pageB r = true) : r.length = 4 := by
  simp [pageB] at h; omega
theorem page_word {r : List Int} (h : pageB r = true) {i : Int} (h0 : 0 ≤ i) (h1 : i < 4) : 0 ≤ rd r i ∧ rd r i ≤ 63 := by
  have hl := page_len h
  have e : i = ((i.toNat : Nat) : Int) := by omega
  rw [e, rd_at (show i.toNat < r.length by omega)]
  simp only [pageB, Bool.and_eq_true, List.all_eq_true] at h
  exact wi_iff.mp (h.1 _ (List.getElem_mem _))
theorem sPage_ev (p : List Int) (hl : (p.length : Int) ≤ 1000000000000) : Ev (fun k => spec_l2PageOk.f k p) (pageB p) := by
  unfold spec_l2PageOk.f
  have H := Ev.down (σ := Unit) (fun k i _ => spec_l2PageOk.l0 k p i) (fun i _ => (p.drop i).all (fun w => wi w 0 63) && ((p.length : Int) == 4)) p.length
    (fun _ => Ev.succ (by simp only [spec_l2PageOk.l0, Int.lt_irrefl, if_false]; exact Ev.cast (by simp) (Ev.now _)))
    (fun i hi ih _ => by
      refine Ev.succ ?_
      simp only [spec_l2PageOk.l0, if_pos (Int.ofNat_lt.mpr hi), if_pos (Int.natCast_nonneg i), rd_at hi, l6In_eq, Option.bind_some, wr1 i (by omega)]
      rw [drop_cons hi, List.all_cons]
      cases h : wi p[i] 0 63
      · exact Ev.now _
      · exact ih ())
  exact H ()
theorem sMemOk_ev (m : List (List Int)) (hm : Small m) : Ev (fun k => spec_MemOk.f k m) (memB m) := by
  unfold spec_MemOk.f
  have hl := hm.1
  have H := Ev.down (σ := Unit) (fun k i _ => spec_MemOk.l0 k m i) (fun i _ => (m.drop i).all pageB) m.length
    (fun _ => Ev.succ (by simp only [spec_MemOk.l0, Int.lt_irrefl, if_false]; exact Ev.cast (by simp) (Ev.now _)))
    (fun i hi ih _ => by
      refine Ev.succ ?_
      simp only [spec_MemOk.l0, if_pos (Int.ofNat_lt.mpr hi), if_pos (Int.natCast_nonneg i), rdL_at hi, wr1 i (by omega)]
      refine Ev.bind (sPage_ev m[i] (hm.2 _ (List.getElem_mem hi))) ?_
      rw [drop_cons hi, List.all_cons]
      cases h : pageB m[i]
      · exact Ev.now _
      · exact ih ())
  exact H ()
theorem iPage_ev (p : List Int) (hl : (p.length : Int) ≤ 1000000000000) : Ev (fun k => impl_pageOk.f k p) (pageB p) := by
  unfold impl_pageOk.f
  have H := Ev.down (σ := Unit) (fun k i _ => impl_pageOk.l0 k p p p.length i) (fun i _ => (p.drop i).all (fun w => wi w 0 63) && ((p.length : Int) == 4)) p.length
    (fun _ => Ev.succ (by simp only [impl_pageOk.l0, Int.lt_irrefl, if_false]; exact Ev.cast (by simp) (Ev.now _)))
    (fun i hi ih _ => by
      refine Ev.succ ?_
      simp only [impl_pageOk.l0, if_pos (Int.ofNat_lt.mpr hi), if_pos (Int.natCast_nonneg i), rd_at hi, within_eq, Option.bind_some, wr1 i (by omega)]
      rw [drop_cons hi, List.all_cons]
      cases h : wi p[i] 0 63
      · exact Ev.now _
      · exact ih ())
  exact H ()
theorem iMemOk_ev (m : List (List Int)) (hm : Small m) : Ev (fun k => impl_MemOk.f k m) (memB m) := by
  unfold impl_MemOk.f
  have hl := hm.1
  have H := Ev.down (σ := Unit) (fun k i _ => impl_MemOk.l0 k m m.length i) (fun i _ => (m.drop i).all pageB) m.length
    (fun _ => Ev.succ (by simp only [impl_MemOk.l0, Int.lt_irrefl, if_false]; exact Ev.cast (by simp) (Ev.now _)))
    (fun i hi ih _ => by
      refine Ev.succ ?_
      simp only [impl_MemOk.l0, if_pos (Int.ofNat_lt.mpr hi), if_pos (Int.natCast_nonneg i), rdL_at hi, wr1 i (by omega)]
      refine Ev.bind (iPage_ev m[i] (hm.2 _ (List.getElem_mem hi))) ?_
      rw [drop_cons hi, List.all_cons]
      cases h : pageB m[i]
      · exact Ev.now _
      · exact ih ())
  exact H ()
def mw (m : List (List Int)) (i : Nat) : Int := rd (rd_L1 m ((i / 4 : Nat) : Int)) ((i % 4 : Nat) : Int)
def entOf (t : Bool × Int × Bool) : S48 := ⟨t.1, t.2.1, t.2.2⟩
def tabFrom (m : List (List Int)) (i d : Nat) : List S48 := (List.range' i d).map (fun j => entOf (eof (mw m j)))
def guestB (m : List (List Int)) : Bool := memB m && ((m.length : Int) == 6)
theorem guest_iff {m : List (List Int)} : guestB m = true ↔ memB m = true ∧ m.length = 6 := by
  simp [guestB]; intro _; omega
def memTab (m : List (List Int)) : List S48 := if guestB m = true then tabFrom m 0 6 else []
theorem mw_in {m : List (List Int)} (h : guestB m = true) {i : Nat} (hi : i < 6) : 0 ≤ mw m i ∧ mw m i ≤ 63 := by
  have g := guest_iff.mp h
  exact page_word (memB_page g.1 (rdL_mem (by omega) (by omega))) (by omega) (by omega)
theorem memTab_len {m : List (List Int)} (h : guestB m = true) : (memTab m).length = 6 := by
  unfold memTab; rw [if_pos h]; simp [tabFrom]
theorem iGuest_ev (m : List (List Int)) (hm : Small m) : Ev (fun k => impl_guestMem.f k m) (guestB m) := by
  unfold impl_guestMem.f guestB
  refine Ev.bind (iMemOk_ev m hm) ?_
  cases memB m
  · exact Ev.now _
  · exact Ev.cast (by simp) (Ev.now _)
theorem iMemTab_ev (m : List (List Int)) (hm : Small m) : Ev (fun k => impl_MemTab.f k m) (memTab m) := by
  unfold impl_MemTab.f memTab
  simp only [Option.bind_some]
  refine Ev.bind (iGuest_ev m hm) ?_
  cases hg : guestB m
  · exact Ev.cast (by simp) (Ev.now _)
  · have g := guest_iff.mp hg
    simp only [if_true]
    have H : ∀ d i : Nat, i + d = 6 → ∀ xs : List S48, xs.length = i → Ev (fun k => impl_MemTab.l0 k m xs (i : Int)) (xs ++ tabFrom m i d) := by
      intro d
      induction d with
      | zero =>
        intro i hi xs hx
        refine Ev.succ ?_
        simp only [impl_MemTab.l0, if_neg (show ¬ (i : Int) < 6 by omega)]
        exact Ev.cast (by simp [tabFrom]) (Ev.now _)
      | succ d ih =>
        intro i hi xs hx
        have e1 : Int.tdiv (i : Int) 4 = ((i / 4 : Nat) : Int) := rfl
        have e2 : Int.tmod (i : Int) 4 = ((i % 4 : Nat) : Int) := rfl
        have hr := page_len (memB_page g.1 (rdL_mem (m := m) (i := ((i / 4 : Nat) : Int)) (by omega) (by omega)))
        refine Ev.succ ?_
        simp only [impl_MemTab.l0, if_pos (show (i : Int) < 6 by omega), e1, e2, wr ((i / 4 : Nat) : Int) (by omega), if_pos (Int.natCast_nonneg (i / 4)), if_pos (Int.natCast_nonneg (i % 4)), if_pos (show ((i / 4 : Nat) : Int) < (m.length : Int) by omega), if_pos (show ((i % 4 : Nat) : Int) < ((rd_L1 m ((i / 4 : Nat) : Int)).length : Int) by omega)]
        refine Ev.bind (iEof_ev _) ?_
        simp only [if_pos (show xs.length < 5864062014805 by omega), wr1 i (by omega)]
        exact Ev.cast (by simp [tabFrom, List.range'_succ, entOf, mw]) (ih (i + 1) (by omega) (xs ++ [entOf (eof (mw m i))]) (by simp [hx]))
    exact H 6 0 (by omega) [] rfl
theorem sMemTab_ev (m : List (List Int)) (hm : Small m) : Ev (fun k => spec_MemTab.f k m) (memTab m) := by
  unfold spec_MemTab.f memTab
  refine Ev.bind (sMemOk_ev m hm) ?_
  cases hb : memB m
  · exact Ev.cast (by simp [guestB, hb]) (Ev.now _)
  · simp only [if_true]
    by_cases hl : m.length = 6
    · have hg : guestB m = true := guest_iff.mpr ⟨hb, hl⟩
      have r0 := page_len (memB_page hb (rdL_mem (m := m) (i := 0) (by omega) (by omega)))
      have r1 := page_len (memB_page hb (rdL_mem (m := m) (i := 1) (by omega) (by omega)))
      simp only [if_pos (show (m.length : Int) = 6 by omega), if_pos (show (0 : Int) < m.length by omega), if_pos (show (1 : Int) < m.length by omega), spec_l2Tab.f, if_pos hg]
      have H : ∀ d i : Nat, i + d = 6 → ∀ xs : List S48, xs.length = i → Ev (fun k => spec_l2Tab.l0 k (rd_L1 m 0) (rd_L1 m 1) xs (i : Int)) (xs ++ tabFrom m i d) := by
        intro d
        induction d with
        | zero =>
          intro i hi xs hx
          refine Ev.succ ?_
          simp only [spec_l2Tab.l0, if_neg (show ¬ (i : Int) < 6 by omega)]
          exact Ev.cast (by simp [tabFrom]) (Ev.now _)
        | succ d ih =>
          intro i hi xs hx
          have hw := mw_in hg (show i < 6 by omega)
          have key : Ev (fun k => spec_l2Tab.l0 k (rd_L1 m 0) (rd_L1 m 1) (xs ++ [entOf (eof (mw m i))]) ((i + 1 : Nat) : Int)) (xs ++ tabFrom m i (d + 1)) :=
            Ev.cast (by simp [tabFrom, List.range'_succ]) (ih (i + 1) (by omega) (xs ++ [entOf (eof (mw m i))]) (by simp [hx]))
          refine Ev.succ ?_
          by_cases h4 : i < 4
          · have e : mw m i = rd (rd_L1 m 0) (i : Int) := by unfold mw; rw [show i / 4 = 0 by omega, show i % 4 = i by omega]; rfl
            simp only [spec_l2Tab.l0, if_pos (show (i : Int) < 6 by omega), if_pos (show (i : Int) < 4 by omega), if_pos (Int.natCast_nonneg i), if_pos (show (i : Int) < ((rd_L1 m 0).length : Int) by omega), ← e, sEof_eq _ (show -9223372036854775808 ≤ mw m i by omega) (show mw m i ≤ 9223372036854775807 by omega), Option.bind_some, if_pos (show xs.length < 5864062014805 by omega), wr1 i (by omega)]
            exact key
          · have e : mw m i = rd (rd_L1 m 1) ((i : Int) - 4) := by unfold mw; rw [show i / 4 = 1 by omega, show ((i % 4 : Nat) : Int) = (i : Int) - 4 by omega]; rfl
            simp only [spec_l2Tab.l0, if_pos (show (i : Int) < 6 by omega), if_neg (show ¬ (i : Int) < 4 by omega), wr ((i : Int) - 4) (by omega), if_pos (show 0 ≤ (i : Int) - 4 by omega), if_pos (show (i : Int) - 4 < ((rd_L1 m 1).length : Int) by omega), ← e, sEof_eq _ (show -9223372036854775808 ≤ mw m i by omega) (show mw m i ≤ 9223372036854775807 by omega), Option.bind_some, if_pos (show xs.length < 5864062014805 by omega), wr1 i (by omega)]
            exact key
      exact Ev.bind (H 6 0 (by omega) [] rfl) (Ev.now _)
    · simp only [if_neg (show ¬ (m.length : Int) = 6 by omega)]
      exact Ev.cast (by rw [if_neg (fun x => hl (guest_iff.mp x).2)]) (Ev.now _)
theorem szIntSS_ev (m : List (List Int)) (hl : m.length ≤ 9223372036854775807) (hr : ∀ r ∈ m, r.length ≤ 9223372036854775807) :
    Ev (fun k => laws_szIntSS.f k m 1048576) (-1) ∨ ∃ n, Ev (fun k => laws_szIntSS.f k m 1048576) n ∧ 0 ≤ n ∧ (m.length : Int) ≤ 1048576 ∧ ∀ r ∈ m, (r.length : Int) ≤ 1048576 := by
  unfold laws_szIntSS.f
  simp only [wr (1048576 - (m.length : Int)) (by omega)]
  by_cases h : 1048576 - (m.length : Int) < 0
  · simp only [if_pos h]; exact .inl (Ev.now _)
  · simp only [if_neg h]
    have H : ∀ d i : Nat, i + d = m.length → ∀ left : Int, 0 ≤ left → left ≤ 1048576 →
        Ev (fun k => laws_szIntSS.l0 k m left (i : Int)) (-1) ∨ ∃ n, Ev (fun k => laws_szIntSS.l0 k m left (i : Int)) n ∧ 0 ≤ n ∧ ∀ r ∈ m.drop i, (r.length : Int) ≤ 1048576 := by
      intro d
      induction d with
      | zero =>
        intro i hi left h0 h1
        obtain rfl : i = m.length := by omega
        refine .inr ⟨left, Ev.succ ?_, h0, by simp⟩
        simp only [laws_szIntSS.l0, Int.lt_irrefl, if_false]
        exact Ev.now _
      | succ d ih =>
        intro i hi left h0 h1
        have hlt : i < m.length := by omega
        have hri := hr _ (List.getElem_mem hlt)
        by_cases c : left - (m[i].length : Int) < 0
        · refine .inl (Ev.succ ?_)
          simp only [laws_szIntSS.l0, if_pos (Int.ofNat_lt.mpr hlt), if_pos (Int.natCast_nonneg i), rdL_at hlt, laws_szIntS.f, wr (left - (m[i].length : Int)) (by omega), if_pos c, Option.bind_some, show ((-1 : Int) < 0) = True by simp, if_true]
          exact Ev.now _
        · have e : ∀ k, laws_szIntSS.l0 (k + 1) m left (i : Int) = laws_szIntSS.l0 k m (left - (m[i].length : Int)) ((i + 1 : Nat) : Int) := by
            intro k
            simp only [laws_szIntSS.l0, if_pos (Int.ofNat_lt.mpr hlt), if_pos (Int.natCast_nonneg i), rdL_at hlt, laws_szIntS.f, wr (left - (m[i].length : Int)) (by omega), if_neg c, Option.bind_some, wr1 i (by omega)]
          rcases ih (i + 1) (by omega) (left - (m[i].length : Int)) (by omega) (by omega) with a | ⟨n, a, n0, hn⟩
          · exact .inl (Ev.step e a)
          · refine .inr ⟨n, Ev.step e a, n0, ?_⟩
            rw [drop_cons hlt]
            intro r hr'
            rcases List.mem_cons.mp hr' with rfl | hr'
            · omega
            · exact hn r hr'
    rcases H m.length 0 (by omega) (1048576 - (m.length : Int)) (by omega) (by omega) with a | ⟨n, a, n0, hn⟩
    · exact .inl a
    · exact .inr ⟨n, a, n0, by omega, by simpa using hn⟩
theorem toIntS_ev (l : List Int) (hl : (l.length : Int) ≤ 1048576) : Ev (fun k => laws_toIntS.f k l) l := by
  unfold laws_toIntS.f
  simp only [if_pos (Int.natCast_nonneg l.length), Int.toNat_natCast, if_pos (show l.length ≤ 35184372088832 by omega)]
  have H : ∀ d i : Nat, i + d = l.length → Ev (fun k => laws_toIntS.l0 k l (l.take i ++ List.replicate d 0) (i : Int)) l := by
    intro d
    induction d with
    | zero =>
      intro i hi
      obtain rfl : i = l.length := by omega
      refine Ev.succ ?_
      simp only [laws_toIntS.l0, Int.lt_irrefl, if_false, List.take_length, List.replicate_zero, List.append_nil]
      exact Ev.now _
    | succ d ih =>
      intro i hi
      have hlt : i < l.length := by omega
      have ih' := ih (i + 1) (by omega)
      refine Ev.succ ?_
      simp only [laws_toIntS.l0, if_pos (Int.ofNat_lt.mpr hlt), if_pos (Int.natCast_nonneg i), rd_at hlt, wr1 i (by omega), Int.toNat_natCast]
      simp only [if_pos (show (i : Int) < ((l.take i ++ List.replicate (d + 1) (0 : Int)).length : Int) by simp; omega)]
      have e := set_snoc (l.take i) (0 : Int) d l[i]
      rw [show (l.take i).length = i by simp; omega, ← List.take_succ_eq_append_getElem hlt] at e
      simp only [e]
      exact ih'
  exact H l.length 0 (by omega)
theorem toIntSS_ev (l : List (List Int)) (hl : (l.length : Int) ≤ 1048576) (hr : ∀ r ∈ l, (r.length : Int) ≤ 1048576) : Ev (fun k => laws_toIntSS.f k l) l := by
  unfold laws_toIntSS.f
  simp only [if_pos (Int.natCast_nonneg l.length), Int.toNat_natCast, if_pos (show l.length ≤ 11728124029610 by omega)]
  have H : ∀ d i : Nat, i + d = l.length → Ev (fun k => laws_toIntSS.l0 k l (l.take i ++ List.replicate d []) (i : Int)) l := by
    intro d
    induction d with
    | zero =>
      intro i hi
      obtain rfl : i = l.length := by omega
      refine Ev.succ ?_
      simp only [laws_toIntSS.l0, Int.lt_irrefl, if_false, List.take_length, List.replicate_zero, List.append_nil]
      exact Ev.now _
    | succ d ih =>
      intro i hi
      have hlt : i < l.length := by omega
      have ih' := ih (i + 1) (by omega)
      refine Ev.succ ?_
      simp only [laws_toIntSS.l0, if_pos (Int.ofNat_lt.mpr hlt), if_pos (Int.natCast_nonneg i), rdL_at hlt, wr1 i (by omega), Int.toNat_natCast]
      refine Ev.bind (toIntS_ev l[i] (hr _ (List.getElem_mem hlt))) ?_
      simp only [if_pos (show (i : Int) < ((l.take i ++ List.replicate (d + 1) ([] : List Int)).length : Int) by simp; omega)]
      have e := set_snoc (l.take i) ([] : List Int) d l[i]
      rw [show (l.take i).length = i by simp; omega, ← List.take_succ_eq_append_getElem hlt] at e
      simp only [e]
      exact ih'
  exact H l.length 0 (by omega)
theorem eqIntS_refl (l : List Int) (hl : (l.length : Int) ≤ 1000000000000) : Ev (fun k => laws_eqIntS.f k l l) true := by
  unfold laws_eqIntS.f
  simp only [if_true]
  have H := Ev.down (σ := Unit) (fun k i _ => laws_eqIntS.l0 k l l i) (fun i _ => true) l.length
    (fun _ => Ev.succ (by simp only [laws_eqIntS.l0, Int.lt_irrefl, if_false]; exact Ev.now _))
    (fun i hi ih _ => by
      refine Ev.succ ?_
      simp only [laws_eqIntS.l0, if_pos (Int.ofNat_lt.mpr hi), if_pos (Int.natCast_nonneg i), if_true, wr1 i (by omega)]
      exact ih ())
  exact H ()
theorem eqIntSS_refl (l : List (List Int)) (hl : Small l) : Ev (fun k => laws_eqIntSS.f k l l) true := by
  unfold laws_eqIntSS.f
  simp only [if_true]
  have h1 := hl.1
  have H := Ev.down (σ := Unit) (fun k i _ => laws_eqIntSS.l0 k l l i) (fun i _ => true) l.length
    (fun _ => Ev.succ (by simp only [laws_eqIntSS.l0, Int.lt_irrefl, if_false]; exact Ev.now _))
    (fun i hi ih _ => by
      refine Ev.succ ?_
      simp only [laws_eqIntSS.l0, if_pos (Int.ofNat_lt.mpr hi), if_pos (Int.natCast_nonneg i), rdL_at hi, wr1 i (by omega)]
      refine Ev.bind (eqIntS_refl _ (hl.2 _ (List.getElem_mem hi))) ?_
      simp only [if_true]
      exact ih ())
  exact H ()
def ups (v : Int) (n : Nat) : List Int := (List.range n).map fun (j : Nat) => v + (j : Int)
theorem ups_len (v : Int) (n : Nat) : (ups v n).length = n := by simp [ups]
theorem ups_succ (v : Int) (n : Nat) : ups v (n + 1) = ups v n ++ [v + (n : Int)] := by simp [ups, List.range_succ]
theorem markIntS_ev (l : List Int) (v : Int) (h0 : 0 ≤ v) (h1 : v + (l.length : Int) ≤ 1000000000000000) : Ev (fun k => laws_markIntS.f k l v) (v + (l.length : Int), ups v l.length) := by
  unfold laws_markIntS.f
  have H : ∀ d i : Nat, i + d = l.length → Ev (fun k => laws_markIntS.l0 k (ups v i ++ l.drop i) (v + (i : Int)) (i : Int)) (v + (l.length : Int), ups v l.length) := by
    intro d
    induction d with
    | zero =>
      intro i hi
      obtain rfl : i = l.length := by omega
      refine Ev.succ ?_
      simp only [laws_markIntS.l0, List.drop_length, List.append_nil, ups_len, Int.lt_irrefl, if_false]
      exact Ev.now _
    | succ d ih =>
      intro i hi
      have hlt : i < l.length := by omega
      have hL : (ups v i ++ l.drop i).length = l.length := by simp [ups_len]; omega
      refine Ev.succ ?_
      simp only [laws_markIntS.l0, hL, if_pos (Int.ofNat_lt.mpr hlt), if_pos (Int.natCast_nonneg i), Int.toNat_natCast, wr1 i (by omega), wr (v + (i : Int) + 1) (by omega)]
      have e : (ups v i ++ l.drop i).set i (v + (i : Int)) = ups v (i + 1) ++ l.drop (i + 1) := by
        rw [drop_cons hlt, List.set_append_right _ _ (by simp [ups_len]), ups_len, Nat.sub_self, List.set_cons_zero, ups_succ]; simp
      rw [e, show v + (i : Int) + 1 = v + ((i + 1 : Nat) : Int) by omega]
      exact ih (i + 1) (by omega)
  have := H l.length 0 (by omega)
  simpa [ups] using this
def tot : List (List Int) → Int
  | [] => 0
  | r :: rs => (r.length : Int) + tot rs
def mkSS : Int → List (List Int) → List (List Int)
  | _, [] => []
  | v, r :: rs => ups v r.length :: mkSS (v + (r.length : Int)) rs
theorem tot_nonneg : ∀ l : List (List Int), 0 ≤ tot l
  | [] => by simp [tot]
  | r :: rs => by have := tot_nonneg rs; simp only [tot]; omega
theorem tot_le : ∀ l : List (List Int), (∀ r ∈ l, (r.length : Int) ≤ 1048576) → tot l ≤ 1048576 * (l.length : Int)
  | [], _ => by simp [tot]
  | r :: rs, h => by
    have h1 := h r List.mem_cons_self
    have h2 := tot_le rs fun x hx => h x (List.mem_cons_of_mem _ hx)
    simp only [tot, List.length_cons]
    omega
theorem rdL_mid (a : List (List Int)) (r : List Int) (b : List (List Int)) : rd_L1 (a ++ r :: b) (a.length : Int) = r := by
  unfold rd_L1; rw [Int.toNat_natCast, List.getD_eq_getElem?_getD, List.getElem?_append_right (Nat.le_refl _)]; simp
theorem markIntSS_ev (l : List (List Int)) (v : Int) (h0 : 0 ≤ v) (h1 : v + tot l ≤ 1000000000000000) (h2 : (l.length : Int) ≤ 1000000000000000) : Ev (fun k => laws_markIntSS.f k l v) (v + tot l, mkSS v l) := by
  unfold laws_markIntSS.f
  have H : ∀ (rest done : List (List Int)) (v : Int), 0 ≤ v → v + tot rest ≤ 1000000000000000 → (done.length : Int) + (rest.length : Int) ≤ 1000000000000000 → Ev (fun k => laws_markIntSS.l0 k (done ++ rest) v (done.length : Int)) (v + tot rest, done ++ mkSS v rest) := by
    intro rest
    induction rest with
    | nil =>
      intro done v _ _ _
      refine Ev.succ ?_
      simp only [laws_markIntSS.l0, List.append_nil, Int.lt_irrefl, if_false]
      exact Ev.cast (by simp [tot, mkSS]) (Ev.now _)
    | cons r rs ih =>
      intro done v a b c
      have tn := tot_nonneg rs
      simp only [tot, List.length_cons] at b c
      refine Ev.succ ?_
      simp only [laws_markIntSS.l0, if_pos (show (done.length : Int) < ((done ++ r :: rs).length : Int) by simp only [List.length_append, List.length_cons]; omega), if_pos (Int.natCast_nonneg done.length), rdL_mid, wr1 done.length (by omega)]
      refine Ev.bind (markIntS_ev r v a (by omega)) ?_
      have e : (done ++ r :: rs).set ((done.length : Int)).toNat (ups v r.length) = (done ++ [ups v r.length]) ++ rs := by
        rw [Int.toNat_natCast, List.set_append_right _ _ (Nat.le_refl _), Nat.sub_self, List.set_cons_zero]; simp
      simp only [e]
      have := ih (done ++ [ups v r.length]) (v + (r.length : Int)) (by omega) (by omega) (by simp only [List.length_append, List.length_cons, List.length_nil]; omega)
      rw [show ((done ++ [ups v r.length]).length : Int) = ((done.length + 1 : Nat) : Int) by simp] at this
      exact Ev.cast (by simp [tot, mkSS]; omega) this
  have := H l [] v h0 h1 (by simp; omega)
  simpa using this
def Fit (m : List (List Int)) : Prop := (m.length : Int) ≤ 1048576 ∧ ∀ r ∈ m, (r.length : Int) ≤ 1048576
theorem fit_small {m : List (List Int)} (h : Fit m) : Small m := ⟨by have := h.1; omega, fun r hr => by have := h.2 r hr; omega⟩
theorem fit_tot {m : List (List Int)} (h : Fit m) : tot m ≤ 2000000000000 := by have := tot_le m h.2; have := h.1; omega

-- the law
theorem FnExactMemTab (m : List (List Int)) (hl : m.length ≤ 9223372036854775807) (hr : ∀ r ∈ m, r.length ≤ 9223372036854775807) : ∃ k, laws_FnExactMemTab.f k m = some true := by
  apply Ev.rounds
  unfold laws_FnExactMemTab.f
  rcases szIntSS_ev m hl hr with e | ⟨n, e, h0, hL, hR⟩
  · refine Ev.bind e ?_
    simp only [show ((-1 : Int) < 0) = True by simp, if_true]; exact Ev.now _
  refine Ev.bind e ?_
  simp only [if_neg (show ¬ n < 0 by omega)]
  have T := toIntSS_ev m hL hR
  have hF : Fit m := ⟨hL, hR⟩
  have hm := fit_small hF
  have gl : (memTab m).length ≤ 6 := by
    unfold memTab
    split
    · next h => have := memTab_len h; unfold memTab at this; rw [if_pos h] at this; omega
    · simp
  have G := iMemTab_ev m hm
  have E := eqEntryS_refl (memTab m) (by omega)
  have t1 := fit_tot hF; have n1 := tot_nonneg m
  have l1 := hF.1
  have Hd := heldEntry_ev (memTab m).length 1 (by omega) (by omega) (by omega)
  refine Ev.bind T (Ev.bind (sMemTab_ev m hm) (Ev.bind T (Ev.bind G (Ev.bind E ?_))))
  simp only [if_true]
  refine Ev.bind T (Ev.bind (eqIntSS_refl _ hm) ?_)
  simp only [if_true]
  refine Ev.bind (markIntSS_ev m 1 (by omega) (by omega) (by omega)) ?_
  simp only [if_neg (show ¬ 1 + tot m < 0 by omega)]
  refine Ev.bind E ?_
  simp only [if_true]
  refine Ev.bind (markEntry_ev (memTab m) 1 (by omega) (by omega) (by omega)) (Ev.bind Hd ?_)
  simp only [if_neg (show ¬ 1 + 3 * ((memTab m).length : Int) < 0 by omega), if_true]
  refine Ev.bind T (Ev.bind G (Ev.bind E ?_))
  simp only [if_true]
  refine Ev.bind Hd ?_
  simp only [if_neg (show ¬ 1 + 3 * ((memTab m).length : Int) < 0 by omega), if_true]
  exact Ev.now _

end Go.Proofs.Ytenmnnchonlccaa.Pure
