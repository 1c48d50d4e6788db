/- The pure side of the law FnExactFlatWriteIn: what the printed functions compute answers true. Conditions: none beyond the statement given. -/
import Derived.Test.YtpbhoimkcoggfaaQFnExactFlatWriteInx0
import Derived.Test.YtpbhoimkcoggfaaQFnExactFlatWriteInx1
import Derived.Test.YtpbhoimkcoggfaaQFnExactFlatWriteInx2
import Derived.Test.YtpbhoimkcoggfaaQFnExactFlatWriteInx3
import Derived.Test.YtpbhoimkcoggfaaQFnExactFlatWriteInx4
import Derived.Test.YtpbhoimkcoggfaaQFnExactFlatWriteInx5
import Derived.Test.YtpbhoimkcoggfaaQFnExactFlatWriteInx6
import Derived.Laws.BitsLemmas
namespace Go.Proofs.Ytpbhoimkcoggfaa.Pure
open Go Go.RowKit Go.Proofs.Ytpbhoimkcoggfaa.QFnExactFlatWriteIn Go.Proofs.YtpbhoimkcoggfaaW.PrintWords Go.Proofs.YtpbhoimkcoggfaaW.PrintLast
set_option linter.unusedVariables false
set_option linter.unusedSimpArgs false

theorem Ev.succ {α : Type} {g : Nat → Option α} {r : α} (h : Ev (fun k => g (k + 1)) r) : Ev g r := Ev.step (fun _ => rfl) h
theorem Ev.cast {α : Type} {g : Nat → Option α} {r r' : α} (e : r = r') (h : Ev g r) : Ev g r' := e ▸ h
theorem wr (n : Int) (h : -9223372036854775808 ≤ n ∧ n ≤ 9223372036854775807) : wrap64 n = n := by unfold wrap64; omega
theorem wr1 (i : Nat) (h : (i : Int) ≤ 1000000000000000000) : wrap64 ((i : Int) + 1) = ((i + 1 : Nat) : Int) := by rw [wr _ (by omega)]; rfl
theorem Ev.down {σ ρ : Type} (g : Nat → Int → σ → Option ρ) (R : Nat → σ → ρ) (n : Nat) (hend : ∀ st, Ev (fun k => g k n st) (R n st))
    (hstep : ∀ i : Nat, i < n → (∀ st, Ev (fun k => g k ((i + 1 : Nat) : Int) st) (R (i + 1) st)) → ∀ st, Ev (fun k => g k (i : Int) st) (R i st)) :
    ∀ st, Ev (fun k => g k 0 st) (R 0 st) := by
  have H : ∀ d i : Nat, i + d = n → ∀ st, Ev (fun k => g k (i : Int) st) (R i st) := by
    intro d
    induction d with
    | zero => intro i hi st; obtain rfl : i = n := by omega
              exact hend st
    | succ d ih => intro i hi; exact hstep i (by omega) (ih (i + 1) (by omega))
  exact H n 0 (by omega)
theorem drop_cons {α : Type} {l : List α} {i : Nat} (h : i < l.length) : l.drop i = l[i] :: l.drop (i + 1) := List.drop_eq_getElem_cons h
theorem rd_at {l : List Int} {i : Nat} (h : i < l.length) : rd l (i : Int) = l[i] := by simp [rd, h]
theorem getD_at {α : Type} {l : List α} {i : Nat} (z : α) (h : i < l.length) : l.getD ((i : Int)).toNat z = l[i] := by simp [h]
def wi (a lo hi : Int) : Bool := decide (lo ≤ a) && decide (a ≤ hi)
theorem wi_iff {a lo hi : Int} : wi a lo hi = true ↔ lo ≤ a ∧ a ≤ hi := by simp [wi]
theorem wi_not {a lo hi : Int} : wi a lo hi = false ↔ ¬ (lo ≤ a ∧ a ≤ hi) := by rw [← wi_iff]; simp
theorem l6In_eq (a lo hi : Int) : spec_l6In.f a lo hi = some (wi a lo hi) := by
  unfold spec_l6In.f wi
  by_cases h : a ≥ lo
  · rw [if_pos h]; simp [h]
  · rw [if_neg h]; simp; omega
theorem within_eq (a lo hi : Int) : impl_within.f a lo hi = some (wi a lo hi) := by
  unfold impl_within.f wi
  by_cases h : a ≥ lo
  · rw [if_pos h]; simp [h]
  · rw [if_neg h]; simp; omega
def eof (n : Int) : Bool × Int × Bool := if 5 ≤ n ∧ n ≤ 12 then (true, (n - 1) / 2, decide (n % 2 = 0)) else (false, 0, false)
theorem eof_cases (n : Int) : (5 ≤ n ∧ n ≤ 12 ∧ eof n = (true, (n - 1) / 2, decide (n % 2 = 0))) ∨ (¬ (5 ≤ n ∧ n ≤ 12) ∧ eof n = (false, 0, false)) := by
  unfold eof
  by_cases h : 5 ≤ n ∧ n ≤ 12
  · exact .inl ⟨h.1, h.2, if_pos h⟩
  · exact .inr ⟨h, if_neg h⟩
theorem iEof_20 (n : Int) : impl_EntryOf.f 20 n = if 5 = n then some (true, 2, false) else if 6 = n then some (true, 2, true) else if 7 = n then some (true, 3, false) else if 8 = n then some (true, 3, true) else if 9 = n then some (true, 4, false) else if 10 = n then some (true, 4, true) else if 11 = n then some (true, 5, false) else if 12 = n then some (true, 5, true) else some (false, 0, false) := by kernel_rfl
theorem iEof_ev (n : Int) : Ev (fun k => impl_EntryOf.f k n) (eof n) := by
  refine Ev.of (fun k => impl_EntryOf.mono n k) (k := 20) ?_
  rw [iEof_20]
  by_cases h : 5 ≤ n ∧ n ≤ 12
  · obtain rfl | rfl | rfl | rfl | rfl | rfl | rfl | rfl : n = 5 ∨ n = 6 ∨ n = 7 ∨ n = 8 ∨ n = 9 ∨ n = 10 ∨ n = 11 ∨ n = 12 := by omega
    all_goals rfl
  · unfold eof; rw [if_neg h]
    rw [if_neg (by omega), if_neg (by omega), if_neg (by omega), if_neg (by omega), if_neg (by omega), if_neg (by omega), if_neg (by omega), if_neg (by omega)]
theorem tdiv2 (x : Int) (h : 0 ≤ x) : Int.tdiv x 2 = x / 2 := Int.tdiv_eq_ediv_of_nonneg h
theorem tmod2 (x : Int) (h : 0 ≤ x) : Int.tmod x 2 = x % 2 := Int.tmod_eq_emod_of_nonneg h
theorem sEof_eq (n : Int) (h1 : -9223372036854775808 ≤ n) (h2 : n ≤ 9223372036854775807) : spec_EntryOf.f n = some (eof n) := by
  unfold spec_EntryOf.f eof
  by_cases h : n < 1
  · rw [if_pos h, if_neg (by omega)]
  · rw [if_neg h, wr (n - 1) (by omega), tdiv2 _ (by omega), wr ((n - 1) / 2) (by omega), l6In_eq, tmod2 _ (by omega), Option.bind_some]
    by_cases g : 5 ≤ n ∧ n ≤ 12
    · rw [if_pos g, if_pos (wi_iff.mpr (by omega))]; rfl
    · rw [if_neg g, if_neg (by rw [wi_iff]; omega)]
theorem rdE_at {l : List S40} {i : Nat} (h : i < l.length) : rd_T40 l (i : Int) = l[i] := getD_at _ h
theorem set_snoc {α : Type} (xs : List α) (z : α) (n : Nat) (y : α) : (xs ++ List.replicate (n + 1) z).set xs.length y = (xs ++ [y]) ++ List.replicate n z := by
  rw [List.set_append_right _ _ (Nat.le_refl _)]; simp [List.replicate_succ]
theorem rdL_at {l : List (List Int)} {i : Nat} (h : i < l.length) : rd_L1 l (i : Int) = l[i] := getD_at _ h
def pageB (p : List Int) : Bool := p.all (fun w => wi w 0 63) && ((p.length : Int) == 4)
def memB (m : List (List Int)) : Bool := m.all pageB
def Small (m : List (List Int)) : Prop := (m.length : Int) ≤ 1000000000000 ∧ ∀ r ∈ m, (r.length : Int) ≤ 1000000000000
theorem rdL_mem {m : List (List Int)} {i : Int} (h0 : 0 ≤ i) (h : i < m.length) : rd_L1 m i ∈ m := by
  have e : i = ((i.toNat : Nat) : Int) := by omega
  rw [e, rdL_at (show i.toNat < m.length by omega)]; exact List.getElem_mem _
theorem memB_page {m : List (List Int)} (h : memB m = true) {r : List Int} (hr : r ∈ m) : pageB r = true := List.all_eq_true.mp h r hr
theorem page_len {r : List Int} (h : pageB r = true) : r.length = 4 := by
  simp [pageB] at h; omega
theorem page_word {r : List Int} (h : pageB r = true) {i : Int} (h0 : 0 ≤ i) (h1 : i < 4) : 0 ≤ rd r i ∧ rd r i ≤ 63 := by
  have hl := page_len h
  have e : i = ((i.toNat : Nat) : Int) := by omega
  rw [e, rd_at (show i.toNat < r.length by omega)]
  simp only [pageB, Bool.and_eq_true, List.all_eq_true] at h
  exact wi_iff.mp (h.1 _ (List.getElem_mem _))
theorem sPage_ev (p : List Int) (hl : (p.length : Int) ≤ 1000000000000) : Ev (fun k => spec_l2PageOk.f k p) (pageB p) := by
  unfold spec_l2PageOk.f
  have H := Ev.down (σ := Unit) (fun k i _ => spec_l2PageOk.l0 k p i) (fun i _ => (p.drop i).all (fun w => wi w 0 63) && ((p.length : Int) == 4)) p.length
    (fun _ => Ev.succ (by simp only [spec_l2PageOk.l0, Int.lt_irrefl, if_false]; exact Ev.cast (by simp) (Ev.now _)))
    (fun i hi ih _ => by
      refine Ev.succ ?_
      simp only [spec_l2PageOk.l0, if_pos (Int.ofNat_lt.mpr hi), if_pos (Int.natCast_nonneg i), rd_at hi, l6In_eq, Option.bind_some, wr1 i (by omega)]
      rw [drop_cons hi, List.all_cons]
      cases h : wi p[i] 0 63
      · exact Ev.now _
      · exact ih ())
  exact H ()
theorem sMemOk_ev (m : List (List Int)) (hm : Small m) : Ev (fun k => spec_MemOk.f k m) (memB m) := by
  unfold spec_MemOk.f
  have hl := hm.1
  have H := Ev.down (σ := Unit) (fun k i _ => spec_MemOk.l0 k m i) (fun i _ => (m.drop i).all pageB) m.length
    (fun _ => Ev.succ (by simp only [spec_MemOk.l0, Int.lt_irrefl, if_false]; exact Ev.cast (by simp) (Ev.now _)))
    (fun i hi ih _ => by
      refine Ev.succ ?_
      simp only [spec_MemOk.l0, if_pos (Int.ofNat_lt.mpr hi), if_pos (Int.natCast_nonneg i), rdL_at hi, wr1 i (by omega)]
      refine Ev.bind (sPage_ev m[i] (hm.2 _ (List.getElem_mem hi))) ?_
      rw [drop_cons hi, List.all_cons]
      cases h : pageB m[i]
      · exact Ev.now _
      · exact ih ())
  exact H ()
theorem iPage_ev (p : List Int) (hl : (p.length : Int) ≤ 1000000000000) : Ev (fun k => impl_pageOk.f k p) (pageB p) := by
  unfold impl_pageOk.f
  have H := Ev.down (σ := Unit) (fun k i _ => impl_pageOk.l0 k p p p.length i) (fun i _ => (p.drop i).all (fun w => wi w 0 63) && ((p.length : Int) == 4)) p.length
    (fun _ => Ev.succ (by simp only [impl_pageOk.l0, Int.lt_irrefl, if_false]; exact Ev.cast (by simp) (Ev.now _)))
    (fun i hi ih _ => by
      refine Ev.succ ?_
      simp only [impl_pageOk.l0, if_pos (Int.ofNat_lt.mpr hi), if_pos (Int.natCast_nonneg i), rd_at hi, within_eq, Option.bind_some, wr1 i (by omega)]
      rw [drop_cons hi, List.all_cons]
      cases h : wi p[i] 0 63
      · exact Ev.now _
      · exact ih ())
  exact H ()
theorem iMemOk_ev (m : List (List Int)) (hm : Small m) : Ev (fun k => impl_MemOk.f k m) (memB m) := by
  unfold impl_MemOk.f
  have hl := hm.1
  have H := Ev.down (σ := Unit) (fun k i _ => impl_MemOk.l0 k m m.length i) (fun i _ => (m.drop i).all pageB) m.length
    (fun _ => Ev.succ (by simp only [impl_MemOk.l0, Int.lt_irrefl, if_false]; exact Ev.cast (by simp) (Ev.now _)))
    (fun i hi ih _ => by
      refine Ev.succ ?_
      simp only [impl_MemOk.l0, if_pos (Int.ofNat_lt.mpr hi), if_pos (Int.natCast_nonneg i), rdL_at hi, wr1 i (by omega)]
      refine Ev.bind (iPage_ev m[i] (hm.2 _ (List.getElem_mem hi))) ?_
      rw [drop_cons hi, List.all_cons]
      cases h : pageB m[i]
      · exact Ev.now _
      · exact ih ())
  exact H ()
def memAtOk (m : List (List Int)) (p o : Int) : Prop := memB m = true ∧ (0 ≤ p ∧ p < m.length) ∧ (0 ≤ o ∧ o < 4)
instance (m : List (List Int)) (p o : Int) : Decidable (memAtOk m p o) := by unfold memAtOk; infer_instance
theorem memAt_row {m : List (List Int)} {p o : Int} (h : memAtOk m p o) : pageB (rd_L1 m p) = true := memB_page h.1 (rdL_mem h.2.1.1 h.2.1.2)
theorem clone_ev (m : List (List Int)) (hm : Small m) : Ev (fun k => impl_cloneMem.f k m) m := by
  unfold impl_cloneMem.f
  have hl := hm.1
  have H : ∀ d i : Nat, i + d = m.length → ∀ xs : List (List Int), xs.length = i → Ev (fun k => impl_cloneMem.l0 k xs m m.length (i : Int)) (xs ++ m.drop i) := by
    intro d
    induction d with
    | zero =>
      intro i hi xs hx
      obtain rfl : i = m.length := by omega
      refine Ev.succ ?_
      simp only [impl_cloneMem.l0, Int.lt_irrefl, if_false]
      exact Ev.cast (by simp) (Ev.now _)
    | succ d ih =>
      intro i hi xs hx
      have hlt : i < m.length := by omega
      have hr := hm.2 _ (List.getElem_mem hlt)
      refine Ev.succ ?_
      simp only [impl_cloneMem.l0, if_pos (Int.ofNat_lt.mpr hlt), if_pos (Int.natCast_nonneg i), rdL_at hlt, Option.bind_some, List.length_nil, Nat.zero_add, List.nil_append, if_pos (show m[i].length < 17592186044416 by omega), if_pos (show xs.length < 5864062014805 by omega), wr1 i (by omega)]
      exact Ev.cast (by rw [drop_cons hlt, List.append_assoc]; rfl) (ih (i + 1) (by omega) (xs ++ [m[i]]) (by simp [hx]))
  exact H m.length 0 (by omega) [] rfl
theorem copy_ev (m : List (List Int)) (hm : Small m) : Ev (fun k => spec_l2Copy.f k m) m := by
  unfold spec_l2Copy.f
  have hl := hm.1
  have H : ∀ d i : Nat, i + d = m.length → ∀ xs : List (List Int), xs.length = i → Ev (fun k => spec_l2Copy.l0 k m xs (i : Int)) (xs ++ m.drop i) := by
    intro d
    induction d with
    | zero =>
      intro i hi xs hx
      obtain rfl : i = m.length := by omega
      refine Ev.succ ?_
      simp only [spec_l2Copy.l0, Int.lt_irrefl, if_false]
      exact Ev.cast (by simp) (Ev.now _)
    | succ d ih =>
      intro i hi xs hx
      have hlt : i < m.length := by omega
      have hr := hm.2 _ (List.getElem_mem hlt)
      refine Ev.succ ?_
      simp only [spec_l2Copy.l0, if_pos (Int.ofNat_lt.mpr hlt), if_pos (Int.natCast_nonneg i), rdL_at hlt, Option.bind_some, List.length_nil, Nat.zero_add, List.nil_append, if_pos (show m[i].length < 17592186044416 by omega), if_pos (show xs.length < 5864062014805 by omega), wr1 i (by omega)]
      exact Ev.cast (by rw [drop_cons hlt, List.append_assoc]; rfl) (ih (i + 1) (by omega) (xs ++ [m[i]]) (by simp [hx]))
  exact H m.length 0 (by omega) [] rfl
def setW (m : List (List Int)) (p o w : Int) : List (List Int) := m.set p.toNat ((rd_L1 m p).set o.toNat w)
def mw (m : List (List Int)) (i : Nat) : Int := rd (rd_L1 m ((i / 4 : Nat) : Int)) ((i % 4 : Nat) : Int)
def entOf (t : Bool × Int × Bool) : S40 := ⟨t.1, t.2.1, t.2.2⟩
def tabFrom (m : List (List Int)) (i d : Nat) : List S40 := (List.range' i d).map (fun j => entOf (eof (mw m j)))
def guestB (m : List (List Int)) : Bool := memB m && ((m.length : Int) == 6)
theorem guest_iff {m : List (List Int)} : guestB m = true ↔ memB m = true ∧ m.length = 6 := by
  simp [guestB]; intro _; omega
def memTab (m : List (List Int)) : List S40 := if guestB m = true then tabFrom m 0 6 else []
theorem mw_in {m : List (List Int)} (h : guestB m = true) {i : Nat} (hi : i < 6) : 0 ≤ mw m i ∧ mw m i ≤ 63 := by
  have g := guest_iff.mp h
  exact page_word (memB_page g.1 (rdL_mem (by omega) (by omega))) (by omega) (by omega)
theorem memTab_at {m : List (List Int)} (h : guestB m = true) {p : Int} (h0 : 0 ≤ p) (h1 : p < 6) : rd_T40 (memTab m) p = entOf (eof (mw m p.toNat)) := by
  obtain ⟨n, rfl⟩ : ∃ n : Nat, p = (n : Int) := ⟨p.toNat, by omega⟩
  unfold memTab; rw [if_pos h]
  rw [rdE_at (show n < (tabFrom m 0 6).length by simp [tabFrom]; omega), Int.toNat_natCast]
  simp [tabFrom]
theorem memTab_len {m : List (List Int)} (h : guestB m = true) : (memTab m).length = 6 := by
  unfold memTab; rw [if_pos h]; simp [tabFrom]
theorem iGuest_ev (m : List (List Int)) (hm : Small m) : Ev (fun k => impl_guestMem.f k m) (guestB m) := by
  unfold impl_guestMem.f guestB
  refine Ev.bind (iMemOk_ev m hm) ?_
  cases memB m
  · exact Ev.now _
  · exact Ev.cast (by simp) (Ev.now _)
theorem sGuest_ev (m : List (List Int)) (hm : Small m) : Ev (fun k => spec_l11Guest.f k m) (guestB m) := by
  unfold spec_l11Guest.f guestB
  refine Ev.bind (sMemOk_ev m hm) ?_
  cases memB m
  · exact Ev.now _
  · exact Ev.cast (by simp) (Ev.now _)
theorem iMemTab_ev (m : List (List Int)) (hm : Small m) : Ev (fun k => impl_MemTab.f k m) (memTab m) := by
  unfold impl_MemTab.f memTab
  simp only [Option.bind_some]
  refine Ev.bind (iGuest_ev m hm) ?_
  cases hg : guestB m
  · exact Ev.cast (by simp) (Ev.now _)
  · have g := guest_iff.mp hg
    simp only [if_true]
    have H : ∀ d i : Nat, i + d = 6 → ∀ xs : List S40, xs.length = i → Ev (fun k => impl_MemTab.l0 k m xs (i : Int)) (xs ++ tabFrom m i d) := by
      intro d
      induction d with
      | zero =>
        intro i hi xs hx
        refine Ev.succ ?_
        simp only [impl_MemTab.l0, if_neg (show ¬ (i : Int) < 6 by omega)]
        exact Ev.cast (by simp [tabFrom]) (Ev.now _)
      | succ d ih =>
        intro i hi xs hx
        have e1 : Int.tdiv (i : Int) 4 = ((i / 4 : Nat) : Int) := rfl
        have e2 : Int.tmod (i : Int) 4 = ((i % 4 : Nat) : Int) := rfl
        have hr := page_len (memB_page g.1 (rdL_mem (m := m) (i := ((i / 4 : Nat) : Int)) (by omega) (by omega)))
        refine Ev.succ ?_
        simp only [impl_MemTab.l0, if_pos (show (i : Int) < 6 by omega), e1, e2, wr ((i / 4 : Nat) : Int) (by omega), if_pos (Int.natCast_nonneg (i / 4)), if_pos (Int.natCast_nonneg (i % 4)), if_pos (show ((i / 4 : Nat) : Int) < (m.length : Int) by omega), if_pos (show ((i % 4 : Nat) : Int) < ((rd_L1 m ((i / 4 : Nat) : Int)).length : Int) by omega)]
        refine Ev.bind (iEof_ev _) ?_
        simp only [if_pos (show xs.length < 5864062014805 by omega), wr1 i (by omega)]
        exact Ev.cast (by simp [tabFrom, List.range'_succ, entOf, mw]) (ih (i + 1) (by omega) (xs ++ [entOf (eof (mw m i))]) (by simp [hx]))
    exact H 6 0 (by omega) [] rfl
theorem sMemTab_ev (m : List (List Int)) (hm : Small m) : Ev (fun k => spec_MemTab.f k m) (memTab m) := by
  unfold spec_MemTab.f memTab
  refine Ev.bind (sMemOk_ev m hm) ?_
  cases hb : memB m
  · exact Ev.cast (by simp [guestB, hb]) (Ev.now _)
  · simp only [if_true]
    by_cases hl : m.length = 6
    · have hg : guestB m = true := guest_iff.mpr ⟨hb, hl⟩
      have r0 := page_len (memB_page hb (rdL_mem (m := m) (i := 0) (by omega) (by omega)))
      have r1 := page_len (memB_page hb (rdL_mem (m := m) (i := 1) (by omega) (by omega)))
      simp only [if_pos (show (m.length : Int) = 6 by omega), if_pos (show (0 : Int) < m.length by omega), if_pos (show (1 : Int) < m.length by omega), spec_l2Tab.f, if_pos hg]
      have H : ∀ d i : Nat, i + d = 6 → ∀ xs : List S40, xs.length = i → Ev (fun k => spec_l2Tab.l0 k (rd_L1 m 0) (rd_L1 m 1) xs (i : Int)) (xs ++ tabFrom m i d) := by
        intro d
        induction d with
        | zero =>
          intro i hi xs hx
          refine Ev.succ ?_
          simp only [spec_l2Tab.l0, if_neg (show ¬ (i : Int) < 6 by omega)]
          exact Ev.cast (by simp [tabFrom]) (Ev.now _)
        | succ d ih =>
          intro i hi xs hx
          have hw := mw_in hg (show i < 6 by omega)
          have key : Ev (fun k => spec_l2Tab.l0 k (rd_L1 m 0) (rd_L1 m 1) (xs ++ [entOf (eof (mw m i))]) ((i + 1 : Nat) : Int)) (xs ++ tabFrom m i (d + 1)) :=
            Ev.cast (by simp [tabFrom, List.range'_succ]) (ih (i + 1) (by omega) (xs ++ [entOf (eof (mw m i))]) (by simp [hx]))
          refine Ev.succ ?_
          by_cases h4 : i < 4
          · have e : mw m i = rd (rd_L1 m 0) (i : Int) := by unfold mw; rw [show i / 4 = 0 by omega, show i % 4 = i by omega]; rfl
            simp only [spec_l2Tab.l0, if_pos (show (i : Int) < 6 by omega), if_pos (show (i : Int) < 4 by omega), if_pos (Int.natCast_nonneg i), if_pos (show (i : Int) < ((rd_L1 m 0).length : Int) by omega), ← e, sEof_eq _ (show -9223372036854775808 ≤ mw m i by omega) (show mw m i ≤ 9223372036854775807 by omega), Option.bind_some, if_pos (show xs.length < 5864062014805 by omega), wr1 i (by omega)]
            exact key
          · have e : mw m i = rd (rd_L1 m 1) ((i : Int) - 4) := by unfold mw; rw [show i / 4 = 1 by omega, show ((i % 4 : Nat) : Int) = (i : Int) - 4 by omega]; rfl
            simp only [spec_l2Tab.l0, if_pos (show (i : Int) < 6 by omega), if_neg (show ¬ (i : Int) < 4 by omega), wr ((i : Int) - 4) (by omega), if_pos (show 0 ≤ (i : Int) - 4 by omega), if_pos (show (i : Int) - 4 < ((rd_L1 m 1).length : Int) by omega), ← e, sEof_eq _ (show -9223372036854775808 ≤ mw m i by omega) (show mw m i ≤ 9223372036854775807 by omega), Option.bind_some, if_pos (show xs.length < 5864062014805 by omega), wr1 i (by omega)]
            exact key
      exact Ev.bind (H 6 0 (by omega) [] rfl) (Ev.now _)
    · simp only [if_neg (show ¬ (m.length : Int) = 6 by omega)]
      exact Ev.cast (by rw [if_neg (fun x => hl (guest_iff.mp x).2)]) (Ev.now _)
theorem szIntSS_ev (m : List (List Int)) (hl : m.length ≤ 9223372036854775807) (hr : ∀ r ∈ m, r.length ≤ 9223372036854775807) :
    Ev (fun k => laws_szIntSS.f k m 1048576) (-1) ∨ ∃ n, Ev (fun k => laws_szIntSS.f k m 1048576) n ∧ 0 ≤ n ∧ (m.length : Int) ≤ 1048576 ∧ ∀ r ∈ m, (r.length : Int) ≤ 1048576 := by
  unfold laws_szIntSS.f
  simp only [wr (1048576 - (m.length : Int)) (by omega)]
  by_cases h : 1048576 - (m.length : Int) < 0
  · simp only [if_pos h]; exact .inl (Ev.now _)
  · simp only [if_neg h]
    have H : ∀ d i : Nat, i + d = m.length → ∀ left : Int, 0 ≤ left → left ≤ 1048576 →
        Ev (fun k => laws_szIntSS.l0 k m left (i : Int)) (-1) ∨ ∃ n, Ev (fun k => laws_szIntSS.l0 k m left (i : Int)) n ∧ 0 ≤ n ∧ ∀ r ∈ m.drop i, (r.length : Int) ≤ 1048576 := by
      intro d
      induction d with
      | zero =>
        intro i hi left h0 h1
        obtain rfl : i = m.length := by omega
        refine .inr ⟨left, Ev.succ ?_, h0, by simp⟩
        simp only [laws_szIntSS.l0, Int.lt_irrefl, if_false]
        exact Ev.now _
      | succ d ih =>
        intro i hi left h0 h1
        have hlt : i < m.length := by omega
        have hri := hr _ (List.getElem_mem hlt)
        by_cases c : left - (m[i].length : Int) < 0
        · refine .inl (Ev.succ ?_)
          simp only [laws_szIntSS.l0, if_pos (Int.ofNat_lt.mpr hlt), if_pos (Int.natCast_nonneg i), rdL_at hlt, laws_szIntS.f, wr (left - (m[i].length : Int)) (by omega), if_pos c, Option.bind_some, show ((-1 : Int) < 0) = True by simp, if_true]
          exact Ev.now _
        · have e : ∀ k, laws_szIntSS.l0 (k + 1) m left (i : Int) = laws_szIntSS.l0 k m (left - (m[i].length : Int)) ((i + 1 : Nat) : Int) := by
            intro k
            simp only [laws_szIntSS.l0, if_pos (Int.ofNat_lt.mpr hlt), if_pos (Int.natCast_nonneg i), rdL_at hlt, laws_szIntS.f, wr (left - (m[i].length : Int)) (by omega), if_neg c, Option.bind_some, wr1 i (by omega)]
          rcases ih (i + 1) (by omega) (left - (m[i].length : Int)) (by omega) (by omega) with a | ⟨n, a, n0, hn⟩
          · exact .inl (Ev.step e a)
          · refine .inr ⟨n, Ev.step e a, n0, ?_⟩
            rw [drop_cons hlt]
            intro r hr'
            rcases List.mem_cons.mp hr' with rfl | hr'
            · omega
            · exact hn r hr'
    rcases H m.length 0 (by omega) (1048576 - (m.length : Int)) (by omega) (by omega) with a | ⟨n, a, n0, hn⟩
    · exact .inl a
    · exact .inr ⟨n, a, n0, by omega, by simpa using hn⟩
theorem toIntS_ev (l : List Int) (hl : (l.length : Int) ≤ 1048576) : Ev (fun k => laws_toIntS.f k l) l := by
  unfold laws_toIntS.f
  simp only [if_pos (Int.natCast_nonneg l.length), Int.toNat_natCast, if_pos (show l.length ≤ 35184372088832 by omega)]
  have H : ∀ d i : Nat, i + d = l.length → Ev (fun k => laws_toIntS.l0 k l (l.take i ++ List.replicate d 0) (i : Int)) l := by
    intro d
    induction d with
    | zero =>
      intro i hi
      obtain rfl : i = l.length := by omega
      refine Ev.succ ?_
      simp only [laws_toIntS.l0, Int.lt_irrefl, if_false, List.take_length, List.replicate_zero, List.append_nil]
      exact Ev.now _
    | succ d ih =>
      intro i hi
      have hlt : i < l.length := by omega
      have ih' := ih (i + 1) (by omega)
      refine Ev.succ ?_
      simp only [laws_toIntS.l0, if_pos (Int.ofNat_lt.mpr hlt), if_pos (Int.natCast_nonneg i), rd_at hlt, wr1 i (by omega), Int.toNat_natCast]
      simp only [if_pos (show (i : Int) < ((l.take i ++ List.replicate (d + 1) (0 : Int)).length : Int) by simp; omega)]
      have e := set_snoc (l.take i) (0 : Int) d l[i]
      rw [show (l.take i).length = i by simp; omega, ← List.take_succ_eq_append_getElem hlt] at e
      simp only [e]
      exact ih'
  exact H l.length 0 (by omega)
theorem toIntSS_ev (l : List (List Int)) (hl : (l.length : Int) ≤ 1048576) (hr : ∀ r ∈ l, (r.length : Int) ≤ 1048576) : Ev (fun k => laws_toIntSS.f k l) l := by
  unfold laws_toIntSS.f
  simp only [if_pos (Int.natCast_nonneg l.length), Int.toNat_natCast, if_pos (show l.length ≤ 11728124029610 by omega)]
  have H : ∀ d i : Nat, i + d = l.length → Ev (fun k => laws_toIntSS.l0 k l (l.take i ++ List.replicate d []) (i : Int)) l := by
    intro d
    induction d with
    | zero =>
      intro i hi
      obtain rfl : i = l.length := by omega
      refine Ev.succ ?_
      simp only [laws_toIntSS.l0, Int.lt_irrefl, if_false, List.take_length, List.replicate_zero, List.append_nil]
      exact Ev.now _
    | succ d ih =>
      intro i hi
      have hlt : i < l.length := by omega
      have ih' := ih (i + 1) (by omega)
      refine Ev.succ ?_
      simp only [laws_toIntSS.l0, if_pos (Int.ofNat_lt.mpr hlt), if_pos (Int.natCast_nonneg i), rdL_at hlt, wr1 i (by omega), Int.toNat_natCast]
      refine Ev.bind (toIntS_ev l[i] (hr _ (List.getElem_mem hlt))) ?_
      simp only [if_pos (show (i : Int) < ((l.take i ++ List.replicate (d + 1) ([] : List Int)).length : Int) by simp; omega)]
      have e := set_snoc (l.take i) ([] : List Int) d l[i]
      rw [show (l.take i).length = i by simp; omega, ← List.take_succ_eq_append_getElem hlt] at e
      simp only [e]
      exact ih'
  exact H l.length 0 (by omega)
theorem eqIntS_refl (l : List Int) (hl : (l.length : Int) ≤ 1000000000000) : Ev (fun k => laws_eqIntS.f k l l) true := by
  unfold laws_eqIntS.f
  simp only [if_true]
  have H := Ev.down (σ := Unit) (fun k i _ => laws_eqIntS.l0 k l l i) (fun i _ => true) l.length
    (fun _ => Ev.succ (by simp only [laws_eqIntS.l0, Int.lt_irrefl, if_false]; exact Ev.now _))
    (fun i hi ih _ => by
      refine Ev.succ ?_
      simp only [laws_eqIntS.l0, if_pos (Int.ofNat_lt.mpr hi), if_pos (Int.natCast_nonneg i), if_true, wr1 i (by omega)]
      exact ih ())
  exact H ()
theorem eqIntSS_refl (l : List (List Int)) (hl : Small l) : Ev (fun k => laws_eqIntSS.f k l l) true := by
  unfold laws_eqIntSS.f
  simp only [if_true]
  have h1 := hl.1
  have H := Ev.down (σ := Unit) (fun k i _ => laws_eqIntSS.l0 k l l i) (fun i _ => true) l.length
    (fun _ => Ev.succ (by simp only [laws_eqIntSS.l0, Int.lt_irrefl, if_false]; exact Ev.now _))
    (fun i hi ih _ => by
      refine Ev.succ ?_
      simp only [laws_eqIntSS.l0, if_pos (Int.ofNat_lt.mpr hi), if_pos (Int.natCast_nonneg i), rdL_at hi, wr1 i (by omega)]
      refine Ev.bind (eqIntS_refl _ (hl.2 _ (List.getElem_mem hi))) ?_
      simp only [if_true]
      exact ih ())
  exact H ()
theorem spot_eq (p o : Int) : impl_spot.f p o = some (wi p 0 5 && wi o 0 3) := by
  unfold impl_spot.f
  rw [within_eq]; simp only [Option.bind_some, within_eq]
  cases wi p 0 5 <;> simp
def flatOk (m : List (List Int)) (p o : Int) : Prop := guestB m = true ∧ (0 ≤ p ∧ p < 6) ∧ (0 ≤ o ∧ o < 4)
instance (m : List (List Int)) (p o : Int) : Decidable (flatOk m p o) := by unfold flatOk; infer_instance
theorem flat_at {m : List (List Int)} {p o : Int} (h : flatOk m p o) : memAtOk m p o := by
  have g := guest_iff.mp h.1
  exact ⟨g.1, by have := h.2.1; omega, h.2.2⟩
def flatWOk (m : List (List Int)) (p o w : Int) : Prop := flatOk m p o ∧ (0 ≤ w ∧ w ≤ 63)
instance (m : List (List Int)) (p o w : Int) : Decidable (flatWOk m p o w) := by unfold flatWOk; infer_instance
def flatWrite (m : List (List Int)) (p o w : Int) : List (List Int) × Int := if flatWOk m p o w then (setW m p o w, rd (rd_L1 m p) o) else (m, -3)
theorem iFlatWrite_ev (m : List (List Int)) (p o w : Int) (hm : Small m) : Ev (fun k => impl_FlatWrite.f k m p o w) (flatWrite m p o w) := by
  unfold impl_FlatWrite.f
  refine Ev.bind (clone_ev m hm) (Ev.bind (iGuest_ev m hm) ?_)
  by_cases h : flatWOk m p o w
  · have hr := page_len (memAt_row (flat_at h.1))
    have g := guest_iff.mp h.1.1
    have e : flatWrite m p o w = (setW m p o w, rd (rd_L1 m p) o) := if_pos h
    obtain ⟨⟨hg, hp, ho⟩, hw⟩ := h
    rw [e]
    simp only [hg, if_true, spot_eq, wi_iff.mpr (show 0 ≤ p ∧ p ≤ 5 by omega), wi_iff.mpr (show 0 ≤ o ∧ o ≤ 3 by omega), Bool.and_self, Option.bind_some, impl_wordOk.f, within_eq, wi_iff.mpr hw, if_pos hp.1, if_pos (show p < (m.length : Int) by omega), if_pos ho.1, if_pos (show o < ((rd_L1 m p).length : Int) by omega)]
    exact Ev.now _
  · have e : flatWrite m p o w = (m, -3) := if_neg h
    rw [e]
    cases hg : guestB m
    · exact Ev.now _
    · simp only [if_true, spot_eq, Option.bind_some]
      cases hs : (wi p 0 5 && wi o 0 3)
      · exact Ev.now _
      · simp only [if_true, impl_wordOk.f, within_eq, Option.bind_some]
        rw [Bool.and_eq_true, wi_iff, wi_iff] at hs
        rw [wi_not.mpr (fun x => h ⟨⟨hg, by omega, by omega⟩, x⟩)]
        exact Ev.now _
def inE (m : List (List Int)) (p : Int) : Bool × Int × Bool := eof (mw m p.toNat)
theorem inE_at {m : List (List Int)} (h : guestB m = true) {p : Int} (h0 : 0 ≤ p) (h1 : p < 6) : rd_T40 (memTab m) p = entOf (inE m p) := memTab_at h h0 h1
theorem inE_page {m : List (List Int)} {p : Int} (h : (inE m p).1 = true) : 2 ≤ (inE m p).2.1 ∧ (inE m p).2.1 ≤ 5 := by
  unfold inE at *
  rcases eof_cases (mw m p.toNat) with ⟨a, b, e⟩ | ⟨_, e⟩
  · rw [e]; simp only; omega
  · rw [e] at h; cases h
theorem inE_ok {m : List (List Int)} {p o : Int} (h : flatOk m p o) (g : (inE m p).1 = true) : flatOk m (inE m p).2.1 o := by
  have := inE_page g
  exact ⟨h.1, by omega, h.2.2⟩
def walkR (m : List (List Int)) (p o : Int) (b : Bool) : Bool × Int × Bool × Int :=
  if flatOk m p o then ((inE m p).1, (inE m p).2.1, (inE m p).2.2, if (inE m p).1 = true then (if b = true ∧ ¬ (inE m p).2.2 = true then -2 else 0) else -1) else (false, 0, false, -3)
theorem walk_ev (m : List (List Int)) (p o : Int) (b : Bool) (hm : Small m) : Ev (fun k => spec_l11Walk.f k m p o b) (walkR m p o b) := by
  unfold spec_l11Walk.f
  have J : ∀ c, (c = false → flatOk m p o) → (c = true → ¬ flatOk m p o) → Ev (fun k => spec_l11Walk.j0 k m p b c) (walkR m p o b) := by
    intro c h1 h2
    refine Ev.succ ?_
    cases c
    · have h := h1 rfl
      have hl := memTab_len h.1
      unfold walkR
      simp only [spec_l11Walk.j0, Bool.false_eq_true, if_false, if_pos h]
      refine Ev.bind (sMemTab_ev m hm) ?_
      simp only [if_pos h.2.1.1, if_pos (show p < ((memTab m).length : Int) by have := h.2.1; omega), inE_at h.1 h.2.1.1 h.2.1.2, entOf]
      by_cases g : (inE m p).1 = true
      · simp only [if_pos g]
        cases b
        · simp only [Bool.false_eq_true, if_false, false_and]; exact Ev.now _
        · by_cases g2 : (inE m p).2.2 = true
          · simp only [if_true, if_pos g2, g2, not_true, and_false, if_false]; exact Ev.now _
          · simp only [if_true, if_neg g2, g2, not_false_iff, and_self, Bool.false_eq_true, if_false]; exact Ev.now _
      · simp only [if_neg g]; exact Ev.now _
    · simp only [spec_l11Walk.j0, if_true, walkR, if_neg (h2 rfl)]
      exact Ev.now _
  refine Ev.bind (sGuest_ev m hm) ?_
  cases hg : guestB m
  · exact J true (by simp) (fun _ x => by have y := x.1; rw [hg] at y; cases y)
  · simp only [if_true, l6In_eq, Option.bind_some]
    cases hs : wi p 0 5
    · exact J true (by simp) (fun _ x => by
        have hp := x.2.1
        rw [wi_iff.mpr (show 0 ≤ p ∧ p ≤ 5 by omega)] at hs; cases hs)
    · simp only [if_true]
      cases hs2 : wi o 0 3
      · exact J true (by simp) (fun _ x => by
          have ho := x.2.2
          rw [wi_iff.mpr (show 0 ≤ o ∧ o ≤ 3 by omega)] at hs2; cases hs2)
      · rw [wi_iff] at hs hs2
        exact J false (fun _ => ⟨hg, by omega, by omega⟩) (by simp)
def flatWriteIn (m : List (List Int)) (p o w : Int) : List (List Int) × Int :=
  if flatWOk m p o w then (if (inE m p).1 = true then (if (inE m p).2.2 = true then (setW m (inE m p).2.1 o w, rd (rd_L1 m (inE m p).2.1) o) else (m, -2)) else (m, -1)) else (m, -3)
theorem inW_ok {m : List (List Int)} {p o w : Int} (h : flatWOk m p o w) (g : (inE m p).1 = true) : flatWOk m (inE m p).2.1 o w := ⟨inE_ok h.1 g, h.2⟩
theorem flatWriteIn_cases (m : List (List Int)) (p o w : Int) : (flatWOk m p o w ∧ (inE m p).1 = true ∧ (inE m p).2.2 = true ∧ flatWriteIn m p o w = (setW m (inE m p).2.1 o w, rd (rd_L1 m (inE m p).2.1) o)) ∨
    (flatWOk m p o w ∧ (inE m p).1 = true ∧ ¬ (inE m p).2.2 = true ∧ flatWriteIn m p o w = (m, -2)) ∨ (flatWOk m p o w ∧ ¬ (inE m p).1 = true ∧ flatWriteIn m p o w = (m, -1)) ∨ (¬ flatWOk m p o w ∧ flatWriteIn m p o w = (m, -3)) := by
  unfold flatWriteIn
  by_cases h : flatWOk m p o w
  · by_cases g : (inE m p).1 = true
    · by_cases g2 : (inE m p).2.2 = true
      · exact .inl ⟨h, g, g2, by rw [if_pos h, if_pos g, if_pos g2]⟩
      · exact .inr (.inl ⟨h, g, g2, by rw [if_pos h, if_pos g, if_neg g2]⟩)
    · exact .inr (.inr (.inl ⟨h, g, by rw [if_pos h, if_neg g]⟩))
  · exact .inr (.inr (.inr ⟨h, by rw [if_neg h]⟩))
theorem iFlatWriteIn_ev (m : List (List Int)) (p o w : Int) (hm : Small m) : Ev (fun k => impl_FlatWriteIn.f k m p o w) (flatWriteIn m p o w) := by
  unfold impl_FlatWriteIn.f
  have J : ∀ c, (c = false → flatWOk m p o w) → (c = true → ¬ flatWOk m p o w) → Ev (fun k => impl_FlatWriteIn.j0 k m p o w c) (flatWriteIn m p o w) := by
    intro c h1 h2
    refine Ev.succ ?_
    cases c
    · have h := h1 rfl
      have hl := memTab_len h.1.1
      unfold flatWriteIn
      simp only [impl_FlatWriteIn.j0, Bool.false_eq_true, if_false, if_pos h]
      refine Ev.bind (iMemTab_ev m hm) ?_
      simp only [if_pos h.1.2.1.1, if_pos (show p < ((memTab m).length : Int) by have := h.1.2.1; omega), inE_at h.1.1 h.1.2.1.1 h.1.2.1.2, entOf]
      by_cases g : (inE m p).1 = true
      · simp only [if_pos g]
        by_cases g2 : (inE m p).2.2 = true
        · simp only [if_pos g2]
          refine Ev.bind (iFlatWrite_ev m _ o w hm) ?_
          simp only [flatWrite, if_pos (inW_ok h g)]
          exact Ev.now _
        · simp only [if_neg g2]
          exact Ev.bind (clone_ev m hm) (Ev.now _)
      · simp only [if_neg g]
        exact Ev.bind (clone_ev m hm) (Ev.now _)
    · simp only [impl_FlatWriteIn.j0, if_true, flatWriteIn, if_neg (h2 rfl)]
      exact Ev.bind (clone_ev m hm) (Ev.now _)
  refine Ev.bind (iGuest_ev m hm) ?_
  cases hg : guestB m
  · exact J true (by simp) (fun _ x => by have y := x.1.1; rw [hg] at y; cases y)
  · simp only [if_true, spot_eq, Option.bind_some]
    cases hs : (wi p 0 5 && wi o 0 3)
    · exact J true (by simp) (fun _ x => by
        have hp := x.1.2.1; have ho := x.1.2.2
        rw [wi_iff.mpr (show 0 ≤ p ∧ p ≤ 5 by omega), wi_iff.mpr (show 0 ≤ o ∧ o ≤ 3 by omega)] at hs; cases hs)
    · simp only [if_true, impl_wordOk.f, within_eq, Option.bind_some]
      rw [Bool.and_eq_true, wi_iff, wi_iff] at hs
      cases hw : wi w 0 63
      · exact J true (by simp) (fun _ x => by rw [wi_iff.mpr x.2] at hw; cases hw)
      · exact J false (fun _ => ⟨⟨hg, by omega, by omega⟩, wi_iff.mp hw⟩) (by simp)
theorem sFlatWriteIn_ev (m : List (List Int)) (p o w : Int) (hm : Small m) : Ev (fun k => spec_FlatWriteIn.f k m p o w) (flatWriteIn m p o w) := by
  unfold spec_FlatWriteIn.f
  refine Ev.bind (walk_ev m p o true hm) ?_
  simp only [l6In_eq, Option.bind_some]
  by_cases hw : 0 ≤ w ∧ w ≤ 63
  · simp only [wi_iff.mpr hw, if_true]
    unfold walkR flatWriteIn
    by_cases h : flatOk m p o
    · simp only [if_pos h, if_pos (show flatWOk m p o w from ⟨h, hw⟩)]
      by_cases g : (inE m p).1 = true
      · by_cases g2 : (inE m p).2.2 = true
        · have hp := inE_page g
          have hr := page_len (memAt_row (flat_at (inE_ok h g)))
          have ho := h.2.2
          have g6 := guest_iff.mp h.1
          simp only [if_pos g, g2, not_true, and_false, if_false, if_true, show ¬ ((0 : Int) < 0) by decide]
          refine Ev.bind (copy_ev m hm) ?_
          simp only [if_pos (show 0 ≤ (inE m p).2.1 by omega), if_pos (show (inE m p).2.1 < (m.length : Int) by omega), if_pos ho.1, if_pos (show o < ((rd_L1 m (inE m p).2.1).length : Int) by omega)]
          exact Ev.now _
        · simp only [if_pos g, g2, not_false_iff, and_self, if_true, show ((-2 : Int) < 0) by decide, Bool.false_eq_true, if_false]
          exact Ev.bind (copy_ev m hm) (Ev.now _)
      · simp only [if_neg g, show ((-1 : Int) < 0) by decide, if_true]
        exact Ev.bind (copy_ev m hm) (Ev.now _)
    · simp only [if_neg h, if_neg (show ¬ flatWOk m p o w from fun x => h x.1), show ((-3 : Int) < 0) by decide, if_true]
      exact Ev.bind (copy_ev m hm) (Ev.now _)
  · simp only [wi_not.mpr hw, Bool.false_eq_true, if_false]
    unfold flatWriteIn
    rw [if_neg (fun x => hw x.2)]
    exact Ev.bind (copy_ev m hm) (Ev.now _)
def ups (v : Int) (n : Nat) : List Int := (List.range n).map fun (j : Nat) => v + (j : Int)
theorem ups_len (v : Int) (n : Nat) : (ups v n).length = n := by simp [ups]
theorem ups_succ (v : Int) (n : Nat) : ups v (n + 1) = ups v n ++ [v + (n : Int)] := by simp [ups, List.range_succ]
theorem markIntS_ev (l : List Int) (v : Int) (h0 : 0 ≤ v) (h1 : v + (l.length : Int) ≤ 1000000000000000) : Ev (fun k => laws_markIntS.f k l v) (v + (l.length : Int), ups v l.length) := by
  unfold laws_markIntS.f
  have H : ∀ d i : Nat, i + d = l.length → Ev (fun k => laws_markIntS.l0 k (ups v i ++ l.drop i) (v + (i : Int)) (i : Int)) (v + (l.length : Int), ups v l.length) := by
    intro d
    induction d with
    | zero =>
      intro i hi
      obtain rfl : i = l.length := by omega
      refine Ev.succ ?_
      simp only [laws_markIntS.l0, List.drop_length, List.append_nil, ups_len, Int.lt_irrefl, if_false]
      exact Ev.now _
    | succ d ih =>
      intro i hi
      have hlt : i < l.length := by omega
      have hL : (ups v i ++ l.drop i).length = l.length := by simp [ups_len]; omega
      refine Ev.succ ?_
      simp only [laws_markIntS.l0, hL, if_pos (Int.ofNat_lt.mpr hlt), if_pos (Int.natCast_nonneg i), Int.toNat_natCast, wr1 i (by omega), wr (v + (i : Int) + 1) (by omega)]
      have e : (ups v i ++ l.drop i).set i (v + (i : Int)) = ups v (i + 1) ++ l.drop (i + 1) := by
        rw [drop_cons hlt, List.set_append_right _ _ (by simp [ups_len]), ups_len, Nat.sub_self, List.set_cons_zero, ups_succ]; simp
      rw [e, show v + (i : Int) + 1 = v + ((i + 1 : Nat) : Int) by omega]
      exact ih (i + 1) (by omega)
  have := H l.length 0 (by omega)
  simpa [ups] using this
theorem heldIntS_ev (n : Nat) (v : Int) (h0 : 0 ≤ v) (h1 : v + (n : Int) ≤ 1000000000000000) : Ev (fun k => laws_heldIntS.f k (ups v n) v) (v + (n : Int)) := by
  unfold laws_heldIntS.f
  have H : ∀ d i : Nat, i + d = n → Ev (fun k => laws_heldIntS.l0 k (ups v n) (v + (i : Int)) (i : Int)) (v + (n : Int)) := by
    intro d
    induction d with
    | zero =>
      intro i hi
      obtain rfl : i = n := by omega
      refine Ev.succ ?_
      simp only [laws_heldIntS.l0, ups_len, Int.lt_irrefl, if_false]
      exact Ev.now _
    | succ d ih =>
      intro i hi
      have hlt : i < n := by omega
      have e : rd (ups v n) (i : Int) = v + (i : Int) := by
        unfold rd; rw [Int.toNat_natCast, List.getD_eq_getElem?_getD, List.getElem?_eq_getElem (show i < (ups v n).length by rw [ups_len]; exact hlt)]; simp [ups]
      refine Ev.succ ?_
      simp only [laws_heldIntS.l0, ups_len, if_pos (Int.ofNat_lt.mpr hlt), if_pos (Int.natCast_nonneg i), wr1 i (by omega), wr (v + (i : Int) + 1) (by omega), e, if_true]
      rw [show v + (i : Int) + 1 = v + ((i + 1 : Nat) : Int) by omega]
      exact ih (i + 1) (by omega)
  have := H n 0 (by omega)
  simpa using this
def tot : List (List Int) → Int
  | [] => 0
  | r :: rs => (r.length : Int) + tot rs
def mkSS : Int → List (List Int) → List (List Int)
  | _, [] => []
  | v, r :: rs => ups v r.length :: mkSS (v + (r.length : Int)) rs
theorem tot_nonneg : ∀ l : List (List Int), 0 ≤ tot l
  | [] => by simp [tot]
  | r :: rs => by have := tot_nonneg rs; simp only [tot]; omega
theorem tot_le : ∀ l : List (List Int), (∀ r ∈ l, (r.length : Int) ≤ 1048576) → tot l ≤ 1048576 * (l.length : Int)
  | [], _ => by simp [tot]
  | r :: rs, h => by
    have h1 := h r List.mem_cons_self
    have h2 := tot_le rs fun x hx => h x (List.mem_cons_of_mem _ hx)
    simp only [tot, List.length_cons]
    omega
theorem rdL_mid (a : List (List Int)) (r : List Int) (b : List (List Int)) : rd_L1 (a ++ r :: b) (a.length : Int) = r := by
  unfold rd_L1; rw [Int.toNat_natCast, List.getD_eq_getElem?_getD, List.getElem?_append_right (Nat.le_refl _)]; simp
theorem markIntSS_ev (l : List (List Int)) (v : Int) (h0 : 0 ≤ v) (h1 : v + tot l ≤ 1000000000000000) (h2 : (l.length : Int) ≤ 1000000000000000) : Ev (fun k => laws_markIntSS.f k l v) (v + tot l, mkSS v l) := by
  unfold laws_markIntSS.f
  have H : ∀ (rest done : List (List Int)) (v : Int), 0 ≤ v → v + tot rest ≤ 1000000000000000 → (done.length : Int) + (rest.length : Int) ≤ 1000000000000000 → Ev (fun k => laws_markIntSS.l0 k (done ++ rest) v (done.length : Int)) (v + tot rest, done ++ mkSS v rest) := by
    intro rest
    induction rest with
    | nil =>
      intro done v _ _ _
      refine Ev.succ ?_
      simp only [laws_markIntSS.l0, List.append_nil, Int.lt_irrefl, if_false]
      exact Ev.cast (by simp [tot, mkSS]) (Ev.now _)
    | cons r rs ih =>
      intro done v a b c
      have tn := tot_nonneg rs
      simp only [tot, List.length_cons] at b c
      refine Ev.succ ?_
      simp only [laws_markIntSS.l0, if_pos (show (done.length : Int) < ((done ++ r :: rs).length : Int) by simp only [List.length_append, List.length_cons]; omega), if_pos (Int.natCast_nonneg done.length), rdL_mid, wr1 done.length (by omega)]
      refine Ev.bind (markIntS_ev r v a (by omega)) ?_
      have e : (done ++ r :: rs).set ((done.length : Int)).toNat (ups v r.length) = (done ++ [ups v r.length]) ++ rs := by
        rw [Int.toNat_natCast, List.set_append_right _ _ (Nat.le_refl _), Nat.sub_self, List.set_cons_zero]; simp
      simp only [e]
      have := ih (done ++ [ups v r.length]) (v + (r.length : Int)) (by omega) (by omega) (by simp only [List.length_append, List.length_cons, List.length_nil]; omega)
      rw [show ((done ++ [ups v r.length]).length : Int) = ((done.length + 1 : Nat) : Int) by simp] at this
      exact Ev.cast (by simp [tot, mkSS]; omega) this
  have := H l [] v h0 h1 (by simp; omega)
  simpa using this
theorem heldIntSS_ev (l : List (List Int)) (v : Int) (h0 : 0 ≤ v) (h1 : v + tot l ≤ 1000000000000000) (h2 : (l.length : Int) ≤ 1000000000000000) : Ev (fun k => laws_heldIntSS.f k (mkSS v l) v) (v + tot l) := by
  unfold laws_heldIntSS.f
  have H : ∀ (rest done : List (List Int)) (v : Int), 0 ≤ v → v + tot rest ≤ 1000000000000000 → (done.length : Int) + (rest.length : Int) ≤ 1000000000000000 → Ev (fun k => laws_heldIntSS.l0 k (done ++ mkSS v rest) v (done.length : Int)) (v + tot rest) := by
    intro rest
    induction rest with
    | nil =>
      intro done v _ _ _
      refine Ev.succ ?_
      simp only [laws_heldIntSS.l0, mkSS, List.append_nil, Int.lt_irrefl, if_false]
      exact Ev.cast (by simp [tot]) (Ev.now _)
    | cons r rs ih =>
      intro done v a b c
      have tn := tot_nonneg rs
      simp only [tot, List.length_cons] at b c
      refine Ev.succ ?_
      simp only [laws_heldIntSS.l0, mkSS, if_pos (show (done.length : Int) < ((done ++ ups v r.length :: mkSS (v + (r.length : Int)) rs).length : Int) by simp only [List.length_append, List.length_cons]; omega), if_pos (Int.natCast_nonneg done.length), rdL_mid, wr1 done.length (by omega)]
      refine Ev.bind (heldIntS_ev r.length v a (by omega)) ?_
      simp only [if_neg (show ¬ v + (r.length : Int) < 0 by omega)]
      have := ih (done ++ [ups v r.length]) (v + (r.length : Int)) (by omega) (by omega) (by simp only [List.length_append, List.length_cons, List.length_nil]; omega)
      rw [show ((done ++ [ups v r.length]).length : Int) = ((done.length + 1 : Nat) : Int) by simp, List.append_assoc, List.singleton_append] at this
      exact Ev.cast (by simp [tot]; omega) this
  have := H l [] v h0 h1 (by simp; omega)
  simpa using this
def Fit (m : List (List Int)) : Prop := (m.length : Int) ≤ 1048576 ∧ ∀ r ∈ m, (r.length : Int) ≤ 1048576
theorem fit_small {m : List (List Int)} (h : Fit m) : Small m := ⟨by have := h.1; omega, fun r hr => by have := h.2 r hr; omega⟩
theorem fit_tot {m : List (List Int)} (h : Fit m) : tot m ≤ 2000000000000 := by have := tot_le m h.2; have := h.1; omega
theorem fit_set {m : List (List Int)} (h : Fit m) {p : Int} (h0 : 0 ≤ p) (h1 : p < m.length) (o w : Int) : Fit (setW m p o w) := by
  have hr := h.2 _ (rdL_mem h0 h1)
  refine ⟨by simp [setW]; exact h.1, fun r hr' => ?_⟩
  rcases List.mem_or_eq_of_mem_set hr' with x | rfl
  · exact h.2 r x
  · simpa using hr

-- the law
theorem FnExactFlatWriteIn (m : List (List Int)) (p o w : Int) (hl : m.length ≤ 9223372036854775807) (hr : ∀ r ∈ m, r.length ≤ 9223372036854775807) (_ : (Lit.int .i64 p).wf = true) (_ : (Lit.int .i64 o).wf = true) (_ : (Lit.int .i64 w).wf = true) : ∃ k, laws_FnExactFlatWriteIn.f k m p o w = some true := by
  apply Ev.rounds
  unfold laws_FnExactFlatWriteIn.f
  rcases szIntSS_ev m hl hr with e | ⟨n, e, h0, hL, hR⟩
  · refine Ev.bind e ?_
    simp only [show ((-1 : Int) < 0) = True by simp, if_true]; exact Ev.now _
  refine Ev.bind e ?_
  simp only [if_neg (show ¬ n < 0 by omega)]
  have T := toIntSS_ev m hL hR
  have hF : Fit m := ⟨hL, hR⟩
  have hm := fit_small hF
  have gF : Fit (flatWriteIn m p o w).1 := by
    rcases flatWriteIn_cases m p o w with ⟨h, q, q2, e⟩ | ⟨_, _, _, e⟩ | ⟨_, _, e⟩ | ⟨_, e⟩ <;> rw [e]
    · exact fit_set hF (flat_at (inW_ok h q).1).2.1.1 (flat_at (inW_ok h q).1).2.1.2 o w
    all_goals exact hF
  have G := iFlatWriteIn_ev m p o w hm
  have E := eqIntSS_refl _ (fit_small gF)
  have t1 := fit_tot hF; have t2 := fit_tot gF; have n1 := tot_nonneg m; have n2 := tot_nonneg (flatWriteIn m p o w).1
  have l1 := hF.1; have l2 := gF.1
  have Hd := heldIntSS_ev (flatWriteIn m p o w).1 1 (by omega) (by omega) (by omega)
  refine Ev.bind T (Ev.bind (sFlatWriteIn_ev m p o w hm) (Ev.bind T (Ev.bind G (Ev.bind E ?_))))
  simp only [if_true]
  refine Ev.bind T (Ev.bind (eqIntSS_refl _ hm) ?_)
  simp only [if_true]
  refine Ev.bind (markIntSS_ev m 1 (by omega) (by omega) (by omega)) ?_
  simp only [if_neg (show ¬ 1 + tot m < 0 by omega)]
  refine Ev.bind E ?_
  simp only [if_true]
  refine Ev.bind (markIntSS_ev (flatWriteIn m p o w).1 1 (by omega) (by omega) (by omega)) (Ev.bind Hd ?_)
  simp only [if_neg (show ¬ 1 + tot (flatWriteIn m p o w).1 < 0 by omega), if_true]
  refine Ev.bind T (Ev.bind G (Ev.bind E ?_))
  simp only [if_true]
  refine Ev.bind Hd ?_
  simp only [if_neg (show ¬ 1 + tot (flatWriteIn m p o w).1 < 0 by omega), if_true]
  exact Ev.now _

end Go.Proofs.Ytpbhoimkcoggfaa.Pure
