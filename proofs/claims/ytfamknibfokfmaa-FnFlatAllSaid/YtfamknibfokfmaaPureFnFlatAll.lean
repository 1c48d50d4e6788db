/- The pure side of the law FnFlatAll: what the printed functions compute answers true. Conditions: none beyond the statement given. -/
import Derived.Test.YtfamknibfokfmaaQFnFlatAllx0
import Derived.Test.YtfamknibfokfmaaQFnFlatAllx1
import Derived.Test.YtfamknibfokfmaaQFnFlatAllx2
import Derived.Test.YtfamknibfokfmaaQFnFlatAllx3
import Derived.Test.YtfamknibfokfmaaQFnFlatAllx4
import Derived.Test.YtfamknibfokfmaaQFnFlatAllx5
import Derived.Test.YtfamknibfokfmaaQFnFlatAllx6
import Derived.Laws.BitsLemmas
namespace Go.Proofs.Ytfamknibfokfmaa.Pure
open Go Go.RowKit Go.Proofs.Ytfamknibfokfmaa.QFnFlatAll Go.Proofs.YtfamknibfokfmaaW.PrintWords Go.Proofs.YtfamknibfokfmaaW.PrintLast
set_option linter.unusedVariables false
set_option linter.unusedSimpArgs false

theorem Ev.succ {α : Type} {g : Nat → Option α} {r : α} (h : Ev (fun k => g (k + 1)) r) : Ev g r := Ev.step (fun _ => rfl) h
theorem Ev.cast {α : Type} {g : Nat → Option α} {r r' : α} (e : r = r') (h : Ev g r) : Ev g r' := e ▸ h
theorem wr (n : Int) (h : -9223372036854775808 ≤ n ∧ n ≤ 9223372036854775807) : wrap64 n = n := by unfold wrap64; omega
theorem wr1 (i : Nat) (h : (i : Int) ≤ 1000000000000000000) : wrap64 ((i : Int) + 1) = ((i + 1 : Nat) : Int) := by rw [wr _ (by omega)]; rfl
theorem Ev.down {σ ρ : Type} (g : Nat → Int → σ → Option ρ) (R : Nat → σ → ρ) (n : Nat) (hend : ∀ st, Ev (fun k => g k n st) (R n st))
    (hstep : ∀ i : Nat, i < n → (∀ st, Ev (fun k => g k ((i + 1 : Nat) : Int) st) (R (i + 1) st)) → ∀ st, Ev (fun k => g k (i : Int) st) (R i st)) :
    ∀ st, Ev (fun k => g k 0 st) (R 0 st) := by
  have H : ∀ d i : Nat, i + d = n → ∀ st, Ev (fun k => g k (i : Int) st) (R i st) := by
    intro d
    induction d with
    | zero => intro i hi st; obtain rfl : i = n := by omega
              exact hend st
    | succ d ih => intro i hi; exact hstep i (by omega) (ih (i + 1) (by omega))
  exact H n 0 (by omega)
theorem drop_cons {α : Type} {l : List α} {i : Nat} (h : i < l.length) : l.drop i = l[i] :: l.drop (i + 1) := List.drop_eq_getElem_cons h
theorem rd_at {l : List Int} {i : Nat} (h : i < l.length) : rd l (i : Int) = l[i] := by simp [rd, h]
theorem getD_at {α : Type} {l : List α} {i : Nat} (z : α) (h : i < l.length) : l.getD ((i : Int)).toNat z = l[i] := by simp [h]
theorem u8_in {n : Int} (h : (Lit.int .u8 n).wf = true) : 0 ≤ n ∧ n ≤ 255 := by
  have e1 : IntKind.u8.min = 0 := by decide
  have e2 : IntKind.u8.max = 255 := by decide
  simp only [Lit.wf, e1, e2, Bool.and_eq_true, decide_eq_true_eq] at h; exact h
def wi (a lo hi : Int) : Bool := decide (lo ≤ a) && decide (a ≤ hi)
theorem wi_iff {a lo hi : Int} : wi a lo hi = true ↔ lo ≤ a ∧ a ≤ hi := by simp [wi]
theorem wi_not {a lo hi : Int} : wi a lo hi = false ↔ ¬ (lo ≤ a ∧ a ≤ hi) := by rw [← wi_iff]; simp
theorem l6In_eq (a lo hi : Int) : spec_l6In.f a lo hi = some (wi a lo hi) := by
  unfold spec_l6In.f wi
  by_cases h : a ≥ lo
  · rw [if_pos h]; simp [h]
  · rw [if_neg h]; simp; omega
theorem within_eq (a lo hi : Int) : impl_within.f a lo hi = some (wi a lo hi) := by
  unfold impl_within.f wi
  by_cases h : a ≥ lo
  · rw [if_pos h]; simp [h]
  · rw [if_neg h]; simp; omega
theorem xor_nat (a b : Nat) (ha : a < 2 ^ 62) (hb : b < 2 ^ 62) : bits .xor .i64 (a : Int) (b : Int) = ((a ^^^ b : Nat) : Int) := by
  have ha' : a % 2 ^ 64 = a := Nat.mod_eq_of_lt (Nat.lt_of_lt_of_le ha (by decide))
  have hb' : b % 2 ^ 64 = b := Nat.mod_eq_of_lt (Nat.lt_of_lt_of_le hb (by decide))
  have hx : a ^^^ b < 2 ^ 62 := Nat.xor_lt_two_pow ha hb
  have e : IntKind.i64.bits = 64 := rfl
  simp only [bits, e, BitVec.ofInt_natCast, BitVec.toNat_xor, BitVec.toNat_ofNat, ha', hb']
  rw [IntKind.wrap_i64]; omega
theorem xor_nn (a b : Int) (ha : 0 ≤ a) (ha' : a < 4611686018427387904) (hb : 0 ≤ b) (hb' : b < 4611686018427387904) : 0 ≤ bits .xor .i64 a b := by
  obtain ⟨x, rfl⟩ := Int.eq_ofNat_of_zero_le ha
  obtain ⟨y, rfl⟩ := Int.eq_ofNat_of_zero_le hb
  rw [xor_nat x y (by omega) (by omega)]; omega
theorem tmod_in (x n : Int) (hx : 0 ≤ x) (hn : 1 ≤ n) : 0 ≤ Int.tmod x n ∧ Int.tmod x n < n := by
  rw [Int.tmod_eq_emod_of_nonneg hx]
  exact ⟨Int.emod_nonneg _ (by omega), Int.emod_lt_of_pos _ (by omega)⟩
def ByB (b : List Int) : Prop := ∀ i : Int, 0 ≤ rd b i ∧ rd b i ≤ 255
theorem byB_of {b : List Int} (h : ∀ x ∈ b, (Lit.int .u8 x).wf = true) : ByB b := by
  intro i
  unfold rd
  rw [List.getD_eq_getElem?_getD]
  cases e : b[i.toNat]? with
  | none => simp
  | some x => simpa using u8_in (h x (List.mem_of_getElem? e))
theorem pick_ev (b : List Int) (p n : Int) (hb : ByB b) (hl : (b.length : Int) ≤ 2000) (hp : 0 ≤ p) (hp' : p ≤ 1000000000) (hn : 1 ≤ n) (hn' : n ≤ 1000000000000) :
    ∃ v, Ev (fun k => spec_l6Rd_pick.f k b p n) (v, p + 1) ∧ 0 ≤ v ∧ v < n := by
  unfold spec_l6Rd_pick.f
  simp only [if_neg (show ¬ n < 1 by omega), wr (p + 1) (by omega)]
  by_cases e : b.length = 0
  · refine ⟨0, Ev.succ ?_, by omega, by omega⟩
    simp only [spec_l6Rd_pick.j0, e]
    exact Ev.now _
  · have e' : ((b.length : Int) == 0) = false := by simp; intro h; exact e (by simp [h])
    simp only [e']
    by_cases g : p < b.length
    · have hb1 := hb p
      have t := tmod_in (rd b p) n hb1.1 hn
      refine ⟨Int.tmod (rd b p) n, Ev.succ ?_, t.1, t.2⟩
      simp only [spec_l6Rd_pick.j0, show p + 1 - 1 = p by omega, wr p (by omega), if_pos g, if_pos hp, if_neg (show ¬ n = 0 by omega), wr (rd b p) (by omega), Bool.false_eq_true, if_false]
      exact Ev.now _
    · have hL : (1 : Int) ≤ b.length := by omega
      have q1 := tmod_in p b.length hp hL
      have q2 := tmod_in (p * 7 + 3) b.length (by omega) hL
      have b1 := hb (Int.tmod p b.length)
      have b2 := hb (Int.tmod (p * 7 + 3) b.length)
      have q3 : 0 ≤ Int.tdiv p b.length ∧ Int.tdiv p b.length ≤ p := by
        rw [Int.tdiv_eq_ediv_of_nonneg hp]
        exact ⟨Int.ediv_nonneg hp (by omega), Int.ediv_le_self _ hp⟩
      generalize hx : rd b (Int.tmod p b.length) = X at *
      generalize hy : rd b (Int.tmod (p * 7 + 3) b.length) = Y at *
      generalize hz : Int.tdiv p b.length = Z at *
      have q4 : 0 ≤ Int.tdiv (X * 131 + Y * 1117 + p * 29 + Z * 53) 64 ∧ Int.tdiv (X * 131 + Y * 1117 + p * 29 + Z * 53) 64 ≤ 4611686018427387903 := by
        rw [Int.tdiv_eq_ediv_of_nonneg (by omega)]; omega
      generalize hu : Int.tdiv (X * 131 + Y * 1117 + p * 29 + Z * 53) 64 = U at *
      have q5 := xor_nn (X * 131 + Y * 1117 + p * 29 + Z * 53) U (by omega) (by omega) (by omega) (by omega)
      have t := tmod_in _ n q5 hn
      refine ⟨Int.tmod (bits .xor .i64 (X * 131 + Y * 1117 + p * 29 + Z * 53) U) n, Ev.succ ?_, t.1, t.2⟩
      simp only [spec_l6Rd_pick.j0, show p + 1 - 1 = p by omega, wr p (by omega), if_neg g, if_neg (show ¬ (b.length : Int) = 0 by omega), if_pos q1.1, if_pos q1.2, wr (p * 7) (by omega), wr (p * 7 + 3) (by omega), if_pos q2.1, if_pos q2.2, if_neg (show ¬ n = 0 by omega), hx, hy, hz, wr X (by omega), wr Y (by omega), wr Z (by omega), wr (X * 131) (by omega), wr (Y * 1117) (by omega), wr (X * 131 + Y * 1117) (by omega), wr (p * 29) (by omega), wr (X * 131 + Y * 1117 + p * 29) (by omega), wr (Z * 53) (by omega), wr (X * 131 + Y * 1117 + p * 29 + Z * 53) (by omega), hu, wr U (by omega), Bool.false_eq_true, if_false]
      exact Ev.now _
theorem open_eq (l : List Int) (h : ∀ x ∈ l, (Lit.int .u8 x).wf = true) : ∃ b, spec_l6Open.f l = some (b, 0) ∧ ByB b ∧ (b.length : Int) ≤ 2000 := by
  unfold spec_l6Open.f
  by_cases g : (l.length : Int) > 2000
  · rw [if_pos g, if_pos (by omega)]
    exact ⟨_, rfl, byB_of fun x hx => h x (List.mem_of_mem_take hx), by simp; omega⟩
  · rw [if_neg g]
    exact ⟨_, rfl, byB_of h, by omega⟩
theorem rdL_at {l : List (List Int)} {i : Nat} (h : i < l.length) : rd_L2 l (i : Int) = l[i] := getD_at _ h
def pageB (p : List Int) : Bool := p.all (fun w => wi w 0 63) && ((p.length : Int) == 4)
def memB (m : List (List Int)) : Bool := m.all pageB
def Small (m : List (List Int)) : Prop := (m.length : Int) ≤ 1000000000000 ∧ ∀ r ∈ m, (r.length : Int) ≤ 1000000000000
theorem rdL_mem {m : List (List Int)} {i : Int} (h0 : 0 ≤ i) (h : i < m.length) : rd_L2 m i ∈ m := by
  have e : i = ((i.toNat : Nat) : Int) := by omega
  rw [e, rdL_at (show i.toNat < m.length by omega)]; exact List.getElem_mem _
theorem memB_page {m : List (List Int)} (h : memB m = true) {r : List Int} (hr : r ∈ m) : pageB r = true := List.all_eq_true.mp h r hr
theorem page_len {r : List Int} (h : pageB r = true) : r.length = 4 := by
  simp [pageB] at h; omega
theorem page_word {r : List Int} (h : pageB r = true) {i : Int} (h0 : 0 ≤ i) (h1 : i < 4) : 0 ≤ rd r i ∧ rd r i ≤ 63 := by
  have hl := page_len h
  have e : i = ((i.toNat : Nat) : Int) := by omega
  rw [e, rd_at (show i.toNat < r.length by omega)]
  simp only [pageB, Bool.and_eq_true, List.all_eq_true] at h
  exact wi_iff.mp (h.1 _ (List.getElem_mem _))
theorem sPage_ev (p : List Int) (hl : (p.length : Int) ≤ 1000000000000) : Ev (fun k => spec_l2PageOk.f k p) (pageB p) := by
  unfold spec_l2PageOk.f
  have H := Ev.down (σ := Unit) (fun k i _ => spec_l2PageOk.l0 k p i) (fun i _ => (p.drop i).all (fun w => wi w 0 63) && ((p.length : Int) == 4)) p.length
    (fun _ => Ev.succ (by simp only [spec_l2PageOk.l0, Int.lt_irrefl, if_false]; exact Ev.cast (by simp) (Ev.now _)))
    (fun i hi ih _ => by
      refine Ev.succ ?_
      simp only [spec_l2PageOk.l0, if_pos (Int.ofNat_lt.mpr hi), if_pos (Int.natCast_nonneg i), rd_at hi, l6In_eq, Option.bind_some, wr1 i (by omega)]
      rw [drop_cons hi, List.all_cons]
      cases h : wi p[i] 0 63
      · exact Ev.now _
      · exact ih ())
  exact H ()
theorem sMemOk_ev (m : List (List Int)) (hm : Small m) : Ev (fun k => spec_MemOk.f k m) (memB m) := by
  unfold spec_MemOk.f
  have hl := hm.1
  have H := Ev.down (σ := Unit) (fun k i _ => spec_MemOk.l0 k m i) (fun i _ => (m.drop i).all pageB) m.length
    (fun _ => Ev.succ (by simp only [spec_MemOk.l0, Int.lt_irrefl, if_false]; exact Ev.cast (by simp) (Ev.now _)))
    (fun i hi ih _ => by
      refine Ev.succ ?_
      simp only [spec_MemOk.l0, if_pos (Int.ofNat_lt.mpr hi), if_pos (Int.natCast_nonneg i), rdL_at hi, wr1 i (by omega)]
      refine Ev.bind (sPage_ev m[i] (hm.2 _ (List.getElem_mem hi))) ?_
      rw [drop_cons hi, List.all_cons]
      cases h : pageB m[i]
      · exact Ev.now _
      · exact ih ())
  exact H ()
theorem iPage_ev (p : List Int) (hl : (p.length : Int) ≤ 1000000000000) : Ev (fun k => impl_pageOk.f k p) (pageB p) := by
  unfold impl_pageOk.f
  have H := Ev.down (σ := Unit) (fun k i _ => impl_pageOk.l0 k p p p.length i) (fun i _ => (p.drop i).all (fun w => wi w 0 63) && ((p.length : Int) == 4)) p.length
    (fun _ => Ev.succ (by simp only [impl_pageOk.l0, Int.lt_irrefl, if_false]; exact Ev.cast (by simp) (Ev.now _)))
    (fun i hi ih _ => by
      refine Ev.succ ?_
      simp only [impl_pageOk.l0, if_pos (Int.ofNat_lt.mpr hi), if_pos (Int.natCast_nonneg i), rd_at hi, within_eq, Option.bind_some, wr1 i (by omega)]
      rw [drop_cons hi, List.all_cons]
      cases h : wi p[i] 0 63
      · exact Ev.now _
      · exact ih ())
  exact H ()
theorem iMemOk_ev (m : List (List Int)) (hm : Small m) : Ev (fun k => impl_MemOk.f k m) (memB m) := by
  unfold impl_MemOk.f
  have hl := hm.1
  have H := Ev.down (σ := Unit) (fun k i _ => impl_MemOk.l0 k m m.length i) (fun i _ => (m.drop i).all pageB) m.length
    (fun _ => Ev.succ (by simp only [impl_MemOk.l0, Int.lt_irrefl, if_false]; exact Ev.cast (by simp) (Ev.now _)))
    (fun i hi ih _ => by
      refine Ev.succ ?_
      simp only [impl_MemOk.l0, if_pos (Int.ofNat_lt.mpr hi), if_pos (Int.natCast_nonneg i), rdL_at hi, wr1 i (by omega)]
      refine Ev.bind (iPage_ev m[i] (hm.2 _ (List.getElem_mem hi))) ?_
      rw [drop_cons hi, List.all_cons]
      cases h : pageB m[i]
      · exact Ev.now _
      · exact ih ())
  exact H ()
def memAtOk (m : List (List Int)) (p o : Int) : Prop := memB m = true ∧ (0 ≤ p ∧ p < m.length) ∧ (0 ≤ o ∧ o < 4)
instance (m : List (List Int)) (p o : Int) : Decidable (memAtOk m p o) := by unfold memAtOk; infer_instance
def memAt (m : List (List Int)) (p o : Int) : Int × Bool := if memAtOk m p o then (rd (rd_L2 m p) o, true) else (0, false)
theorem memAt_row {m : List (List Int)} {p o : Int} (h : memAtOk m p o) : pageB (rd_L2 m p) = true := memB_page h.1 (rdL_mem h.2.1.1 h.2.1.2)
theorem iMemAt_ev (m : List (List Int)) (p o : Int) (hm : Small m) : Ev (fun k => impl_MemAt.f k m p o) (memAt m p o) := by
  unfold impl_MemAt.f
  have hl := hm.1
  refine Ev.bind (iMemOk_ev m hm) ?_
  cases hb : memB m
  · exact Ev.cast (by unfold memAt; rw [if_neg (by simp [memAtOk, hb])]) (Ev.now (0, false))
  · simp only [if_true, within_eq, Option.bind_some, wr ((m.length : Int) - 1) (by omega)]
    by_cases h1 : 0 ≤ p ∧ p < m.length
    · simp only [wi_iff.mpr (show 0 ≤ p ∧ p ≤ (m.length : Int) - 1 by omega), if_true]
      by_cases h2 : 0 ≤ o ∧ o < 4
      · have hr := page_len (memB_page hb (rdL_mem h1.1 h1.2))
        simp only [wi_iff.mpr (show 0 ≤ o ∧ o ≤ 3 by omega), if_true, if_pos h1.1, if_pos h1.2, if_pos h2.1, if_pos (show o < ((rd_L2 m p).length : Int) by omega)]
        exact Ev.cast (by unfold memAt; rw [if_pos ⟨hb, h1, h2⟩]) (Ev.now _)
      · simp only [wi_not.mpr (show ¬ (0 ≤ o ∧ o ≤ 3) by omega), Bool.false_eq_true, if_false]
        exact Ev.cast (by unfold memAt; rw [if_neg (fun x => h2 x.2.2)]) (Ev.now _)
    · simp only [wi_not.mpr (show ¬ (0 ≤ p ∧ p ≤ (m.length : Int) - 1) by omega), Bool.false_eq_true, if_false]
      exact Ev.cast (by unfold memAt; rw [if_neg (fun x => h1 x.2.1)]) (Ev.now _)
theorem sMemAt_ev (m : List (List Int)) (p o : Int) (hm : Small m) : Ev (fun k => spec_MemAt.f k m p o) (memAt m p o) := by
  unfold spec_MemAt.f
  have hl := hm.1
  refine Ev.bind (sMemOk_ev m hm) ?_
  cases hb : memB m
  · exact Ev.cast (by unfold memAt; rw [if_neg (by simp [memAtOk, hb])]) (Ev.now (0, false))
  · simp only [if_true, l6In_eq, Option.bind_some, wr ((m.length : Int) - 1) (by omega)]
    by_cases h1 : 0 ≤ p ∧ p < m.length
    · simp only [wi_iff.mpr (show 0 ≤ p ∧ p ≤ (m.length : Int) - 1 by omega), if_true]
      by_cases h2 : 0 ≤ o ∧ o < 4
      · have hr := page_len (memB_page hb (rdL_mem h1.1 h1.2))
        simp only [wi_iff.mpr (show 0 ≤ o ∧ o ≤ 3 by omega), if_true, if_pos h1.1, if_pos h1.2, if_pos h2.1, if_pos (show o < ((rd_L2 m p).length : Int) by omega)]
        exact Ev.cast (by unfold memAt; rw [if_pos ⟨hb, h1, h2⟩]) (Ev.now _)
      · simp only [wi_not.mpr (show ¬ (0 ≤ o ∧ o ≤ 3) by omega), Bool.false_eq_true, if_false]
        exact Ev.cast (by unfold memAt; rw [if_neg (fun x => h2 x.2.2)]) (Ev.now _)
    · simp only [wi_not.mpr (show ¬ (0 ≤ p ∧ p ≤ (m.length : Int) - 1) by omega), Bool.false_eq_true, if_false]
      exact Ev.cast (by unfold memAt; rw [if_neg (fun x => h1 x.2.1)]) (Ev.now _)
def guestB (m : List (List Int)) : Bool := memB m && ((m.length : Int) == 6)
theorem guest_iff {m : List (List Int)} : guestB m = true ↔ memB m = true ∧ m.length = 6 := by
  simp [guestB]; intro _; omega
theorem iGuest_ev (m : List (List Int)) (hm : Small m) : Ev (fun k => impl_guestMem.f k m) (guestB m) := by
  unfold impl_guestMem.f guestB
  refine Ev.bind (iMemOk_ev m hm) ?_
  cases memB m
  · exact Ev.now _
  · exact Ev.cast (by simp) (Ev.now _)
theorem sGuest_ev (m : List (List Int)) (hm : Small m) : Ev (fun k => spec_l11Guest.f k m) (guestB m) := by
  unfold spec_l11Guest.f guestB
  refine Ev.bind (sMemOk_ev m hm) ?_
  cases memB m
  · exact Ev.now _
  · exact Ev.cast (by simp) (Ev.now _)
theorem word_ev (b : List Int) (p : Int) (hb : ByB b) (hl : (b.length : Int) ≤ 2000) (hp : 0 ≤ p) (hp' : p ≤ 100000000) :
    ∃ v p', Ev (fun k => spec_l71Word.f k b p) (v, p') ∧ p ≤ p' ∧ p' ≤ p + 2 ∧ 0 ≤ v ∧ v ≤ 63 := by
  unfold spec_l71Word.f
  obtain ⟨v, h1, v1, v2⟩ := pick_ev b p 3 hb hl (by omega) (by omega) (by omega) (by omega)
  obtain ⟨z, h2, z1, z2⟩ := pick_ev b (p + 1) 64 hb hl (by omega) (by omega) (by omega) (by omega)
  obtain ⟨y, h3, y1, y2⟩ := pick_ev b (p + 1) 14 hb hl (by omega) (by omega) (by omega) (by omega)
  by_cases c : v = 0
  · refine ⟨z, p + 1 + 1, Ev.bind h1 ?_, by omega, by omega, by omega, by omega⟩
    simp only [if_pos c]; exact Ev.bind h2 (Ev.now _)
  · refine ⟨y, p + 1 + 1, Ev.bind h1 ?_, by omega, by omega, by omega, by omega⟩
    simp only [if_neg c]; exact Ev.bind h3 (Ev.now _)
def Shape (m : List (List Int)) : Prop := m.length = 6 ∧ ∀ r ∈ m, r.length = 4
theorem shape_set {m : List (List Int)} (h : Shape m) {p : Int} (h0 : 0 ≤ p) (h1 : p < 6) (j : Nat) (v : Int) : Shape (m.set p.toNat ((rd_L2 m p).set j v)) := by
  have hr := h.2 _ (rdL_mem (m := m) h0 (by have := h.1; omega))
  refine ⟨by simp [h.1], fun r hr' => ?_⟩
  rcases List.mem_or_eq_of_mem_set hr' with x | rfl
  · exact h.2 r x
  · simp [hr]
theorem sMemNew6 : Ev (fun k => spec_MemNew.f k 6) (List.replicate 6 (List.replicate 4 0)) := by
  refine Ev.of (fun k => spec_MemNew.mono 6 k) (k := 10) ?_
  kernel_rfl
theorem mem_ev (b : List Int) (p : Int) (hb : ByB b) (hl : (b.length : Int) ≤ 2000) (hp : 0 ≤ p) (hp' : p ≤ 10000000) :
    ∃ m p', Ev (fun k => spec_l71Mem.f k b p) (m, p') ∧ p ≤ p' ∧ p' ≤ p + 200 ∧ Shape m := by
  have H1 : ∀ n : Nat, ∀ (m : List (List Int)) (p : Int), Shape m → 0 ≤ p → p + 3 * n ≤ 20000000 → ∃ m' p', Ev (fun k => spec_l71Mem.l1 k m (n : Int) b p) (m', p') ∧ p ≤ p' ∧ p' ≤ p + 3 * n ∧ Shape m' := by
    intro n
    induction n with
    | zero =>
      intro m p hs h0 h1
      refine ⟨m, p, Ev.succ ?_, by omega, by omega, hs⟩
      simp only [spec_l71Mem.l1, if_neg (show ¬ ((0 : Nat) : Int) > 0 by omega)]
      exact Ev.now _
    | succ n ih =>
      intro m p hs h0 h1
      obtain ⟨v, g1, v1, v2⟩ := pick_ev b p 6 hb hl (by omega) (by omega) (by omega) (by omega)
      obtain ⟨u, g2, u1, u2⟩ := pick_ev b (p + 1) 8 hb hl (by omega) (by omega) (by omega) (by omega)
      have e1 : Int.tdiv v 4 = v / 4 := Int.tdiv_eq_ediv_of_nonneg v1
      have e2 : Int.tmod v 4 = v % 4 := Int.tmod_eq_emod_of_nonneg v1
      have hlen := hs.1
      have hr := hs.2 _ (rdL_mem (m := m) (i := v / 4) (by omega) (by omega))
      obtain ⟨m', p', g3, a1, a2, a3⟩ := ih _ (p + 1 + 1) (shape_set hs (p := v / 4) (by omega) (by omega) (v % 4).toNat (5 + u)) (by omega) (by omega)
      refine ⟨m', p', Ev.succ ?_, by omega, by omega, a3⟩
      simp only [spec_l71Mem.l1, if_pos (show ((n + 1 : Nat) : Int) > 0 by omega), show ((n + 1 : Nat) : Int) - 1 = (n : Int) by omega, wr (n : Int) (by omega)]
      refine Ev.bind g1 ?_
      simp only [e1, e2, wr (v / 4) (by omega), if_pos (show 0 ≤ v / 4 by omega), if_pos (show v / 4 < (m.length : Int) by omega)]
      refine Ev.bind g2 ?_
      simp only [if_pos (show 0 ≤ v % 4 by omega), if_pos (show v % 4 < ((rd_L2 m (v / 4)).length : Int) by omega), wr (5 + u) (by omega)]
      exact g3
  have H0 : ∀ n : Nat, n ≤ 26 → ∀ (m : List (List Int)) (p : Int), Shape m → 0 ≤ p → p + 5 * n ≤ 15000000 → ∃ m' p', Ev (fun k => spec_l71Mem.l0 k m (n : Int) b p) (m', p') ∧ p ≤ p' ∧ p' ≤ p + 5 * n + 30 ∧ Shape m' := by
    intro n
    induction n with
    | zero =>
      intro _ m p hs h0 h1
      obtain ⟨v, g1, v1, v2⟩ := pick_ev b p 7 hb hl (by omega) (by omega) (by omega) (by omega)
      obtain ⟨w, rfl⟩ := Int.eq_ofNat_of_zero_le v1
      obtain ⟨m', p', g2, a1, a2, a3⟩ := H1 w m (p + 1) hs (by omega) (by omega)
      refine ⟨m', p', Ev.succ ?_, by omega, by omega, a3⟩
      simp only [spec_l71Mem.l0, if_neg (show ¬ ((0 : Nat) : Int) > 0 by omega)]
      exact Ev.bind g1 g2
    | succ n ih =>
      intro hn m p hs h0 h1
      obtain ⟨v, g1, v1, v2⟩ := pick_ev b p 6 hb hl (by omega) (by omega) (by omega) (by omega)
      obtain ⟨u, g2, u1, u2⟩ := pick_ev b (p + 1) 4 hb hl (by omega) (by omega) (by omega) (by omega)
      obtain ⟨w, p1, g3, w1, w2, _, _⟩ := word_ev b (p + 1 + 1) hb hl (by omega) (by omega)
      have hlen := hs.1
      have hr := hs.2 _ (rdL_mem (m := m) (i := v) (by omega) (by omega))
      obtain ⟨m', p', g4, a1, a2, a3⟩ := ih (by omega) _ p1 (shape_set hs (p := v) (by omega) (by omega) u.toNat w) (by omega) (by omega)
      refine ⟨m', p', Ev.succ ?_, by omega, by omega, a3⟩
      simp only [spec_l71Mem.l0, if_pos (show ((n + 1 : Nat) : Int) > 0 by omega), show ((n + 1 : Nat) : Int) - 1 = (n : Int) by omega, wr (n : Int) (by omega)]
      refine Ev.bind g1 ?_
      simp only [if_pos v1, if_pos (show v < (m.length : Int) by omega)]
      refine Ev.bind g2 (Ev.bind g3 ?_)
      simp only [if_pos u1, if_pos (show u < ((rd_L2 m v).length : Int) by omega)]
      exact g4
  unfold spec_l71Mem.f
  obtain ⟨v, g1, v1, v2⟩ := pick_ev b p 26 hb hl (by omega) (by omega) (by omega) (by omega)
  obtain ⟨w, rfl⟩ := Int.eq_ofNat_of_zero_le v1
  obtain ⟨m', p', g2, a1, a2, a3⟩ := H0 w (by omega) (List.replicate 6 (List.replicate 4 0)) (p + 1) ⟨by simp, fun r hr => by rw [List.eq_of_mem_replicate hr]; simp⟩ (by omega) (by omega)
  exact ⟨m', p', Ev.bind sMemNew6 (Ev.bind g1 g2), by omega, by omega, a3⟩
def Near (m : List (List Int)) : Prop := (5 ≤ m.length ∧ m.length ≤ 6) ∧ ∀ r ∈ m, 2 ≤ r.length ∧ r.length ≤ 4
theorem near_small {m : List (List Int)} (h : Near m) : Small m := ⟨by have := h.1; omega, fun r hr => by have := h.2 r hr; omega⟩
theorem off_ev (b : List Int) (p : Int) (hb : ByB b) (hl : (b.length : Int) ≤ 2000) (hp : 0 ≤ p) (hp' : p ≤ 10000000) :
    ∃ m p', Ev (fun k => spec_l71Off.f k b p) (m, p') ∧ p ≤ p' ∧ p' ≤ p + 300 ∧ Near m := by
  unfold spec_l71Off.f
  obtain ⟨m, p1, g0, a1, a2, hs⟩ := mem_ev b p hb hl hp hp'
  obtain ⟨v, g1, v1, v2⟩ := pick_ev b p1 20 hb hl (by omega) (by omega) (by omega) (by omega)
  have hlen := hs.1
  obtain ⟨u, g2, u1, u2⟩ := pick_ev b (p1 + 1) m.length hb hl (by omega) (by omega) (by omega) (by omega)
  obtain ⟨w, g3, w1, w2⟩ := pick_ev b (p1 + 1 + 1) 2 hb hl (by omega) (by omega) (by omega) (by omega)
  have hN : Near m := ⟨by omega, fun r hr => by have := hs.2 r hr; omega⟩
  have hset : ∀ r : List Int, 2 ≤ r.length ∧ r.length ≤ 4 → Near (m.set u.toNat r) := by
    intro r hr
    refine ⟨by simp; omega, fun x hx => ?_⟩
    rcases List.mem_or_eq_of_mem_set hx with y | rfl
    · exact hN.2 x y
    · exact hr
  by_cases c0 : v = 0
  · refine ⟨m.drop 1, p1 + 1, Ev.bind g0 (Ev.bind g1 ?_), by omega, by omega, ⟨by simp; omega, fun r hr => hN.2 r (List.mem_of_mem_drop hr)⟩⟩
    simp only [if_pos c0, if_pos (show (1 : Int) ≤ m.length by omega)]
    exact Ev.now _
  by_cases c1 : v = 1
  · refine ⟨m.set u.toNat [1, 2], p1 + 1 + 1, Ev.bind g0 (Ev.bind g1 ?_), by omega, by omega, hset _ (by simp)⟩
    simp only [if_neg c0, if_pos c1]
    refine Ev.bind g2 ?_
    simp only [if_pos u1, if_pos u2]
    exact Ev.now _
  by_cases c2 : v = 2
  · have hr := hs.2 _ (rdL_mem (m := m) (i := u) u1 u2)
    refine ⟨m.set u.toNat ((rd_L2 m u).set 0 (rd [(-1), 64] w)), p1 + 1 + 1 + 1, Ev.bind g0 (Ev.bind g1 ?_), by omega, by omega, hset _ (by simp [hr])⟩
    simp only [if_neg c0, if_neg c1, if_pos c2]
    refine Ev.bind g2 ?_
    simp only [if_pos u1, if_pos u2, Option.bind_some]
    refine Ev.bind g3 ?_
    simp only [if_pos w1, if_pos (show w < (([(-1), 64] : List Int).length : Int) by simpa using w2), if_pos (show (0 : Int) < ((rd_L2 m u).length : Int) by omega)]
    exact Ev.now _
  · refine ⟨m, p1 + 1, Ev.bind g0 (Ev.bind g1 ?_), by omega, by omega, hN⟩
    simp only [if_neg c0, if_neg c1, if_neg c2]
    exact Ev.now _
theorem tdivS (x n : Int) (h0 : 0 ≤ x) (h1 : x < 24) (hn : n = 23) : 0 ≤ Int.tdiv x n ∧ Int.tdiv x n ≤ 1 := by
  subst hn; rw [Int.tdiv_eq_ediv_of_nonneg h0]; omega
theorem drawMemAt_ev (l : List Int) (h : ∀ x ∈ l, (Lit.int .u8 x).wf = true) : ∃ m p o, Ev (fun k => spec_DrawMemAt.f k l) (m, p, o) ∧ Near m ∧ (0 ≤ p ∧ p ≤ 6) ∧ (0 ≤ o ∧ o ≤ 4) := by
  unfold spec_DrawMemAt.f
  obtain ⟨b, e, hb, hl⟩ := open_eq l h
  obtain ⟨m, p1, g0, a1, a2, hN⟩ := off_ev b 0 hb hl (by omega) (by omega)
  obtain ⟨v1, g1, x1, y1⟩ := pick_ev b p1 6 hb hl (by omega) (by omega) (by omega) (by omega)
  obtain ⟨v2, g2, x2, y2⟩ := pick_ev b (p1 + 1) 24 hb hl (by omega) (by omega) (by omega) (by omega)
  obtain ⟨v3, g3, x3, y3⟩ := pick_ev b (p1 + 1 + 1) 4 hb hl (by omega) (by omega) (by omega) (by omega)
  obtain ⟨v4, g4, x4, y4⟩ := pick_ev b (p1 + 1 + 1 + 1) 24 hb hl (by omega) (by omega) (by omega) (by omega)
  have d2 := tdivS v2 23 x2 y2 rfl
  have d4 := tdivS v4 23 x4 y4 rfl
  refine ⟨m, v1 + Int.tdiv v2 23, v3 + Int.tdiv v4 23, ?_, hN, by omega, by omega⟩
  simp only [e, Option.bind_some]
  refine Ev.bind g0 (Ev.bind g1 (Ev.bind g2 (Ev.bind g3 (Ev.bind g4 ?_))))
  simp only [wr (Int.tdiv v2 23) (by omega), wr (v1 + Int.tdiv v2 23) (by omega), wr (Int.tdiv v4 23) (by omega), wr (v3 + Int.tdiv v4 23) (by omega)]
  exact Ev.now _
theorem lkInts_refl (l : List Int) (hl : (l.length : Int) ≤ 1000000000000) : Ev (fun k => laws_lkInts.f k l l) true := by
  unfold laws_lkInts.f
  simp only [if_true]
  have H := Ev.down (σ := Unit) (fun k i _ => laws_lkInts.l0 k l l i) (fun i _ => true) l.length
    (fun _ => Ev.succ (by simp only [laws_lkInts.l0, Int.lt_irrefl, if_false]; exact Ev.now _))
    (fun i hi ih _ => by
      refine Ev.succ ?_
      simp only [laws_lkInts.l0, if_pos (Int.ofNat_lt.mpr hi), if_pos (Int.natCast_nonneg i), if_true, wr1 i (by omega)]
      exact ih ())
  exact H ()
theorem lkMem_refl (l : List (List Int)) (hl : Small l) : Ev (fun k => laws_lkMem.f k l l) true := by
  unfold laws_lkMem.f
  simp only [if_true]
  have h1 := hl.1
  have H := Ev.down (σ := Unit) (fun k i _ => laws_lkMem.l0 k l l i) (fun i _ => true) l.length
    (fun _ => Ev.succ (by simp only [laws_lkMem.l0, Int.lt_irrefl, if_false]; exact Ev.now _))
    (fun i hi ih _ => by
      refine Ev.succ ?_
      simp only [laws_lkMem.l0, if_pos (Int.ofNat_lt.mpr hi), if_pos (Int.natCast_nonneg i), rdL_at hi, wr1 i (by omega)]
      refine Ev.bind (lkInts_refl _ (hl.2 _ (List.getElem_mem hi))) ?_
      simp only [if_true]
      exact ih ())
  exact H ()
theorem spot_eq (p o : Int) : impl_spot.f p o = some (wi p 0 5 && wi o 0 3) := by
  unfold impl_spot.f
  rw [within_eq]; simp only [Option.bind_some, within_eq]
  cases wi p 0 5 <;> simp
def flatOk (m : List (List Int)) (p o : Int) : Prop := guestB m = true ∧ (0 ≤ p ∧ p < 6) ∧ (0 ≤ o ∧ o < 4)
instance (m : List (List Int)) (p o : Int) : Decidable (flatOk m p o) := by unfold flatOk; infer_instance
theorem flat_at {m : List (List Int)} {p o : Int} (h : flatOk m p o) : memAtOk m p o := by
  have g := guest_iff.mp h.1
  exact ⟨g.1, by have := h.2.1; omega, h.2.2⟩
def flatRead (m : List (List Int)) (p o : Int) : Int := if flatOk m p o then rd (rd_L2 m p) o else -3
theorem flatRead_word {m : List (List Int)} {p o : Int} (h : flatOk m p o) : 0 ≤ rd (rd_L2 m p) o ∧ rd (rd_L2 m p) o ≤ 63 :=
  page_word (memAt_row (flat_at h)) h.2.2.1 h.2.2.2
theorem iFlatRead_ev (m : List (List Int)) (p o : Int) (hm : Small m) : Ev (fun k => impl_FlatRead.f k m p o) (flatRead m p o) := by
  unfold impl_FlatRead.f
  refine Ev.bind (iGuest_ev m hm) ?_
  cases hg : guestB m
  · exact Ev.cast (by unfold flatRead; rw [if_neg (fun x => by have y := x.1; rw [hg] at y; cases y)]) (Ev.now (-3))
  · simp only [if_true, spot_eq, Option.bind_some]
    have g := guest_iff.mp hg
    by_cases h : flatOk m p o
    · have hr := page_len (memAt_row (flat_at h))
      obtain ⟨_, hp, ho⟩ := h
      rw [wi_iff.mpr (show 0 ≤ p ∧ p ≤ 5 by omega), wi_iff.mpr (show 0 ≤ o ∧ o ≤ 3 by omega)]
      simp only [Bool.and_self, if_true, if_pos hp.1, if_pos (show p < (m.length : Int) by omega), if_pos ho.1, if_pos (show o < ((rd_L2 m p).length : Int) by omega)]
      exact Ev.cast (by unfold flatRead; rw [if_pos ⟨hg, hp, ho⟩]) (Ev.now _)
    · have e : (wi p 0 5 && wi o 0 3) = false := by
        rw [← Bool.not_eq_true, Bool.and_eq_true, wi_iff, wi_iff]; intro x; exact h ⟨hg, by omega, by omega⟩
      rw [e]
      simp only [Bool.false_eq_true, if_false]
      exact Ev.cast (by unfold flatRead; rw [if_neg h]) (Ev.now _)
theorem sFlatRead_ev (m : List (List Int)) (p o : Int) (hm : Small m) : Ev (fun k => spec_FlatRead.f k m p o) (flatRead m p o) := by
  unfold spec_FlatRead.f
  refine Ev.bind (sMemAt_ev m p o hm) (Ev.bind (sGuest_ev m hm) ?_)
  cases hg : guestB m
  · exact Ev.cast (by unfold flatRead; rw [if_neg (fun x => by have y := x.1; rw [hg] at y; cases y)]) (Ev.now (-3))
  · have g := guest_iff.mp hg
    simp only [if_true]
    by_cases h : flatOk m p o
    · simp only [memAt, if_pos (flat_at h), if_true]
      exact Ev.cast (by unfold flatRead; rw [if_pos h]) (Ev.now _)
    · have h' : ¬ memAtOk m p o := fun x => h ⟨hg, by have := x.2.1; omega, x.2.2⟩
      simp only [memAt, if_neg h', Bool.false_eq_true, if_false]
      exact Ev.cast (by unfold flatRead; rw [if_neg h]) (Ev.now _)
theorem drawFlatRead_ev (l : List Int) (h : ∀ x ∈ l, (Lit.int .u8 x).wf = true) : ∃ m p o, Ev (fun k => spec_DrawFlatRead.f k l) (m, p, o) ∧ Near m ∧ (0 ≤ p ∧ p ≤ 6) ∧ (0 ≤ o ∧ o ≤ 4) := by
  obtain ⟨m, p, o, g, hN, hp, ho⟩ := drawMemAt_ev l h
  exact ⟨m, p, o, Ev.bind g (Ev.now _), hN, hp, ho⟩

-- the law
theorem flat_ext {a b : List (List Int)} (ha : guestB a = true) (hb : guestB b = true) (h : ∀ p o : Int, 0 ≤ p → p < 6 → 0 ≤ o → o < 4 → rd (rd_L2 a p) o = rd (rd_L2 b p) o) : a = b := by
  have ga := guest_iff.mp ha; have gb := guest_iff.mp hb
  refine List.ext_getElem (by omega) fun i hi hi' => ?_
  have pa := page_len (memB_page ga.1 (List.getElem_mem hi)); have pb := page_len (memB_page gb.1 (List.getElem_mem hi'))
  refine List.ext_getElem (by omega) fun j hj hj' => ?_
  have := h (i : Int) (j : Int) (by omega) (by omega) (by omega) (by omega)
  rw [rdL_at hi, rdL_at hi', rd_at hj, rd_at hj'] at this
  exact this
theorem lkInts_ne (a b : List Int) (hl : (a.length : Int) ≤ 1000000000000) (hne : a ≠ b) : Ev (fun k => laws_lkInts.f k a b) false := by
  unfold laws_lkInts.f
  by_cases e : (a.length : Int) = b.length
  · simp only [if_pos e]
    have hab : a.length = b.length := by omega
    have H : ∀ d i : Nat, i + d = a.length → a.drop i ≠ b.drop i → Ev (fun k => laws_lkInts.l0 k a b (i : Int)) false := by
      intro d
      induction d with
      | zero => intro i hi hn; exact absurd (by rw [List.drop_eq_nil_of_le (by omega), List.drop_eq_nil_of_le (by omega)]) hn
      | succ d ih =>
        intro i hi hn
        have h1 : i < a.length := by omega
        have h2 : i < b.length := by omega
        rw [drop_cons h1, drop_cons h2] at hn
        refine Ev.succ ?_
        simp only [laws_lkInts.l0, if_pos (Int.ofNat_lt.mpr h1), if_pos (Int.natCast_nonneg i), if_pos (Int.ofNat_lt.mpr h2), rd_at h1, rd_at h2, wr1 i (by omega)]
        by_cases c : a[i] = b[i]
        · simp only [if_pos c]; exact ih (i + 1) (by omega) (fun x => hn (by rw [c, x]))
        · simp only [if_neg c]; exact Ev.now _
    exact H a.length 0 (by omega) (by simpa using hne)
  · simp only [if_neg e]; exact Ev.now _
theorem lkMem_ne (a b : List (List Int)) (hs : Small a) (hne : a ≠ b) : Ev (fun k => laws_lkMem.f k a b) false := by
  unfold laws_lkMem.f
  have hl := hs.1
  by_cases e : (a.length : Int) = b.length
  · simp only [if_pos e]
    have hab : a.length = b.length := by omega
    have H : ∀ d i : Nat, i + d = a.length → a.drop i ≠ b.drop i → Ev (fun k => laws_lkMem.l0 k a b (i : Int)) false := by
      intro d
      induction d with
      | zero => intro i hi hn; exact absurd (by rw [List.drop_eq_nil_of_le (by omega), List.drop_eq_nil_of_le (by omega)]) hn
      | succ d ih =>
        intro i hi hn
        have h1 : i < a.length := by omega
        have h2 : i < b.length := by omega
        rw [drop_cons h1, drop_cons h2] at hn
        refine Ev.succ ?_
        simp only [laws_lkMem.l0, if_pos (Int.ofNat_lt.mpr h1), if_pos (Int.natCast_nonneg i), if_pos (Int.ofNat_lt.mpr h2), rdL_at h1, rdL_at h2, wr1 i (by omega)]
        by_cases c : a[i] = b[i]
        · rw [← c]
          refine Ev.bind (lkInts_refl _ (hs.2 _ (List.getElem_mem h1))) ?_
          simp only [if_true]
          exact ih (i + 1) (by omega) (fun x => hn (by rw [c, x]))
        · refine Ev.bind (lkInts_ne _ _ (hs.2 _ (List.getElem_mem h1)) c) ?_
          simp only [Bool.false_eq_true, if_false]; exact Ev.now _
    exact H a.length 0 (by omega) (by simpa using hne)
  · simp only [if_neg e]; exact Ev.now _
theorem FnFlatAll : laws_FnFlatAll.Pure := by
  intro l l' _ _ hw _ _ hw'
  obtain ⟨m, p, o, g, hN, hp, ho⟩ := drawFlatRead_ev l hw
  obtain ⟨n, q, s, g', hN', _, _⟩ := drawFlatRead_ev l' hw'
  have hm := near_small hN
  have hn := near_small hN'
  apply Ev.rounds
  unfold laws_FnFlatAll.f
  have J : Ev (fun k => laws_FnFlatAll.j0 k l l' true) true := by
    refine Ev.succ ?_
    simp only [laws_FnFlatAll.j0, if_true]
    exact Ev.now _
  by_cases c : (l.length : Int) > 1048576
  · simp only [if_pos c]; exact J
  simp only [if_neg c]
  by_cases c' : (l'.length : Int) > 1048576
  · simp only [decide_eq_true c']; exact J
  simp only [decide_eq_false c']
  refine Ev.succ ?_
  simp only [laws_FnFlatAll.j0, Bool.false_eq_true, if_false]
  refine Ev.bind g (Ev.bind (iFlatRead_ev m p o hm) (Ev.bind (sFlatRead_ev m p o hm) ?_))
  simp only [if_true]
  refine Ev.succ ?_
  simp only [laws_FnFlatAll.j1]
  by_cases h : flatOk m p o
  · have hv := flatRead_word h
    have e : flatRead m p o = rd (rd_L2 m p) o := if_pos h
    rw [e]
    simp only [show (rd (rd_L2 m p) o == -3) = false by simp; omega, Bool.false_eq_true, if_false]
    refine Ev.bind g' (Ev.bind (sMemOk_ev n hn) ?_)
    have gm := guest_iff.mp h.1
    have W : ∀ whole : Bool, (whole = guestB n) → Ev (fun k => laws_FnFlatAll.j2 k m n whole) true := by
      intro whole hwh
      refine Ev.succ ?_
      simp only [laws_FnFlatAll.j2]
      -- what has been found the same so far
      let Same : Nat → Nat → Prop := fun i j => ∀ a b : Int, 0 ≤ a → a < 6 → 0 ≤ b → b < 4 → (a < i ∨ (a = i ∧ b < j)) → flatRead n a b = rd (rd_L2 m a) b
      have H1 : ∀ d i : Nat, i + d = 6 → ∀ same : Bool, (same = true ↔ (whole = true ∧ Same i 0)) → Ev (fun k => laws_FnFlatAll.l0 k m n same whole (i : Int)) true := by
        intro d
        induction d with
        | zero =>
          intro i hi same hs
          refine Ev.succ ?_
          simp only [laws_FnFlatAll.l0, if_neg (show ¬ (i : Int) < 6 by omega)]
          cases whole
          · exact Ev.now _
          · simp only [if_true]
            have hgn : guestB n = true := hwh.symm
            by_cases eq : m = n
            · subst eq
              have : same = true := hs.mpr ⟨rfl, fun a b a0 a1 b0 b1 _ => if_pos ⟨hgn, ⟨a0, a1⟩, ⟨b0, b1⟩⟩⟩
              subst this
              exact Ev.bind (lkMem_refl m hm) (Ev.now _)
            · have : same = false := by
                cases same
                · rfl
                · exfalso
                  have := (hs.mp rfl).2
                  refine eq (flat_ext h.1 hgn fun a b a0 a1 b0 b1 => ?_)
                  have k := this a b a0 a1 b0 b1 (.inl (by omega))
                  unfold flatRead at k; rw [if_pos ⟨hgn, ⟨a0, a1⟩, ⟨b0, b1⟩⟩] at k; exact k.symm
              subst this
              exact Ev.bind (lkMem_ne m n hm eq) (Ev.now _)
        | succ d ih =>
          intro i hi same hs
          refine Ev.succ ?_
          simp only [laws_FnFlatAll.l0, if_pos (show (i : Int) < 6 by omega)]
          have H2 : ∀ e j : Nat, j + e = 4 → ∀ same : Bool, (same = true ↔ (whole = true ∧ Same i j)) → Ev (fun k => laws_FnFlatAll.l1 k m n same whole (i : Int) (j : Int)) true := by
            intro e
            induction e with
            | zero =>
              intro j hj same hs
              refine Ev.succ ?_
              simp only [laws_FnFlatAll.l1, if_neg (show ¬ (j : Int) < 4 by omega), wr1 i (by omega)]
              refine ih (i + 1) (by omega) same (hs.trans ⟨fun x => ⟨x.1, fun a b a0 a1 b0 b1 z => x.2 a b a0 a1 b0 b1 (by omega)⟩, fun x => ⟨x.1, fun a b a0 a1 b0 b1 z => x.2 a b a0 a1 b0 b1 (by omega)⟩⟩)
            | succ e ih2 =>
              intro j hj same hs
              have hq : flatOk m (i : Int) (j : Int) := ⟨h.1, by omega, by omega⟩
              refine Ev.succ ?_
              simp only [laws_FnFlatAll.l1, if_pos (show (j : Int) < 4 by omega)]
              refine Ev.bind (iMemAt_ev m _ _ hm) ?_
              simp only [memAt, if_pos (flat_at hq), if_true]
              refine Ev.bind (Ev.cast (if_pos hq : flatRead m (i : Int) (j : Int) = _) (iFlatRead_ev m _ _ hm)) ?_
              simp only [if_true, wr1 j (by omega)]
              have step : ∀ same' : Bool, (same' = true ↔ (same = true ∧ flatRead n (i : Int) (j : Int) = rd (rd_L2 m (i : Int)) (j : Int))) → (same' = true ↔ (whole = true ∧ Same i (j + 1))) := by
                intro same' x
                refine x.trans ⟨fun y => ⟨(hs.mp y.1).1, fun a b a0 a1 b0 b1 z => ?_⟩, fun y => ⟨hs.mpr ⟨y.1, fun a b a0 a1 b0 b1 z => y.2 a b a0 a1 b0 b1 (by omega)⟩, y.2 _ _ (by omega) (by omega) (by omega) (by omega) (.inr ⟨rfl, by omega⟩)⟩⟩
                by_cases z2 : a = i ∧ b = j
                · rw [z2.1, z2.2]; exact y.2
                · exact (hs.mp y.1).2 a b a0 a1 b0 b1 (by omega)
              cases same
              · simp only [Bool.false_eq_true, if_false]
                exact ih2 (j + 1) (by omega) false (step false (by simp))
              · simp only [if_true]
                refine Ev.bind (iFlatRead_ev n _ _ hn) ?_
                exact ih2 (j + 1) (by omega) _ (step _ (by simp))
          exact H2 4 0 (by omega) same hs
      exact H1 6 0 (by omega) whole ⟨fun x => ⟨x, fun a b a0 a1 b0 b1 z => by omega⟩, fun x => x.1⟩
    cases hb : memB n
    · simp only [Bool.false_eq_true, if_false]
      exact W false (by simp [guestB, hb])
    · simp only [if_true]
      exact W _ (by simp [guestB, hb])
  · have e : flatRead m p o = -3 := if_neg h
    rw [e]
    simp only [show ((-3 : Int) == -3) = true from rfl, if_true]
    exact Ev.bind (Ev.cast e (sFlatRead_ev m p o hm)) (Ev.now _)

end Go.Proofs.Ytfamknibfokfmaa.Pure
