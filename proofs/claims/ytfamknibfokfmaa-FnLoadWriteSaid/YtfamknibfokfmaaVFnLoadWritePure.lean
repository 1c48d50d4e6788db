/- The pure side of the law FnLoadWrite: what the printed functions compute answers true. Conditions: none beyond the statement given. -/
import Derived.Test.YtfamknibfokfmaaVFnLoadWritex0
import Derived.Test.YtfamknibfokfmaaVFnLoadWritex1
import Derived.Test.YtfamknibfokfmaaVFnLoadWritex2
import Derived.Test.YtfamknibfokfmaaVFnLoadWritex3
import Derived.Test.YtfamknibfokfmaaVFnLoadWritex4
import Derived.Test.YtfamknibfokfmaaVFnLoadWritex5
import Derived.Test.YtfamknibfokfmaaVFnLoadWritex6
import Derived.Test.YtfamknibfokfmaaVFnLoadWritex7
import Derived.Test.YtfamknibfokfmaaVFnLoadWritex8
import Derived.Test.YtfamknibfokfmaaVFnLoadWritex9
import Derived.Test.YtfamknibfokfmaaVFnLoadWritex10
import Derived.Test.YtfamknibfokfmaaVFnLoadWritex11
import Derived.Test.YtfamknibfokfmaaVFnLoadWritex12
import Derived.Laws.BitsLemmas
namespace Go.Proofs.Ytfamknibfokfmaa.Pure
open Go Go.RowKit Go.Proofs.Ytfamknibfokfmaa.QFnLoadWrite Go.Proofs.YtfamknibfokfmaaW.PrintWords Go.Proofs.YtfamknibfokfmaaW.PrintLast
set_option linter.unusedVariables false
set_option linter.unusedSimpArgs false

theorem Ev.succ {α : Type} {g : Nat → Option α} {r : α} (h : Ev (fun k => g (k + 1)) r) : Ev g r := Ev.step (fun _ => rfl) h
theorem Ev.cast {α : Type} {g : Nat → Option α} {r r' : α} (e : r = r') (h : Ev g r) : Ev g r' := e ▸ h
theorem wr (n : Int) (h : -9223372036854775808 ≤ n ∧ n ≤ 9223372036854775807) : wrap64 n = n := by unfold wrap64; omega
theorem wr1 (i : Nat) (h : (i : Int) ≤ 1000000000000000000) : wrap64 ((i : Int) + 1) = ((i + 1 : Nat) : Int) := by rw [wr _ (by omega)]; rfl
theorem Ev.down {σ ρ : Type} (g : Nat → Int → σ → Option ρ) (R : Nat → σ → ρ) (n : Nat) (hend : ∀ st, Ev (fun k => g k n st) (R n st))
    (hstep : ∀ i : Nat, i < n → (∀ st, Ev (fun k => g k ((i + 1 : Nat) : Int) st) (R (i + 1) st)) → ∀ st, Ev (fun k => g k (i : Int) st) (R i st)) :
    ∀ st, Ev (fun k => g k 0 st) (R 0 st) := by
  have H : ∀ d i : Nat, i + d = n → ∀ st, Ev (fun k => g k (i : Int) st) (R i st) := by
    intro d
    induction d with
    | zero => intro i hi st; obtain rfl : i = n := by omega
              exact hend st
    | succ d ih => intro i hi; exact hstep i (by omega) (ih (i + 1) (by omega))
  exact H n 0 (by omega)
theorem drop_cons {α : Type} {l : List α} {i : Nat} (h : i < l.length) : l.drop i = l[i] :: l.drop (i + 1) := List.drop_eq_getElem_cons h
theorem rd_at {l : List Int} {i : Nat} (h : i < l.length) : rd l (i : Int) = l[i] := by simp [rd, h]
theorem getD_at {α : Type} {l : List α} {i : Nat} (z : α) (h : i < l.length) : l.getD ((i : Int)).toNat z = l[i] := by simp [h]
theorem u8_in {n : Int} (h : (Lit.int .u8 n).wf = true) : 0 ≤ n ∧ n ≤ 255 := by
  have e1 : IntKind.u8.min = 0 := by decide
  have e2 : IntKind.u8.max = 255 := by decide
  simp only [Lit.wf, e1, e2, Bool.and_eq_true, decide_eq_true_eq] at h; exact h
def wi (a lo hi : Int) : Bool := decide (lo ≤ a) && decide (a ≤ hi)
theorem wi_iff {a lo hi : Int} : wi a lo hi = true ↔ lo ≤ a ∧ a ≤ hi := by simp [wi]
theorem wi_not {a lo hi : Int} : wi a lo hi = false ↔ ¬ (lo ≤ a ∧ a ≤ hi) := by rw [← wi_iff]; simp
theorem l6In_eq (a lo hi : Int) : spec_l6In.f a lo hi = some (wi a lo hi) := by
  unfold spec_l6In.f wi
  by_cases h : a ≥ lo
  · rw [if_pos h]; simp [h]
  · rw [if_neg h]; simp; omega
theorem within_eq (a lo hi : Int) : impl_within.f a lo hi = some (wi a lo hi) := by
  unfold impl_within.f wi
  by_cases h : a ≥ lo
  · rw [if_pos h]; simp [h]
  · rw [if_neg h]; simp; omega
theorem xor_nat (a b : Nat) (ha : a < 2 ^ 62) (hb : b < 2 ^ 62) : bits .xor .i64 (a : Int) (b : Int) = ((a ^^^ b : Nat) : Int) := by
  have ha' : a % 2 ^ 64 = a := Nat.mod_eq_of_lt (Nat.lt_of_lt_of_le ha (by decide))
  have hb' : b % 2 ^ 64 = b := Nat.mod_eq_of_lt (Nat.lt_of_lt_of_le hb (by decide))
  have hx : a ^^^ b < 2 ^ 62 := Nat.xor_lt_two_pow ha hb
  have e : IntKind.i64.bits = 64 := rfl
  simp only [bits, e, BitVec.ofInt_natCast, BitVec.toNat_xor, BitVec.toNat_ofNat, ha', hb']
  rw [IntKind.wrap_i64]; omega
theorem xor_nn (a b : Int) (ha : 0 ≤ a) (ha' : a < 4611686018427387904) (hb : 0 ≤ b) (hb' : b < 4611686018427387904) : 0 ≤ bits .xor .i64 a b := by
  obtain ⟨x, rfl⟩ := Int.eq_ofNat_of_zero_le ha
  obtain ⟨y, rfl⟩ := Int.eq_ofNat_of_zero_le hb
  rw [xor_nat x y (by omega) (by omega)]; omega
theorem tmod_in (x n : Int) (hx : 0 ≤ x) (hn : 1 ≤ n) : 0 ≤ Int.tmod x n ∧ Int.tmod x n < n := by
  rw [Int.tmod_eq_emod_of_nonneg hx]
  exact ⟨Int.emod_nonneg _ (by omega), Int.emod_lt_of_pos _ (by omega)⟩
def ByB (b : List Int) : Prop := ∀ i : Int, 0 ≤ rd b i ∧ rd b i ≤ 255
theorem byB_of {b : List Int} (h : ∀ x ∈ b, (Lit.int .u8 x).wf = true) : ByB b := by
  intro i
  unfold rd
  rw [List.getD_eq_getElem?_getD]
  cases e : b[i.toNat]? with
  | none => simp
  | some x => simpa using u8_in (h x (List.mem_of_getElem? e))
theorem pick_ev (b : List Int) (p n : Int) (hb : ByB b) (hl : (b.length : Int) ≤ 2000) (hp : 0 ≤ p) (hp' : p ≤ 1000000000) (hn : 1 ≤ n) (hn' : n ≤ 1000000000000) :
    ∃ v, Ev (fun k => spec_l6Rd_pick.f k b p n) (v, p + 1) ∧ 0 ≤ v ∧ v < n := by
  unfold spec_l6Rd_pick.f
  simp only [if_neg (show ¬ n < 1 by omega), wr (p + 1) (by omega)]
  by_cases e : b.length = 0
  · refine ⟨0, Ev.succ ?_, by omega, by omega⟩
    simp only [spec_l6Rd_pick.j0, e]
    exact Ev.now _
  · have e' : ((b.length : Int) == 0) = false := by simp; intro h; exact e (by simp [h])
    simp only [e']
    by_cases g : p < b.length
    · have hb1 := hb p
      have t := tmod_in (rd b p) n hb1.1 hn
      refine ⟨Int.tmod (rd b p) n, Ev.succ ?_, t.1, t.2⟩
      simp only [spec_l6Rd_pick.j0, show p + 1 - 1 = p by omega, wr p (by omega), if_pos g, if_pos hp, if_neg (show ¬ n = 0 by omega), wr (rd b p) (by omega), Bool.false_eq_true, if_false]
      exact Ev.now _
    · have hL : (1 : Int) ≤ b.length := by omega
      have q1 := tmod_in p b.length hp hL
      have q2 := tmod_in (p * 7 + 3) b.length (by omega) hL
      have b1 := hb (Int.tmod p b.length)
      have b2 := hb (Int.tmod (p * 7 + 3) b.length)
      have q3 : 0 ≤ Int.tdiv p b.length ∧ Int.tdiv p b.length ≤ p := by
        rw [Int.tdiv_eq_ediv_of_nonneg hp]
        exact ⟨Int.ediv_nonneg hp (by omega), Int.ediv_le_self _ hp⟩
      generalize hx : rd b (Int.tmod p b.length) = X at *
      generalize hy : rd b (Int.tmod (p * 7 + 3) b.length) = Y at *
      generalize hz : Int.tdiv p b.length = Z at *
      have q4 : 0 ≤ Int.tdiv (X * 131 + Y * 1117 + p * 29 + Z * 53) 64 ∧ Int.tdiv (X * 131 + Y * 1117 + p * 29 + Z * 53) 64 ≤ 4611686018427387903 := by
        rw [Int.tdiv_eq_ediv_of_nonneg (by omega)]; omega
      generalize hu : Int.tdiv (X * 131 + Y * 1117 + p * 29 + Z * 53) 64 = U at *
      have q5 := xor_nn (X * 131 + Y * 1117 + p * 29 + Z * 53) U (by omega) (by omega) (by omega) (by omega)
      have t := tmod_in _ n q5 hn
      refine ⟨Int.tmod (bits .xor .i64 (X * 131 + Y * 1117 + p * 29 + Z * 53) U) n, Ev.succ ?_, t.1, t.2⟩
      simp only [spec_l6Rd_pick.j0, show p + 1 - 1 = p by omega, wr p (by omega), if_neg g, if_neg (show ¬ (b.length : Int) = 0 by omega), if_pos q1.1, if_pos q1.2, wr (p * 7) (by omega), wr (p * 7 + 3) (by omega), if_pos q2.1, if_pos q2.2, if_neg (show ¬ n = 0 by omega), hx, hy, hz, wr X (by omega), wr Y (by omega), wr Z (by omega), wr (X * 131) (by omega), wr (Y * 1117) (by omega), wr (X * 131 + Y * 1117) (by omega), wr (p * 29) (by omega), wr (X * 131 + Y * 1117 + p * 29) (by omega), wr (Z * 53) (by omega), wr (X * 131 + Y * 1117 + p * 29 + Z * 53) (by omega), hu, wr U (by omega), Bool.false_eq_true, if_false]
      exact Ev.now _
theorem open_eq (l : List Int) (h : ∀ x ∈ l, (Lit.int .u8 x).wf = true) : ∃ b, spec_l6Open.f l = some (b, 0) ∧ ByB b ∧ (b.length : Int) ≤ 2000 := by
  unfold spec_l6Open.f
  by_cases g : (l.length : Int) > 2000
  · rw [if_pos g, if_pos (by omega)]
    exact ⟨_, rfl, byB_of fun x hx => h x (List.mem_of_mem_take hx), by simp; omega⟩
  · rw [if_neg g]
    exact ⟨_, rfl, byB_of h, by omega⟩
theorem rdL_at {l : List (List Int)} {i : Nat} (h : i < l.length) : rd_L1 l (i : Int) = l[i] := getD_at _ h
def pageB (p : List Int) : Bool := p.all (fun w => wi w 0 63) && ((p.length : Int) == 4)
def memB (m : List (List Int)) : Bool := m.all pageB
def Small (m : List (List Int)) : Prop := (m.length : Int) ≤ 1000000000000 ∧ ∀ r ∈ m, (r.length : Int) ≤ 1000000000000
theorem rdL_mem {m : List (List Int)} {i : Int} (h0 : 0 ≤ i) (h : i < m.length) : rd_L1 m i ∈ m := by
  have e : i = ((i.toNat : Nat) : Int) := by omega
  rw [e, rdL_at (show i.toNat < m.length by omega)]; exact List.getElem_mem _
theorem memB_page {m : List (List Int)} (h : memB m = true) {r : List Int} (hr : r ∈ m) : pageB r = true := List.all_eq_true.mp h r hr
theorem page_len {r : List Int} (h : pageB r = true) : r.length = 4 := by
  simp [pageB] at h; omega
theorem page_word {r : List Int} (h : pageB r = true) {i : Int} (h0 : 0 ≤ i) (h1 : i < 4) : 0 ≤ rd r i ∧ rd r i ≤ 63 := by
  have hl := page_len h
  have e : i = ((i.toNat : Nat) : Int) := by omega
  rw [e, rd_at (show i.toNat < r.length by omega)]
  simp only [pageB, Bool.and_eq_true, List.all_eq_true] at h
  exact wi_iff.mp (h.1 _ (List.getElem_mem _))
theorem sPage_ev (p : List Int) (hl : (p.length : Int) ≤ 1000000000000) : Ev (fun k => spec_l2PageOk.f k p) (pageB p) := by
  unfold spec_l2PageOk.f
  have H := Ev.down (σ := Unit) (fun k i _ => spec_l2PageOk.l0 k p i) (fun i _ => (p.drop i).all (fun w => wi w 0 63) && ((p.length : Int) == 4)) p.length
    (fun _ => Ev.succ (by simp only [spec_l2PageOk.l0, Int.lt_irrefl, if_false]; exact Ev.cast (by simp) (Ev.now _)))
    (fun i hi ih _ => by
      refine Ev.succ ?_
      simp only [spec_l2PageOk.l0, if_pos (Int.ofNat_lt.mpr hi), if_pos (Int.natCast_nonneg i), rd_at hi, l6In_eq, Option.bind_some, wr1 i (by omega)]
      rw [drop_cons hi, List.all_cons]
      cases h : wi p[i] 0 63
      · exact Ev.now _
      · exact ih ())
  exact H ()
theorem sMemOk_ev (m : List (List Int)) (hm : Small m) : Ev (fun k => spec_MemOk.f k m) (memB m) := by
  unfold spec_MemOk.f
  have hl := hm.1
  have H := Ev.down (σ := Unit) (fun k i _ => spec_MemOk.l0 k m i) (fun i _ => (m.drop i).all pageB) m.length
    (fun _ => Ev.succ (by simp only [spec_MemOk.l0, Int.lt_irrefl, if_false]; exact Ev.cast (by simp) (Ev.now _)))
    (fun i hi ih _ => by
      refine Ev.succ ?_
      simp only [spec_MemOk.l0, if_pos (Int.ofNat_lt.mpr hi), if_pos (Int.natCast_nonneg i), rdL_at hi, wr1 i (by omega)]
      refine Ev.bind (sPage_ev m[i] (hm.2 _ (List.getElem_mem hi))) ?_
      rw [drop_cons hi, List.all_cons]
      cases h : pageB m[i]
      · exact Ev.now _
      · exact ih ())
  exact H ()
theorem iPage_ev (p : List Int) (hl : (p.length : Int) ≤ 1000000000000) : Ev (fun k => impl_pageOk.f k p) (pageB p) := by
  unfold impl_pageOk.f
  have H := Ev.down (σ := Unit) (fun k i _ => impl_pageOk.l0 k p p p.length i) (fun i _ => (p.drop i).all (fun w => wi w 0 63) && ((p.length : Int) == 4)) p.length
    (fun _ => Ev.succ (by simp only [impl_pageOk.l0, Int.lt_irrefl, if_false]; exact Ev.cast (by simp) (Ev.now _)))
    (fun i hi ih _ => by
      refine Ev.succ ?_
      simp only [impl_pageOk.l0, if_pos (Int.ofNat_lt.mpr hi), if_pos (Int.natCast_nonneg i), rd_at hi, within_eq, Option.bind_some, wr1 i (by omega)]
      rw [drop_cons hi, List.all_cons]
      cases h : wi p[i] 0 63
      · exact Ev.now _
      · exact ih ())
  exact H ()
theorem iMemOk_ev (m : List (List Int)) (hm : Small m) : Ev (fun k => impl_MemOk.f k m) (memB m) := by
  unfold impl_MemOk.f
  have hl := hm.1
  have H := Ev.down (σ := Unit) (fun k i _ => impl_MemOk.l0 k m m.length i) (fun i _ => (m.drop i).all pageB) m.length
    (fun _ => Ev.succ (by simp only [impl_MemOk.l0, Int.lt_irrefl, if_false]; exact Ev.cast (by simp) (Ev.now _)))
    (fun i hi ih _ => by
      refine Ev.succ ?_
      simp only [impl_MemOk.l0, if_pos (Int.ofNat_lt.mpr hi), if_pos (Int.natCast_nonneg i), rdL_at hi, wr1 i (by omega)]
      refine Ev.bind (iPage_ev m[i] (hm.2 _ (List.getElem_mem hi))) ?_
      rw [drop_cons hi, List.all_cons]
      cases h : pageB m[i]
      · exact Ev.now _
      · exact ih ())
  exact H ()
def memAtOk (m : List (List Int)) (p o : Int) : Prop := memB m = true ∧ (0 ≤ p ∧ p < m.length) ∧ (0 ≤ o ∧ o < 4)
instance (m : List (List Int)) (p o : Int) : Decidable (memAtOk m p o) := by unfold memAtOk; infer_instance
def memAt (m : List (List Int)) (p o : Int) : Int × Bool := if memAtOk m p o then (rd (rd_L1 m p) o, true) else (0, false)
theorem memAt_row {m : List (List Int)} {p o : Int} (h : memAtOk m p o) : pageB (rd_L1 m p) = true := memB_page h.1 (rdL_mem h.2.1.1 h.2.1.2)
theorem sMemAt_ev (m : List (List Int)) (p o : Int) (hm : Small m) : Ev (fun k => spec_MemAt.f k m p o) (memAt m p o) := by
  unfold spec_MemAt.f
  have hl := hm.1
  refine Ev.bind (sMemOk_ev m hm) ?_
  cases hb : memB m
  · exact Ev.cast (by unfold memAt; rw [if_neg (by simp [memAtOk, hb])]) (Ev.now (0, false))
  · simp only [if_true, l6In_eq, Option.bind_some, wr ((m.length : Int) - 1) (by omega)]
    by_cases h1 : 0 ≤ p ∧ p < m.length
    · simp only [wi_iff.mpr (show 0 ≤ p ∧ p ≤ (m.length : Int) - 1 by omega), if_true]
      by_cases h2 : 0 ≤ o ∧ o < 4
      · have hr := page_len (memB_page hb (rdL_mem h1.1 h1.2))
        simp only [wi_iff.mpr (show 0 ≤ o ∧ o ≤ 3 by omega), if_true, if_pos h1.1, if_pos h1.2, if_pos h2.1, if_pos (show o < ((rd_L1 m p).length : Int) by omega)]
        exact Ev.cast (by unfold memAt; rw [if_pos ⟨hb, h1, h2⟩]) (Ev.now _)
      · simp only [wi_not.mpr (show ¬ (0 ≤ o ∧ o ≤ 3) by omega), Bool.false_eq_true, if_false]
        exact Ev.cast (by unfold memAt; rw [if_neg (fun x => h2 x.2.2)]) (Ev.now _)
    · simp only [wi_not.mpr (show ¬ (0 ≤ p ∧ p ≤ (m.length : Int) - 1) by omega), Bool.false_eq_true, if_false]
      exact Ev.cast (by unfold memAt; rw [if_neg (fun x => h1 x.2.1)]) (Ev.now _)
theorem clone_ev (m : List (List Int)) (hm : Small m) : Ev (fun k => impl_cloneMem.f k m) m := by
  unfold impl_cloneMem.f
  have hl := hm.1
  have H : ∀ d i : Nat, i + d = m.length → ∀ xs : List (List Int), xs.length = i → Ev (fun k => impl_cloneMem.l0 k xs m m.length (i : Int)) (xs ++ m.drop i) := by
    intro d
    induction d with
    | zero =>
      intro i hi xs hx
      obtain rfl : i = m.length := by omega
      refine Ev.succ ?_
      simp only [impl_cloneMem.l0, Int.lt_irrefl, if_false]
      exact Ev.cast (by simp) (Ev.now _)
    | succ d ih =>
      intro i hi xs hx
      have hlt : i < m.length := by omega
      have hr := hm.2 _ (List.getElem_mem hlt)
      refine Ev.succ ?_
      simp only [impl_cloneMem.l0, if_pos (Int.ofNat_lt.mpr hlt), if_pos (Int.natCast_nonneg i), rdL_at hlt, Option.bind_some, List.length_nil, Nat.zero_add, List.nil_append, if_pos (show m[i].length < 17592186044416 by omega), if_pos (show xs.length < 5864062014805 by omega), wr1 i (by omega)]
      exact Ev.cast (by rw [drop_cons hlt, List.append_assoc]; rfl) (ih (i + 1) (by omega) (xs ++ [m[i]]) (by simp [hx]))
  exact H m.length 0 (by omega) [] rfl
theorem copy_ev (m : List (List Int)) (hm : Small m) : Ev (fun k => spec_l2Copy.f k m) m := by
  unfold spec_l2Copy.f
  have hl := hm.1
  have H : ∀ d i : Nat, i + d = m.length → ∀ xs : List (List Int), xs.length = i → Ev (fun k => spec_l2Copy.l0 k m xs (i : Int)) (xs ++ m.drop i) := by
    intro d
    induction d with
    | zero =>
      intro i hi xs hx
      obtain rfl : i = m.length := by omega
      refine Ev.succ ?_
      simp only [spec_l2Copy.l0, Int.lt_irrefl, if_false]
      exact Ev.cast (by simp) (Ev.now _)
    | succ d ih =>
      intro i hi xs hx
      have hlt : i < m.length := by omega
      have hr := hm.2 _ (List.getElem_mem hlt)
      refine Ev.succ ?_
      simp only [spec_l2Copy.l0, if_pos (Int.ofNat_lt.mpr hlt), if_pos (Int.natCast_nonneg i), rdL_at hlt, Option.bind_some, List.length_nil, Nat.zero_add, List.nil_append, if_pos (show m[i].length < 17592186044416 by omega), if_pos (show xs.length < 5864062014805 by omega), wr1 i (by omega)]
      exact Ev.cast (by rw [drop_cons hlt, List.append_assoc]; rfl) (ih (i + 1) (by omega) (xs ++ [m[i]]) (by simp [hx]))
  exact H m.length 0 (by omega) [] rfl
def setW (m : List (List Int)) (p o w : Int) : List (List Int) := m.set p.toNat ((rd_L1 m p).set o.toNat w)
def memWithOk (m : List (List Int)) (p o w : Int) : Prop := memAtOk m p o ∧ (0 ≤ w ∧ w ≤ 63)
instance (m : List (List Int)) (p o w : Int) : Decidable (memWithOk m p o w) := by unfold memWithOk; infer_instance
def memWith (m : List (List Int)) (p o w : Int) : List (List Int) × Bool := if memWithOk m p o w then (setW m p o w, true) else ([], false)
theorem sMemWith_ev (m : List (List Int)) (p o w : Int) (hm : Small m) : Ev (fun k => spec_MemWith.f k m p o w) (memWith m p o w) := by
  unfold spec_MemWith.f
  refine Ev.bind (sMemAt_ev m p o hm) ?_
  by_cases h : memAtOk m p o
  · have hr := page_len (memAt_row h)
    obtain ⟨hb, h1, h2⟩ := h
    simp only [memAt, if_pos (show memAtOk m p o from ⟨hb, h1, h2⟩), if_true, l6In_eq, Option.bind_some]
    by_cases h3 : 0 ≤ w ∧ w ≤ 63
    · simp only [wi_iff.mpr h3, if_true]
      refine Ev.bind (copy_ev m hm) ?_
      simp only [if_pos h1.1, if_pos h1.2, if_pos h2.1, if_pos (show o < ((rd_L1 m p).length : Int) by omega)]
      exact Ev.cast (by unfold memWith; rw [if_pos ⟨⟨hb, h1, h2⟩, h3⟩]; rfl) (Ev.now _)
    · simp only [wi_not.mpr h3, Bool.false_eq_true, if_false]
      exact Ev.cast (by unfold memWith; rw [if_neg (fun x => h3 x.2)]) (Ev.now _)
  · simp only [memAt, if_neg h, Bool.false_eq_true, if_false]
    exact Ev.cast (by unfold memWith; rw [if_neg (fun x => h x.1)]) (Ev.now _)
def guestB (m : List (List Int)) : Bool := memB m && ((m.length : Int) == 6)
theorem guest_iff {m : List (List Int)} : guestB m = true ↔ memB m = true ∧ m.length = 6 := by
  simp [guestB]; intro _; omega
theorem iGuest_ev (m : List (List Int)) (hm : Small m) : Ev (fun k => impl_guestMem.f k m) (guestB m) := by
  unfold impl_guestMem.f guestB
  refine Ev.bind (iMemOk_ev m hm) ?_
  cases memB m
  · exact Ev.now _
  · exact Ev.cast (by simp) (Ev.now _)
theorem sGuest_ev (m : List (List Int)) (hm : Small m) : Ev (fun k => spec_l11Guest.f k m) (guestB m) := by
  unfold spec_l11Guest.f guestB
  refine Ev.bind (sMemOk_ev m hm) ?_
  cases memB m
  · exact Ev.now _
  · exact Ev.cast (by simp) (Ev.now _)
theorem word_ev (b : List Int) (p : Int) (hb : ByB b) (hl : (b.length : Int) ≤ 2000) (hp : 0 ≤ p) (hp' : p ≤ 100000000) :
    ∃ v p', Ev (fun k => spec_l71Word.f k b p) (v, p') ∧ p ≤ p' ∧ p' ≤ p + 2 ∧ 0 ≤ v ∧ v ≤ 63 := by
  unfold spec_l71Word.f
  obtain ⟨v, h1, v1, v2⟩ := pick_ev b p 3 hb hl (by omega) (by omega) (by omega) (by omega)
  obtain ⟨z, h2, z1, z2⟩ := pick_ev b (p + 1) 64 hb hl (by omega) (by omega) (by omega) (by omega)
  obtain ⟨y, h3, y1, y2⟩ := pick_ev b (p + 1) 14 hb hl (by omega) (by omega) (by omega) (by omega)
  by_cases c : v = 0
  · refine ⟨z, p + 1 + 1, Ev.bind h1 ?_, by omega, by omega, by omega, by omega⟩
    simp only [if_pos c]; exact Ev.bind h2 (Ev.now _)
  · refine ⟨y, p + 1 + 1, Ev.bind h1 ?_, by omega, by omega, by omega, by omega⟩
    simp only [if_neg c]; exact Ev.bind h3 (Ev.now _)
def Shape (m : List (List Int)) : Prop := m.length = 6 ∧ ∀ r ∈ m, r.length = 4
theorem shape_set {m : List (List Int)} (h : Shape m) {p : Int} (h0 : 0 ≤ p) (h1 : p < 6) (j : Nat) (v : Int) : Shape (m.set p.toNat ((rd_L1 m p).set j v)) := by
  have hr := h.2 _ (rdL_mem (m := m) h0 (by have := h.1; omega))
  refine ⟨by simp [h.1], fun r hr' => ?_⟩
  rcases List.mem_or_eq_of_mem_set hr' with x | rfl
  · exact h.2 r x
  · simp [hr]
theorem sMemNew6 : Ev (fun k => spec_MemNew.f k 6) (List.replicate 6 (List.replicate 4 0)) := by
  refine Ev.of (fun k => spec_MemNew.mono 6 k) (k := 10) ?_
  kernel_rfl
theorem mem_ev (b : List Int) (p : Int) (hb : ByB b) (hl : (b.length : Int) ≤ 2000) (hp : 0 ≤ p) (hp' : p ≤ 10000000) :
    ∃ m p', Ev (fun k => spec_l71Mem.f k b p) (m, p') ∧ p ≤ p' ∧ p' ≤ p + 200 ∧ Shape m := by
  have H1 : ∀ n : Nat, ∀ (m : List (List Int)) (p : Int), Shape m → 0 ≤ p → p + 3 * n ≤ 20000000 → ∃ m' p', Ev (fun k => spec_l71Mem.l1 k m (n : Int) b p) (m', p') ∧ p ≤ p' ∧ p' ≤ p + 3 * n ∧ Shape m' := by
    intro n
    induction n with
    | zero =>
      intro m p hs h0 h1
      refine ⟨m, p, Ev.succ ?_, by omega, by omega, hs⟩
      simp only [spec_l71Mem.l1, if_neg (show ¬ ((0 : Nat) : Int) > 0 by omega)]
      exact Ev.now _
    | succ n ih =>
      intro m p hs h0 h1
      obtain ⟨v, g1, v1, v2⟩ := pick_ev b p 6 hb hl (by omega) (by omega) (by omega) (by omega)
      obtain ⟨u, g2, u1, u2⟩ := pick_ev b (p + 1) 8 hb hl (by omega) (by omega) (by omega) (by omega)
      have e1 : Int.tdiv v 4 = v / 4 := Int.tdiv_eq_ediv_of_nonneg v1
      have e2 : Int.tmod v 4 = v % 4 := Int.tmod_eq_emod_of_nonneg v1
      have hlen := hs.1
      have hr := hs.2 _ (rdL_mem (m := m) (i := v / 4) (by omega) (by omega))
      obtain ⟨m', p', g3, a1, a2, a3⟩ := ih _ (p + 1 + 1) (shape_set hs (p := v / 4) (by omega) (by omega) (v % 4).toNat (5 + u)) (by omega) (by omega)
      refine ⟨m', p', Ev.succ ?_, by omega, by omega, a3⟩
      simp only [spec_l71Mem.l1, if_pos (show ((n + 1 : Nat) : Int) > 0 by omega), show ((n + 1 : Nat) : Int) - 1 = (n : Int) by omega, wr (n : Int) (by omega)]
      refine Ev.bind g1 ?_
      simp only [e1, e2, wr (v / 4) (by omega), if_pos (show 0 ≤ v / 4 by omega), if_pos (show v / 4 < (m.length : Int) by omega)]
      refine Ev.bind g2 ?_
      simp only [if_pos (show 0 ≤ v % 4 by omega), if_pos (show v % 4 < ((rd_L1 m (v / 4)).length : Int) by omega), wr (5 + u) (by omega)]
      exact g3
  have H0 : ∀ n : Nat, n ≤ 26 → ∀ (m : List (List Int)) (p : Int), Shape m → 0 ≤ p → p + 5 * n ≤ 15000000 → ∃ m' p', Ev (fun k => spec_l71Mem.l0 k m (n : Int) b p) (m', p') ∧ p ≤ p' ∧ p' ≤ p + 5 * n + 30 ∧ Shape m' := by
    intro n
    induction n with
    | zero =>
      intro _ m p hs h0 h1
      obtain ⟨v, g1, v1, v2⟩ := pick_ev b p 7 hb hl (by omega) (by omega) (by omega) (by omega)
      obtain ⟨w, rfl⟩ := Int.eq_ofNat_of_zero_le v1
      obtain ⟨m', p', g2, a1, a2, a3⟩ := H1 w m (p + 1) hs (by omega) (by omega)
      refine ⟨m', p', Ev.succ ?_, by omega, by omega, a3⟩
      simp only [spec_l71Mem.l0, if_neg (show ¬ ((0 : Nat) : Int) > 0 by omega)]
      exact Ev.bind g1 g2
    | succ n ih =>
      intro hn m p hs h0 h1
      obtain ⟨v, g1, v1, v2⟩ := pick_ev b p 6 hb hl (by omega) (by omega) (by omega) (by omega)
      obtain ⟨u, g2, u1, u2⟩ := pick_ev b (p + 1) 4 hb hl (by omega) (by omega) (by omega) (by omega)
      obtain ⟨w, p1, g3, w1, w2, _, _⟩ := word_ev b (p + 1 + 1) hb hl (by omega) (by omega)
      have hlen := hs.1
      have hr := hs.2 _ (rdL_mem (m := m) (i := v) (by omega) (by omega))
      obtain ⟨m', p', g4, a1, a2, a3⟩ := ih (by omega) _ p1 (shape_set hs (p := v) (by omega) (by omega) u.toNat w) (by omega) (by omega)
      refine ⟨m', p', Ev.succ ?_, by omega, by omega, a3⟩
      simp only [spec_l71Mem.l0, if_pos (show ((n + 1 : Nat) : Int) > 0 by omega), show ((n + 1 : Nat) : Int) - 1 = (n : Int) by omega, wr (n : Int) (by omega)]
      refine Ev.bind g1 ?_
      simp only [if_pos v1, if_pos (show v < (m.length : Int) by omega)]
      refine Ev.bind g2 (Ev.bind g3 ?_)
      simp only [if_pos u1, if_pos (show u < ((rd_L1 m v).length : Int) by omega)]
      exact g4
  unfold spec_l71Mem.f
  obtain ⟨v, g1, v1, v2⟩ := pick_ev b p 26 hb hl (by omega) (by omega) (by omega) (by omega)
  obtain ⟨w, rfl⟩ := Int.eq_ofNat_of_zero_le v1
  obtain ⟨m', p', g2, a1, a2, a3⟩ := H0 w (by omega) (List.replicate 6 (List.replicate 4 0)) (p + 1) ⟨by simp, fun r hr => by rw [List.eq_of_mem_replicate hr]; simp⟩ (by omega) (by omega)
  exact ⟨m', p', Ev.bind sMemNew6 (Ev.bind g1 g2), by omega, by omega, a3⟩
def Near (m : List (List Int)) : Prop := (5 ≤ m.length ∧ m.length ≤ 6) ∧ ∀ r ∈ m, 2 ≤ r.length ∧ r.length ≤ 4
theorem near_small {m : List (List Int)} (h : Near m) : Small m := ⟨by have := h.1; omega, fun r hr => by have := h.2 r hr; omega⟩
theorem off_ev (b : List Int) (p : Int) (hb : ByB b) (hl : (b.length : Int) ≤ 2000) (hp : 0 ≤ p) (hp' : p ≤ 10000000) :
    ∃ m p', Ev (fun k => spec_l71Off.f k b p) (m, p') ∧ p ≤ p' ∧ p' ≤ p + 300 ∧ Near m := by
  unfold spec_l71Off.f
  obtain ⟨m, p1, g0, a1, a2, hs⟩ := mem_ev b p hb hl hp hp'
  obtain ⟨v, g1, v1, v2⟩ := pick_ev b p1 20 hb hl (by omega) (by omega) (by omega) (by omega)
  have hlen := hs.1
  obtain ⟨u, g2, u1, u2⟩ := pick_ev b (p1 + 1) m.length hb hl (by omega) (by omega) (by omega) (by omega)
  obtain ⟨w, g3, w1, w2⟩ := pick_ev b (p1 + 1 + 1) 2 hb hl (by omega) (by omega) (by omega) (by omega)
  have hN : Near m := ⟨by omega, fun r hr => by have := hs.2 r hr; omega⟩
  have hset : ∀ r : List Int, 2 ≤ r.length ∧ r.length ≤ 4 → Near (m.set u.toNat r) := by
    intro r hr
    refine ⟨by simp; omega, fun x hx => ?_⟩
    rcases List.mem_or_eq_of_mem_set hx with y | rfl
    · exact hN.2 x y
    · exact hr
  by_cases c0 : v = 0
  · refine ⟨m.drop 1, p1 + 1, Ev.bind g0 (Ev.bind g1 ?_), by omega, by omega, ⟨by simp; omega, fun r hr => hN.2 r (List.mem_of_mem_drop hr)⟩⟩
    simp only [if_pos c0, if_pos (show (1 : Int) ≤ m.length by omega)]
    exact Ev.now _
  by_cases c1 : v = 1
  · refine ⟨m.set u.toNat [1, 2], p1 + 1 + 1, Ev.bind g0 (Ev.bind g1 ?_), by omega, by omega, hset _ (by simp)⟩
    simp only [if_neg c0, if_pos c1]
    refine Ev.bind g2 ?_
    simp only [if_pos u1, if_pos u2]
    exact Ev.now _
  by_cases c2 : v = 2
  · have hr := hs.2 _ (rdL_mem (m := m) (i := u) u1 u2)
    refine ⟨m.set u.toNat ((rd_L1 m u).set 0 (rd [(-1), 64] w)), p1 + 1 + 1 + 1, Ev.bind g0 (Ev.bind g1 ?_), by omega, by omega, hset _ (by simp [hr])⟩
    simp only [if_neg c0, if_neg c1, if_pos c2]
    refine Ev.bind g2 ?_
    simp only [if_pos u1, if_pos u2, Option.bind_some]
    refine Ev.bind g3 ?_
    simp only [if_pos w1, if_pos (show w < (([(-1), 64] : List Int).length : Int) by simpa using w2), if_pos (show (0 : Int) < ((rd_L1 m u).length : Int) by omega)]
    exact Ev.now _
  · refine ⟨m, p1 + 1, Ev.bind g0 (Ev.bind g1 ?_), by omega, by omega, hN⟩
    simp only [if_neg c0, if_neg c1, if_neg c2]
    exact Ev.now _
theorem tdivS (x n : Int) (h0 : 0 ≤ x) (h1 : x < 24) (hn : n = 23) : 0 ≤ Int.tdiv x n ∧ Int.tdiv x n ≤ 1 := by
  subst hn; rw [Int.tdiv_eq_ediv_of_nonneg h0]; omega
theorem drawMemWith_ev (l : List Int) (h : ∀ x ∈ l, (Lit.int .u8 x).wf = true) : ∃ m p o w, Ev (fun k => spec_DrawMemWith.f k l) (m, p, o, w) ∧ Near m ∧ (0 ≤ p ∧ p ≤ 6) ∧ (0 ≤ o ∧ o ≤ 4) ∧ (0 ≤ w ∧ w ≤ 123) := by
  unfold spec_DrawMemWith.f
  obtain ⟨b, e, hb, hl⟩ := open_eq l h
  obtain ⟨m, p1, g0, a1, a2, hN⟩ := off_ev b 0 hb hl (by omega) (by omega)
  obtain ⟨v1, g1, x1, y1⟩ := pick_ev b p1 6 hb hl (by omega) (by omega) (by omega) (by omega)
  obtain ⟨v2, g2, x2, y2⟩ := pick_ev b (p1 + 1) 24 hb hl (by omega) (by omega) (by omega) (by omega)
  obtain ⟨v3, g3, x3, y3⟩ := pick_ev b (p1 + 1 + 1) 4 hb hl (by omega) (by omega) (by omega) (by omega)
  obtain ⟨v4, g4, x4, y4⟩ := pick_ev b (p1 + 1 + 1 + 1) 24 hb hl (by omega) (by omega) (by omega) (by omega)
  obtain ⟨v5, p2, g5, z1, z2, x5, y5⟩ := word_ev b (p1 + 1 + 1 + 1 + 1) hb hl (by omega) (by omega)
  obtain ⟨v6, g6, x6, y6⟩ := pick_ev b p2 24 hb hl (by omega) (by omega) (by omega) (by omega)
  have d2 := tdivS v2 23 x2 y2 rfl
  have d4 := tdivS v4 23 x4 y4 rfl
  have d6 := tdivS v6 23 x6 y6 rfl
  refine ⟨m, v1 + Int.tdiv v2 23, v3 + Int.tdiv v4 23, v5 + Int.tdiv v6 23 * 60, ?_, hN, by omega, by omega, by omega⟩
  simp only [e, Option.bind_some]
  refine Ev.bind g0 (Ev.bind g1 (Ev.bind g2 (Ev.bind g3 (Ev.bind g4 (Ev.bind g5 (Ev.bind g6 ?_))))))
  simp only [wr (Int.tdiv v2 23) (by omega), wr (v1 + Int.tdiv v2 23) (by omega), wr (Int.tdiv v4 23) (by omega), wr (v3 + Int.tdiv v4 23) (by omega), wr (Int.tdiv v6 23) (by omega), wr (Int.tdiv v6 23 * 60) (by omega), wr (v5 + Int.tdiv v6 23 * 60) (by omega)]
  exact Ev.now _
theorem lkInts_refl (l : List Int) (hl : (l.length : Int) ≤ 1000000000000) : Ev (fun k => laws_lkInts.f k l l) true := by
  unfold laws_lkInts.f
  simp only [if_true]
  have H := Ev.down (σ := Unit) (fun k i _ => laws_lkInts.l0 k l l i) (fun i _ => true) l.length
    (fun _ => Ev.succ (by simp only [laws_lkInts.l0, Int.lt_irrefl, if_false]; exact Ev.now _))
    (fun i hi ih _ => by
      refine Ev.succ ?_
      simp only [laws_lkInts.l0, if_pos (Int.ofNat_lt.mpr hi), if_pos (Int.natCast_nonneg i), if_true, wr1 i (by omega)]
      exact ih ())
  exact H ()
theorem lkMem_refl (l : List (List Int)) (hl : Small l) : Ev (fun k => laws_lkMem.f k l l) true := by
  unfold laws_lkMem.f
  simp only [if_true]
  have h1 := hl.1
  have H := Ev.down (σ := Unit) (fun k i _ => laws_lkMem.l0 k l l i) (fun i _ => true) l.length
    (fun _ => Ev.succ (by simp only [laws_lkMem.l0, Int.lt_irrefl, if_false]; exact Ev.now _))
    (fun i hi ih _ => by
      refine Ev.succ ?_
      simp only [laws_lkMem.l0, if_pos (Int.ofNat_lt.mpr hi), if_pos (Int.natCast_nonneg i), rdL_at hi, wr1 i (by omega)]
      refine Ev.bind (lkInts_refl _ (hl.2 _ (List.getElem_mem hi))) ?_
      simp only [if_true]
      exact ih ())
  exact H ()
theorem small_set {m : List (List Int)} (h : Small m) {p : Int} (h0 : 0 ≤ p) (h1 : p < m.length) (o w : Int) : Small (setW m p o w) := by
  have hr := h.2 _ (rdL_mem h0 h1)
  refine ⟨by simp [setW]; exact h.1, fun r hr' => ?_⟩
  rcases List.mem_or_eq_of_mem_set hr' with x | rfl
  · exact h.2 r x
  · simpa using hr
theorem page_set {r : List Int} (h : pageB r = true) (j : Nat) {w : Int} (hw : 0 ≤ w ∧ w ≤ 63) : pageB (r.set j w) = true := by
  have hl := page_len h
  simp only [pageB, Bool.and_eq_true, List.all_eq_true] at h ⊢
  refine ⟨fun x hx => ?_, by simp [hl]⟩
  rcases List.mem_or_eq_of_mem_set hx with y | rfl
  · exact h.1 x y
  · exact wi_iff.mpr hw
theorem memB_set {m : List (List Int)} {p o w : Int} (h : memWithOk m p o w) : memB (setW m p o w) = true := by
  refine List.all_eq_true.mpr fun r hr => ?_
  rcases List.mem_or_eq_of_mem_set hr with x | rfl
  · exact memB_page h.1.1 x
  · exact page_set (memAt_row h.1) _ h.2
theorem setW_len (m : List (List Int)) (p o w : Int) : (setW m p o w).length = m.length := by simp [setW]
theorem spot_eq (p o : Int) : impl_spot.f p o = some (wi p 0 5 && wi o 0 3) := by
  unfold impl_spot.f
  rw [within_eq]; simp only [Option.bind_some, within_eq]
  cases wi p 0 5 <;> simp
def flatOk (m : List (List Int)) (p o : Int) : Prop := guestB m = true ∧ (0 ≤ p ∧ p < 6) ∧ (0 ≤ o ∧ o < 4)
instance (m : List (List Int)) (p o : Int) : Decidable (flatOk m p o) := by unfold flatOk; infer_instance
theorem flat_at {m : List (List Int)} {p o : Int} (h : flatOk m p o) : memAtOk m p o := by
  have g := guest_iff.mp h.1
  exact ⟨g.1, by have := h.2.1; omega, h.2.2⟩
theorem flatRead_word {m : List (List Int)} {p o : Int} (h : flatOk m p o) : 0 ≤ rd (rd_L1 m p) o ∧ rd (rd_L1 m p) o ≤ 63 :=
  page_word (memAt_row (flat_at h)) h.2.2.1 h.2.2.2
theorem drawFlatWrite_ev (l : List Int) (h : ∀ x ∈ l, (Lit.int .u8 x).wf = true) : ∃ m p o w, Ev (fun k => spec_DrawFlatWrite.f k l) (m, p, o, w) ∧ Near m ∧ (0 ≤ p ∧ p ≤ 6) ∧ (0 ≤ o ∧ o ≤ 4) ∧ (0 ≤ w ∧ w ≤ 123) := by
  obtain ⟨m, p, o, w, g, hN, hp, ho, hw2⟩ := drawMemWith_ev l h
  exact ⟨m, p, o, w, Ev.bind g (Ev.now _), hN, hp, ho, hw2⟩
def flatWOk (m : List (List Int)) (p o w : Int) : Prop := flatOk m p o ∧ (0 ≤ w ∧ w ≤ 63)
instance (m : List (List Int)) (p o w : Int) : Decidable (flatWOk m p o w) := by unfold flatWOk; infer_instance
def flatWrite (m : List (List Int)) (p o w : Int) : List (List Int) × Int := if flatWOk m p o w then (setW m p o w, rd (rd_L1 m p) o) else (m, -3)
theorem flat_with {m : List (List Int)} {p o w : Int} (h : flatWOk m p o w) : memWithOk m p o w := ⟨flat_at h.1, h.2⟩
theorem flatW_small {m : List (List Int)} (hm : Small m) {p o w : Int} (h : flatWOk m p o w) : Small (setW m p o w) := small_set hm (flat_at h.1).2.1.1 (flat_at h.1).2.1.2 o w
theorem flatW_guest {m : List (List Int)} {p o w : Int} (h : flatWOk m p o w) : guestB (setW m p o w) = true :=
  guest_iff.mpr ⟨memB_set (flat_with h), by rw [setW_len]; exact (guest_iff.mp h.1.1).2⟩
theorem iFlatWrite_ev (m : List (List Int)) (p o w : Int) (hm : Small m) : Ev (fun k => impl_FlatWrite.f k m p o w) (flatWrite m p o w) := by
  unfold impl_FlatWrite.f
  refine Ev.bind (clone_ev m hm) (Ev.bind (iGuest_ev m hm) ?_)
  by_cases h : flatWOk m p o w
  · have hr := page_len (memAt_row (flat_at h.1))
    have g := guest_iff.mp h.1.1
    have e : flatWrite m p o w = (setW m p o w, rd (rd_L1 m p) o) := if_pos h
    obtain ⟨⟨hg, hp, ho⟩, hw⟩ := h
    rw [e]
    simp only [hg, if_true, spot_eq, wi_iff.mpr (show 0 ≤ p ∧ p ≤ 5 by omega), wi_iff.mpr (show 0 ≤ o ∧ o ≤ 3 by omega), Bool.and_self, Option.bind_some, impl_wordOk.f, within_eq, wi_iff.mpr hw, if_pos hp.1, if_pos (show p < (m.length : Int) by omega), if_pos ho.1, if_pos (show o < ((rd_L1 m p).length : Int) by omega)]
    exact Ev.now _
  · have e : flatWrite m p o w = (m, -3) := if_neg h
    rw [e]
    cases hg : guestB m
    · exact Ev.now _
    · simp only [if_true, spot_eq, Option.bind_some]
      cases hs : (wi p 0 5 && wi o 0 3)
      · exact Ev.now _
      · simp only [if_true, impl_wordOk.f, within_eq, Option.bind_some]
        rw [Bool.and_eq_true, wi_iff, wi_iff] at hs
        rw [wi_not.mpr (fun x => h ⟨⟨hg, by omega, by omega⟩, x⟩)]
        exact Ev.now _
theorem sFlatWrite_ev (m : List (List Int)) (p o w : Int) (hm : Small m) : Ev (fun k => spec_FlatWrite.f k m p o w) (flatWrite m p o w) := by
  unfold spec_FlatWrite.f
  refine Ev.bind (sMemAt_ev m p o hm) (Ev.bind (sMemWith_ev m p o w hm) (Ev.bind (sGuest_ev m hm) ?_))
  by_cases h : flatWOk m p o w
  · have e : flatWrite m p o w = (setW m p o w, rd (rd_L1 m p) o) := if_pos h
    rw [e]
    simp only [h.1.1, if_true, memWith, if_pos (flat_with h), memAt, if_pos (flat_at h.1)]
    exact Ev.now _
  · have e : flatWrite m p o w = (m, -3) := if_neg h
    rw [e]
    cases hg : guestB m
    · simp only [Bool.false_eq_true, if_false]
      exact Ev.bind (copy_ev m hm) (Ev.now _)
    · have g := guest_iff.mp hg
      have h' : ¬ memWithOk m p o w := fun x => h ⟨⟨hg, by have := x.1.2.1; omega, x.1.2.2⟩, x.2⟩
      simp only [if_true, memWith, if_neg h', Bool.false_eq_true, if_false]
      exact Ev.bind (copy_ev m hm) (Ev.now _)
theorem small_sub {m n : List (List Int)} (h : Small m) (hl : n.length ≤ m.length) (hs : ∀ r ∈ n, r ∈ m) : Small n := ⟨by have := h.1; omega, fun r hr => h.2 r (hs r hr)⟩
def frames0 : List (List Int) := List.replicate 8 (List.replicate 4 0)
theorem frames0_small : Small frames0 := ⟨by decide, fun r hr => by rw [List.eq_of_mem_replicate hr]; decide⟩
theorem frames0_ok : memB frames0 = true := by decide
def gst (d : List (List Int)) : S74 := ⟨List.replicate 6 z87, d, List.replicate 6 z90⟩
def part (l : List (List Int)) (i : Nat) : List (List Int) := (l.take ((i + 1) * 6)).drop (i * 6)
def loadG (l : List (List Int)) (n : Nat) : List S74 := (List.range n).map (fun i => gst (part l i))
theorem loadG_succ (l : List (List Int)) (n : Nat) : loadG l n ++ [gst (part l n)] = loadG l (n + 1) := by simp [loadG, List.range_succ]
theorem loadG_len (l : List (List Int)) (n : Nat) : (loadG l n).length = n := by simp [loadG]
theorem part_sub (l : List (List Int)) (i : Nat) : ∀ r ∈ part l i, r ∈ l := fun r hr => List.mem_of_mem_take (List.mem_of_mem_drop hr)
theorem part_small {l : List (List Int)} (h : Small l) (i : Nat) : Small (part l i) := small_sub h (by simp [part]; omega) (part_sub l i)
def loadOk (l : List (List Int)) : Prop := memB l = true ∧ (l.length = 6 ∨ l.length = 12)
instance (l : List (List Int)) : Decidable (loadOk l) := by unfold loadOk; infer_instance
def hostLoad (l : List (List Int)) : List (List Int) × List S74 × Int × Bool := if loadOk l then (frames0, loadG l (l.length / 6), 0, true) else ([], [], 0, false)
theorem part_guest {l : List (List Int)} (h : loadOk l) {i : Nat} (hi : i < l.length / 6) : guestB (part l i) = true := by
  refine guest_iff.mpr ⟨List.all_eq_true.mpr fun r hr => memB_page h.1 (part_sub l i r hr), ?_⟩
  have := h.2
  simp [part]; omega
theorem part_all {l : List (List Int)} (h : l.length = 6) : part l 0 = l := by simp [part, ← h]
theorem loadG_at {l : List (List Int)} {n i : Nat} (hi : i < n) : rd_T74 (loadG l n) (i : Int) = gst (part l i) := by
  have : i < (loadG l n).length := by rw [loadG_len]; exact hi
  unfold rd_T74; rw [getD_at _ this]; simp [loadG]
theorem rdM_rep {i : Nat} (hi : i < 6) : rd_T87 (List.replicate 6 z87) (i : Int) = z87 := by
  unfold rd_T87; rw [getD_at _ (show i < (List.replicate 6 z87).length by simpa using hi)]; exact List.getElem_replicate _
theorem iHostLoad_ev (l : List (List Int)) (hm : Small l) : Ev (fun k => impl_HostLoad.f k l) (hostLoad l) := by
  unfold impl_HostLoad.f
  have hl := hm.1
  have J : ∀ n, ¬ loadOk l → Ev (fun k => impl_HostLoad.j0 k l n true) (hostLoad l) := by
    intro n h
    refine Ev.succ ?_
    simp only [impl_HostLoad.j0, if_true, hostLoad, if_neg h]
    exact Ev.now _
  refine Ev.bind (iMemOk_ev l hm) ?_
  cases hb : memB l
  · simp only [Bool.false_eq_true, if_false, wr ((l.length : Int) / 6) (by omega)]
    exact J _ (fun x => by have := x.1; rw [hb] at this; cases this)
  simp only [if_true, wr ((l.length : Int) / 6) (by omega), within_eq, Option.bind_some]
  cases hn : wi ((l.length : Int) / 6) 1 2
  · simp only [Bool.false_eq_true, if_false]
    rw [wi_not] at hn
    exact J _ (fun x => by have := x.2; omega)
  rw [wi_iff] at hn
  simp only [if_true, wr ((l.length : Int) / 6 * 6) (by omega)]
  by_cases hc : (l.length : Int) = (l.length : Int) / 6 * 6
  · have h : loadOk l := ⟨hb, by omega⟩
    rw [show ((l.length : Int) != (l.length : Int) / 6 * 6) = false by simp; exact hc]
    obtain ⟨n, hn', hln⟩ : ∃ n : Nat, (l.length : Int) / 6 = (n : Int) ∧ l.length = n * 6 := ⟨l.length / 6, by omega, by omega⟩
    have h2 : n = 1 ∨ n = 2 := by omega
    have e : hostLoad l = (frames0, loadG l n, 0, true) := by rw [hostLoad, if_pos h, show l.length / 6 = n by omega]
    rw [hn', e]
    refine Ev.succ ?_
    simp only [impl_HostLoad.j0, Bool.false_eq_true, if_false]
    have H1 : ∀ d i : Nat, i + d = n → Ev (fun k => impl_HostLoad.l1 k l (n : Int) (i : Int) frames0 (loadG l i) 0) (frames0, loadG l n, 0, true) := by
      intro d
      induction d with
      | zero =>
        intro i hi
        obtain rfl : i = n := by omega
        refine Ev.succ ?_
        simp only [impl_HostLoad.l1, Int.lt_irrefl, if_false]
        exact Ev.now _
      | succ d ih =>
        intro i hi
        have ih' := ih (i + 1) (by omega)
        refine Ev.succ ?_
        simp only [impl_HostLoad.l1, if_pos (show (i : Int) < (n : Int) by omega), wr1 i (by omega), wr ((i : Int) * 6) (by omega), wr (((i + 1 : Nat) : Int) * 6) (by omega), if_pos (show (6 : Nat) ≤ 11728124029610 by decide), if_pos (show (6 : Nat) ≤ 8796093022208 by decide), if_pos (show (0 : Int) ≤ (i : Int) * 6 by omega), if_pos (show (i : Int) * 6 ≤ ((i + 1 : Nat) : Int) * 6 by omega), if_pos (show ((i + 1 : Nat) : Int) * 6 ≤ (l.length : Int) by omega), show ((i : Int) * 6).toNat = i * 6 by omega, show (((i + 1 : Nat) : Int) * 6).toNat = (i + 1) * 6 by omega, loadG_len, if_pos (show i < 1954687338268 by omega)]
        refine Ev.bind (clone_ev (part l i) (part_small hm i)) ?_
        rw [show (⟨List.replicate 6 z87, part l i, List.replicate 6 z90⟩ : S74) = gst (part l i) from rfl, loadG_succ]
        exact ih'
    have H0 : ∀ d i : Nat, i + d = 8 → Ev (fun k => impl_HostLoad.l0 k l (n : Int) (i : Int) (List.replicate i (List.replicate 4 0)) [] 0) (frames0, loadG l n, 0, true) := by
      intro d
      induction d with
      | zero =>
        intro i hi
        obtain rfl : i = 8 := by omega
        refine Ev.succ ?_
        simp only [impl_HostLoad.l0, show ¬ (((8 : Nat) : Int) < 8) by decide, if_false]
        exact H1 n 0 (by omega)
      | succ d ih =>
        intro i hi
        have ih' := ih (i + 1) (by omega)
        rw [List.replicate_succ'] at ih'
        refine Ev.succ ?_
        simp only [impl_HostLoad.l0, if_pos (show (i : Int) < 8 by omega), if_pos (show (4 : Nat) ≤ 35184372088832 by decide), List.length_replicate, if_pos (show i < 5864062014805 by omega), wr1 i (by omega)]
        exact ih'
    exact H0 8 0 (by omega)
  · rw [show ((l.length : Int) != (l.length : Int) / 6 * 6) = true by simp; exact hc]
    exact J _ (fun x => by have := x.2; omega)
theorem guestOk_blank (F : List (List Int)) (G : List S74) (h : Int) (d : List (List Int)) (hd : guestB d = true) (hs : Small d) :
    Ev (fun k => impl_Host_guestOk.f k F G h (List.replicate 6 z87) d (List.replicate 6 z90)) true := by
  unfold impl_Host_guestOk.f
  simp only [List.length_replicate, show (((6 : Nat) : Int) = 6) = True by simp, if_true]
  refine Ev.bind (iGuest_ev d hs) ?_
  simp only [hd, if_true, show (((6 : Nat) : Int) != 6) = false from rfl]
  refine Ev.of (fun k => (impl_Host_guestOk.mono_l k).1 _ _ _ _ _ _ _) (k := 20) ?_
  kernel_rfl
theorem hostOk_load {l : List (List Int)} (h : loadOk l) (hs : Small l) : Ev (fun k => impl_HostOk.f k frames0 (loadG l (l.length / 6)) 0) true := by
  have h2 := h.2
  obtain ⟨n, hn⟩ : ∃ n, l.length / 6 = n := ⟨_, rfl⟩
  rw [hn]
  unfold impl_HostOk.f
  simp only [show ((frames0.length : Nat) : Int) = 8 from rfl, if_true]
  refine Ev.bind (iMemOk_ev frames0 frames0_small) ?_
  simp only [frames0_ok, if_true, loadG_len, within_eq, Option.bind_some, wi_iff.mpr (show (1 : Int) ≤ (n : Int) ∧ (n : Int) ≤ 2 by omega), show wi 0 0 7 = true from rfl, Bool.not_true]
  refine Ev.succ ?_
  simp only [impl_HostOk.j0, Bool.false_eq_true, if_false, loadG_len]
  have H : ∀ d i : Nat, i + d = n → Ev (fun k => impl_HostOk.l0 k (loadG l n) (n : Int) (i : Int) frames0 (loadG l n) 0) true := by
    intro d
    induction d with
    | zero =>
      intro i hi
      obtain rfl : i = n := by omega
      refine Ev.succ ?_
      simp only [impl_HostOk.l0, Int.lt_irrefl, if_false]
      exact Ev.now _
    | succ d ih =>
      intro i hi
      refine Ev.succ ?_
      simp only [impl_HostOk.l0, if_pos (show (i : Int) < (n : Int) by omega), if_pos (Int.natCast_nonneg i), loadG_len, loadG_at (l := l) (show i < n by omega), gst, wr1 i (by omega)]
      refine Ev.bind (guestOk_blank frames0 (loadG l n) 0 (part l i) (part_guest h (by omega)) (part_small hs i)) ?_
      simp only [if_true]
      exact ih (i + 1) (by omega)
  exact H n 0 (by omega)
theorem hostSee_load {l : List (List Int)} (h : loadOk l) (hs : Small l) {i : Nat} (hi : i < l.length / 6) : Ev (fun k => impl_HostSee.f k frames0 (loadG l (l.length / 6)) 0 (i : Int)) (part l i) := by
  unfold impl_HostSee.f
  refine Ev.bind (hostOk_load h hs) ?_
  have h2 := h.2
  have hg := part_guest h hi
  have hps := part_small hs i
  have hpl := (guest_iff.mp hg).2
  obtain ⟨n, hn⟩ : ∃ n, l.length / 6 = n := ⟨_, rfl⟩
  rw [hn] at hi ⊢
  simp only [if_true, loadG_len, wr ((n : Int) - 1) (by omega), within_eq, Option.bind_some, wi_iff.mpr (show (0 : Int) ≤ (i : Int) ∧ (i : Int) ≤ (n : Int) - 1 by omega)]
  refine Ev.bind (r := part l i) ?_ (Ev.now _)
  unfold impl_Host_see.f
  simp only [if_pos (Int.natCast_nonneg i), loadG_len, if_pos (show (i : Int) < (n : Int) by omega), loadG_at (l := l) (show i < n by omega), gst, List.length_replicate]
  have H : ∀ d j : Nat, j + d = 6 → ∀ xs : List (List Int), xs.length = j → Ev (fun k => impl_Host_see.l0 k xs (List.replicate 6 z87) ((6 : Nat) : Int) (j : Int) frames0 (loadG l n) 0 (List.replicate 6 z87) (part l i) (List.replicate 6 z90)) (xs ++ (part l i).drop j) := by
    intro d
    induction d with
    | zero =>
      intro j hj xs hx
      obtain rfl : j = 6 := by omega
      refine Ev.succ ?_
      simp only [impl_Host_see.l0, Int.lt_irrefl, if_false]
      exact Ev.cast (by rw [List.drop_eq_nil_of_le (by omega), List.append_nil]) (Ev.now _)
    | succ d ih =>
      intro j hj xs hx
      have hlt : j < (part l i).length := by omega
      have hr := hps.2 _ (List.getElem_mem hlt)
      refine Ev.succ ?_
      simp only [impl_Host_see.l0, List.length_replicate, if_pos (show (j : Int) < ((6 : Nat) : Int) by omega), if_pos (Int.natCast_nonneg j), if_pos (Int.ofNat_lt.mpr hlt), rdM_rep (show j < 6 by omega), show z87.f0 = false from rfl, Bool.false_eq_true, if_false, rdL_at hlt, Option.bind_some, List.length_nil, Nat.zero_add, List.nil_append, if_pos (show (part l i)[j].length < 17592186044416 by omega), if_pos (show xs.length < 5864062014805 by omega), wr1 j (by omega)]
      exact Ev.cast (by rw [drop_cons hlt, List.append_assoc]; rfl) (ih (j + 1) (by omega) (xs ++ [(part l i)[j]]) (by simp [hx]))
  exact H 6 0 (by omega) [] rfl

-- the law
theorem FnLoadWrite : laws_FnLoadWrite.Pure := by
  intro l _ _ hw
  obtain ⟨m, p, o, w, g, hN, hp, ho, hw2⟩ := drawFlatWrite_ev l hw
  have hm := near_small hN
  apply Ev.rounds
  unfold laws_FnLoadWrite.f
  by_cases c : (l.length : Int) > 1048576
  · simp only [if_pos c]; exact Ev.now _
  simp only [if_neg c]
  refine Ev.bind g (Ev.bind (sFlatWrite_ev m p o w hm) (Ev.bind (iFlatWrite_ev m p o w hm) ?_))
  simp only [if_true]
  by_cases h : flatWOk m p o w
  · have hs := flatW_small hm h
    have hv := flatRead_word h.1
    have hg := guest_iff.mp (flatW_guest h)
    have hk : loadOk (setW m p o w) := ⟨hg.1, .inl hg.2⟩
    simp only [flatWrite, if_pos h]
    refine Ev.bind (lkMem_refl _ hs) ?_
    simp only [if_true, decide_eq_false (show ¬ rd (rd_L1 m p) o < 0 by omega)]
    refine Ev.succ ?_
    simp only [laws_FnLoadWrite.j0, Bool.false_eq_true, if_false]
    refine Ev.bind (iHostLoad_ev _ hs) ?_
    simp only [hostLoad, if_pos hk, if_true]
    have hx := hostSee_load hk hs (i := 0) (by rw [hg.2]; decide)
    rw [part_all hg.2] at hx
    refine Ev.bind hx (Ev.bind (lkMem_refl _ hs) ?_)
    simp only [if_true, loadG_len, hg.2]
    exact Ev.now _
  · simp only [flatWrite, if_neg h]
    refine Ev.bind (lkMem_refl _ hm) ?_
    simp only [if_true, show decide ((-3 : Int) < 0) = true from rfl]
    refine Ev.succ ?_
    simp only [laws_FnLoadWrite.j0, if_true]
    exact Ev.bind (lkMem_refl _ hm) (Ev.now _)

end Go.Proofs.Ytfamknibfokfmaa.Pure
