/- The pure side of the law FnLoadBad: what the printed functions compute answers true. Conditions: none beyond the statement given. -/
import Derived.Test.YtfamknibfokfmaaVFnLoadBadx0
import Derived.Test.YtfamknibfokfmaaVFnLoadBadx1
import Derived.Test.YtfamknibfokfmaaVFnLoadBadx2
import Derived.Test.YtfamknibfokfmaaVFnLoadBadx3
import Derived.Test.YtfamknibfokfmaaVFnLoadBadx4
import Derived.Test.YtfamknibfokfmaaVFnLoadBadx5
import Derived.Test.YtfamknibfokfmaaVFnLoadBadx6
import Derived.Test.YtfamknibfokfmaaVFnLoadBadx7
import Derived.Test.YtfamknibfokfmaaVFnLoadBadx8
import Derived.Test.YtfamknibfokfmaaVFnLoadBadx9
import Derived.Test.YtfamknibfokfmaaVFnLoadBadx10
import Derived.Test.YtfamknibfokfmaaVFnLoadBadx11
import Derived.Test.YtfamknibfokfmaaVFnLoadBadx12
import Derived.Test.YtfamknibfokfmaaVFnLoadBadx13
import Derived.Test.YtfamknibfokfmaaVFnLoadBadx14
import Derived.Laws.BitsLemmas
namespace Go.Proofs.Ytfamknibfokfmaa.Pure
open Go Go.RowKit Go.Proofs.Ytfamknibfokfmaa.QFnLoadBad Go.Proofs.YtfamknibfokfmaaW.PrintWords Go.Proofs.YtfamknibfokfmaaW.PrintLast
set_option linter.unusedVariables false
set_option linter.unusedSimpArgs false

theorem Ev.succ {α : Type} {g : Nat → Option α} {r : α} (h : Ev (fun k => g (k + 1)) r) : Ev g r := Ev.step (fun _ => rfl) h
theorem Ev.cast {α : Type} {g : Nat → Option α} {r r' : α} (e : r = r') (h : Ev g r) : Ev g r' := e ▸ h
theorem wr (n : Int) (h : -9223372036854775808 ≤ n ∧ n ≤ 9223372036854775807) : wrap64 n = n := by unfold wrap64; omega
theorem wr1 (i : Nat) (h : (i : Int) ≤ 1000000000000000000) : wrap64 ((i : Int) + 1) = ((i + 1 : Nat) : Int) := by rw [wr _ (by omega)]; rfl
theorem Ev.down {σ ρ : Type} (g : Nat → Int → σ → Option ρ) (R : Nat → σ → ρ) (n : Nat) (hend : ∀ st, Ev (fun k => g k n st) (R n st))
    (hstep : ∀ i : Nat, i < n → (∀ st, Ev (fun k => g k ((i + 1 : Nat) : Int) st) (R (i + 1) st)) → ∀ st, Ev (fun k => g k (i : Int) st) (R i st)) :
    ∀ st, Ev (fun k => g k 0 st) (R 0 st) := by
  have H : ∀ d i : Nat, i + d = n → ∀ st, Ev (fun k => g k (i : Int) st) (R i st) := by
    intro d
    induction d with
    | zero => intro i hi st; obtain rfl : i = n := by omega
              exact hend st
    | succ d ih => intro i hi; exact hstep i (by omega) (ih (i + 1) (by omega))
  exact H n 0 (by omega)
theorem drop_cons {α : Type} {l : List α} {i : Nat} (h : i < l.length) : l.drop i = l[i] :: l.drop (i + 1) := List.drop_eq_getElem_cons h
theorem rd_at {l : List Int} {i : Nat} (h : i < l.length) : rd l (i : Int) = l[i] := by simp [rd, h]
theorem getD_at {α : Type} {l : List α} {i : Nat} (z : α) (h : i < l.length) : l.getD ((i : Int)).toNat z = l[i] := by simp [h]
theorem u8_in {n : Int} (h : (Lit.int .u8 n).wf = true) : 0 ≤ n ∧ n ≤ 255 := by
  have e1 : IntKind.u8.min = 0 := by decide
  have e2 : IntKind.u8.max = 255 := by decide
  simp only [Lit.wf, e1, e2, Bool.and_eq_true, decide_eq_true_eq] at h; exact h
def wi (a lo hi : Int) : Bool := decide (lo ≤ a) && decide (a ≤ hi)
theorem wi_iff {a lo hi : Int} : wi a lo hi = true ↔ lo ≤ a ∧ a ≤ hi := by simp [wi]
theorem wi_not {a lo hi : Int} : wi a lo hi = false ↔ ¬ (lo ≤ a ∧ a ≤ hi) := by rw [← wi_iff]; simp
theorem l6In_eq (a lo hi : Int) : spec_l6In.f a lo hi = some (wi a lo hi) := by
  unfold spec_l6In.f wi
  by_cases h : a ≥ lo
  · rw [if_pos h]; simp [h]
  · rw [if_neg h]; simp; omega
theorem within_eq (a lo hi : Int) : impl_within.f a lo hi = some (wi a lo hi) := by
  unfold impl_within.f wi
  by_cases h : a ≥ lo
  · rw [if_pos h]; simp [h]
  · rw [if_neg h]; simp; omega
theorem xor_nat (a b : Nat) (ha : a < 2 ^ 62) (hb : b < 2 ^ 62) : bits .xor .i64 (a : Int) (b : Int) = ((a ^^^ b : Nat) : Int) := by
  have ha' : a % 2 ^ 64 = a := Nat.mod_eq_of_lt (Nat.lt_of_lt_of_le ha (by decide))
  have hb' : b % 2 ^ 64 = b := Nat.mod_eq_of_lt (Nat.lt_of_lt_of_le hb (by decide))
  have hx : a ^^^ b < 2 ^ 62 := Nat.xor_lt_two_pow ha hb
  have e : IntKind.i64.bits = 64 := rfl
  simp only [bits, e, BitVec.ofInt_natCast, BitVec.toNat_xor, BitVec.toNat_ofNat, ha', hb']
  rw [IntKind.wrap_i64]; omega
theorem xor_nn (a b : Int) (ha : 0 ≤ a) (ha' : a < 4611686018427387904) (hb : 0 ≤ b) (hb' : b < 4611686018427387904) : 0 ≤ bits .xor .i64 a b := by
  obtain ⟨x, rfl⟩ := Int.eq_ofNat_of_zero_le ha
  obtain ⟨y, rfl⟩ := Int.eq_ofNat_of_zero_le hb
  rw [xor_nat x y (by omega) (by omega)]; omega
theorem tmod_in (x n : Int) (hx : 0 ≤ x) (hn : 1 ≤ n) : 0 ≤ Int.tmod x n ∧ Int.tmod x n < n := by
  rw [Int.tmod_eq_emod_of_nonneg hx]
  exact ⟨Int.emod_nonneg _ (by omega), Int.emod_lt_of_pos _ (by omega)⟩
def ByB (b : List Int) : Prop := ∀ i : Int, 0 ≤ rd b i ∧ rd b i ≤ 255
theorem byB_of {b : List Int} (h : ∀ x ∈ b, (Lit.int .u8 x).wf = true) : ByB b := by
  intro i
  unfold rd
  rw [List.getD_eq_getElem?_getD]
  cases e : b[i.toNat]? with
  | none => simp
  | some x => simpa using u8_in (h x (List.mem_of_getElem? e))
theorem pick_ev (b : List Int) (p n : Int) (hb : ByB b) (hl : (b.length : Int) ≤ 2000) (hp : 0 ≤ p) (hp' : p ≤ 1000000000) (hn : 1 ≤ n) (hn' : n ≤ 1000000000000) :
    ∃ v, Ev (fun k => spec_l6Rd_pick.f k b p n) (v, p + 1) ∧ 0 ≤ v ∧ v < n := by
  unfold spec_l6Rd_pick.f
  simp only [if_neg (show ¬ n < 1 by omega), wr (p + 1) (by omega)]
  by_cases e : b.length = 0
  · refine ⟨0, Ev.succ ?_, by omega, by omega⟩
    simp only [spec_l6Rd_pick.j0, e]
    exact Ev.now _
  · have e' : ((b.length : Int) == 0) = false := by simp; intro h; exact e (by simp [h])
    simp only [e']
    by_cases g : p < b.length
    · have hb1 := hb p
      have t := tmod_in (rd b p) n hb1.1 hn
      refine ⟨Int.tmod (rd b p) n, Ev.succ ?_, t.1, t.2⟩
      simp only [spec_l6Rd_pick.j0, show p + 1 - 1 = p by omega, wr p (by omega), if_pos g, if_pos hp, if_neg (show ¬ n = 0 by omega), wr (rd b p) (by omega), Bool.false_eq_true, if_false]
      exact Ev.now _
    · have hL : (1 : Int) ≤ b.length := by omega
      have q1 := tmod_in p b.length hp hL
      have q2 := tmod_in (p * 7 + 3) b.length (by omega) hL
      have b1 := hb (Int.tmod p b.length)
      have b2 := hb (Int.tmod (p * 7 + 3) b.length)
      have q3 : 0 ≤ Int.tdiv p b.length ∧ Int.tdiv p b.length ≤ p := by
        rw [Int.tdiv_eq_ediv_of_nonneg hp]
        exact ⟨Int.ediv_nonneg hp (by omega), Int.ediv_le_self _ hp⟩
      generalize hx : rd b (Int.tmod p b.length) = X at *
      generalize hy : rd b (Int.tmod (p * 7 + 3) b.length) = Y at *
      generalize hz : Int.tdiv p b.length = Z at *
      have q4 : 0 ≤ Int.tdiv (X * 131 + Y * 1117 + p * 29 + Z * 53) 64 ∧ Int.tdiv (X * 131 + Y * 1117 + p * 29 + Z * 53) 64 ≤ 4611686018427387903 := by
        rw [Int.tdiv_eq_ediv_of_nonneg (by omega)]; omega
      generalize hu : Int.tdiv (X * 131 + Y * 1117 + p * 29 + Z * 53) 64 = U at *
      have q5 := xor_nn (X * 131 + Y * 1117 + p * 29 + Z * 53) U (by omega) (by omega) (by omega) (by omega)
      have t := tmod_in _ n q5 hn
      refine ⟨Int.tmod (bits .xor .i64 (X * 131 + Y * 1117 + p * 29 + Z * 53) U) n, Ev.succ ?_, t.1, t.2⟩
      simp only [spec_l6Rd_pick.j0, show p + 1 - 1 = p by omega, wr p (by omega), if_neg g, if_neg (show ¬ (b.length : Int) = 0 by omega), if_pos q1.1, if_pos q1.2, wr (p * 7) (by omega), wr (p * 7 + 3) (by omega), if_pos q2.1, if_pos q2.2, if_neg (show ¬ n = 0 by omega), hx, hy, hz, wr X (by omega), wr Y (by omega), wr Z (by omega), wr (X * 131) (by omega), wr (Y * 1117) (by omega), wr (X * 131 + Y * 1117) (by omega), wr (p * 29) (by omega), wr (X * 131 + Y * 1117 + p * 29) (by omega), wr (Z * 53) (by omega), wr (X * 131 + Y * 1117 + p * 29 + Z * 53) (by omega), hu, wr U (by omega), Bool.false_eq_true, if_false]
      exact Ev.now _
theorem open_eq (l : List Int) (h : ∀ x ∈ l, (Lit.int .u8 x).wf = true) : ∃ b, spec_l6Open.f l = some (b, 0) ∧ ByB b ∧ (b.length : Int) ≤ 2000 := by
  unfold spec_l6Open.f
  by_cases g : (l.length : Int) > 2000
  · rw [if_pos g, if_pos (by omega)]
    exact ⟨_, rfl, byB_of fun x hx => h x (List.mem_of_mem_take hx), by simp; omega⟩
  · rw [if_neg g]
    exact ⟨_, rfl, byB_of h, by omega⟩
theorem rdL_at {l : List (List Int)} {i : Nat} (h : i < l.length) : rd_L1 l (i : Int) = l[i] := getD_at _ h
def pageB (p : List Int) : Bool := p.all (fun w => wi w 0 63) && ((p.length : Int) == 4)
def memB (m : List (List Int)) : Bool := m.all pageB
def Small (m : List (List Int)) : Prop := (m.length : Int) ≤ 1000000000000 ∧ ∀ r ∈ m, (r.length : Int) ≤ 1000000000000
theorem rdL_mem {m : List (List Int)} {i : Int} (h0 : 0 ≤ i) (h : i < m.length) : rd_L1 m i ∈ m := by
  have e : i = ((i.toNat : Nat) : Int) := by omega
  rw [e, rdL_at (show i.toNat < m.length by omega)]; exact List.getElem_mem _
theorem sPage_ev (p : List Int) (hl : (p.length : Int) ≤ 1000000000000) : Ev (fun k => spec_l2PageOk.f k p) (pageB p) := by
  unfold spec_l2PageOk.f
  have H := Ev.down (σ := Unit) (fun k i _ => spec_l2PageOk.l0 k p i) (fun i _ => (p.drop i).all (fun w => wi w 0 63) && ((p.length : Int) == 4)) p.length
    (fun _ => Ev.succ (by simp only [spec_l2PageOk.l0, Int.lt_irrefl, if_false]; exact Ev.cast (by simp) (Ev.now _)))
    (fun i hi ih _ => by
      refine Ev.succ ?_
      simp only [spec_l2PageOk.l0, if_pos (Int.ofNat_lt.mpr hi), if_pos (Int.natCast_nonneg i), rd_at hi, l6In_eq, Option.bind_some, wr1 i (by omega)]
      rw [drop_cons hi, List.all_cons]
      cases h : wi p[i] 0 63
      · exact Ev.now _
      · exact ih ())
  exact H ()
theorem sMemOk_ev (m : List (List Int)) (hm : Small m) : Ev (fun k => spec_MemOk.f k m) (memB m) := by
  unfold spec_MemOk.f
  have hl := hm.1
  have H := Ev.down (σ := Unit) (fun k i _ => spec_MemOk.l0 k m i) (fun i _ => (m.drop i).all pageB) m.length
    (fun _ => Ev.succ (by simp only [spec_MemOk.l0, Int.lt_irrefl, if_false]; exact Ev.cast (by simp) (Ev.now _)))
    (fun i hi ih _ => by
      refine Ev.succ ?_
      simp only [spec_MemOk.l0, if_pos (Int.ofNat_lt.mpr hi), if_pos (Int.natCast_nonneg i), rdL_at hi, wr1 i (by omega)]
      refine Ev.bind (sPage_ev m[i] (hm.2 _ (List.getElem_mem hi))) ?_
      rw [drop_cons hi, List.all_cons]
      cases h : pageB m[i]
      · exact Ev.now _
      · exact ih ())
  exact H ()
theorem iPage_ev (p : List Int) (hl : (p.length : Int) ≤ 1000000000000) : Ev (fun k => impl_pageOk.f k p) (pageB p) := by
  unfold impl_pageOk.f
  have H := Ev.down (σ := Unit) (fun k i _ => impl_pageOk.l0 k p p p.length i) (fun i _ => (p.drop i).all (fun w => wi w 0 63) && ((p.length : Int) == 4)) p.length
    (fun _ => Ev.succ (by simp only [impl_pageOk.l0, Int.lt_irrefl, if_false]; exact Ev.cast (by simp) (Ev.now _)))
    (fun i hi ih _ => by
      refine Ev.succ ?_
      simp only [impl_pageOk.l0, if_pos (Int.ofNat_lt.mpr hi), if_pos (Int.natCast_nonneg i), rd_at hi, within_eq, Option.bind_some, wr1 i (by omega)]
      rw [drop_cons hi, List.all_cons]
      cases h : wi p[i] 0 63
      · exact Ev.now _
      · exact ih ())
  exact H ()
theorem iMemOk_ev (m : List (List Int)) (hm : Small m) : Ev (fun k => impl_MemOk.f k m) (memB m) := by
  unfold impl_MemOk.f
  have hl := hm.1
  have H := Ev.down (σ := Unit) (fun k i _ => impl_MemOk.l0 k m m.length i) (fun i _ => (m.drop i).all pageB) m.length
    (fun _ => Ev.succ (by simp only [impl_MemOk.l0, Int.lt_irrefl, if_false]; exact Ev.cast (by simp) (Ev.now _)))
    (fun i hi ih _ => by
      refine Ev.succ ?_
      simp only [impl_MemOk.l0, if_pos (Int.ofNat_lt.mpr hi), if_pos (Int.natCast_nonneg i), rdL_at hi, wr1 i (by omega)]
      refine Ev.bind (iPage_ev m[i] (hm.2 _ (List.getElem_mem hi))) ?_
      rw [drop_cons hi, List.all_cons]
      cases h : pageB m[i]
      · exact Ev.now _
      · exact ih ())
  exact H ()
theorem clone_ev (m : List (List Int)) (hm : Small m) : Ev (fun k => impl_cloneMem.f k m) m := by
  unfold impl_cloneMem.f
  have hl := hm.1
  have H : ∀ d i : Nat, i + d = m.length → ∀ xs : List (List Int), xs.length = i → Ev (fun k => impl_cloneMem.l0 k xs m m.length (i : Int)) (xs ++ m.drop i) := by
    intro d
    induction d with
    | zero =>
      intro i hi xs hx
      obtain rfl : i = m.length := by omega
      refine Ev.succ ?_
      simp only [impl_cloneMem.l0, Int.lt_irrefl, if_false]
      exact Ev.cast (by simp) (Ev.now _)
    | succ d ih =>
      intro i hi xs hx
      have hlt : i < m.length := by omega
      have hr := hm.2 _ (List.getElem_mem hlt)
      refine Ev.succ ?_
      simp only [impl_cloneMem.l0, if_pos (Int.ofNat_lt.mpr hlt), if_pos (Int.natCast_nonneg i), rdL_at hlt, Option.bind_some, List.length_nil, Nat.zero_add, List.nil_append, if_pos (show m[i].length < 17592186044416 by omega), if_pos (show xs.length < 5864062014805 by omega), wr1 i (by omega)]
      exact Ev.cast (by rw [drop_cons hlt, List.append_assoc]; rfl) (ih (i + 1) (by omega) (xs ++ [m[i]]) (by simp [hx]))
  exact H m.length 0 (by omega) [] rfl
theorem copy_ev (m : List (List Int)) (hm : Small m) : Ev (fun k => spec_l2Copy.f k m) m := by
  unfold spec_l2Copy.f
  have hl := hm.1
  have H : ∀ d i : Nat, i + d = m.length → ∀ xs : List (List Int), xs.length = i → Ev (fun k => spec_l2Copy.l0 k m xs (i : Int)) (xs ++ m.drop i) := by
    intro d
    induction d with
    | zero =>
      intro i hi xs hx
      obtain rfl : i = m.length := by omega
      refine Ev.succ ?_
      simp only [spec_l2Copy.l0, Int.lt_irrefl, if_false]
      exact Ev.cast (by simp) (Ev.now _)
    | succ d ih =>
      intro i hi xs hx
      have hlt : i < m.length := by omega
      have hr := hm.2 _ (List.getElem_mem hlt)
      refine Ev.succ ?_
      simp only [spec_l2Copy.l0, if_pos (Int.ofNat_lt.mpr hlt), if_pos (Int.natCast_nonneg i), rdL_at hlt, Option.bind_some, List.length_nil, Nat.zero_add, List.nil_append, if_pos (show m[i].length < 17592186044416 by omega), if_pos (show xs.length < 5864062014805 by omega), wr1 i (by omega)]
      exact Ev.cast (by rw [drop_cons hlt, List.append_assoc]; rfl) (ih (i + 1) (by omega) (xs ++ [m[i]]) (by simp [hx]))
  exact H m.length 0 (by omega) [] rfl
theorem word_ev (b : List Int) (p : Int) (hb : ByB b) (hl : (b.length : Int) ≤ 2000) (hp : 0 ≤ p) (hp' : p ≤ 100000000) :
    ∃ v p', Ev (fun k => spec_l71Word.f k b p) (v, p') ∧ p ≤ p' ∧ p' ≤ p + 2 ∧ 0 ≤ v ∧ v ≤ 63 := by
  unfold spec_l71Word.f
  obtain ⟨v, h1, v1, v2⟩ := pick_ev b p 3 hb hl (by omega) (by omega) (by omega) (by omega)
  obtain ⟨z, h2, z1, z2⟩ := pick_ev b (p + 1) 64 hb hl (by omega) (by omega) (by omega) (by omega)
  obtain ⟨y, h3, y1, y2⟩ := pick_ev b (p + 1) 14 hb hl (by omega) (by omega) (by omega) (by omega)
  by_cases c : v = 0
  · refine ⟨z, p + 1 + 1, Ev.bind h1 ?_, by omega, by omega, by omega, by omega⟩
    simp only [if_pos c]; exact Ev.bind h2 (Ev.now _)
  · refine ⟨y, p + 1 + 1, Ev.bind h1 ?_, by omega, by omega, by omega, by omega⟩
    simp only [if_neg c]; exact Ev.bind h3 (Ev.now _)
def Shape (m : List (List Int)) : Prop := m.length = 6 ∧ ∀ r ∈ m, r.length = 4
theorem shape_set {m : List (List Int)} (h : Shape m) {p : Int} (h0 : 0 ≤ p) (h1 : p < 6) (j : Nat) (v : Int) : Shape (m.set p.toNat ((rd_L1 m p).set j v)) := by
  have hr := h.2 _ (rdL_mem (m := m) h0 (by have := h.1; omega))
  refine ⟨by simp [h.1], fun r hr' => ?_⟩
  rcases List.mem_or_eq_of_mem_set hr' with x | rfl
  · exact h.2 r x
  · simp [hr]
theorem sMemNew6 : Ev (fun k => spec_MemNew.f k 6) (List.replicate 6 (List.replicate 4 0)) := by
  refine Ev.of (fun k => spec_MemNew.mono 6 k) (k := 10) ?_
  kernel_rfl
theorem mem_ev (b : List Int) (p : Int) (hb : ByB b) (hl : (b.length : Int) ≤ 2000) (hp : 0 ≤ p) (hp' : p ≤ 10000000) :
    ∃ m p', Ev (fun k => spec_l71Mem.f k b p) (m, p') ∧ p ≤ p' ∧ p' ≤ p + 200 ∧ Shape m := by
  have H1 : ∀ n : Nat, ∀ (m : List (List Int)) (p : Int), Shape m → 0 ≤ p → p + 3 * n ≤ 20000000 → ∃ m' p', Ev (fun k => spec_l71Mem.l1 k m (n : Int) b p) (m', p') ∧ p ≤ p' ∧ p' ≤ p + 3 * n ∧ Shape m' := by
    intro n
    induction n with
    | zero =>
      intro m p hs h0 h1
      refine ⟨m, p, Ev.succ ?_, by omega, by omega, hs⟩
      simp only [spec_l71Mem.l1, if_neg (show ¬ ((0 : Nat) : Int) > 0 by omega)]
      exact Ev.now _
    | succ n ih =>
      intro m p hs h0 h1
      obtain ⟨v, g1, v1, v2⟩ := pick_ev b p 6 hb hl (by omega) (by omega) (by omega) (by omega)
      obtain ⟨u, g2, u1, u2⟩ := pick_ev b (p + 1) 8 hb hl (by omega) (by omega) (by omega) (by omega)
      have e1 : Int.tdiv v 4 = v / 4 := Int.tdiv_eq_ediv_of_nonneg v1
      have e2 : Int.tmod v 4 = v % 4 := Int.tmod_eq_emod_of_nonneg v1
      have hlen := hs.1
      have hr := hs.2 _ (rdL_mem (m := m) (i := v / 4) (by omega) (by omega))
      obtain ⟨m', p', g3, a1, a2, a3⟩ := ih _ (p + 1 + 1) (shape_set hs (p := v / 4) (by omega) (by omega) (v % 4).toNat (5 + u)) (by omega) (by omega)
      refine ⟨m', p', Ev.succ ?_, by omega, by omega, a3⟩
      simp only [spec_l71Mem.l1, if_pos (show ((n + 1 : Nat) : Int) > 0 by omega), show ((n + 1 : Nat) : Int) - 1 = (n : Int) by omega, wr (n : Int) (by omega)]
      refine Ev.bind g1 ?_
      simp only [e1, e2, wr (v / 4) (by omega), if_pos (show 0 ≤ v / 4 by omega), if_pos (show v / 4 < (m.length : Int) by omega)]
      refine Ev.bind g2 ?_
      simp only [if_pos (show 0 ≤ v % 4 by omega), if_pos (show v % 4 < ((rd_L1 m (v / 4)).length : Int) by omega), wr (5 + u) (by omega)]
      exact g3
  have H0 : ∀ n : Nat, n ≤ 26 → ∀ (m : List (List Int)) (p : Int), Shape m → 0 ≤ p → p + 5 * n ≤ 15000000 → ∃ m' p', Ev (fun k => spec_l71Mem.l0 k m (n : Int) b p) (m', p') ∧ p ≤ p' ∧ p' ≤ p + 5 * n + 30 ∧ Shape m' := by
    intro n
    induction n with
    | zero =>
      intro _ m p hs h0 h1
      obtain ⟨v, g1, v1, v2⟩ := pick_ev b p 7 hb hl (by omega) (by omega) (by omega) (by omega)
      obtain ⟨w, rfl⟩ := Int.eq_ofNat_of_zero_le v1
      obtain ⟨m', p', g2, a1, a2, a3⟩ := H1 w m (p + 1) hs (by omega) (by omega)
      refine ⟨m', p', Ev.succ ?_, by omega, by omega, a3⟩
      simp only [spec_l71Mem.l0, if_neg (show ¬ ((0 : Nat) : Int) > 0 by omega)]
      exact Ev.bind g1 g2
    | succ n ih =>
      intro hn m p hs h0 h1
      obtain ⟨v, g1, v1, v2⟩ := pick_ev b p 6 hb hl (by omega) (by omega) (by omega) (by omega)
      obtain ⟨u, g2, u1, u2⟩ := pick_ev b (p + 1) 4 hb hl (by omega) (by omega) (by omega) (by omega)
      obtain ⟨w, p1, g3, w1, w2, _, _⟩ := word_ev b (p + 1 + 1) hb hl (by omega) (by omega)
      have hlen := hs.1
      have hr := hs.2 _ (rdL_mem (m := m) (i := v) (by omega) (by omega))
      obtain ⟨m', p', g4, a1, a2, a3⟩ := ih (by omega) _ p1 (shape_set hs (p := v) (by omega) (by omega) u.toNat w) (by omega) (by omega)
      refine ⟨m', p', Ev.succ ?_, by omega, by omega, a3⟩
      simp only [spec_l71Mem.l0, if_pos (show ((n + 1 : Nat) : Int) > 0 by omega), show ((n + 1 : Nat) : Int) - 1 = (n : Int) by omega, wr (n : Int) (by omega)]
      refine Ev.bind g1 ?_
      simp only [if_pos v1, if_pos (show v < (m.length : Int) by omega)]
      refine Ev.bind g2 (Ev.bind g3 ?_)
      simp only [if_pos u1, if_pos (show u < ((rd_L1 m v).length : Int) by omega)]
      exact g4
  unfold spec_l71Mem.f
  obtain ⟨v, g1, v1, v2⟩ := pick_ev b p 26 hb hl (by omega) (by omega) (by omega) (by omega)
  obtain ⟨w, rfl⟩ := Int.eq_ofNat_of_zero_le v1
  obtain ⟨m', p', g2, a1, a2, a3⟩ := H0 w (by omega) (List.replicate 6 (List.replicate 4 0)) (p + 1) ⟨by simp, fun r hr => by rw [List.eq_of_mem_replicate hr]; simp⟩ (by omega) (by omega)
  exact ⟨m', p', Ev.bind sMemNew6 (Ev.bind g1 g2), by omega, by omega, a3⟩
def Near (m : List (List Int)) : Prop := (5 ≤ m.length ∧ m.length ≤ 6) ∧ ∀ r ∈ m, 2 ≤ r.length ∧ r.length ≤ 4
theorem off_ev (b : List Int) (p : Int) (hb : ByB b) (hl : (b.length : Int) ≤ 2000) (hp : 0 ≤ p) (hp' : p ≤ 10000000) :
    ∃ m p', Ev (fun k => spec_l71Off.f k b p) (m, p') ∧ p ≤ p' ∧ p' ≤ p + 300 ∧ Near m := by
  unfold spec_l71Off.f
  obtain ⟨m, p1, g0, a1, a2, hs⟩ := mem_ev b p hb hl hp hp'
  obtain ⟨v, g1, v1, v2⟩ := pick_ev b p1 20 hb hl (by omega) (by omega) (by omega) (by omega)
  have hlen := hs.1
  obtain ⟨u, g2, u1, u2⟩ := pick_ev b (p1 + 1) m.length hb hl (by omega) (by omega) (by omega) (by omega)
  obtain ⟨w, g3, w1, w2⟩ := pick_ev b (p1 + 1 + 1) 2 hb hl (by omega) (by omega) (by omega) (by omega)
  have hN : Near m := ⟨by omega, fun r hr => by have := hs.2 r hr; omega⟩
  have hset : ∀ r : List Int, 2 ≤ r.length ∧ r.length ≤ 4 → Near (m.set u.toNat r) := by
    intro r hr
    refine ⟨by simp; omega, fun x hx => ?_⟩
    rcases List.mem_or_eq_of_mem_set hx with y | rfl
    · exact hN.2 x y
    · exact hr
  by_cases c0 : v = 0
  · refine ⟨m.drop 1, p1 + 1, Ev.bind g0 (Ev.bind g1 ?_), by omega, by omega, ⟨by simp; omega, fun r hr => hN.2 r (List.mem_of_mem_drop hr)⟩⟩
    simp only [if_pos c0, if_pos (show (1 : Int) ≤ m.length by omega)]
    exact Ev.now _
  by_cases c1 : v = 1
  · refine ⟨m.set u.toNat [1, 2], p1 + 1 + 1, Ev.bind g0 (Ev.bind g1 ?_), by omega, by omega, hset _ (by simp)⟩
    simp only [if_neg c0, if_pos c1]
    refine Ev.bind g2 ?_
    simp only [if_pos u1, if_pos u2]
    exact Ev.now _
  by_cases c2 : v = 2
  · have hr := hs.2 _ (rdL_mem (m := m) (i := u) u1 u2)
    refine ⟨m.set u.toNat ((rd_L1 m u).set 0 (rd [(-1), 64] w)), p1 + 1 + 1 + 1, Ev.bind g0 (Ev.bind g1 ?_), by omega, by omega, hset _ (by simp [hr])⟩
    simp only [if_neg c0, if_neg c1, if_pos c2]
    refine Ev.bind g2 ?_
    simp only [if_pos u1, if_pos u2, Option.bind_some]
    refine Ev.bind g3 ?_
    simp only [if_pos w1, if_pos (show w < (([(-1), 64] : List Int).length : Int) by simpa using w2), if_pos (show (0 : Int) < ((rd_L1 m u).length : Int) by omega)]
    exact Ev.now _
  · refine ⟨m, p1 + 1, Ev.bind g0 (Ev.bind g1 ?_), by omega, by omega, hN⟩
    simp only [if_neg c0, if_neg c1, if_neg c2]
    exact Ev.now _
theorem lkInts_refl (l : List Int) (hl : (l.length : Int) ≤ 1000000000000) : Ev (fun k => laws_lkInts.f k l l) true := by
  unfold laws_lkInts.f
  simp only [if_true]
  have H := Ev.down (σ := Unit) (fun k i _ => laws_lkInts.l0 k l l i) (fun i _ => true) l.length
    (fun _ => Ev.succ (by simp only [laws_lkInts.l0, Int.lt_irrefl, if_false]; exact Ev.now _))
    (fun i hi ih _ => by
      refine Ev.succ ?_
      simp only [laws_lkInts.l0, if_pos (Int.ofNat_lt.mpr hi), if_pos (Int.natCast_nonneg i), if_true, wr1 i (by omega)]
      exact ih ())
  exact H ()
theorem lkMem_refl (l : List (List Int)) (hl : Small l) : Ev (fun k => laws_lkMem.f k l l) true := by
  unfold laws_lkMem.f
  simp only [if_true]
  have h1 := hl.1
  have H := Ev.down (σ := Unit) (fun k i _ => laws_lkMem.l0 k l l i) (fun i _ => true) l.length
    (fun _ => Ev.succ (by simp only [laws_lkMem.l0, Int.lt_irrefl, if_false]; exact Ev.now _))
    (fun i hi ih _ => by
      refine Ev.succ ?_
      simp only [laws_lkMem.l0, if_pos (Int.ofNat_lt.mpr hi), if_pos (Int.natCast_nonneg i), rdL_at hi, wr1 i (by omega)]
      refine Ev.bind (lkInts_refl _ (hl.2 _ (List.getElem_mem hi))) ?_
      simp only [if_true]
      exact ih ())
  exact H ()
theorem small_sub {m n : List (List Int)} (h : Small m) (hl : n.length ≤ m.length) (hs : ∀ r ∈ n, r ∈ m) : Small n := ⟨by have := h.1; omega, fun r hr => h.2 r (hs r hr)⟩
def frames0 : List (List Int) := List.replicate 8 (List.replicate 4 0)
theorem frames0_small : Small frames0 := ⟨by decide, fun r hr => by rw [List.eq_of_mem_replicate hr]; decide⟩
def gst (d : List (List Int)) : S74 := ⟨List.replicate 6 z87, d, List.replicate 6 z90⟩
def part (l : List (List Int)) (i : Nat) : List (List Int) := (l.take ((i + 1) * 6)).drop (i * 6)
def loadG (l : List (List Int)) (n : Nat) : List S74 := (List.range n).map (fun i => gst (part l i))
theorem loadG_succ (l : List (List Int)) (n : Nat) : loadG l n ++ [gst (part l n)] = loadG l (n + 1) := by simp [loadG, List.range_succ]
theorem loadG_len (l : List (List Int)) (n : Nat) : (loadG l n).length = n := by simp [loadG]
theorem part_sub (l : List (List Int)) (i : Nat) : ∀ r ∈ part l i, r ∈ l := fun r hr => List.mem_of_mem_take (List.mem_of_mem_drop hr)
theorem part_small {l : List (List Int)} (h : Small l) (i : Nat) : Small (part l i) := small_sub h (by simp [part]; omega) (part_sub l i)
def loadOk (l : List (List Int)) : Prop := memB l = true ∧ (l.length = 6 ∨ l.length = 12)
instance (l : List (List Int)) : Decidable (loadOk l) := by unfold loadOk; infer_instance
def hostLoad (l : List (List Int)) : List (List Int) × List S74 × Int × Bool := if loadOk l then (frames0, loadG l (l.length / 6), 0, true) else ([], [], 0, false)
theorem iHostLoad_ev (l : List (List Int)) (hm : Small l) : Ev (fun k => impl_HostLoad.f k l) (hostLoad l) := by
  unfold impl_HostLoad.f
  have hl := hm.1
  have J : ∀ n, ¬ loadOk l → Ev (fun k => impl_HostLoad.j0 k l n true) (hostLoad l) := by
    intro n h
    refine Ev.succ ?_
    simp only [impl_HostLoad.j0, if_true, hostLoad, if_neg h]
    exact Ev.now _
  refine Ev.bind (iMemOk_ev l hm) ?_
  cases hb : memB l
  · simp only [Bool.false_eq_true, if_false, wr ((l.length : Int) / 6) (by omega)]
    exact J _ (fun x => by have := x.1; rw [hb] at this; cases this)
  simp only [if_true, wr ((l.length : Int) / 6) (by omega), within_eq, Option.bind_some]
  cases hn : wi ((l.length : Int) / 6) 1 2
  · simp only [Bool.false_eq_true, if_false]
    rw [wi_not] at hn
    exact J _ (fun x => by have := x.2; omega)
  rw [wi_iff] at hn
  simp only [if_true, wr ((l.length : Int) / 6 * 6) (by omega)]
  by_cases hc : (l.length : Int) = (l.length : Int) / 6 * 6
  · have h : loadOk l := ⟨hb, by omega⟩
    rw [show ((l.length : Int) != (l.length : Int) / 6 * 6) = false by simp; exact hc]
    obtain ⟨n, hn', hln⟩ : ∃ n : Nat, (l.length : Int) / 6 = (n : Int) ∧ l.length = n * 6 := ⟨l.length / 6, by omega, by omega⟩
    have h2 : n = 1 ∨ n = 2 := by omega
    have e : hostLoad l = (frames0, loadG l n, 0, true) := by rw [hostLoad, if_pos h, show l.length / 6 = n by omega]
    rw [hn', e]
    refine Ev.succ ?_
    simp only [impl_HostLoad.j0, Bool.false_eq_true, if_false]
    have H1 : ∀ d i : Nat, i + d = n → Ev (fun k => impl_HostLoad.l1 k l (n : Int) (i : Int) frames0 (loadG l i) 0) (frames0, loadG l n, 0, true) := by
      intro d
      induction d with
      | zero =>
        intro i hi
        obtain rfl : i = n := by omega
        refine Ev.succ ?_
        simp only [impl_HostLoad.l1, Int.lt_irrefl, if_false]
        exact Ev.now _
      | succ d ih =>
        intro i hi
        have ih' := ih (i + 1) (by omega)
        refine Ev.succ ?_
        simp only [impl_HostLoad.l1, if_pos (show (i : Int) < (n : Int) by omega), wr1 i (by omega), wr ((i : Int) * 6) (by omega), wr (((i + 1 : Nat) : Int) * 6) (by omega), if_pos (show (6 : Nat) ≤ 11728124029610 by decide), if_pos (show (6 : Nat) ≤ 8796093022208 by decide), if_pos (show (0 : Int) ≤ (i : Int) * 6 by omega), if_pos (show (i : Int) * 6 ≤ ((i + 1 : Nat) : Int) * 6 by omega), if_pos (show ((i + 1 : Nat) : Int) * 6 ≤ (l.length : Int) by omega), show ((i : Int) * 6).toNat = i * 6 by omega, show (((i + 1 : Nat) : Int) * 6).toNat = (i + 1) * 6 by omega, loadG_len, if_pos (show i < 1954687338268 by omega)]
        refine Ev.bind (clone_ev (part l i) (part_small hm i)) ?_
        rw [show (⟨List.replicate 6 z87, part l i, List.replicate 6 z90⟩ : S74) = gst (part l i) from rfl, loadG_succ]
        exact ih'
    have H0 : ∀ d i : Nat, i + d = 8 → Ev (fun k => impl_HostLoad.l0 k l (n : Int) (i : Int) (List.replicate i (List.replicate 4 0)) [] 0) (frames0, loadG l n, 0, true) := by
      intro d
      induction d with
      | zero =>
        intro i hi
        obtain rfl : i = 8 := by omega
        refine Ev.succ ?_
        simp only [impl_HostLoad.l0, show ¬ (((8 : Nat) : Int) < 8) by decide, if_false]
        exact H1 n 0 (by omega)
      | succ d ih =>
        intro i hi
        have ih' := ih (i + 1) (by omega)
        rw [List.replicate_succ'] at ih'
        refine Ev.succ ?_
        simp only [impl_HostLoad.l0, if_pos (show (i : Int) < 8 by omega), if_pos (show (4 : Nat) ≤ 35184372088832 by decide), List.length_replicate, if_pos (show i < 5864062014805 by omega), wr1 i (by omega)]
        exact ih'
    exact H0 8 0 (by omega)
  · rw [show ((l.length : Int) != (l.length : Int) / 6 * 6) = true by simp; exact hc]
    exact J _ (fun x => by have := x.2; omega)
theorem l12New_ev : Ev (fun k => spec_l12New.f k) (frames0, [], 0) := by
  unfold spec_l12New.f
  have H0 : ∀ d i : Nat, i + d = 8 → Ev (fun k => spec_l12New.l0 k (i : Int) (List.replicate i (List.replicate 4 0)) 0) (frames0, ([] : List S74), 0) := by
    intro d
    induction d with
    | zero =>
      intro i hi
      obtain rfl : i = 8 := by omega
      refine Ev.succ ?_
      simp only [spec_l12New.l0, show ¬ (((8 : Nat) : Int) < 8) by decide, if_false]
      exact Ev.now _
    | succ d ih =>
      intro i hi
      have ih' := ih (i + 1) (by omega)
      rw [List.replicate_succ'] at ih'
      refine Ev.succ ?_
      simp only [spec_l12New.l0, spec_l2Page.f, if_pos (show (i : Int) < 8 by omega), if_pos (show (4 : Nat) ≤ 35184372088832 by decide), Option.bind_some, List.length_replicate, if_pos (show i < 5864062014805 by omega), wr1 i (by omega)]
      exact ih'
  exact H0 8 0 (by omega)
theorem l12Guest_ev (d : List (List Int)) (hs : Small d) : Ev (fun k => spec_l12Guest.f k d) (List.replicate 6 z87, d, List.replicate 6 z90) := by
  unfold spec_l12Guest.f
  simp only [if_pos (show (6 : Nat) ≤ 11728124029610 by decide), if_pos (show (6 : Nat) ≤ 8796093022208 by decide)]
  exact Ev.bind (copy_ev d hs) (Ev.now _)
theorem sHostLoad_ev (l : List (List Int)) (hm : Small l) : Ev (fun k => spec_HostLoad.f k l) (hostLoad l) := by
  unfold spec_HostLoad.f
  have hl := hm.1
  have J : ∀ n, ¬ loadOk l → Ev (fun k => spec_HostLoad.j0 k l n true) (hostLoad l) := by
    intro n h
    refine Ev.succ ?_
    simp only [spec_HostLoad.j0, if_true, hostLoad, if_neg h]
    exact Ev.now _
  refine Ev.bind (sMemOk_ev l hm) ?_
  cases hb : memB l
  · simp only [Bool.false_eq_true, if_false, wr ((l.length : Int) / 6) (by omega)]
    exact J _ (fun x => by have := x.1; rw [hb] at this; cases this)
  simp only [if_true, wr ((l.length : Int) / 6) (by omega), l6In_eq, Option.bind_some]
  by_cases hc : (l.length : Int) % 6 = 0
  · simp only [if_pos hc]
    cases hn : wi ((l.length : Int) / 6) 1 2
    · rw [wi_not] at hn
      exact J _ (fun x => by have := x.2; omega)
    rw [wi_iff] at hn
    have h : loadOk l := ⟨hb, by omega⟩
    obtain ⟨n, hn', hln⟩ : ∃ n : Nat, (l.length : Int) / 6 = (n : Int) ∧ l.length = n * 6 := ⟨l.length / 6, by omega, by omega⟩
    have h2 : n = 1 ∨ n = 2 := by omega
    have e : hostLoad l = (frames0, loadG l n, 0, true) := by rw [hostLoad, if_pos h, show l.length / 6 = n by omega]
    rw [hn', e]
    refine Ev.succ ?_
    simp only [spec_HostLoad.j0, Bool.not_true, Bool.false_eq_true, if_false]
    refine Ev.bind l12New_ev ?_
    have H1 : ∀ d i : Nat, i + d = n → Ev (fun k => spec_HostLoad.l0 k l (n : Int) (i : Int) frames0 (loadG l i) 0) (frames0, loadG l n, 0, true) := by
      intro d
      induction d with
      | zero =>
        intro i hi
        obtain rfl : i = n := by omega
        refine Ev.succ ?_
        simp only [spec_HostLoad.l0, Int.lt_irrefl, if_false]
        exact Ev.now _
      | succ d ih =>
        intro i hi
        have ih' := ih (i + 1) (by omega)
        refine Ev.succ ?_
        simp only [spec_HostLoad.l0, if_pos (show (i : Int) < (n : Int) by omega), wr1 i (by omega), wr ((i : Int) * 6) (by omega), wr (((i + 1 : Nat) : Int) * 6) (by omega), if_pos (show (0 : Int) ≤ (i : Int) * 6 by omega), if_pos (show (i : Int) * 6 ≤ ((i + 1 : Nat) : Int) * 6 by omega), if_pos (show ((i + 1 : Nat) : Int) * 6 ≤ (l.length : Int) by omega), show ((i : Int) * 6).toNat = i * 6 by omega, show (((i + 1 : Nat) : Int) * 6).toNat = (i + 1) * 6 by omega]
        refine Ev.bind (l12Guest_ev (part l i) (part_small hm i)) ?_
        simp only [loadG_len, if_pos (show i < 1954687338268 by omega)]
        rw [show (⟨List.replicate 6 z87, part l i, List.replicate 6 z90⟩ : S74) = gst (part l i) from rfl, loadG_succ]
        exact ih'
    exact H1 n 0 (by omega)
  · simp only [if_neg hc]
    exact J _ (fun x => by have := x.2; omega)
def HostSm (F : List (List Int)) (G : List S74) : Prop := Small F ∧ (G.length : Int) ≤ 1000000000000 ∧ ∀ g ∈ G, (g.f0.length : Int) ≤ 1000000000000 ∧ Small g.f1 ∧ (g.f2.length : Int) ≤ 1000000000000
theorem lkGuest_refl (a : List S87) (b : List (List Int)) (c : List S90) (ha : (a.length : Int) ≤ 1000000000000) (hb : Small b) (hc : (c.length : Int) ≤ 1000000000000) : Ev (fun k => laws_lkGuest.f k a b c a b c) true := by
  unfold laws_lkGuest.f
  refine Ev.bind (lkMem_refl b hb) ?_
  simp only [if_true, show ((c.length : Int) != (c.length : Int)) = false by simp]
  refine Ev.succ ?_
  simp only [laws_lkGuest.j0, Bool.false_eq_true, if_false]
  have H1 := Ev.down (σ := Unit) (fun k i _ => laws_lkGuest.l1 k i a b c a b c) (fun i _ => true) c.length
    (fun _ => Ev.succ (by simp only [laws_lkGuest.l1, Int.lt_irrefl, if_false]; exact Ev.now _))
    (fun i hi ih _ => by
      refine Ev.succ ?_
      simp only [laws_lkGuest.l1, if_pos (Int.ofNat_lt.mpr hi), if_pos (Int.natCast_nonneg i), wr1 i (by omega), beq_self_eq_true, Bool.not_true, Bool.or_self, Bool.false_eq_true, if_false]
      exact ih ())
  have H0 := Ev.down (σ := Unit) (fun k i _ => laws_lkGuest.l0 k i a b c a b c) (fun i _ => true) a.length
    (fun _ => Ev.succ (by simp only [laws_lkGuest.l0, Int.lt_irrefl, if_false]; exact H1 ()))
    (fun i hi ih _ => by
      refine Ev.succ ?_
      simp only [laws_lkGuest.l0, if_pos (Int.ofNat_lt.mpr hi), if_pos (Int.natCast_nonneg i), wr1 i (by omega), beq_self_eq_true, Bool.not_true, Bool.or_self, Bool.false_eq_true, if_false]
      exact ih ())
  exact H0 ()
theorem lkHost_refl (F : List (List Int)) (G : List S74) (h : Int) (hs : HostSm F G) : Ev (fun k => laws_lkHost.f k F G h F G h) true := by
  obtain ⟨hF, hG, hg⟩ := hs
  unfold laws_lkHost.f
  refine Ev.bind (lkMem_refl F hF) ?_
  simp only [if_true, show ((G.length : Int) != (G.length : Int)) = false by simp]
  refine Ev.succ ?_
  simp only [laws_lkHost.j0, Bool.false_eq_true, if_false]
  have H0 := Ev.down (σ := Unit) (fun k i _ => laws_lkHost.l0 k i F G h F G h) (fun i _ => true) G.length
    (fun _ => Ev.succ (by simp only [laws_lkHost.l0, Int.lt_irrefl, if_false]; exact Ev.now _))
    (fun i hi ih _ => by
      have hx := hg _ (List.getElem_mem hi)
      have e : rd_T74 G (i : Int) = G[i] := getD_at _ hi
      refine Ev.succ ?_
      simp only [laws_lkHost.l0, if_pos (Int.ofNat_lt.mpr hi), if_pos (Int.natCast_nonneg i), wr1 i (by omega), e]
      refine Ev.bind (lkGuest_refl _ _ _ hx.1 hx.2.1 hx.2.2) ?_
      simp only [if_true]
      exact ih ())
  exact H0 ()
theorem hostLoad_sm (l : List (List Int)) (hm : Small l) : HostSm (hostLoad l).1 (hostLoad l).2.1 := by
  unfold hostLoad
  by_cases h : loadOk l
  · rw [if_pos h]
    refine ⟨frames0_small, by have := hm.1; simp only [loadG_len]; omega, fun g hg => ?_⟩
    obtain ⟨i, _, rfl⟩ := List.mem_map.mp hg
    exact ⟨by simp [gst], part_small hm i, by simp [gst]⟩
  · rw [if_neg h]
    exact ⟨⟨by simp, fun r hr => by cases hr⟩, by simp, fun g hg => by cases hg⟩
def NearL (m : List (List Int)) : Prop := (5 ≤ m.length ∧ m.length ≤ 12) ∧ ∀ r ∈ m, 2 ≤ r.length ∧ r.length ≤ 4
theorem nearL_small {m : List (List Int)} (h : NearL m) : Small m := ⟨by have := h.1; omega, fun r hr => by have := h.2 r hr; omega⟩
theorem drawHostLoad_ev (l : List Int) (h : ∀ x ∈ l, (Lit.int .u8 x).wf = true) : ∃ m, Ev (fun k => spec_DrawHostLoad.f k l) m ∧ NearL m := by
  unfold spec_DrawHostLoad.f
  obtain ⟨b, e, hb, hl⟩ := open_eq l h
  obtain ⟨m, p1, g0, a1, a2, hN⟩ := off_ev b 0 hb hl (by omega) (by omega)
  obtain ⟨v1, g1, x1, y1⟩ := pick_ev b p1 2 hb hl (by omega) (by omega) (by omega) (by omega)
  obtain ⟨m2, p2, g2, b1, b2, hs⟩ := mem_ev b (p1 + 1) hb hl (by omega) (by omega)
  have hN1 := hN.1
  have hs1 := hs.1
  simp only [e, Option.bind_some]
  by_cases c : v1 = 0
  · refine ⟨m ++ m2, Ev.bind g0 (Ev.bind g1 ?_), by simp; omega, fun r hr => ?_⟩
    · simp only [if_pos c]
      refine Ev.bind g2 ?_
      simp only [if_pos (show 0 < m2.length by omega), if_pos (show m.length + m2.length < 5864062014805 by omega)]
      exact Ev.now _
    · rcases List.mem_append.mp hr with x | x
      · exact hN.2 r x
      · have := hs.2 r x; omega
  · refine ⟨m, Ev.bind g0 (Ev.bind g1 ?_), ⟨by omega, by omega⟩, hN.2⟩
    simp only [if_neg c]
    exact Ev.now _

-- the law
theorem FnLoadBad : laws_FnLoadBad.Pure := by
  intro l _ _ hw
  obtain ⟨m, g, hN⟩ := drawHostLoad_ev l hw
  have hm := nearL_small hN
  have hlen := hN.1
  apply Ev.rounds
  unfold laws_FnLoadBad.f
  by_cases c : (l.length : Int) > 1048576
  · simp only [if_pos c]; exact Ev.now _
  simp only [if_neg c]
  refine Ev.bind g (Ev.bind (sHostLoad_ev m hm) (Ev.bind (iHostLoad_ev m hm) ?_))
  simp only [bne_self_eq_false, Bool.false_eq_true, if_false]
  refine Ev.bind (lkHost_refl _ _ _ (hostLoad_sm m hm)) ?_
  refine Ev.succ ?_
  simp only [laws_FnLoadBad.j0, Bool.not_true, Bool.false_eq_true, if_false]
  have hn : hostLoad ([] : List (List Int)) = ([], [], 0, false) := if_neg (fun x => by have := x.2; simp at this)
  have hd : hostLoad (m.drop 1) = ([], [], 0, false) ∨ ¬ loadOk m := by
    by_cases h : loadOk m
    · refine .inl (if_neg (fun x => ?_))
      have a := x.2; have b := h.2; simp only [List.length_drop] at a; omega
    · exact .inr h
  have J : ∀ whole, (whole = decide (loadOk m)) → Ev (fun k => laws_FnLoadBad.j1 k m (hostLoad m).2.2.2 whole) true := by
    intro whole hwh
    refine Ev.succ ?_
    simp only [laws_FnLoadBad.j1]
    refine Ev.bind (iHostLoad_ev [] ⟨by simp, fun r hr => by cases hr⟩) ?_
    simp only [hn]
    by_cases h : loadOk m
    · have e : (hostLoad m).2.2.2 = true := by unfold hostLoad; rw [if_pos h]
      rw [decide_eq_true h] at hwh
      simp only [e, hwh, if_true, if_pos (show (1 : Int) ≤ (m.length : Int) by omega)]
      refine Ev.bind (iHostLoad_ev (m.drop 1) (small_sub hm (by simp) (fun r hr => List.mem_of_mem_drop hr))) ?_
      rcases hd with hd | hd
      · simp only [hd, Bool.false_eq_true, if_false, Bool.not_false]; exact Ev.now _
      · exact absurd h hd
    · have e : (hostLoad m).2.2.2 = false := by unfold hostLoad; rw [if_neg h]
      rw [decide_eq_false h] at hwh
      simp only [e, hwh, Bool.false_eq_true, if_false, Bool.not_false]
      exact Ev.now _
  refine Ev.bind (sMemOk_ev m hm) ?_
  cases hb : memB m
  · simp only [Bool.false_eq_true, if_false]
    exact J _ (decide_eq_false (fun x => by have := x.1; rw [hb] at this; cases this)).symm
  simp only [if_true]
  by_cases h6 : (m.length : Int) % 6 = 0
  · simp only [if_pos h6, if_pos (show (m.length : Int) > 0 by omega)]
    refine J _ ?_
    rw [decide_eq_true (show (m.length : Int) ≤ 12 by omega), decide_eq_true (show loadOk m from ⟨hb, by omega⟩)]
  · simp only [if_neg h6]
    exact J _ (decide_eq_false (fun x => by have := x.2; omega)).symm

end Go.Proofs.Ytfamknibfokfmaa.Pure
