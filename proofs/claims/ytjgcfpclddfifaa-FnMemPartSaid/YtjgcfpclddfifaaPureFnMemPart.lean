/- The pure side of the law FnMemPart: what the printed functions compute answers true. Conditions: none beyond the statement given. -/
import Derived.Test.YtjgcfpclddfifaaQFnMemPartx0
import Derived.Test.YtjgcfpclddfifaaQFnMemPartx1
import Derived.Test.YtjgcfpclddfifaaQFnMemPartx2
import Derived.Test.YtjgcfpclddfifaaQFnMemPartx3
import Derived.Test.YtjgcfpclddfifaaQFnMemPartx4
import Derived.Test.YtjgcfpclddfifaaQFnMemPartx5
import Derived.Test.YtjgcfpclddfifaaQFnMemPartx6
import Derived.Laws.BitsLemmas
namespace Go.Proofs.Ytjgcfpclddfifaa.Pure
open Go Go.RowKit Go.Proofs.Ytjgcfpclddfifaa.QFnMemPart Go.Proofs.YtjgcfpclddfifaaW.PrintWords Go.Proofs.YtjgcfpclddfifaaW.PrintLast
set_option linter.unusedVariables false
set_option linter.unusedSimpArgs false

theorem Ev.succ {α : Type} {g : Nat → Option α} {r : α} (h : Ev (fun k => g (k + 1)) r) : Ev g r := Ev.step (fun _ => rfl) h
theorem Ev.cast {α : Type} {g : Nat → Option α} {r r' : α} (e : r = r') (h : Ev g r) : Ev g r' := e ▸ h
theorem wr (n : Int) (h : -9223372036854775808 ≤ n ∧ n ≤ 9223372036854775807) : wrap64 n = n := by unfold wrap64; omega
theorem wr1 (i : Nat) (h : (i : Int) ≤ 1000000000000000000) : wrap64 ((i : Int) + 1) = ((i + 1 : Nat) : Int) := by rw [wr _ (by omega)]; rfl
theorem Ev.down {σ ρ : Type} (g : Nat → Int → σ → Option ρ) (R : Nat → σ → ρ) (n : Nat) (hend : ∀ st, Ev (fun k => g k n st) (R n st))
    (hstep : ∀ i : Nat, i < n → (∀ st, Ev (fun k => g k ((i + 1 : Nat) : Int) st) (R (i + 1) st)) → ∀ st, Ev (fun k => g k (i : Int) st) (R i st)) :
    ∀ st, Ev (fun k => g k 0 st) (R 0 st) := by
  have H : ∀ d i : Nat, i + d = n → ∀ st, Ev (fun k => g k (i : Int) st) (R i st) := by
    intro d
    induction d with
    | zero => intro i hi st; obtain rfl : i = n := by omega
              exact hend st
    | succ d ih => intro i hi; exact hstep i (by omega) (ih (i + 1) (by omega))
  exact H n 0 (by omega)
theorem drop_cons {α : Type} {l : List α} {i : Nat} (h : i < l.length) : l.drop i = l[i] :: l.drop (i + 1) := List.drop_eq_getElem_cons h
theorem rd_at {l : List Int} {i : Nat} (h : i < l.length) : rd l (i : Int) = l[i] := by simp [rd, h]
theorem getD_at {α : Type} {l : List α} {i : Nat} (z : α) (h : i < l.length) : l.getD ((i : Int)).toNat z = l[i] := by simp [h]
theorem u8_in {n : Int} (h : (Lit.int .u8 n).wf = true) : 0 ≤ n ∧ n ≤ 255 := by
  have e1 : IntKind.u8.min = 0 := by decide
  have e2 : IntKind.u8.max = 255 := by decide
  simp only [Lit.wf, e1, e2, Bool.and_eq_true, decide_eq_true_eq] at h; exact h
def wi (a lo hi : Int) : Bool := decide (lo ≤ a) && decide (a ≤ hi)
theorem wi_iff {a lo hi : Int} : wi a lo hi = true ↔ lo ≤ a ∧ a ≤ hi := by simp [wi]
theorem wi_not {a lo hi : Int} : wi a lo hi = false ↔ ¬ (lo ≤ a ∧ a ≤ hi) := by rw [← wi_iff]; simp
theorem l6In_eq (a lo hi : Int) : spec_l6In.f a lo hi = some (wi a lo hi) := by
  unfold spec_l6In.f wi
  by_cases h : a ≥ lo
  · rw [if_pos h]; simp [h]
  · rw [if_neg h]; simp; omega
theorem within_eq (a lo hi : Int) : impl_within.f a lo hi = some (wi a lo hi) := by
  unfold impl_within.f wi
  by_cases h : a ≥ lo
  · rw [if_pos h]; simp [h]
  · rw [if_neg h]; simp; omega
theorem xor_nat (a b : Nat) (ha : a < 2 ^ 62) (hb : b < 2 ^ 62) : bits .xor .i64 (a : Int) (b : Int) = ((a ^^^ b : Nat) : Int) := by
  have ha' : a % 2 ^ 64 = a := Nat.mod_eq_of_lt (Nat.lt_of_lt_of_le ha (by decide))
  have hb' : b % 2 ^ 64 = b := Nat.mod_eq_of_lt (Nat.lt_of_lt_of_le hb (by decide))
  have hx : a ^^^ b < 2 ^ 62 := Nat.xor_lt_two_pow ha hb
  have e : IntKind.i64.bits = 64 := rfl
  simp only [bits, e, BitVec.ofInt_natCast, BitVec.toNat_xor, BitVec.toNat_ofNat, ha', hb']
  rw [IntKind.wrap_i64]; omega
theorem xor_nn (a b : Int) (ha : 0 ≤ a) (ha' : a < 4611686018427387904) (hb : 0 ≤ b) (hb' : b < 4611686018427387904) : 0 ≤ bits .xor .i64 a b := by
  obtain ⟨x, rfl⟩ := Int.eq_ofNat_of_zero_le ha
  obtain ⟨y, rfl⟩ := Int.eq_ofNat_of_zero_le hb
  rw [xor_nat x y (by omega) (by omega)]; omega
theorem tmod_in (x n : Int) (hx : 0 ≤ x) (hn : 1 ≤ n) : 0 ≤ Int.tmod x n ∧ Int.tmod x n < n := by
  rw [Int.tmod_eq_emod_of_nonneg hx]
  exact ⟨Int.emod_nonneg _ (by omega), Int.emod_lt_of_pos _ (by omega)⟩
def ByB (b : List Int) : Prop := ∀ i : Int, 0 ≤ rd b i ∧ rd b i ≤ 255
theorem byB_of {b : List Int} (h : ∀ x ∈ b, (Lit.int .u8 x).wf = true) : ByB b := by
  intro i
  unfold rd
  rw [List.getD_eq_getElem?_getD]
  cases e : b[i.toNat]? with
  | none => simp
  | some x => simpa using u8_in (h x (List.mem_of_getElem? e))
theorem pick_ev (b : List Int) (p n : Int) (hb : ByB b) (hl : (b.length : Int) ≤ 2000) (hp : 0 ≤ p) (hp' : p ≤ 1000000000) (hn : 1 ≤ n) (hn' : n ≤ 1000000000000) :
    ∃ v, Ev (fun k => spec_l6Rd_pick.f k b p n) (v, p + 1) ∧ 0 ≤ v ∧ v < n := by
  unfold spec_l6Rd_pick.f
  simp only [if_neg (show ¬ n < 1 by omega), wr (p + 1) (by omega)]
  by_cases e : b.length = 0
  · refine ⟨0, Ev.succ ?_, by omega, by omega⟩
    simp only [spec_l6Rd_pick.j0, e]
    exact Ev.now _
  · have e' : ((b.length : Int) == 0) = false := by simp; intro h; exact e (by simp [h])
    simp only [e']
    by_cases g : p < b.length
    · have hb1 := hb p
      have t := tmod_in (rd b p) n hb1.1 hn
      refine ⟨Int.tmod (rd b p) n, Ev.succ ?_, t.1, t.2⟩
      simp only [spec_l6Rd_pick.j0, show p + 1 - 1 = p by omega, wr p (by omega), if_pos g, if_pos hp, if_neg (show ¬ n = 0 by omega), wr (rd b p) (by omega), Bool.false_eq_true, if_false]
      exact Ev.now _
    · have hL : (1 : Int) ≤ b.length := by omega
      have q1 := tmod_in p b.length hp hL
      have q2 := tmod_in (p * 7 + 3) b.length (by omega) hL
      have b1 := hb (Int.tmod p b.length)
      have b2 := hb (Int.tmod (p * 7 + 3) b.length)
      have q3 : 0 ≤ Int.tdiv p b.length ∧ Int.tdiv p b.length ≤ p := by
        rw [Int.tdiv_eq_ediv_of_nonneg hp]
        exact ⟨Int.ediv_nonneg hp (by omega), Int.ediv_le_self _ hp⟩
      generalize hx : rd b (Int.tmod p b.length) = X at *
      generalize hy : rd b (Int.tmod (p * 7 + 3) b.length) = Y at *
      generalize hz : Int.tdiv p b.length = Z at *
      have q4 : 0 ≤ Int.tdiv (X * 131 + Y * 1117 + p * 29 + Z * 53) 64 ∧ Int.tdiv (X * 131 + Y * 1117 + p * 29 + Z * 53) 64 ≤ 4611686018427387903 := by
        rw [Int.tdiv_eq_ediv_of_nonneg (by omega)]; omega
      generalize hu : Int.tdiv (X * 131 + Y * 1117 + p * 29 + Z * 53) 64 = U at *
      have q5 := xor_nn (X * 131 + Y * 1117 + p * 29 + Z * 53) U (by omega) (by omega) (by omega) (by omega)
      have t := tmod_in _ n q5 hn
      refine ⟨Int.tmod (bits .xor .i64 (X * 131 + Y * 1117 + p * 29 + Z * 53) U) n, Ev.succ ?_, t.1, t.2⟩
      simp only [spec_l6Rd_pick.j0, show p + 1 - 1 = p by omega, wr p (by omega), if_neg g, if_neg (show ¬ (b.length : Int) = 0 by omega), if_pos q1.1, if_pos q1.2, wr (p * 7) (by omega), wr (p * 7 + 3) (by omega), if_pos q2.1, if_pos q2.2, if_neg (show ¬ n = 0 by omega), hx, hy, hz, wr X (by omega), wr Y (by omega), wr Z (by omega), wr (X * 131) (by omega), wr (Y * 1117) (by omega), wr (X * 131 + Y * 1117) (by omega), wr (p * 29) (by omega), wr (X * 131 + Y * 1117 + p * 29) (by omega), wr (Z * 53) (by omega), wr (X * 131 + Y * 1117 + p * 29 + Z * 53) (by omega), hu, wr U (by omega), Bool.false_eq_true, if_false]
      exact Ev.now _
theorem open_eq (l : List Int) (h : ∀ x ∈ l, (Lit.int .u8 x).wf = true) : ∃ b, spec_l6Open.f l = some (b, 0) ∧ ByB b ∧ (b.length : Int) ≤ 2000 := by
  unfold spec_l6Open.f
  by_cases g : (l.length : Int) > 2000
  · rw [if_pos g, if_pos (by omega)]
    exact ⟨_, rfl, byB_of fun x hx => h x (List.mem_of_mem_take hx), by simp; omega⟩
  · rw [if_neg g]
    exact ⟨_, rfl, byB_of h, by omega⟩
theorem rdL_at {l : List (List Int)} {i : Nat} (h : i < l.length) : rd_L2 l (i : Int) = l[i] := getD_at _ h
def pageB (p : List Int) : Bool := p.all (fun w => wi w 0 63) && ((p.length : Int) == 4)
def memB (m : List (List Int)) : Bool := m.all pageB
def Small (m : List (List Int)) : Prop := (m.length : Int) ≤ 1000000000000 ∧ ∀ r ∈ m, (r.length : Int) ≤ 1000000000000
theorem rdL_mem {m : List (List Int)} {i : Int} (h0 : 0 ≤ i) (h : i < m.length) : rd_L2 m i ∈ m := by
  have e : i = ((i.toNat : Nat) : Int) := by omega
  rw [e, rdL_at (show i.toNat < m.length by omega)]; exact List.getElem_mem _
theorem memB_page {m : List (List Int)} (h : memB m = true) {r : List Int} (hr : r ∈ m) : pageB r = true := List.all_eq_true.mp h r hr
theorem page_len {r : List Int} (h : pageB r = true) : r.length = 4 := by
  simp [pageB] at h; omega
theorem sPage_ev (p : List Int) (hl : (p.length : Int) ≤ 1000000000000) : Ev (fun k => spec_l2PageOk.f k p) (pageB p) := by
  unfold spec_l2PageOk.f
  have H := Ev.down (σ := Unit) (fun k i _ => spec_l2PageOk.l0 k p i) (fun i _ => (p.drop i).all (fun w => wi w 0 63) && ((p.length : Int) == 4)) p.length
    (fun _ => Ev.succ (by simp only [spec_l2PageOk.l0, Int.lt_irrefl, if_false]; exact Ev.cast (by simp) (Ev.now _)))
    (fun i hi ih _ => by
      refine Ev.succ ?_
      simp only [spec_l2PageOk.l0, if_pos (Int.ofNat_lt.mpr hi), if_pos (Int.natCast_nonneg i), rd_at hi, l6In_eq, Option.bind_some, wr1 i (by omega)]
      rw [drop_cons hi, List.all_cons]
      cases h : wi p[i] 0 63
      · exact Ev.now _
      · exact ih ())
  exact H ()
theorem sMemOk_ev (m : List (List Int)) (hm : Small m) : Ev (fun k => spec_MemOk.f k m) (memB m) := by
  unfold spec_MemOk.f
  have hl := hm.1
  have H := Ev.down (σ := Unit) (fun k i _ => spec_MemOk.l0 k m i) (fun i _ => (m.drop i).all pageB) m.length
    (fun _ => Ev.succ (by simp only [spec_MemOk.l0, Int.lt_irrefl, if_false]; exact Ev.cast (by simp) (Ev.now _)))
    (fun i hi ih _ => by
      refine Ev.succ ?_
      simp only [spec_MemOk.l0, if_pos (Int.ofNat_lt.mpr hi), if_pos (Int.natCast_nonneg i), rdL_at hi, wr1 i (by omega)]
      refine Ev.bind (sPage_ev m[i] (hm.2 _ (List.getElem_mem hi))) ?_
      rw [drop_cons hi, List.all_cons]
      cases h : pageB m[i]
      · exact Ev.now _
      · exact ih ())
  exact H ()
theorem iPage_ev (p : List Int) (hl : (p.length : Int) ≤ 1000000000000) : Ev (fun k => impl_pageOk.f k p) (pageB p) := by
  unfold impl_pageOk.f
  have H := Ev.down (σ := Unit) (fun k i _ => impl_pageOk.l0 k p p p.length i) (fun i _ => (p.drop i).all (fun w => wi w 0 63) && ((p.length : Int) == 4)) p.length
    (fun _ => Ev.succ (by simp only [impl_pageOk.l0, Int.lt_irrefl, if_false]; exact Ev.cast (by simp) (Ev.now _)))
    (fun i hi ih _ => by
      refine Ev.succ ?_
      simp only [impl_pageOk.l0, if_pos (Int.ofNat_lt.mpr hi), if_pos (Int.natCast_nonneg i), rd_at hi, within_eq, Option.bind_some, wr1 i (by omega)]
      rw [drop_cons hi, List.all_cons]
      cases h : wi p[i] 0 63
      · exact Ev.now _
      · exact ih ())
  exact H ()
theorem iMemOk_ev (m : List (List Int)) (hm : Small m) : Ev (fun k => impl_MemOk.f k m) (memB m) := by
  unfold impl_MemOk.f
  have hl := hm.1
  have H := Ev.down (σ := Unit) (fun k i _ => impl_MemOk.l0 k m m.length i) (fun i _ => (m.drop i).all pageB) m.length
    (fun _ => Ev.succ (by simp only [impl_MemOk.l0, Int.lt_irrefl, if_false]; exact Ev.cast (by simp) (Ev.now _)))
    (fun i hi ih _ => by
      refine Ev.succ ?_
      simp only [impl_MemOk.l0, if_pos (Int.ofNat_lt.mpr hi), if_pos (Int.natCast_nonneg i), rdL_at hi, wr1 i (by omega)]
      refine Ev.bind (iPage_ev m[i] (hm.2 _ (List.getElem_mem hi))) ?_
      rw [drop_cons hi, List.all_cons]
      cases h : pageB m[i]
      · exact Ev.now _
      · exact ih ())
  exact H ()
def memAtOk (m : List (List Int)) (p o : Int) : Prop := memB m = true ∧ (0 ≤ p ∧ p < m.length) ∧ (0 ≤ o ∧ o < 4)
instance (m : List (List Int)) (p o : Int) : Decidable (memAtOk m p o) := by unfold memAtOk; infer_instance
def memAt (m : List (List Int)) (p o : Int) : Int × Bool := if memAtOk m p o then (rd (rd_L2 m p) o, true) else (0, false)
theorem iMemAt_ev (m : List (List Int)) (p o : Int) (hm : Small m) : Ev (fun k => impl_MemAt.f k m p o) (memAt m p o) := by
  unfold impl_MemAt.f
  have hl := hm.1
  refine Ev.bind (iMemOk_ev m hm) ?_
  cases hb : memB m
  · exact Ev.cast (by unfold memAt; rw [if_neg (by simp [memAtOk, hb])]) (Ev.now (0, false))
  · simp only [if_true, within_eq, Option.bind_some, wr ((m.length : Int) - 1) (by omega)]
    by_cases h1 : 0 ≤ p ∧ p < m.length
    · simp only [wi_iff.mpr (show 0 ≤ p ∧ p ≤ (m.length : Int) - 1 by omega), if_true]
      by_cases h2 : 0 ≤ o ∧ o < 4
      · have hr := page_len (memB_page hb (rdL_mem h1.1 h1.2))
        simp only [wi_iff.mpr (show 0 ≤ o ∧ o ≤ 3 by omega), if_true, if_pos h1.1, if_pos h1.2, if_pos h2.1, if_pos (show o < ((rd_L2 m p).length : Int) by omega)]
        exact Ev.cast (by unfold memAt; rw [if_pos ⟨hb, h1, h2⟩]) (Ev.now _)
      · simp only [wi_not.mpr (show ¬ (0 ≤ o ∧ o ≤ 3) by omega), Bool.false_eq_true, if_false]
        exact Ev.cast (by unfold memAt; rw [if_neg (fun x => h2 x.2.2)]) (Ev.now _)
    · simp only [wi_not.mpr (show ¬ (0 ≤ p ∧ p ≤ (m.length : Int) - 1) by omega), Bool.false_eq_true, if_false]
      exact Ev.cast (by unfold memAt; rw [if_neg (fun x => h1 x.2.1)]) (Ev.now _)
theorem word_ev (b : List Int) (p : Int) (hb : ByB b) (hl : (b.length : Int) ≤ 2000) (hp : 0 ≤ p) (hp' : p ≤ 100000000) :
    ∃ v p', Ev (fun k => spec_l71Word.f k b p) (v, p') ∧ p ≤ p' ∧ p' ≤ p + 2 ∧ 0 ≤ v ∧ v ≤ 63 := by
  unfold spec_l71Word.f
  obtain ⟨v, h1, v1, v2⟩ := pick_ev b p 3 hb hl (by omega) (by omega) (by omega) (by omega)
  obtain ⟨z, h2, z1, z2⟩ := pick_ev b (p + 1) 64 hb hl (by omega) (by omega) (by omega) (by omega)
  obtain ⟨y, h3, y1, y2⟩ := pick_ev b (p + 1) 14 hb hl (by omega) (by omega) (by omega) (by omega)
  by_cases c : v = 0
  · refine ⟨z, p + 1 + 1, Ev.bind h1 ?_, by omega, by omega, by omega, by omega⟩
    simp only [if_pos c]; exact Ev.bind h2 (Ev.now _)
  · refine ⟨y, p + 1 + 1, Ev.bind h1 ?_, by omega, by omega, by omega, by omega⟩
    simp only [if_neg c]; exact Ev.bind h3 (Ev.now _)
def Shape (m : List (List Int)) : Prop := m.length = 6 ∧ ∀ r ∈ m, r.length = 4
theorem shape_set {m : List (List Int)} (h : Shape m) {p : Int} (h0 : 0 ≤ p) (h1 : p < 6) (j : Nat) (v : Int) : Shape (m.set p.toNat ((rd_L2 m p).set j v)) := by
  have hr := h.2 _ (rdL_mem (m := m) h0 (by have := h.1; omega))
  refine ⟨by simp [h.1], fun r hr' => ?_⟩
  rcases List.mem_or_eq_of_mem_set hr' with x | rfl
  · exact h.2 r x
  · simp [hr]
theorem sMemNew6 : Ev (fun k => spec_MemNew.f k 6) (List.replicate 6 (List.replicate 4 0)) := by
  refine Ev.of (fun k => spec_MemNew.mono 6 k) (k := 10) ?_
  kernel_rfl
theorem mem_ev (b : List Int) (p : Int) (hb : ByB b) (hl : (b.length : Int) ≤ 2000) (hp : 0 ≤ p) (hp' : p ≤ 10000000) :
    ∃ m p', Ev (fun k => spec_l71Mem.f k b p) (m, p') ∧ p ≤ p' ∧ p' ≤ p + 200 ∧ Shape m := by
  have H1 : ∀ n : Nat, ∀ (m : List (List Int)) (p : Int), Shape m → 0 ≤ p → p + 3 * n ≤ 20000000 → ∃ m' p', Ev (fun k => spec_l71Mem.l1 k m (n : Int) b p) (m', p') ∧ p ≤ p' ∧ p' ≤ p + 3 * n ∧ Shape m' := by
    intro n
    induction n with
    | zero =>
      intro m p hs h0 h1
      refine ⟨m, p, Ev.succ ?_, by omega, by omega, hs⟩
      simp only [spec_l71Mem.l1, if_neg (show ¬ ((0 : Nat) : Int) > 0 by omega)]
      exact Ev.now _
    | succ n ih =>
      intro m p hs h0 h1
      obtain ⟨v, g1, v1, v2⟩ := pick_ev b p 6 hb hl (by omega) (by omega) (by omega) (by omega)
      obtain ⟨u, g2, u1, u2⟩ := pick_ev b (p + 1) 8 hb hl (by omega) (by omega) (by omega) (by omega)
      have e1 : Int.tdiv v 4 = v / 4 := Int.tdiv_eq_ediv_of_nonneg v1
      have e2 : Int.tmod v 4 = v % 4 := Int.tmod_eq_emod_of_nonneg v1
      have hlen := hs.1
      have hr := hs.2 _ (rdL_mem (m := m) (i := v / 4) (by omega) (by omega))
      obtain ⟨m', p', g3, a1, a2, a3⟩ := ih _ (p + 1 + 1) (shape_set hs (p := v / 4) (by omega) (by omega) (v % 4).toNat (5 + u)) (by omega) (by omega)
      refine ⟨m', p', Ev.succ ?_, by omega, by omega, a3⟩
      simp only [spec_l71Mem.l1, if_pos (show ((n + 1 : Nat) : Int) > 0 by omega), show ((n + 1 : Nat) : Int) - 1 = (n : Int) by omega, wr (n : Int) (by omega)]
      refine Ev.bind g1 ?_
      simp only [e1, e2, wr (v / 4) (by omega), if_pos (show 0 ≤ v / 4 by omega), if_pos (show v / 4 < (m.length : Int) by omega)]
      refine Ev.bind g2 ?_
      simp only [if_pos (show 0 ≤ v % 4 by omega), if_pos (show v % 4 < ((rd_L2 m (v / 4)).length : Int) by omega), wr (5 + u) (by omega)]
      exact g3
  have H0 : ∀ n : Nat, n ≤ 26 → ∀ (m : List (List Int)) (p : Int), Shape m → 0 ≤ p → p + 5 * n ≤ 15000000 → ∃ m' p', Ev (fun k => spec_l71Mem.l0 k m (n : Int) b p) (m', p') ∧ p ≤ p' ∧ p' ≤ p + 5 * n + 30 ∧ Shape m' := by
    intro n
    induction n with
    | zero =>
      intro _ m p hs h0 h1
      obtain ⟨v, g1, v1, v2⟩ := pick_ev b p 7 hb hl (by omega) (by omega) (by omega) (by omega)
      obtain ⟨w, rfl⟩ := Int.eq_ofNat_of_zero_le v1
      obtain ⟨m', p', g2, a1, a2, a3⟩ := H1 w m (p + 1) hs (by omega) (by omega)
      refine ⟨m', p', Ev.succ ?_, by omega, by omega, a3⟩
      simp only [spec_l71Mem.l0, if_neg (show ¬ ((0 : Nat) : Int) > 0 by omega)]
      exact Ev.bind g1 g2
    | succ n ih =>
      intro hn m p hs h0 h1
      obtain ⟨v, g1, v1, v2⟩ := pick_ev b p 6 hb hl (by omega) (by omega) (by omega) (by omega)
      obtain ⟨u, g2, u1, u2⟩ := pick_ev b (p + 1) 4 hb hl (by omega) (by omega) (by omega) (by omega)
      obtain ⟨w, p1, g3, w1, w2, _, _⟩ := word_ev b (p + 1 + 1) hb hl (by omega) (by omega)
      have hlen := hs.1
      have hr := hs.2 _ (rdL_mem (m := m) (i := v) (by omega) (by omega))
      obtain ⟨m', p', g4, a1, a2, a3⟩ := ih (by omega) _ p1 (shape_set hs (p := v) (by omega) (by omega) u.toNat w) (by omega) (by omega)
      refine ⟨m', p', Ev.succ ?_, by omega, by omega, a3⟩
      simp only [spec_l71Mem.l0, if_pos (show ((n + 1 : Nat) : Int) > 0 by omega), show ((n + 1 : Nat) : Int) - 1 = (n : Int) by omega, wr (n : Int) (by omega)]
      refine Ev.bind g1 ?_
      simp only [if_pos v1, if_pos (show v < (m.length : Int) by omega)]
      refine Ev.bind g2 (Ev.bind g3 ?_)
      simp only [if_pos u1, if_pos (show u < ((rd_L2 m v).length : Int) by omega)]
      exact g4
  unfold spec_l71Mem.f
  obtain ⟨v, g1, v1, v2⟩ := pick_ev b p 26 hb hl (by omega) (by omega) (by omega) (by omega)
  obtain ⟨w, rfl⟩ := Int.eq_ofNat_of_zero_le v1
  obtain ⟨m', p', g2, a1, a2, a3⟩ := H0 w (by omega) (List.replicate 6 (List.replicate 4 0)) (p + 1) ⟨by simp, fun r hr => by rw [List.eq_of_mem_replicate hr]; simp⟩ (by omega) (by omega)
  exact ⟨m', p', Ev.bind sMemNew6 (Ev.bind g1 g2), by omega, by omega, a3⟩
def Near (m : List (List Int)) : Prop := (5 ≤ m.length ∧ m.length ≤ 6) ∧ ∀ r ∈ m, 2 ≤ r.length ∧ r.length ≤ 4
theorem near_small {m : List (List Int)} (h : Near m) : Small m := ⟨by have := h.1; omega, fun r hr => by have := h.2 r hr; omega⟩
theorem off_ev (b : List Int) (p : Int) (hb : ByB b) (hl : (b.length : Int) ≤ 2000) (hp : 0 ≤ p) (hp' : p ≤ 10000000) :
    ∃ m p', Ev (fun k => spec_l71Off.f k b p) (m, p') ∧ p ≤ p' ∧ p' ≤ p + 300 ∧ Near m := by
  unfold spec_l71Off.f
  obtain ⟨m, p1, g0, a1, a2, hs⟩ := mem_ev b p hb hl hp hp'
  obtain ⟨v, g1, v1, v2⟩ := pick_ev b p1 20 hb hl (by omega) (by omega) (by omega) (by omega)
  have hlen := hs.1
  obtain ⟨u, g2, u1, u2⟩ := pick_ev b (p1 + 1) m.length hb hl (by omega) (by omega) (by omega) (by omega)
  obtain ⟨w, g3, w1, w2⟩ := pick_ev b (p1 + 1 + 1) 2 hb hl (by omega) (by omega) (by omega) (by omega)
  have hN : Near m := ⟨by omega, fun r hr => by have := hs.2 r hr; omega⟩
  have hset : ∀ r : List Int, 2 ≤ r.length ∧ r.length ≤ 4 → Near (m.set u.toNat r) := by
    intro r hr
    refine ⟨by simp; omega, fun x hx => ?_⟩
    rcases List.mem_or_eq_of_mem_set hx with y | rfl
    · exact hN.2 x y
    · exact hr
  by_cases c0 : v = 0
  · refine ⟨m.drop 1, p1 + 1, Ev.bind g0 (Ev.bind g1 ?_), by omega, by omega, ⟨by simp; omega, fun r hr => hN.2 r (List.mem_of_mem_drop hr)⟩⟩
    simp only [if_pos c0, if_pos (show (1 : Int) ≤ m.length by omega)]
    exact Ev.now _
  by_cases c1 : v = 1
  · refine ⟨m.set u.toNat [1, 2], p1 + 1 + 1, Ev.bind g0 (Ev.bind g1 ?_), by omega, by omega, hset _ (by simp)⟩
    simp only [if_neg c0, if_pos c1]
    refine Ev.bind g2 ?_
    simp only [if_pos u1, if_pos u2]
    exact Ev.now _
  by_cases c2 : v = 2
  · have hr := hs.2 _ (rdL_mem (m := m) (i := u) u1 u2)
    refine ⟨m.set u.toNat ((rd_L2 m u).set 0 (rd [(-1), 64] w)), p1 + 1 + 1 + 1, Ev.bind g0 (Ev.bind g1 ?_), by omega, by omega, hset _ (by simp [hr])⟩
    simp only [if_neg c0, if_neg c1, if_pos c2]
    refine Ev.bind g2 ?_
    simp only [if_pos u1, if_pos u2, Option.bind_some]
    refine Ev.bind g3 ?_
    simp only [if_pos w1, if_pos (show w < (([(-1), 64] : List Int).length : Int) by simpa using w2), if_pos (show (0 : Int) < ((rd_L2 m u).length : Int) by omega)]
    exact Ev.now _
  · refine ⟨m, p1 + 1, Ev.bind g0 (Ev.bind g1 ?_), by omega, by omega, hN⟩
    simp only [if_neg c0, if_neg c1, if_neg c2]
    exact Ev.now _

-- the law
theorem drawMemOk_ev (l : List Int) (h : ∀ x ∈ l, (Lit.int .u8 x).wf = true) : ∃ m, Ev (fun k => spec_DrawMemOk.f k l) m ∧ Near m := by
  unfold spec_DrawMemOk.f
  obtain ⟨b, e, hb, hl⟩ := open_eq l h
  obtain ⟨m, p1, g0, a1, a2, hN⟩ := off_ev b 0 hb hl (by omega) (by omega)
  obtain ⟨v, g1, v1, v2⟩ := pick_ev b p1 4 hb hl (by omega) (by omega) (by omega) (by omega)
  have hlen := hN.1
  obtain ⟨u, g2, u1, u2⟩ := pick_ev b (p1 + 1) m.length hb hl (by omega) (by omega) (by omega) (by omega)
  obtain ⟨w, g3, w1, w2⟩ := pick_ev b (p1 + 1 + 1) 2 hb hl (by omega) (by omega) (by omega) (by omega)
  simp only [e, Option.bind_some]
  by_cases c0 : v = 0
  · have hr := hN.2 _ (rdL_mem (m := m) (i := u) u1 u2)
    refine ⟨m.set u.toNat ((rd_L2 m u).set 0 (rd [(-1), 64] w)), Ev.bind g0 (Ev.bind g1 ?_), ?_⟩
    · simp only [if_pos c0]
      refine Ev.bind g2 ?_
      simp only [if_pos u1, if_pos u2, Option.bind_some]
      refine Ev.bind g3 ?_
      simp only [if_pos w1, if_pos (show w < (([(-1), 64] : List Int).length : Int) by simpa using w2), if_pos (show (0 : Int) < ((rd_L2 m u).length : Int) by omega)]
      exact Ev.now _
    · refine ⟨by simp; omega, fun x hx => ?_⟩
      rcases List.mem_or_eq_of_mem_set hx with y | rfl
      · exact hN.2 x y
      · simp [hr]
  · refine ⟨m, Ev.bind g0 (Ev.bind g1 ?_), hN⟩
    simp only [if_neg c0]
    exact Ev.now _
theorem memB_sub {m x : List (List Int)} (h : memB m = true) (hs : ∀ r ∈ x, r ∈ m) : memB x = true := List.all_eq_true.mpr (fun r hr => memB_page h (hs r hr))
theorem FnMemPart : laws_FnMemPart.Pure := by
  intro l0 l1 _ _ hw _ _ _
  obtain ⟨m, g, hN⟩ := drawMemOk_ev l0 hw
  have hm := near_small hN
  have hlen := hN.1
  apply Ev.rounds
  unfold laws_FnMemPart.f
  by_cases c : (l0.length : Int) > 1048576
  · simp only [if_pos c]
    refine Ev.succ ?_
    simp only [laws_FnMemPart.j0, if_true]; exact Ev.now _
  simp only [if_neg c]
  refine Ev.succ ?_
  by_cases c1 : (l1.length : Int) > 1048576
  · simp only [laws_FnMemPart.j0, decide_eq_true c1, if_true]; exact Ev.now _
  simp only [laws_FnMemPart.j0, decide_eq_false c1, Bool.false_eq_true, if_false]
  refine Ev.bind g (Ev.bind (iMemOk_ev m hm) (Ev.bind (sMemOk_ev m hm) ?_))
  simp only [bne_self_eq_false, Bool.false_eq_true, if_false]
  cases hb : memB m
  · simp only [Bool.false_eq_true, if_false]
    refine Ev.succ ?_
    simp only [laws_FnMemPart.j1, if_true]
    refine Ev.bind (sMemOk_ev m hm) ?_
    rw [hb]; exact Ev.now _
  · have z : ((m.length : Int) == 0) = false := beq_eq_false_iff_ne.mpr (by omega)
    simp only [if_true, z]
    refine Ev.succ ?_
    simp only [laws_FnMemPart.j1, Bool.false_eq_true, if_false, if_neg (show ¬ (m.length : Int) = 0 by omega)]
    generalize hj : (l1.length : Int) % (m.length : Int) = j
    have hj0 : 0 ≤ j := by rw [← hj]; exact Int.emod_nonneg _ (by omega)
    have hj1 : j < m.length := by rw [← hj]; exact Int.emod_lt_of_pos _ (by omega)
    generalize hq : wrap64 (j + 1) = q
    have hq1 : q = j + 1 := by rw [← hq, wr _ (by omega)]
    have b1 : ([] : List (List Int)).length + (m.take j.toNat).length < 5864062014805 := by rw [List.length_take, List.length_nil]; omega
    have b2 : (([] : List (List Int)) ++ m.take j.toNat).length + (m.drop q.toNat).length < 5864062014805 := by rw [List.length_append, List.length_take, List.length_drop, List.length_nil]; omega
    refine Ev.bind (Ev.now _) ?_
    simp only [if_pos hj0, if_pos (show j ≤ (m.length : Int) by omega)]
    refine Ev.bind (Ev.now _) ?_
    simp only [if_pos b1]
    refine Ev.bind (Ev.now _) ?_
    simp only [if_pos (show (0 : Int) ≤ q by omega), if_pos (show q ≤ (m.length : Int) by omega)]
    refine Ev.bind (Ev.now _) ?_
    simp only [if_pos b2]
    refine Ev.bind (Ev.now _) ?_
    generalize hx : ([] : List (List Int)) ++ m.take j.toNat ++ m.drop q.toNat = x
    rw [List.nil_append] at hx
    have hs : ∀ r ∈ x, r ∈ m := by
      intro r hr
      rw [← hx] at hr
      rcases List.mem_append.1 hr with h | h
      · exact List.mem_of_mem_take h
      · exact List.mem_of_mem_drop h
    have hxl : x.length = m.length - 1 := by rw [← hx, List.length_append, List.length_take, List.length_drop]; omega
    have hxm : Small x := ⟨by omega, fun r hr => hm.2 r (hs r hr)⟩
    have hxb : memB x = true := memB_sub hb hs
    by_cases c2 : q = (m.length : Int)
    · simp only [if_pos c2]
      refine Ev.bind (Ev.cast hxb (iMemOk_ev x hxm)) ?_
      exact Ev.now _
    · simp only [if_neg c2]
      have m1 : memAtOk m q 0 := ⟨hb, ⟨by omega, by omega⟩, by omega, by omega⟩
      have m2 : memAtOk x j 0 := ⟨hxb, ⟨by omega, by omega⟩, by omega, by omega⟩
      have er : rd_L2 x j = rd_L2 m q := by
        have e1 : j = ((j.toNat : Nat) : Int) := by omega
        have e2 : q = ((j.toNat + 1 : Nat) : Int) := by omega
        have e3 : q.toNat = j.toNat + 1 := by omega
        rw [e1, e2, rdL_at (show j.toNat < x.length by omega), rdL_at (show j.toNat + 1 < m.length by omega)]
        subst hx
        rw [List.getElem_append_right (by rw [List.length_take]; omega), List.getElem_drop]
        congr 1
        rw [List.length_take]; omega
      refine Ev.bind (iMemAt_ev m _ 0 hm) (Ev.bind (iMemAt_ev x _ 0 hxm) (Ev.bind (Ev.cast hxb (iMemOk_ev x hxm)) ?_))
      simp only [memAt, if_pos m1, if_pos m2, er, if_true, beq_self_eq_true]
      exact Ev.now _

end Go.Proofs.Ytjgcfpclddfifaa.Pure
