/- The pure side of the law FnOverLess: what the printed functions compute answers true. Conditions: none beyond the statement given. -/
import Derived.Test.YtbphhgahedahdaaQFnOverLessx0
import Derived.Test.YtbphhgahedahdaaQFnOverLessx1
import Derived.Test.YtbphhgahedahdaaQFnOverLessx2
import Derived.Test.YtbphhgahedahdaaQFnOverLessx3
import Derived.Test.YtbphhgahedahdaaQFnOverLessx4
import Derived.Test.YtbphhgahedahdaaQFnOverLessx5
import Derived.Test.YtbphhgahedahdaaQFnOverLessx6
import Derived.Laws.BitsLemmas
namespace Go.Proofs.Ytbphhgahedahdaa.Pure
open Go Go.RowKit Go.Proofs.Ytbphhgahedahdaa.QFnOverLess Go.Proofs.YtbphhgahedahdaaW.PrintWords Go.Proofs.YtbphhgahedahdaaW.PrintLast
set_option linter.unusedVariables false
set_option linter.unusedSimpArgs false

theorem Ev.succ {α : Type} {g : Nat → Option α} {r : α} (h : Ev (fun k => g (k + 1)) r) : Ev g r := Ev.step (fun _ => rfl) h
theorem Ev.cast {α : Type} {g : Nat → Option α} {r r' : α} (e : r = r') (h : Ev g r) : Ev g r' := e ▸ h
theorem wr (n : Int) (h : -9223372036854775808 ≤ n ∧ n ≤ 9223372036854775807) : wrap64 n = n := by unfold wrap64; omega
theorem wr1 (i : Nat) (h : (i : Int) ≤ 1000000000000000000) : wrap64 ((i : Int) + 1) = ((i + 1 : Nat) : Int) := by rw [wr _ (by omega)]; rfl
theorem Ev.down {σ ρ : Type} (g : Nat → Int → σ → Option ρ) (R : Nat → σ → ρ) (n : Nat) (hend : ∀ st, Ev (fun k => g k n st) (R n st))
    (hstep : ∀ i : Nat, i < n → (∀ st, Ev (fun k => g k ((i + 1 : Nat) : Int) st) (R (i + 1) st)) → ∀ st, Ev (fun k => g k (i : Int) st) (R i st)) :
    ∀ st, Ev (fun k => g k 0 st) (R 0 st) := by
  have H : ∀ d i : Nat, i + d = n → ∀ st, Ev (fun k => g k (i : Int) st) (R i st) := by
    intro d
    induction d with
    | zero => intro i hi st; obtain rfl : i = n := by omega
              exact hend st
    | succ d ih => intro i hi; exact hstep i (by omega) (ih (i + 1) (by omega))
  exact H n 0 (by omega)
theorem drop_cons {α : Type} {l : List α} {i : Nat} (h : i < l.length) : l.drop i = l[i] :: l.drop (i + 1) := List.drop_eq_getElem_cons h
theorem getD_at {α : Type} {l : List α} {i : Nat} (z : α) (h : i < l.length) : l.getD ((i : Int)).toNat z = l[i] := by simp [h]
theorem u8_in {n : Int} (h : (Lit.int .u8 n).wf = true) : 0 ≤ n ∧ n ≤ 255 := by
  have e1 : IntKind.u8.min = 0 := by decide
  have e2 : IntKind.u8.max = 255 := by decide
  simp only [Lit.wf, e1, e2, Bool.and_eq_true, decide_eq_true_eq] at h; exact h
def wi (a lo hi : Int) : Bool := decide (lo ≤ a) && decide (a ≤ hi)
theorem wi_iff {a lo hi : Int} : wi a lo hi = true ↔ lo ≤ a ∧ a ≤ hi := by simp [wi]
theorem l6In_eq (a lo hi : Int) : spec_l6In.f a lo hi = some (wi a lo hi) := by
  unfold spec_l6In.f wi
  by_cases h : a ≥ lo
  · rw [if_pos h]; simp [h]
  · rw [if_neg h]; simp; omega
theorem within_eq (a lo hi : Int) : impl_within.f a lo hi = some (wi a lo hi) := by
  unfold impl_within.f wi
  by_cases h : a ≥ lo
  · rw [if_pos h]; simp [h]
  · rw [if_neg h]; simp; omega
theorem xor_nat (a b : Nat) (ha : a < 2 ^ 62) (hb : b < 2 ^ 62) : bits .xor .i64 (a : Int) (b : Int) = ((a ^^^ b : Nat) : Int) := by
  have ha' : a % 2 ^ 64 = a := Nat.mod_eq_of_lt (Nat.lt_of_lt_of_le ha (by decide))
  have hb' : b % 2 ^ 64 = b := Nat.mod_eq_of_lt (Nat.lt_of_lt_of_le hb (by decide))
  have hx : a ^^^ b < 2 ^ 62 := Nat.xor_lt_two_pow ha hb
  have e : IntKind.i64.bits = 64 := rfl
  simp only [bits, e, BitVec.ofInt_natCast, BitVec.toNat_xor, BitVec.toNat_ofNat, ha', hb']
  rw [IntKind.wrap_i64]; omega
theorem xor_nn (a b : Int) (ha : 0 ≤ a) (ha' : a < 4611686018427387904) (hb : 0 ≤ b) (hb' : b < 4611686018427387904) : 0 ≤ bits .xor .i64 a b := by
  obtain ⟨x, rfl⟩ := Int.eq_ofNat_of_zero_le ha
  obtain ⟨y, rfl⟩ := Int.eq_ofNat_of_zero_le hb
  rw [xor_nat x y (by omega) (by omega)]; omega
theorem tmod_in (x n : Int) (hx : 0 ≤ x) (hn : 1 ≤ n) : 0 ≤ Int.tmod x n ∧ Int.tmod x n < n := by
  rw [Int.tmod_eq_emod_of_nonneg hx]
  exact ⟨Int.emod_nonneg _ (by omega), Int.emod_lt_of_pos _ (by omega)⟩
def ByB (b : List Int) : Prop := ∀ i : Int, 0 ≤ rd b i ∧ rd b i ≤ 255
theorem byB_of {b : List Int} (h : ∀ x ∈ b, (Lit.int .u8 x).wf = true) : ByB b := by
  intro i
  unfold rd
  rw [List.getD_eq_getElem?_getD]
  cases e : b[i.toNat]? with
  | none => simp
  | some x => simpa using u8_in (h x (List.mem_of_getElem? e))
theorem pick_ev (b : List Int) (p n : Int) (hb : ByB b) (hl : (b.length : Int) ≤ 2000) (hp : 0 ≤ p) (hp' : p ≤ 1000000000) (hn : 1 ≤ n) (hn' : n ≤ 1000000000000) :
    ∃ v, Ev (fun k => spec_l6Rd_pick.f k b p n) (v, p + 1) ∧ 0 ≤ v ∧ v < n := by
  unfold spec_l6Rd_pick.f
  simp only [if_neg (show ¬ n < 1 by omega), wr (p + 1) (by omega)]
  by_cases e : b.length = 0
  · refine ⟨0, Ev.succ ?_, by omega, by omega⟩
    simp only [spec_l6Rd_pick.j0, e]
    exact Ev.now _
  · have e' : ((b.length : Int) == 0) = false := by simp; intro h; exact e (by simp [h])
    simp only [e']
    by_cases g : p < b.length
    · have hb1 := hb p
      have t := tmod_in (rd b p) n hb1.1 hn
      refine ⟨Int.tmod (rd b p) n, Ev.succ ?_, t.1, t.2⟩
      simp only [spec_l6Rd_pick.j0, show p + 1 - 1 = p by omega, wr p (by omega), if_pos g, if_pos hp, if_neg (show ¬ n = 0 by omega), wr (rd b p) (by omega), Bool.false_eq_true, if_false]
      exact Ev.now _
    · have hL : (1 : Int) ≤ b.length := by omega
      have q1 := tmod_in p b.length hp hL
      have q2 := tmod_in (p * 7 + 3) b.length (by omega) hL
      have b1 := hb (Int.tmod p b.length)
      have b2 := hb (Int.tmod (p * 7 + 3) b.length)
      have q3 : 0 ≤ Int.tdiv p b.length ∧ Int.tdiv p b.length ≤ p := by
        rw [Int.tdiv_eq_ediv_of_nonneg hp]
        exact ⟨Int.ediv_nonneg hp (by omega), Int.ediv_le_self _ hp⟩
      generalize hx : rd b (Int.tmod p b.length) = X at *
      generalize hy : rd b (Int.tmod (p * 7 + 3) b.length) = Y at *
      generalize hz : Int.tdiv p b.length = Z at *
      have q4 : 0 ≤ Int.tdiv (X * 131 + Y * 1117 + p * 29 + Z * 53) 64 ∧ Int.tdiv (X * 131 + Y * 1117 + p * 29 + Z * 53) 64 ≤ 4611686018427387903 := by
        rw [Int.tdiv_eq_ediv_of_nonneg (by omega)]; omega
      generalize hu : Int.tdiv (X * 131 + Y * 1117 + p * 29 + Z * 53) 64 = U at *
      have q5 := xor_nn (X * 131 + Y * 1117 + p * 29 + Z * 53) U (by omega) (by omega) (by omega) (by omega)
      have t := tmod_in _ n q5 hn
      refine ⟨Int.tmod (bits .xor .i64 (X * 131 + Y * 1117 + p * 29 + Z * 53) U) n, Ev.succ ?_, t.1, t.2⟩
      simp only [spec_l6Rd_pick.j0, show p + 1 - 1 = p by omega, wr p (by omega), if_neg g, if_neg (show ¬ (b.length : Int) = 0 by omega), if_pos q1.1, if_pos q1.2, wr (p * 7) (by omega), wr (p * 7 + 3) (by omega), if_pos q2.1, if_pos q2.2, if_neg (show ¬ n = 0 by omega), hx, hy, hz, wr X (by omega), wr Y (by omega), wr Z (by omega), wr (X * 131) (by omega), wr (Y * 1117) (by omega), wr (X * 131 + Y * 1117) (by omega), wr (p * 29) (by omega), wr (X * 131 + Y * 1117 + p * 29) (by omega), wr (Z * 53) (by omega), wr (X * 131 + Y * 1117 + p * 29 + Z * 53) (by omega), hu, wr U (by omega), Bool.false_eq_true, if_false]
      exact Ev.now _
theorem open_eq (l : List Int) (h : ∀ x ∈ l, (Lit.int .u8 x).wf = true) : ∃ b, spec_l6Open.f l = some (b, 0) ∧ ByB b ∧ (b.length : Int) ≤ 2000 := by
  unfold spec_l6Open.f
  by_cases g : (l.length : Int) > 2000
  · rw [if_pos g, if_pos (by omega)]
    exact ⟨_, rfl, byB_of fun x hx => h x (List.mem_of_mem_take hx), by simp; omega⟩
  · rw [if_neg g]
    exact ⟨_, rfl, byB_of h, by omega⟩
theorem rdE_at {l : List S24} {i : Nat} (h : i < l.length) : rd_T24 l (i : Int) = l[i] := getD_at _ h
theorem entry_ev (b : List Int) (p : Int) (hb : ByB b) (hl : (b.length : Int) ≤ 2000) (hp : 0 ≤ p) (hp' : p ≤ 100000000) :
    ∃ h q w p', Ev (fun k => spec_l71Entry.f k b p) (h, q, w, p') ∧ p ≤ p' ∧ p' ≤ p + 3 ∧ -1 ≤ q ∧ q ≤ 6 := by
  unfold spec_l71Entry.f
  obtain ⟨v, h1, v1, v2⟩ := pick_ev b p 20 hb hl (by omega) (by omega) (by omega) (by omega)
  obtain ⟨u, h2, u1, u2⟩ := pick_ev b (p + 1) 2 hb hl (by omega) (by omega) (by omega) (by omega)
  obtain ⟨z, h3, z1, z2⟩ := pick_ev b (p + 1) 6 hb hl (by omega) (by omega) (by omega) (by omega)
  obtain ⟨y, h4, y1, y2⟩ := pick_ev b (p + 1 + 1) 2 hb hl (by omega) (by omega) (by omega) (by omega)
  by_cases c0 : v = 0
  · obtain rfl | rfl : u = 0 ∨ u = 1 := by omega
    · refine ⟨true, -1, false, p + 1 + 1, Ev.bind h1 ?_, by omega, by omega, by omega, by omega⟩
      simp only [if_pos c0, Option.bind_some]
      exact Ev.bind h2 (Ev.now _)
    · refine ⟨true, 6, false, p + 1 + 1, Ev.bind h1 ?_, by omega, by omega, by omega, by omega⟩
      simp only [if_pos c0, Option.bind_some]
      exact Ev.bind h2 (Ev.now _)
  by_cases c1 : v = 1
  · obtain rfl | rfl : u = 0 ∨ u = 1 := by omega
    · refine ⟨false, 1, false, p + 1 + 1, Ev.bind h1 ?_, by omega, by omega, by omega, by omega⟩
      simp only [if_neg c0, if_pos c1, Option.bind_some]
      exact Ev.bind h2 (Ev.now _)
    · refine ⟨false, 0, true, p + 1 + 1, Ev.bind h1 ?_, by omega, by omega, by omega, by omega⟩
      simp only [if_neg c0, if_pos c1, Option.bind_some]
      exact Ev.bind h2 (Ev.now _)
  have J1 : Ev (fun k => spec_l71Entry.j0 k true b (p + 1)) (false, 0, false, p + 1) := by
    refine Ev.succ ?_
    simp only [spec_l71Entry.j0, if_true]
    exact Ev.now _
  have J0 : Ev (fun k => spec_l71Entry.j0 k false b (p + 1)) (true, z, (y == 0), p + 1 + 1 + 1) := by
    refine Ev.succ ?_
    simp only [spec_l71Entry.j0, Bool.false_eq_true, if_false]
    exact Ev.bind h3 (Ev.bind h4 (Ev.now _))
  by_cases c2 : v = 2
  · refine ⟨false, 0, false, p + 1, Ev.bind h1 ?_, by omega, by omega, by omega, by omega⟩
    simp only [if_neg c0, if_neg c1, if_pos c2, show (v == 2) = true by simpa using c2]; exact J1
  by_cases c3 : v = 3
  · refine ⟨false, 0, false, p + 1, Ev.bind h1 ?_, by omega, by omega, by omega, by omega⟩
    simp only [if_neg c0, if_neg c1, if_neg c2, if_pos c3, show (v == 3) = true by simpa using c3]; exact J1
  by_cases c4 : v = 4
  · refine ⟨false, 0, false, p + 1, Ev.bind h1 ?_, by omega, by omega, by omega, by omega⟩
    simp only [if_neg c0, if_neg c1, if_neg c2, if_neg c3, if_pos c4, show (v == 4) = true by simpa using c4]; exact J1
  by_cases c5 : v = 5
  · refine ⟨false, 0, false, p + 1, Ev.bind h1 ?_, by omega, by omega, by omega, by omega⟩
    simp only [if_neg c0, if_neg c1, if_neg c2, if_neg c3, if_neg c4, show (v == 5) = true by simpa using c5]; exact J1
  · refine ⟨true, z, (y == 0), p + 1 + 1 + 1, Ev.bind h1 ?_, by omega, by omega, by omega, by omega⟩
    simp only [if_neg c0, if_neg c1, if_neg c2, if_neg c3, if_neg c4, show (v == 5) = false by simpa using c5]; exact J0
def entB (e : S24) : Bool := if e.f0 = true then wi e.f1 0 5 else (e.f1 == 0 && (!e.f2))
def tabB (l : List S24) : Bool := l.all entB && ((l.length : Int) == 6)
theorem l1Entry_eq (e : S24) : spec_l1Entry.f e.f0 e.f1 e.f2 = some (entB e) := by
  unfold spec_l1Entry.f entB
  by_cases h : e.f0 = true
  · rw [if_pos h, if_pos h, l6In_eq]; rfl
  · rw [if_neg h, if_neg h]; simp [h]
theorem sTabOk_ev (l : List S24) (hl : (l.length : Int) ≤ 1000000000000000) : Ev (fun k => spec_TabOk.f k l) (tabB l) := by
  unfold spec_TabOk.f
  have H := Ev.down (σ := Unit) (fun k i _ => spec_TabOk.l0 k l i) (fun i _ => (l.drop i).all entB && ((l.length : Int) == 6)) l.length
    (fun _ => Ev.succ (by simp only [spec_TabOk.l0, Int.lt_irrefl, if_false]; exact Ev.cast (by simp) (Ev.now _)))
    (fun i hi ih _ => by
      refine Ev.succ ?_
      simp only [spec_TabOk.l0, if_pos (Int.ofNat_lt.mpr hi), if_pos (Int.natCast_nonneg i), rdE_at hi, l1Entry_eq, Option.bind_some, wr1 i (by omega)]
      rw [drop_cons hi, List.all_cons]
      cases h : entB l[i]
      · exact Ev.now _
      · exact ih ())
  exact H ()
theorem iTabOk_ev (l : List S24) (hl : (l.length : Int) ≤ 1000000000000000) : Ev (fun k => impl_TabOk.f k l) (tabB l) := by
  unfold impl_TabOk.f
  have H := Ev.down (σ := Unit) (fun k i _ => impl_TabOk.l0 k l l l.length i) (fun i _ => (l.drop i).all entB && ((l.length : Int) == 6)) l.length
    (fun _ => Ev.succ (by simp only [impl_TabOk.l0, Int.lt_irrefl, if_false]; exact Ev.cast (by simp) (Ev.now _)))
    (fun i hi ih _ => by
      refine Ev.succ ?_
      simp only [impl_TabOk.l0, if_pos (Int.ofNat_lt.mpr hi), if_pos (Int.natCast_nonneg i), rdE_at hi, within_eq, Option.bind_some, wr1 i (by omega)]
      rw [drop_cons hi, List.all_cons]
      unfold entB
      by_cases h : l[i].f0 = true
      · simp only [if_pos h]
        cases g : wi l[i].f1 0 5
        · exact Ev.now _
        · exact ih ()
      · simp only [if_neg h]
        cases g : (l[i].f1 == 0 && (!l[i].f2))
        · rw [show (l[i].f0 || (!(l[i].f1 == 0) || l[i].f2)) = true by revert g h; cases l[i].f0 <;> cases l[i].f2 <;> simp]
          exact Ev.now _
        · have g1 : l[i].f1 = 0 := by revert g; simp; intro a _; exact a
          rw [show (l[i].f0 || (!(l[i].f1 == 0) || l[i].f2)) = false by revert g h; cases l[i].f0 <;> cases l[i].f2 <;> simp]
          simp only [Bool.false_eq_true, if_false, g1, show wi 0 0 5 = true from rfl, if_true]
          exact ih ())
  exact H ()
theorem fine_ev (b : List Int) (p : Int) (hb : ByB b) (hl : (b.length : Int) ≤ 2000) (hp : 0 ≤ p) (hp' : p ≤ 100000000) :
    ∃ h q w p', Ev (fun k => spec_l71Fine.f k b p) (h, q, w, p') ∧ p ≤ p' ∧ p' ≤ p + 3 ∧ -1 ≤ q ∧ q ≤ 6 := by
  unfold spec_l71Fine.f
  obtain ⟨v, h1, v1, v2⟩ := pick_ev b p 4 hb hl (by omega) (by omega) (by omega) (by omega)
  obtain ⟨z, h3, z1, z2⟩ := pick_ev b (p + 1) 6 hb hl (by omega) (by omega) (by omega) (by omega)
  obtain ⟨y, h4, y1, y2⟩ := pick_ev b (p + 1 + 1) 2 hb hl (by omega) (by omega) (by omega) (by omega)
  by_cases c0 : v = 0
  · refine ⟨false, 0, false, p + 1, Ev.bind h1 ?_, by omega, by omega, by omega, by omega⟩
    simp only [if_pos c0]; exact Ev.now _
  · refine ⟨true, z, (y == 0), p + 1 + 1 + 1, Ev.bind h1 ?_, by omega, by omega, by omega, by omega⟩
    simp only [if_neg c0]; exact Ev.bind h3 (Ev.bind h4 (Ev.now _))
theorem tab_ev (b : List Int) (p : Int) (hb : ByB b) (hl : (b.length : Int) ≤ 2000) (hp : 0 ≤ p) (hp' : p ≤ 10000000) :
    ∃ tab p', Ev (fun k => spec_l71Tab.f k b p) (tab, p') ∧ p ≤ p' ∧ p' ≤ p + 100 ∧ 5 ≤ tab.length ∧ tab.length ≤ 6 := by
  unfold spec_l71Tab.f
  have H : ∀ d i : Nat, i + d = 6 → ∀ (xs : List S24) (p : Int), xs.length = i → 0 ≤ p → p ≤ 10000000 + 3 * i →
      ∃ tab p', Ev (fun k => spec_l71Tab.l0 k xs (i : Int) b p) (tab, p') ∧ p ≤ p' ∧ p' ≤ p + 3 * d + 10 ∧ 5 ≤ tab.length ∧ tab.length ≤ 6 := by
    intro d
    induction d with
    | zero =>
      intro i hi xs p hx h0 h1
      obtain rfl : i = 6 := by omega
      obtain ⟨v, g1, v1, v2⟩ := pick_ev b p 20 hb hl (by omega) (by omega) (by omega) (by omega)
      obtain ⟨u, g2, u1, u2⟩ := pick_ev b (p + 1) xs.length hb hl (by omega) (by omega) (by omega) (by omega)
      obtain ⟨a, q, w, p', g3, _, _, _, _⟩ := entry_ev b (p + 1 + 1) hb hl (by omega) (by omega)
      by_cases c0 : v = 0
      · refine ⟨xs.set u.toNat ⟨a, q, w⟩, p', Ev.succ ?_, by omega, by omega, by simp [hx], by simp [hx]⟩
        simp only [spec_l71Tab.l0, if_neg (show ¬ ((6 : Nat) : Int) < 6 by omega)]
        refine Ev.bind g1 ?_
        simp only [if_pos c0]
        refine Ev.bind g2 (Ev.bind g3 ?_)
        simp only [if_pos u1, if_pos u2]
        exact Ev.now _
      · by_cases c1 : v = 1
        · refine ⟨xs.drop 1, p + 1, Ev.succ ?_, by omega, by omega, by simp [hx], by simp [hx]⟩
          simp only [spec_l71Tab.l0, if_neg (show ¬ ((6 : Nat) : Int) < 6 by omega)]
          refine Ev.bind g1 ?_
          simp only [if_neg c0, if_pos c1, if_pos (show (1 : Int) ≤ xs.length by omega)]
          exact Ev.now _
        · refine ⟨xs, p + 1, Ev.succ ?_, by omega, by omega, by omega, by omega⟩
          simp only [spec_l71Tab.l0, if_neg (show ¬ ((6 : Nat) : Int) < 6 by omega)]
          refine Ev.bind g1 ?_
          simp only [if_neg c0, if_neg c1]
          exact Ev.now _
    | succ d ih =>
      intro i hi xs p hx h0 h1
      obtain ⟨a, q, w, p1, g, a1, a2, _, _⟩ := fine_ev b p hb hl h0 (by omega)
      obtain ⟨tab, p', g', b1, b2, b3, b4⟩ := ih (i + 1) (by omega) (xs ++ [⟨a, q, w⟩]) p1 (by simp [hx]) (by omega) (by omega)
      refine ⟨tab, p', Ev.succ ?_, by omega, by omega, b3, b4⟩
      simp only [spec_l71Tab.l0, if_pos (show (i : Int) < 6 by omega)]
      refine Ev.bind g ?_
      simp only [if_pos (show xs.length < 5864062014805 by omega), wr1 i (by omega)]
      exact g'
  obtain ⟨tab, p', g, a1, a2, a3, a4⟩ := H 6 0 (by omega) [] p rfl hp (by omega)
  exact ⟨tab, p', g, a1, by omega, a3, a4⟩
theorem drawOver_ev (l : List Int) (h : ∀ x ∈ l, (Lit.int .u8 x).wf = true) : ∃ a b, Ev (fun k => spec_DrawTabOver.f k l) (a, b) ∧ a.length ≤ 6 ∧ b.length ≤ 6 := by
  unfold spec_DrawTabOver.f
  obtain ⟨b, e, hb, hl⟩ := open_eq l h
  obtain ⟨t1, p1, h1, q1, q2, _, q3⟩ := tab_ev b 0 hb hl (by omega) (by omega)
  obtain ⟨t2, p2, h2, _, _, _, q4⟩ := tab_ev b p1 hb hl (by omega) (by omega)
  refine ⟨t1, t2, ?_, q3, q4⟩
  simp only [e, Option.bind_some]
  exact Ev.bind h1 (Ev.bind h2 (Ev.now _))
theorem tabB_len {l : List S24} (h : tabB l = true) : l.length = 6 := by
  simp [tabB] at h; omega
theorem tabB_ent {l : List S24} (h : tabB l = true) (e : S24) (he : e ∈ l) : entB e = true := by
  simp [tabB] at h; exact h.1 e he
def ov (b : List S24) (e : S24) : S24 := if e.f0 = true ∧ (rd_T24 b e.f1).f0 = true then ⟨true, (rd_T24 b e.f1).f1, e.f2 && (rd_T24 b e.f1).f2⟩ else ⟨false, 0, false⟩
def tabOver (a b : List S24) : List S24 := if tabB a = true ∧ tabB b = true then a.map (ov b) else []
theorem tabOver_len (a b : List S24) : (tabOver a b).length ≤ 6 := by
  unfold tabOver
  split
  · next h => simp [tabB_len h.1]
  · simp
theorem ent_page {e : S24} (h : entB e = true) (g : e.f0 = true) : 0 ≤ e.f1 ∧ e.f1 < 6 := by
  unfold entB at h; rw [if_pos g, wi_iff] at h; omega
theorem iOver_l0 (a b : List S24) (ha : tabB a = true) (hb : tabB b = true) : ∀ d i : Nat, i + d = a.length → ∀ xs : List S24, xs.length ≤ 100000 + i →
    Ev (fun k => impl_TabOver.l0 k b xs a a.length (i : Int)) (xs ++ (a.drop i).map (ov b)) := by
  have la := tabB_len ha; have lb := tabB_len hb
  intro d
  induction d with
  | zero =>
    intro i hi xs hx
    obtain rfl : i = a.length := by omega
    refine Ev.succ ?_
    simp only [impl_TabOver.l0, Int.lt_irrefl, if_false]
    exact Ev.cast (by simp) (Ev.now _)
  | succ d ih =>
    intro i hi xs hx
    have hlt : i < a.length := by omega
    have he := tabB_ent ha a[i] (List.getElem_mem hlt)
    have ih' := fun z => ih (i + 1) (by omega) (xs ++ [z]) (by simp; omega)
    refine Ev.succ ?_
    rw [drop_cons hlt, List.map_cons, show xs ++ ov b a[i] :: List.map (ov b) (List.drop (i + 1) a) = (xs ++ [ov b a[i]]) ++ List.map (ov b) (List.drop (i + 1) a) by simp]
    simp only [impl_TabOver.l0, if_pos (Int.ofNat_lt.mpr hlt), if_pos (Int.natCast_nonneg i), rdE_at hlt, wr1 i (by omega), if_pos (show xs.length < 5864062014805 by omega)]
    have h0 := ih' (ov b a[i])
    generalize a[i] = e at *
    by_cases c : e.f0 = true
    · have hp := ent_page he c
      simp only [if_pos c, if_pos hp.1, if_pos (show e.f1 < (b.length : Int) by omega)]
      unfold ov at h0 ⊢
      by_cases c2 : (rd_T24 b e.f1).f0 = true
      · simp only [if_pos c2, if_pos (And.intro c c2)] at h0 ⊢
        by_cases c3 : e.f2 = true
        · simp only [c3, if_true, Bool.true_and] at h0 ⊢; exact h0
        · simp only [c3, if_false, Bool.false_and, Bool.false_eq_true] at h0 ⊢; exact h0
      · simp only [if_neg c2, if_neg (show ¬ (e.f0 = true ∧ (rd_T24 b e.f1).f0 = true) from fun x => c2 x.2)] at h0 ⊢; exact h0
    · unfold ov at h0 ⊢
      simp only [if_neg c, if_neg (show ¬ (e.f0 = true ∧ (rd_T24 b e.f1).f0 = true) from fun x => c x.1)] at h0 ⊢; exact h0
theorem iOver_ev (a b : List S24) (ha : (a.length : Int) ≤ 1000000000000000) (hb : (b.length : Int) ≤ 1000000000000000) : Ev (fun k => impl_TabOver.f k a b) (tabOver a b) := by
  unfold impl_TabOver.f tabOver
  have J : ∀ c, (c = false → tabB a = true ∧ tabB b = true) → Ev (fun k => impl_TabOver.j0 k a b [] c) (if c = false then a.map (ov b) else []) := by
    intro c h
    refine Ev.succ ?_
    cases c
    · simp only [impl_TabOver.j0, Bool.false_eq_true, if_false, if_true]
      exact iOver_l0 a b (h rfl).1 (h rfl).2 a.length 0 (by omega) [] (by simp)
    · simp only [impl_TabOver.j0, if_true]
      exact Ev.now _
  simp only [Option.bind_some]
  refine Ev.bind (iTabOk_ev a ha) ?_
  cases ta : tabB a
  · exact Ev.cast (by simp) (J true (by simp))
  · simp only [if_true]
    refine Ev.bind (iTabOk_ev b hb) ?_
    cases tb : tabB b
    · exact Ev.cast (by simp) (J true (by simp))
    · exact Ev.cast (by simp) (J false (fun _ => ⟨ta, tb⟩))
theorem sOver_l0 (a b : List S24) (ha : tabB a = true) (hb : tabB b = true) : ∀ d i : Nat, i + d = a.length → ∀ xs : List S24, xs.length ≤ 100000 + i →
    Ev (fun k => spec_TabOver.l0 k a b xs (i : Int)) (xs ++ (a.drop i).map (ov b)) := by
  have la := tabB_len ha; have lb := tabB_len hb
  intro d
  induction d with
  | zero =>
    intro i hi xs hx
    obtain rfl : i = a.length := by omega
    refine Ev.succ ?_
    simp only [spec_TabOver.l0, Int.lt_irrefl, if_false]
    exact Ev.cast (by simp) (Ev.now _)
  | succ d ih =>
    intro i hi xs hx
    have hlt : i < a.length := by omega
    have he := tabB_ent ha a[i] (List.getElem_mem hlt)
    have ih' := fun z => ih (i + 1) (by omega) (xs ++ [z]) (by simp; omega)
    refine Ev.succ ?_
    rw [drop_cons hlt, List.map_cons, show xs ++ ov b a[i] :: List.map (ov b) (List.drop (i + 1) a) = (xs ++ [ov b a[i]]) ++ List.map (ov b) (List.drop (i + 1) a) by simp]
    simp only [spec_TabOver.l0, if_pos (Int.ofNat_lt.mpr hlt), if_pos (Int.natCast_nonneg i), rdE_at hlt, wr1 i (by omega), if_pos (show xs.length < 5864062014805 by omega)]
    have h0 := ih' (ov b a[i])
    generalize a[i] = e at *
    by_cases c : e.f0 = true
    · have hp := ent_page he c
      simp only [if_pos c, if_pos hp.1, if_pos (show e.f1 < (b.length : Int) by omega)]
      unfold ov at h0 ⊢
      by_cases c2 : (rd_T24 b e.f1).f0 = true
      · simp only [if_pos (And.intro c c2)] at h0 ⊢
        simp only [c2, if_true]
        by_cases c3 : (rd_T24 b e.f1).f2 = true
        · simp only [c3, if_true, Bool.and_true] at h0 ⊢; exact h0
        · simp only [c3, if_false, Bool.and_false, Bool.false_eq_true] at h0 ⊢; exact h0
      · simp only [if_neg c2, if_neg (show ¬ (e.f0 = true ∧ (rd_T24 b e.f1).f0 = true) from fun x => c2 x.2)] at h0 ⊢; exact h0
    · unfold ov at h0 ⊢
      simp only [if_neg c, if_neg (show ¬ (e.f0 = true ∧ (rd_T24 b e.f1).f0 = true) from fun x => c x.1)] at h0 ⊢; exact h0
theorem sOver_ev (a b : List S24) (ha : (a.length : Int) ≤ 1000000000000000) (hb : (b.length : Int) ≤ 1000000000000000) : Ev (fun k => spec_TabOver.f k a b) (tabOver a b) := by
  unfold spec_TabOver.f tabOver
  have J : ∀ c, (c = false → tabB a = true ∧ tabB b = true) → Ev (fun k => spec_TabOver.j0 k a b [] c) (if c = false then a.map (ov b) else []) := by
    intro c h
    refine Ev.succ ?_
    cases c
    · simp only [spec_TabOver.j0, Bool.false_eq_true, if_false, if_true]
      exact sOver_l0 a b (h rfl).1 (h rfl).2 a.length 0 (by omega) [] (by simp)
    · simp only [spec_TabOver.j0, if_true]
      exact Ev.now _
  simp only [Option.bind_some]
  refine Ev.bind (sTabOk_ev a ha) ?_
  cases ta : tabB a
  · exact Ev.cast (by simp) (J true (by simp))
  · simp only [if_true]
    refine Ev.bind (sTabOk_ev b hb) ?_
    cases tb : tabB b
    · exact Ev.cast (by simp) (J true (by simp))
    · exact Ev.cast (by simp) (J false (fun _ => ⟨ta, tb⟩))
theorem lkTab_refl (l : List S24) (hl : (l.length : Int) ≤ 1000000000000000) : Ev (fun k => laws_lkTab.f k l l) true := by
  unfold laws_lkTab.f
  simp only [if_true]
  have H := Ev.down (σ := Unit) (fun k i _ => laws_lkTab.l0 k l l i) (fun i _ => true) l.length
    (fun _ => Ev.succ (by simp only [laws_lkTab.l0, Int.lt_irrefl, if_false]; exact Ev.now _))
    (fun i hi ih _ => by
      refine Ev.succ ?_
      simp only [laws_lkTab.l0, if_pos (Int.ofNat_lt.mpr hi), if_pos (Int.natCast_nonneg i), beq_self_eq_true, Bool.not_true, Bool.or_self, Bool.false_eq_true, if_false, wr1 i (by omega)]
      exact ih ())
  exact H ()
theorem rd_ent {l : List S24} (h : tabB l = true) (p : Int) (hp : 0 ≤ p ∧ p < 6) : entB (rd_T24 l p) = true := by
  have := tabB_len h
  have e : p = ((p.toNat : Nat) : Int) := by omega
  rw [e, rdE_at (show p.toNat < l.length by omega)]
  exact tabB_ent h _ (List.getElem_mem _)
theorem ov_ent {b : List S24} (hb : tabB b = true) {e : S24} (he : entB e = true) : entB (ov b e) = true := by
  unfold ov
  split
  · next h => have p := ent_page (rd_ent hb e.f1 (ent_page he h.1)) h.2
              simp only [entB, if_true]; exact wi_iff.mpr (by omega)
  · simp [entB]
theorem over_ok {a b : List S24} (ha : tabB a = true) (hb : tabB b = true) : tabB (tabOver a b) = true := by
  unfold tabOver; rw [if_pos ⟨ha, hb⟩]
  have := tabB_len ha
  simp only [tabB, Bool.and_eq_true, List.all_eq_true]
  refine ⟨fun x hx => ?_, by simp [this]⟩
  obtain ⟨e, he, rfl⟩ := List.mem_map.mp hx
  exact ov_ent hb (tabB_ent ha e he)
theorem rd_map {l : List S24} (f : S24 → S24) (p : Int) (hp : 0 ≤ p ∧ p < 6) (h : l.length = 6) : rd_T24 (l.map f) p = f (rd_T24 l p) := by
  have e : p = ((p.toNat : Nat) : Int) := by omega
  rw [e, rdE_at (show p.toNat < (l.map f).length by simp; omega), rdE_at (show p.toNat < l.length by omega)]
  simp

-- the law
theorem over_rd {a b : List S24} (ha : tabB a = true) (hb : tabB b = true) {p : Int} (h : 0 ≤ p ∧ p < 6) : rd_T24 (tabOver a b) p = ov b (rd_T24 a p) := by
  unfold tabOver; rw [if_pos ⟨ha, hb⟩]; exact rd_map _ _ h (tabB_len ha)
theorem rd_set_at {l : List S24} (i : Nat) (e : S24) {p : Int} (hi : i < l.length) (h0 : 0 ≤ p) : rd_T24 (l.set i e) p = if p = i then e else rd_T24 l p := by
  unfold rd_T24
  rw [List.getD_eq_getElem?_getD, List.getD_eq_getElem?_getD, List.getElem?_set]
  by_cases g : p = i
  · subst g; rw [if_pos rfl, Int.toNat_natCast, if_pos rfl, if_pos hi]; rfl
  · rw [if_neg g, if_neg (by omega)]
theorem FnOverLess : laws_FnOverLess.Pure := by
  intro l l' _ _ hw _ _ hw'
  obtain ⟨a, b, h1, n1, n2⟩ := drawOver_ev l hw
  apply Ev.rounds
  unfold laws_FnOverLess.f
  have J : Ev (fun k => laws_FnOverLess.j0 k l l' true) true := by
    refine Ev.succ ?_
    simp only [laws_FnOverLess.j0, if_true]
    exact Ev.now _
  by_cases c : (l.length : Int) > 1048576
  · simp only [if_pos c]; exact J
  simp only [if_neg c]
  by_cases c' : (l'.length : Int) > 1048576
  · simp only [decide_eq_true c']; exact J
  simp only [decide_eq_false c']
  have hl := tabOver_len a b
  refine Ev.succ ?_
  simp only [laws_FnOverLess.j0, Bool.false_eq_true, if_false]
  refine Ev.bind h1 (Ev.bind (iOver_ev a b (by omega) (by omega)) (Ev.bind (sOver_ev a b (by omega) (by omega)) (Ev.bind (lkTab_refl _ (by omega)) ?_)))
  simp only [if_true]
  refine Ev.succ ?_
  simp only [laws_FnOverLess.j1]
  by_cases z : (tabOver a b).length = 0
  · simp only [show (((tabOver a b).length : Int) == 0) = true by simp [z], if_true]
    exact Ev.bind (sOver_ev a b (by omega) (by omega)) (Ev.bind (lkTab_refl _ (by omega)) (Ev.now _))
  · simp only [show (((tabOver a b).length : Int) == 0) = false by simp; intro x; exact z (by simp [x]), Bool.false_eq_true, if_false]
    have hab : tabB a = true ∧ tabB b = true := by
      by_cases q : tabB a = true ∧ tabB b = true
      · exact q
      · exfalso; apply z; unfold tabOver; rw [if_neg q]; rfl
    obtain ⟨ha, hb⟩ := hab
    have lb := tabB_len hb
    obtain ⟨i, hi, hi6⟩ : ∃ i : Nat, (l'.length : Int) % 6 = (i : Int) ∧ i < 6 := ⟨l'.length % 6, by omega, by omega⟩
    rw [hi]
    simp only [Option.bind_some, List.nil_append, List.length_nil, lb, Nat.zero_add, show 6 < 5864062014805 by decide, if_true, if_pos (Int.natCast_nonneg i), if_pos (show (i : Int) < ((6 : Nat) : Int) by omega), rdE_at (show i < b.length by omega), Int.toNat_natCast]
    have set_ok : ∀ e : S24, entB e = true → tabB (b.set i e) = true := by
      intro e h
      simp only [tabB, Bool.and_eq_true, List.all_eq_true, List.length_set]
      refine ⟨fun x hx => ?_, by simp [lb]⟩
      rcases List.mem_or_eq_of_mem_set hx with h' | rfl
      · exact tabB_ent hb x h'
      · exact h
    have hbi := tabB_ent hb b[i] (List.getElem_mem (by omega))
    have k1 := set_ok ⟨false, 0, false⟩ (by simp [entB])
    have k2 := set_ok ⟨b[i].f0, b[i].f1, false⟩ (by
      revert hbi; unfold entB; by_cases q : b[i].f0 = true
      · simp [q]
      · simp [q]; intro x _; exact x)
    have lx := tabB_len (over_ok ha hb); have ly := tabB_len (over_ok ha k1); have lz := tabB_len (over_ok ha k2)
    refine Ev.bind (iOver_ev a _ (by omega) (by simp; omega)) (Ev.bind (iOver_ev a _ (by omega) (by simp; omega)) ?_)
    simp only [lx, ly, lz, if_true, show (((6 : Nat) : Int) != ((6 : Nat) : Int)) = false by simp]
    refine Ev.succ ?_
    simp only [laws_FnOverLess.j2, Bool.false_eq_true, if_false]
    have H : ∀ d j : Nat, j + d = 6 → Ev (fun k => laws_FnOverLess.l0 k (tabOver a b) (tabOver a (b.set i ⟨false, 0, false⟩)) (tabOver a (b.set i ⟨b[i].f0, b[i].f1, false⟩)) (j : Int)) true := by
      intro d
      induction d with
      | zero =>
        intro j hj
        refine Ev.succ ?_
        simp only [laws_FnOverLess.l0, if_neg (show ¬ (j : Int) < 6 by omega)]
        exact Ev.now _
      | succ d ih =>
        intro j hj
        have nx := ih (j + 1) (by omega)
        have he := rd_ent ha (j : Int) (by omega)
        have rb : rd_T24 b (i : Int) = b[i] := rdE_at (by omega)
        have hx := over_rd ha hb (p := (j : Int)) (by omega)
        have hy := over_rd ha k1 (p := (j : Int)) (by omega)
        have hz := over_rd ha k2 (p := (j : Int)) (by omega)
        refine Ev.succ ?_
        simp only [laws_FnOverLess.l0, if_pos (show (j : Int) < 6 by omega), wr1 j (by omega), if_pos (Int.natCast_nonneg j), lx, ly, lz, if_pos (show (j : Int) < ((6 : Nat) : Int) by omega), hx, hy, hz]
        generalize rd_T24 a (j : Int) = e at *
        by_cases g : e.f0 = true
        · have hp := ent_page he g
          have s1 := rd_set_at i ⟨false, 0, false⟩ (show i < b.length by omega) hp.1
          have s2 := rd_set_at i ⟨b[i].f0, b[i].f1, false⟩ (show i < b.length by omega) hp.1
          unfold ov
          rw [s1, s2]
          by_cases q : e.f1 = i
          · simp only [if_pos q, q, rb, g, true_and, Bool.false_eq_true, if_false, Bool.and_false]
            generalize b[i] = x at *
            by_cases g2 : x.f0 = true
            · simp only [if_pos g2, bne_self_eq_false, Bool.and_false, Bool.false_eq_true, if_false, if_true]; exact nx
            · simp only [if_neg g2, bne_self_eq_false, Bool.and_false, Bool.false_eq_true, if_false, if_true]; exact nx
          · simp only [if_neg q]
            generalize rd_T24 b e.f1 = x at *
            by_cases g2 : x.f0 = true
            · simp only [if_pos (And.intro g g2), if_true, beq_self_eq_true, Bool.not_true, Bool.or_self, Bool.false_eq_true, if_false, bne_self_eq_false]
              split <;> exact nx
            · simp only [if_neg (show ¬ (e.f0 = true ∧ x.f0 = true) from fun y => g2 y.2), if_true, Bool.false_eq_true, if_false, bne_self_eq_false]; exact nx
        · have o : ∀ t : List S24, ov t e = ⟨false, 0, false⟩ := fun t => if_neg (fun y => g y.1)
          simp only [o, if_true, Bool.false_eq_true, if_false, bne_self_eq_false]; exact nx
    exact H 6 0 (by omega)

end Go.Proofs.Ytbphhgahedahdaa.Pure
