/- The pure side of the law FnTabStrict: what the printed functions compute answers true. Conditions: none beyond the statement given. -/
import Derived.Test.YtkadphbjfhbapaaDoorQFnTabStrictx0
import Derived.Test.YtkadphbjfhbapaaDoorQFnTabStrictx1
import Derived.Test.YtkadphbjfhbapaaDoorQFnTabStrictx2
import Derived.Test.YtkadphbjfhbapaaDoorQFnTabStrictx3
import Derived.Test.YtkadphbjfhbapaaDoorQFnTabStrictx4
import Derived.Test.YtkadphbjfhbapaaDoorQFnTabStrictx5
import Derived.Test.YtkadphbjfhbapaaDoorQFnTabStrictx6
import Derived.Test.YtkadphbjfhbapaaDoorQFnTabStrictx7
import Derived.Laws.BitsLemmas
namespace Go.Proofs.YtkadphbjfhbapaaDoor.Pure
open Go Go.RowKit Go.Proofs.YtkadphbjfhbapaaDoor.QFnTabStrict Go.Proofs.YtkadphbjfhbapaaDoorW.PrintWords Go.Proofs.YtkadphbjfhbapaaDoorW.PrintLast
set_option linter.unusedVariables false
set_option linter.unusedSimpArgs false

theorem Ev.succ {α : Type} {g : Nat → Option α} {r : α} (h : Ev (fun k => g (k + 1)) r) : Ev g r := Ev.step (fun _ => rfl) h
theorem Ev.cast {α : Type} {g : Nat → Option α} {r r' : α} (e : r = r') (h : Ev g r) : Ev g r' := e ▸ h
theorem wr (n : Int) (h : -9223372036854775808 ≤ n ∧ n ≤ 9223372036854775807) : wrap64 n = n := by unfold wrap64; omega
theorem wr1 (i : Nat) (h : (i : Int) ≤ 1000000000000000000) : wrap64 ((i : Int) + 1) = ((i + 1 : Nat) : Int) := by rw [wr _ (by omega)]; rfl
theorem Ev.down {σ ρ : Type} (g : Nat → Int → σ → Option ρ) (R : Nat → σ → ρ) (n : Nat) (hend : ∀ st, Ev (fun k => g k n st) (R n st))
    (hstep : ∀ i : Nat, i < n → (∀ st, Ev (fun k => g k ((i + 1 : Nat) : Int) st) (R (i + 1) st)) → ∀ st, Ev (fun k => g k (i : Int) st) (R i st)) :
    ∀ st, Ev (fun k => g k 0 st) (R 0 st) := by
  have H : ∀ d i : Nat, i + d = n → ∀ st, Ev (fun k => g k (i : Int) st) (R i st) := by
    intro d
    induction d with
    | zero => intro i hi st; obtain rfl : i = n := by omega
              exact hend st
    | succ d ih => intro i hi; exact hstep i (by omega) (ih (i + 1) (by omega))
  exact H n 0 (by omega)
theorem drop_cons {α : Type} {l : List α} {i : Nat} (h : i < l.length) : l.drop i = l[i] :: l.drop (i + 1) := List.drop_eq_getElem_cons h
theorem getD_at {α : Type} {l : List α} {i : Nat} (z : α) (h : i < l.length) : l.getD ((i : Int)).toNat z = l[i] := by simp [h]
theorem u8_in {n : Int} (h : (Lit.int .u8 n).wf = true) : 0 ≤ n ∧ n ≤ 255 := by
  have e1 : IntKind.u8.min = 0 := by decide
  have e2 : IntKind.u8.max = 255 := by decide
  simp only [Lit.wf, e1, e2, Bool.and_eq_true, decide_eq_true_eq] at h; exact h
def wi (a lo hi : Int) : Bool := decide (lo ≤ a) && decide (a ≤ hi)
theorem wi_iff {a lo hi : Int} : wi a lo hi = true ↔ lo ≤ a ∧ a ≤ hi := by simp [wi]
theorem l6In_eq (a lo hi : Int) : spec_l6In.f a lo hi = some (wi a lo hi) := by
  unfold spec_l6In.f wi
  by_cases h : a ≥ lo
  · rw [if_pos h]; simp [h]
  · rw [if_neg h]; simp; omega
theorem within_eq (a lo hi : Int) : impl_within.f a lo hi = some (wi a lo hi) := by
  unfold impl_within.f wi
  by_cases h : a ≥ lo
  · rw [if_pos h]; simp [h]
  · rw [if_neg h]; simp; omega
theorem xor_nat (a b : Nat) (ha : a < 2 ^ 62) (hb : b < 2 ^ 62) : bits .xor .i64 (a : Int) (b : Int) = ((a ^^^ b : Nat) : Int) := by
  have ha' : a % 2 ^ 64 = a := Nat.mod_eq_of_lt (Nat.lt_of_lt_of_le ha (by decide))
  have hb' : b % 2 ^ 64 = b := Nat.mod_eq_of_lt (Nat.lt_of_lt_of_le hb (by decide))
  have hx : a ^^^ b < 2 ^ 62 := Nat.xor_lt_two_pow ha hb
  have e : IntKind.i64.bits = 64 := rfl
  simp only [bits, e, BitVec.ofInt_natCast, BitVec.toNat_xor, BitVec.toNat_ofNat, ha', hb']
  rw [IntKind.wrap_i64]; omega
theorem xor_nn (a b : Int) (ha : 0 ≤ a) (ha' : a < 4611686018427387904) (hb : 0 ≤ b) (hb' : b < 4611686018427387904) : 0 ≤ bits .xor .i64 a b := by
  obtain ⟨x, rfl⟩ := Int.eq_ofNat_of_zero_le ha
  obtain ⟨y, rfl⟩ := Int.eq_ofNat_of_zero_le hb
  rw [xor_nat x y (by omega) (by omega)]; omega
theorem tmod_in (x n : Int) (hx : 0 ≤ x) (hn : 1 ≤ n) : 0 ≤ Int.tmod x n ∧ Int.tmod x n < n := by
  rw [Int.tmod_eq_emod_of_nonneg hx]
  exact ⟨Int.emod_nonneg _ (by omega), Int.emod_lt_of_pos _ (by omega)⟩
def ByB (b : List Int) : Prop := ∀ i : Int, 0 ≤ rd b i ∧ rd b i ≤ 255
theorem byB_of {b : List Int} (h : ∀ x ∈ b, (Lit.int .u8 x).wf = true) : ByB b := by
  intro i
  unfold rd
  rw [List.getD_eq_getElem?_getD]
  cases e : b[i.toNat]? with
  | none => simp
  | some x => simpa using u8_in (h x (List.mem_of_getElem? e))
theorem pick_ev (b : List Int) (p n : Int) (hb : ByB b) (hl : (b.length : Int) ≤ 2000) (hp : 0 ≤ p) (hp' : p ≤ 1000000000) (hn : 1 ≤ n) (hn' : n ≤ 1000000000000) :
    ∃ v, Ev (fun k => spec_l6Rd_pick.f k b p n) (v, p + 1) ∧ 0 ≤ v ∧ v < n := by
  unfold spec_l6Rd_pick.f
  simp only [if_neg (show ¬ n < 1 by omega), wr (p + 1) (by omega)]
  by_cases e : b.length = 0
  · refine ⟨0, Ev.succ ?_, by omega, by omega⟩
    simp only [spec_l6Rd_pick.j0, e]
    exact Ev.now _
  · have e' : ((b.length : Int) == 0) = false := by simp; intro h; exact e (by simp [h])
    simp only [e']
    by_cases g : p < b.length
    · have hb1 := hb p
      have t := tmod_in (rd b p) n hb1.1 hn
      refine ⟨Int.tmod (rd b p) n, Ev.succ ?_, t.1, t.2⟩
      simp only [spec_l6Rd_pick.j0, show p + 1 - 1 = p by omega, wr p (by omega), if_pos g, if_pos hp, if_neg (show ¬ n = 0 by omega), wr (rd b p) (by omega), Bool.false_eq_true, if_false]
      exact Ev.now _
    · have hL : (1 : Int) ≤ b.length := by omega
      have q1 := tmod_in p b.length hp hL
      have q2 := tmod_in (p * 7 + 3) b.length (by omega) hL
      have b1 := hb (Int.tmod p b.length)
      have b2 := hb (Int.tmod (p * 7 + 3) b.length)
      have q3 : 0 ≤ Int.tdiv p b.length ∧ Int.tdiv p b.length ≤ p := by
        rw [Int.tdiv_eq_ediv_of_nonneg hp]
        exact ⟨Int.ediv_nonneg hp (by omega), Int.ediv_le_self _ hp⟩
      generalize hx : rd b (Int.tmod p b.length) = X at *
      generalize hy : rd b (Int.tmod (p * 7 + 3) b.length) = Y at *
      generalize hz : Int.tdiv p b.length = Z at *
      have q4 : 0 ≤ Int.tdiv (X * 131 + Y * 1117 + p * 29 + Z * 53) 64 ∧ Int.tdiv (X * 131 + Y * 1117 + p * 29 + Z * 53) 64 ≤ 4611686018427387903 := by
        rw [Int.tdiv_eq_ediv_of_nonneg (by omega)]; omega
      generalize hu : Int.tdiv (X * 131 + Y * 1117 + p * 29 + Z * 53) 64 = U at *
      have q5 := xor_nn (X * 131 + Y * 1117 + p * 29 + Z * 53) U (by omega) (by omega) (by omega) (by omega)
      have t := tmod_in _ n q5 hn
      refine ⟨Int.tmod (bits .xor .i64 (X * 131 + Y * 1117 + p * 29 + Z * 53) U) n, Ev.succ ?_, t.1, t.2⟩
      simp only [spec_l6Rd_pick.j0, show p + 1 - 1 = p by omega, wr p (by omega), if_neg g, if_neg (show ¬ (b.length : Int) = 0 by omega), if_pos q1.1, if_pos q1.2, wr (p * 7) (by omega), wr (p * 7 + 3) (by omega), if_pos q2.1, if_pos q2.2, if_neg (show ¬ n = 0 by omega), hx, hy, hz, wr X (by omega), wr Y (by omega), wr Z (by omega), wr (X * 131) (by omega), wr (Y * 1117) (by omega), wr (X * 131 + Y * 1117) (by omega), wr (p * 29) (by omega), wr (X * 131 + Y * 1117 + p * 29) (by omega), wr (Z * 53) (by omega), wr (X * 131 + Y * 1117 + p * 29 + Z * 53) (by omega), hu, wr U (by omega), Bool.false_eq_true, if_false]
      exact Ev.now _
theorem open_eq (l : List Int) (h : ∀ x ∈ l, (Lit.int .u8 x).wf = true) : ∃ b, spec_l6Open.f l = some (b, 0) ∧ ByB b ∧ (b.length : Int) ≤ 2000 := by
  unfold spec_l6Open.f
  by_cases g : (l.length : Int) > 2000
  · rw [if_pos g, if_pos (by omega)]
    exact ⟨_, rfl, byB_of fun x hx => h x (List.mem_of_mem_take hx), by simp; omega⟩
  · rw [if_neg g]
    exact ⟨_, rfl, byB_of h, by omega⟩
theorem rdE_at {l : List S44} {i : Nat} (h : i < l.length) : rd_T44 l (i : Int) = l[i] := getD_at _ h
theorem entry_ev (b : List Int) (p : Int) (hb : ByB b) (hl : (b.length : Int) ≤ 2000) (hp : 0 ≤ p) (hp' : p ≤ 100000000) :
    ∃ h q w p', Ev (fun k => spec_l71Entry.f k b p) (h, q, w, p') ∧ p ≤ p' ∧ p' ≤ p + 3 ∧ -1 ≤ q ∧ q ≤ 6 := by
  unfold spec_l71Entry.f
  obtain ⟨v, h1, v1, v2⟩ := pick_ev b p 20 hb hl (by omega) (by omega) (by omega) (by omega)
  obtain ⟨u, h2, u1, u2⟩ := pick_ev b (p + 1) 2 hb hl (by omega) (by omega) (by omega) (by omega)
  obtain ⟨z, h3, z1, z2⟩ := pick_ev b (p + 1) 6 hb hl (by omega) (by omega) (by omega) (by omega)
  obtain ⟨y, h4, y1, y2⟩ := pick_ev b (p + 1 + 1) 2 hb hl (by omega) (by omega) (by omega) (by omega)
  by_cases c0 : v = 0
  · obtain rfl | rfl : u = 0 ∨ u = 1 := by omega
    · refine ⟨true, -1, false, p + 1 + 1, Ev.bind h1 ?_, by omega, by omega, by omega, by omega⟩
      simp only [if_pos c0, Option.bind_some]
      exact Ev.bind h2 (Ev.now _)
    · refine ⟨true, 6, false, p + 1 + 1, Ev.bind h1 ?_, by omega, by omega, by omega, by omega⟩
      simp only [if_pos c0, Option.bind_some]
      exact Ev.bind h2 (Ev.now _)
  by_cases c1 : v = 1
  · obtain rfl | rfl : u = 0 ∨ u = 1 := by omega
    · refine ⟨false, 1, false, p + 1 + 1, Ev.bind h1 ?_, by omega, by omega, by omega, by omega⟩
      simp only [if_neg c0, if_pos c1, Option.bind_some]
      exact Ev.bind h2 (Ev.now _)
    · refine ⟨false, 0, true, p + 1 + 1, Ev.bind h1 ?_, by omega, by omega, by omega, by omega⟩
      simp only [if_neg c0, if_pos c1, Option.bind_some]
      exact Ev.bind h2 (Ev.now _)
  have J1 : Ev (fun k => spec_l71Entry.j0 k true b (p + 1)) (false, 0, false, p + 1) := by
    refine Ev.succ ?_
    simp only [spec_l71Entry.j0, if_true]
    exact Ev.now _
  have J0 : Ev (fun k => spec_l71Entry.j0 k false b (p + 1)) (true, z, (y == 0), p + 1 + 1 + 1) := by
    refine Ev.succ ?_
    simp only [spec_l71Entry.j0, Bool.false_eq_true, if_false]
    exact Ev.bind h3 (Ev.bind h4 (Ev.now _))
  by_cases c2 : v = 2
  · refine ⟨false, 0, false, p + 1, Ev.bind h1 ?_, by omega, by omega, by omega, by omega⟩
    simp only [if_neg c0, if_neg c1, if_pos c2, show (v == 2) = true by simpa using c2]; exact J1
  by_cases c3 : v = 3
  · refine ⟨false, 0, false, p + 1, Ev.bind h1 ?_, by omega, by omega, by omega, by omega⟩
    simp only [if_neg c0, if_neg c1, if_neg c2, if_pos c3, show (v == 3) = true by simpa using c3]; exact J1
  by_cases c4 : v = 4
  · refine ⟨false, 0, false, p + 1, Ev.bind h1 ?_, by omega, by omega, by omega, by omega⟩
    simp only [if_neg c0, if_neg c1, if_neg c2, if_neg c3, if_pos c4, show (v == 4) = true by simpa using c4]; exact J1
  by_cases c5 : v = 5
  · refine ⟨false, 0, false, p + 1, Ev.bind h1 ?_, by omega, by omega, by omega, by omega⟩
    simp only [if_neg c0, if_neg c1, if_neg c2, if_neg c3, if_neg c4, show (v == 5) = true by simpa using c5]; exact J1
  · refine ⟨true, z, (y == 0), p + 1 + 1 + 1, Ev.bind h1 ?_, by omega, by omega, by omega, by omega⟩
    simp only [if_neg c0, if_neg c1, if_neg c2, if_neg c3, if_neg c4, show (v == 5) = false by simpa using c5]; exact J0
def entB (e : S44) : Bool := if e.f0 = true then wi e.f1 0 5 else (e.f1 == 0 && (!e.f2))
def tabB (l : List S44) : Bool := l.all entB && ((l.length : Int) == 6)
theorem l1Entry_eq (e : S44) : spec_l1Entry.f e.f0 e.f1 e.f2 = some (entB e) := by
  unfold spec_l1Entry.f entB
  by_cases h : e.f0 = true
  · rw [if_pos h, if_pos h, l6In_eq]; rfl
  · rw [if_neg h, if_neg h]; simp [h]
theorem sTabOk_ev (l : List S44) (hl : (l.length : Int) ≤ 1000000000000000) : Ev (fun k => spec_TabOk.f k l) (tabB l) := by
  unfold spec_TabOk.f
  have H := Ev.down (σ := Unit) (fun k i _ => spec_TabOk.l0 k l i) (fun i _ => (l.drop i).all entB && ((l.length : Int) == 6)) l.length
    (fun _ => Ev.succ (by simp only [spec_TabOk.l0, Int.lt_irrefl, if_false]; exact Ev.cast (by simp) (Ev.now _)))
    (fun i hi ih _ => by
      refine Ev.succ ?_
      simp only [spec_TabOk.l0, if_pos (Int.ofNat_lt.mpr hi), if_pos (Int.natCast_nonneg i), rdE_at hi, l1Entry_eq, Option.bind_some, wr1 i (by omega)]
      rw [drop_cons hi, List.all_cons]
      cases h : entB l[i]
      · exact Ev.now _
      · exact ih ())
  exact H ()
theorem iTabOk_ev (l : List S44) (hl : (l.length : Int) ≤ 1000000000000000) : Ev (fun k => impl_TabOk.f k l) (tabB l) := by
  unfold impl_TabOk.f
  have H := Ev.down (σ := Unit) (fun k i _ => impl_TabOk.l0 k l l l.length i) (fun i _ => (l.drop i).all entB && ((l.length : Int) == 6)) l.length
    (fun _ => Ev.succ (by simp only [impl_TabOk.l0, Int.lt_irrefl, if_false]; exact Ev.cast (by simp) (Ev.now _)))
    (fun i hi ih _ => by
      refine Ev.succ ?_
      simp only [impl_TabOk.l0, if_pos (Int.ofNat_lt.mpr hi), if_pos (Int.natCast_nonneg i), rdE_at hi, within_eq, Option.bind_some, wr1 i (by omega)]
      rw [drop_cons hi, List.all_cons]
      unfold entB
      by_cases h : l[i].f0 = true
      · simp only [if_pos h]
        cases g : wi l[i].f1 0 5
        · exact Ev.now _
        · exact ih ()
      · simp only [if_neg h]
        cases g : (l[i].f1 == 0 && (!l[i].f2))
        · rw [show (l[i].f0 || (!(l[i].f1 == 0) || l[i].f2)) = true by revert g h; cases l[i].f0 <;> cases l[i].f2 <;> simp]
          exact Ev.now _
        · have g1 : l[i].f1 = 0 := by revert g; simp; intro a _; exact a
          rw [show (l[i].f0 || (!(l[i].f1 == 0) || l[i].f2)) = false by revert g h; cases l[i].f0 <;> cases l[i].f2 <;> simp]
          simp only [Bool.false_eq_true, if_false, g1, show wi 0 0 5 = true from rfl, if_true]
          exact ih ())
  exact H ()
theorem fine_ev (b : List Int) (p : Int) (hb : ByB b) (hl : (b.length : Int) ≤ 2000) (hp : 0 ≤ p) (hp' : p ≤ 100000000) :
    ∃ h q w p', Ev (fun k => spec_l71Fine.f k b p) (h, q, w, p') ∧ p ≤ p' ∧ p' ≤ p + 3 ∧ -1 ≤ q ∧ q ≤ 6 := by
  unfold spec_l71Fine.f
  obtain ⟨v, h1, v1, v2⟩ := pick_ev b p 4 hb hl (by omega) (by omega) (by omega) (by omega)
  obtain ⟨z, h3, z1, z2⟩ := pick_ev b (p + 1) 6 hb hl (by omega) (by omega) (by omega) (by omega)
  obtain ⟨y, h4, y1, y2⟩ := pick_ev b (p + 1 + 1) 2 hb hl (by omega) (by omega) (by omega) (by omega)
  by_cases c0 : v = 0
  · refine ⟨false, 0, false, p + 1, Ev.bind h1 ?_, by omega, by omega, by omega, by omega⟩
    simp only [if_pos c0]; exact Ev.now _
  · refine ⟨true, z, (y == 0), p + 1 + 1 + 1, Ev.bind h1 ?_, by omega, by omega, by omega, by omega⟩
    simp only [if_neg c0]; exact Ev.bind h3 (Ev.bind h4 (Ev.now _))
theorem tab_ev (b : List Int) (p : Int) (hb : ByB b) (hl : (b.length : Int) ≤ 2000) (hp : 0 ≤ p) (hp' : p ≤ 10000000) :
    ∃ tab p', Ev (fun k => spec_l71Tab.f k b p) (tab, p') ∧ p ≤ p' ∧ p' ≤ p + 100 ∧ 5 ≤ tab.length ∧ tab.length ≤ 6 := by
  unfold spec_l71Tab.f
  have H : ∀ d i : Nat, i + d = 6 → ∀ (xs : List S44) (p : Int), xs.length = i → 0 ≤ p → p ≤ 10000000 + 3 * i →
      ∃ tab p', Ev (fun k => spec_l71Tab.l0 k xs (i : Int) b p) (tab, p') ∧ p ≤ p' ∧ p' ≤ p + 3 * d + 10 ∧ 5 ≤ tab.length ∧ tab.length ≤ 6 := by
    intro d
    induction d with
    | zero =>
      intro i hi xs p hx h0 h1
      obtain rfl : i = 6 := by omega
      obtain ⟨v, g1, v1, v2⟩ := pick_ev b p 20 hb hl (by omega) (by omega) (by omega) (by omega)
      obtain ⟨u, g2, u1, u2⟩ := pick_ev b (p + 1) xs.length hb hl (by omega) (by omega) (by omega) (by omega)
      obtain ⟨a, q, w, p', g3, _, _, _, _⟩ := entry_ev b (p + 1 + 1) hb hl (by omega) (by omega)
      by_cases c0 : v = 0
      · refine ⟨xs.set u.toNat ⟨a, q, w⟩, p', Ev.succ ?_, by omega, by omega, by simp [hx], by simp [hx]⟩
        simp only [spec_l71Tab.l0, if_neg (show ¬ ((6 : Nat) : Int) < 6 by omega)]
        refine Ev.bind g1 ?_
        simp only [if_pos c0]
        refine Ev.bind g2 (Ev.bind g3 ?_)
        simp only [if_pos u1, if_pos u2]
        exact Ev.now _
      · by_cases c1 : v = 1
        · refine ⟨xs.drop 1, p + 1, Ev.succ ?_, by omega, by omega, by simp [hx], by simp [hx]⟩
          simp only [spec_l71Tab.l0, if_neg (show ¬ ((6 : Nat) : Int) < 6 by omega)]
          refine Ev.bind g1 ?_
          simp only [if_neg c0, if_pos c1, if_pos (show (1 : Int) ≤ xs.length by omega)]
          exact Ev.now _
        · refine ⟨xs, p + 1, Ev.succ ?_, by omega, by omega, by omega, by omega⟩
          simp only [spec_l71Tab.l0, if_neg (show ¬ ((6 : Nat) : Int) < 6 by omega)]
          refine Ev.bind g1 ?_
          simp only [if_neg c0, if_neg c1]
          exact Ev.now _
    | succ d ih =>
      intro i hi xs p hx h0 h1
      obtain ⟨a, q, w, p1, g, a1, a2, _, _⟩ := fine_ev b p hb hl h0 (by omega)
      obtain ⟨tab, p', g', b1, b2, b3, b4⟩ := ih (i + 1) (by omega) (xs ++ [⟨a, q, w⟩]) p1 (by simp [hx]) (by omega) (by omega)
      refine ⟨tab, p', Ev.succ ?_, by omega, by omega, b3, b4⟩
      simp only [spec_l71Tab.l0, if_pos (show (i : Int) < 6 by omega)]
      refine Ev.bind g ?_
      simp only [if_pos (show xs.length < 5864062014805 by omega), wr1 i (by omega)]
      exact g'
  obtain ⟨tab, p', g, a1, a2, a3, a4⟩ := H 6 0 (by omega) [] p rfl hp (by omega)
  exact ⟨tab, p', g, a1, by omega, a3, a4⟩
theorem lkTab_refl (l : List S44) (hl : (l.length : Int) ≤ 1000000000000000) : Ev (fun k => laws_lkTab.f k l l) true := by
  unfold laws_lkTab.f
  simp only [if_true]
  have H := Ev.down (σ := Unit) (fun k i _ => laws_lkTab.l0 k l l i) (fun i _ => true) l.length
    (fun _ => Ev.succ (by simp only [laws_lkTab.l0, Int.lt_irrefl, if_false]; exact Ev.now _))
    (fun i hi ih _ => by
      refine Ev.succ ?_
      simp only [laws_lkTab.l0, if_pos (Int.ofNat_lt.mpr hi), if_pos (Int.natCast_nonneg i), beq_self_eq_true, Bool.not_true, Bool.or_self, Bool.false_eq_true, if_false, wr1 i (by omega)]
      exact ih ())
  exact H ()
theorem ba_append (a b : List UInt8) : (⟨a.toArray⟩ ++ ⟨b.toArray⟩ : ByteArray) = ⟨(a ++ b).toArray⟩ := ByteArray.ext (by simp [ByteArray.data_append])
theorem ba_size (a : List UInt8) : (⟨a.toArray⟩ : ByteArray).size = a.length := by show a.toArray.size = a.length; simp
theorem ba_loop (b : ByteArray) (i : Nat) (r : List UInt8) (h : i ≤ b.size) : ByteArray.toList.loop b i r = r.reverse ++ b.data.toList.drop i := by
  have hs : b.size = b.data.toList.length := by rw [Array.length_toList]; rfl
  have H : ∀ d i r, i + d = b.size → ByteArray.toList.loop b i r = r.reverse ++ b.data.toList.drop i := by
    intro d
    induction d with
    | zero =>
      intro i r hi
      unfold ByteArray.toList.loop
      rw [if_neg (by omega), List.drop_eq_nil_of_le (by omega), List.append_nil]
    | succ d ih =>
      intro i r hi
      unfold ByteArray.toList.loop
      rw [if_pos (by omega), ih (i + 1) _ (by omega)]
      have hl : i < b.data.toList.length := by omega
      have hl' : i < b.data.size := by simpa using hl
      rw [List.drop_eq_getElem_cons hl]
      have : b.get! i = b.data.toList[i] := by
        rw [Array.getElem_toList]
        show b.data[i]! = b.data[i]
        exact getElem!_pos b.data i hl'
      rw [this]; simp
  exact H (b.size - i) i r (by omega)
theorem ba_toList (a : List UInt8) : (⟨a.toArray⟩ : ByteArray).toList = a := by
  unfold ByteArray.toList
  rw [ba_loop _ _ _ (Nat.zero_le _)]; simp
def dig (p : Int) : UInt8 := UInt8.ofNat (48 + p.toNat)
def entT (e : S44) : List UInt8 := (if e.f0 = true then [dig e.f1] else [45]) ++ (if e.f2 = true then [119] else [])
def tabS (l : List S44) : List UInt8 := Lib.join (l.map entT) [32] ++ [10]
def tabTx (l : List S44) : ByteArray := if tabB l = true then ⟨(tabS l).toArray⟩ else ⟨#[]⟩
theorem entT_len (e : S44) : (entT e).length ≤ 2 := by unfold entT; split <;> split <;> simp
theorem join_step (x y : List UInt8) (r : List (List UInt8)) : Lib.join (x :: y :: r) [32] = x ++ ([32] ++ Lib.join (y :: r) [32]) := by
  rw [Lib.join_cons, Lib.join_cons]; simp [Lib.joinTail]
theorem join_len (l : List S44) : (Lib.join (l.map entT) [32]).length ≤ 3 * l.length := by
  induction l with
  | nil => simp [Lib.join_nil]
  | cons e r ih =>
    have he := entT_len e
    cases r with
    | nil => simp only [List.map_cons, List.map_nil, Lib.join_one, List.length_cons, List.length_nil]; omega
    | cons e2 r2 =>
      simp only [List.map_cons] at ih ⊢
      rw [join_step]
      simp only [List.length_append, List.length_cons, List.length_nil] at ih ⊢
      omega
theorem tT_ent {l : List S44} (h : tabB l = true) {e : S44} (he : e ∈ l) : entB e = true := by
  simp only [tabB, Bool.and_eq_true, List.all_eq_true] at h; exact h.1 e he
theorem tT_len {l : List S44} (h : tabB l = true) : l.length = 6 := by
  simp only [tabB, Bool.and_eq_true, List.all_eq_true, beq_iff_eq] at h; omega
theorem tT_page {e : S44} (h : entB e = true) (h0 : e.f0 = true) : 0 ≤ e.f1 ∧ e.f1 ≤ 5 := by
  unfold entB at h; rw [if_pos h0] at h; exact wi_iff.mp h
theorem ent_none {e : S44} (h : entB e = true) (h0 : ¬ e.f0 = true) : e.f1 = 0 ∧ e.f2 = false := by
  unfold entB at h; rw [if_neg h0] at h; simpa using h
theorem tabTx_list (l : List S44) : (tabTx l).toList = if tabB l = true then tabS l else [] := by
  unfold tabTx
  by_cases h : tabB l = true
  · rw [if_pos h, if_pos h, ba_toList]
  · rw [if_neg h, if_neg h]; exact ba_toList []
theorem decDig (p : Int) (h : 0 ≤ p ∧ p ≤ 5) : (⟨(Lib.decDigits p.toNat).toArray⟩ : ByteArray) = ⟨[dig p].toArray⟩ := by
  unfold Lib.decDigits
  rw [dif_pos (show p.toNat < 10 by omega)]; rfl
theorem iTabText_ev (l : List S44) (hl : (l.length : Int) ≤ 1000000000000) : Ev (fun k => impl_TabText.f k l) (tabTx l) := by
  unfold impl_TabText.f tabTx
  refine Ev.bind (iTabOk_ev l (by omega)) ?_
  cases hb : tabB l
  · simp only [Bool.false_eq_true, if_false]; exact Ev.now _
  simp only [if_true]
  have h6 := tT_len hb
  have H : ∀ d i : Nat, i + d = l.length → ∀ xs : List ByteArray, xs = (l.take i).map (fun e => (⟨(entT e).toArray⟩ : ByteArray)) → Ev (fun k => impl_TabText.l0 k xs l l.length (i : Int)) (⟨(tabS l).toArray⟩ : ByteArray) := by
    intro d
    induction d with
    | zero =>
      intro i hi xs hx
      obtain rfl : i = l.length := by omega
      rw [List.take_length] at hx
      have hj : Lib.join (xs.map (·.data.toList)) [32] = Lib.join (l.map entT) [32] := by rw [hx]; simp [Function.comp_def]
      have hn := join_len l
      have hxl : xs.length = 6 := by rw [hx]; simp [h6]
      have e : strings_Join.f xs (⟨#[32]⟩ : ByteArray) = some ⟨(Lib.join (l.map entT) [32]).toArray⟩ := by
        unfold strings_Join.f
        rw [show ((⟨#[32]⟩ : ByteArray).data.toList) = [32] from rfl, hj, if_pos ⟨by omega, by omega⟩]
      refine Ev.succ ?_
      simp only [impl_TabText.l0, Int.lt_irrefl, if_false, e, Option.bind_some, ba_size, if_pos (show (Lib.join (l.map entT) [32]).length + 1 ≤ 9223372036854775807 by omega)]
      exact Ev.cast (by unfold tabS; rw [← ba_append]) (Ev.now _)
    | succ d ih =>
      intro i hi xs hx
      have hlt : i < l.length := by omega
      have hxl : xs.length = i := by rw [hx]; simp; omega
      have he := tT_ent hb (List.getElem_mem hlt)
      have ih' := ih (i + 1) (by omega) (xs ++ [⟨(entT l[i]).toArray⟩]) (by rw [hx, List.take_succ_eq_append_getElem hlt, List.map_append]; rfl)
      refine Ev.succ ?_
      simp only [impl_TabText.l0, if_pos (Int.ofNat_lt.mpr hlt), if_pos (Int.natCast_nonneg i), rdE_at hlt, wr1 i (by omega), if_pos (show xs.length < 8796093022208 by omega)]
      by_cases h0 : l[i].f0 = true
      · have hp := tT_page he h0
        have e : strconv_Itoa_23.f l[i].f1 = some ⟨[dig l[i].f1].toArray⟩ := by
          unfold strconv_Itoa_23.f
          rw [if_pos hp.1, if_pos (by omega), decDig _ hp]
        simp only [if_pos h0, e, Option.bind_some, ba_size, if_pos (show [dig l[i].f1].length + 1 ≤ 9223372036854775807 by simp)]
        by_cases h2 : l[i].f2 = true
        · simp only [if_pos h2]
          rw [show entT l[i] = [dig l[i].f1] ++ [119] by unfold entT; rw [if_pos h0, if_pos h2], ← ba_append] at ih'
          exact ih'
        · simp only [if_neg h2]
          rw [show entT l[i] = [dig l[i].f1] by unfold entT; rw [if_pos h0, if_neg h2, List.append_nil]] at ih'
          exact ih'
      · have h2 := (ent_none he h0).2
        simp only [if_neg h0]
        rw [show entT l[i] = [45] by unfold entT; rw [if_neg h0, h2]; simp] at ih'
        exact ih'
  exact H l.length 0 (by omega) [] rfl
theorem l6Dec_ev (p : Int) (h : 0 ≤ p ∧ p ≤ 5) : Ev (fun k => spec_l6Dec.f k p) (⟨[dig p].toArray⟩ : ByteArray) := by
  refine Ev.succ ?_
  simp only [spec_l6Dec.f, if_neg (show ¬ p < -9223372036854775807 by omega), if_neg (show ¬ p < 0 by omega), if_pos (show p < 10 by omega), wr (48 + p) (by omega)]
  exact Ev.cast (by unfold strOfNums dig; rw [show ((48 + p) % 256 : Int) = 48 + p by omega]; simp [show (48 + p).toNat = 48 + p.toNat by omega]) (Ev.now _)
theorem sTabText_ev (l : List S44) (hl : (l.length : Int) ≤ 1000000000000) : Ev (fun k => spec_TabText.f k l) (tabTx l) := by
  unfold spec_TabText.f tabTx
  refine Ev.bind (sTabOk_ev l (by omega)) ?_
  cases hb : tabB l
  · simp only [Bool.false_eq_true, if_false]; exact Ev.now _
  simp only [if_true]
  have h6 := tT_len hb
  have H : ∀ d i : Nat, i + d = l.length → ∀ s : List UInt8, s.length ≤ 3 * i → Ev (fun k => spec_TabText.l0 k l ⟨s.toArray⟩ (i : Int)) (⟨(s ++ (Lib.join ((l.drop i).map entT) [32] ++ [10])).toArray⟩ : ByteArray) := by
    intro d
    induction d with
    | zero =>
      intro i hi s hs
      obtain rfl : i = l.length := by omega
      refine Ev.succ ?_
      simp only [spec_TabText.l0, Int.lt_irrefl, if_false, ba_size, if_pos (show s.length + 1 ≤ 9223372036854775807 by omega)]
      exact Ev.cast (by rw [List.drop_length, List.map_nil, Lib.join_nil, List.nil_append, ← ba_append]) (Ev.now _)
    | succ d ih =>
      intro i hi s hs
      have hlt : i < l.length := by omega
      have he := tT_ent hb (List.getElem_mem hlt)
      have J : ∀ t : List UInt8, t.length ≤ 1 → t ++ (if l[i].f2 = true then [119] else []) = entT l[i] → Ev (fun k => spec_TabText.j1 k l ⟨(s ++ t).toArray⟩ (i : Int)) (⟨(s ++ (Lib.join ((l.drop i).map entT) [32] ++ [10])).toArray⟩ : ByteArray) := by
        intro t ht hte
        have hstep : ∀ u : List UInt8, u = s ++ entT l[i] → ((i + 1 < l.length → Ev (fun k => spec_TabText.l0 k l ⟨(u ++ [32]).toArray⟩ ((i + 1 : Nat) : Int)) (⟨(s ++ (Lib.join ((l.drop i).map entT) [32] ++ [10])).toArray⟩ : ByteArray)) ∧ (¬ i + 1 < l.length → Ev (fun k => spec_TabText.l0 k l ⟨u.toArray⟩ ((i + 1 : Nat) : Int)) (⟨(s ++ (Lib.join ((l.drop i).map entT) [32] ++ [10])).toArray⟩ : ByteArray))) := by
          intro u hu
          have hel := entT_len l[i]
          constructor
          · intro hn
            refine Ev.cast ?_ (ih (i + 1) (by omega) (u ++ [32]) (by rw [hu]; simp; omega))
            rw [drop_cons hlt, drop_cons hn]
            simp only [List.map_cons]
            rw [join_step, hu]
            simp [List.append_assoc]
          · intro hn
            refine Ev.cast ?_ (ih (i + 1) (by omega) u (by rw [hu]; simp; omega))
            rw [drop_cons hlt, List.drop_eq_nil_of_le (show l.length ≤ i + 1 by omega), List.map_cons, List.map_nil, Lib.join_one, Lib.join_nil, hu]
            simp [List.append_assoc]
        refine Ev.succ ?_
        simp only [spec_TabText.j1, if_pos (Int.natCast_nonneg i), if_pos (Int.ofNat_lt.mpr hlt), rdE_at hlt, wr1 i (by omega), ba_size]
        have hsl : (s ++ t).length ≤ 3 * i + 1 := by simp; omega
        simp only [if_pos (show (s ++ t).length + 1 ≤ 9223372036854775807 by omega)]
        by_cases h2 : l[i].f2 = true
        · rw [if_pos h2] at hte
          have hc := hstep (s ++ t ++ [119]) (by rw [← hte, List.append_assoc])
          simp only [if_pos h2]
          rw [show (⟨#[119]⟩ : ByteArray) = ⟨[119].toArray⟩ from rfl, ba_append, show (⟨#[32]⟩ : ByteArray) = ⟨[32].toArray⟩ from rfl, ba_append]
          by_cases hn : i + 1 < l.length
          · simp only [if_pos (show ((i + 1 : Nat) : Int) < (l.length : Int) by omega), ba_size, if_pos (show (s ++ t ++ [119]).length + 1 ≤ 9223372036854775807 by simp at hsl ⊢; omega)]
            exact hc.1 hn
          · simp only [if_neg (show ¬ ((i + 1 : Nat) : Int) < (l.length : Int) by omega)]
            exact hc.2 hn
        · rw [if_neg h2, List.append_nil] at hte
          have hc := hstep (s ++ t) (by rw [← hte])
          simp only [if_neg h2]
          rw [show (⟨#[32]⟩ : ByteArray) = ⟨[32].toArray⟩ from rfl, ba_append]
          by_cases hn : i + 1 < l.length
          · simp only [if_pos (show ((i + 1 : Nat) : Int) < (l.length : Int) by omega)]
            exact hc.1 hn
          · simp only [if_neg (show ¬ ((i + 1 : Nat) : Int) < (l.length : Int) by omega)]
            exact hc.2 hn
      refine Ev.succ ?_
      simp only [spec_TabText.l0, if_pos (Int.ofNat_lt.mpr hlt), if_pos (Int.natCast_nonneg i), rdE_at hlt]
      by_cases h0 : l[i].f0 = true
      · have hp := tT_page he h0
        simp only [if_pos h0]
        refine Ev.bind (l6Dec_ev _ hp) ?_
        simp only [ba_size, if_pos (show s.length + [dig l[i].f1].length ≤ 9223372036854775807 by simp; omega), ba_append]
        exact J [dig l[i].f1] (by simp) (by unfold entT; rw [if_pos h0])
      · simp only [if_neg h0, ba_size, if_pos (show s.length + 1 ≤ 9223372036854775807 by omega), show (⟨#[45]⟩ : ByteArray) = ⟨[45].toArray⟩ from rfl, ba_append]
        exact J [45] (by simp) (by unfold entT; rw [if_neg h0])
  have := H l.length 0 (by omega) [] (by simp)
  simpa [tabS] using this
theorem dig_ne {p : Int} (hp : 0 ≤ p ∧ p ≤ 5) : dig p ≠ 45 ∧ dig p ≠ 32 ∧ dig p ≠ 119 ∧ dig p ≠ 10 := by
  obtain rfl | rfl | rfl | rfl | rfl | rfl : p = 0 ∨ p = 1 ∨ p = 2 ∨ p = 3 ∨ p = 4 ∨ p = 5 := by omega
  all_goals decide
theorem entT_no32 {a : S44} (ha : entB a = true) : (32 : UInt8) ∉ entT a := by
  unfold entT
  by_cases h0 : a.f0 = true
  · have := (dig_ne (tT_page ha h0)).2.1
    rw [if_pos h0]; split <;> simp [this.symm]
  · rw [if_neg h0]; split <;> simp
theorem ba_extract (l : List UInt8) (a b : Nat) : (⟨l.toArray⟩ : ByteArray).extract a b = ⟨((l.drop a).take (b - a)).toArray⟩ := by
  apply ByteArray.ext
  simp [ByteArray.data_extract]
theorem ix_hit : ∀ (x t : List UInt8), (32 : UInt8) ∉ x → Lib.index (x ++ 32 :: t) [32] = (x.length : Int)
  | [], t, _ => by simp [Lib.index, List.isPrefixOf]
  | b :: l, t, h => by
    have hb : ¬ b = 32 := fun e => h (by simp [e])
    have hp : ([32] : List UInt8).isPrefixOf (b :: (l ++ 32 :: t)) = false := by simp [List.isPrefixOf, Ne.symm hb]
    have ih := ix_hit l t (fun z => h (List.mem_cons_of_mem _ z))
    rw [List.cons_append, Lib.index, hp, ih]
    simp
theorem cnt_join : ∀ (ws : List (List UInt8)), ws ≠ [] → (∀ w ∈ ws, (32 : UInt8) ∉ w) → (Lib.join ws [32]).count 32 = ws.length - 1
  | [], h, _ => absurd rfl h
  | [w], _, h => by rw [Lib.join_one, List.count_eq_zero.mpr (h w (by simp))]; rfl
  | w :: w2 :: r, _, h => by
    have ih := cnt_join (w2 :: r) (by simp) (fun z hz => h z (List.mem_cons_of_mem _ hz))
    rw [join_step, List.count_append, List.count_append, ih, List.count_eq_zero.mpr (h w (by simp))]
    simp; omega
theorem split_join : ∀ (ws : List (List UInt8)), ws ≠ [] → (∀ w ∈ ws, (32 : UInt8) ∉ w) → Lib.splitB (⟨#[32]⟩ : ByteArray) 0 (ws.length - 1) ⟨(Lib.join ws [32]).toArray⟩ = ws.map (fun w => (⟨w.toArray⟩ : ByteArray))
  | [], h, _ => absurd rfl h
  | [w], _, _ => by rw [Lib.join_one]; rfl
  | w :: w2 :: r, _, h => by
    have ih := split_join (w2 :: r) (by simp) (fun z hz => h z (List.mem_cons_of_mem _ hz))
    have hw := h w (by simp)
    have hi : Lib.indexB ⟨(Lib.join (w :: w2 :: r) [32]).toArray⟩ (⟨#[32]⟩ : ByteArray) = (w.length : Int) := by
      show Lib.index (Lib.join (w :: w2 :: r) [32]) [32] = _
      rw [join_step]
      exact ix_hit w _ hw
    show Lib.splitB _ 0 ((w2 :: r).length - 1 + 1) _ = _
    rw [Lib.splitB, hi, if_neg (by simp), ba_extract, ba_extract]
    have e1 : ((Lib.join (w :: w2 :: r) [32]).drop 0).take ((w.length : Int).toNat + 0 - 0) = w := by
      rw [join_step]; simp
    have e2 : ((Lib.join (w :: w2 :: r) [32]).drop ((w.length : Int).toNat + (⟨#[32]⟩ : ByteArray).size)).take ((⟨(Lib.join (w :: w2 :: r) [32]).toArray⟩ : ByteArray).size - ((w.length : Int).toNat + (⟨#[32]⟩ : ByteArray).size)) = Lib.join (w2 :: r) [32] := by
      rw [join_step, show (⟨#[32]⟩ : ByteArray).size = 1 from rfl, Int.toNat_natCast]
      rw [List.take_of_length_le (by show _ ≤ (w ++ ([32] ++ Lib.join (w2 :: r) [32])).toArray.size - _; simp; omega)]
      rw [← List.append_assoc, show w.length + 1 = (w ++ [32]).length by simp, List.drop_left]
    rw [e1, e2, ih]
    rfl
theorem cut_ent {e : S44} (he : entB e = true) : strings_CutSuffix.f ⟨(entT e).toArray⟩ (⟨#[119]⟩ : ByteArray) = some (⟨(if e.f0 = true then [dig e.f1] else [45]).toArray⟩, e.f2) := by
  unfold strings_CutSuffix.f
  have hl := entT_len e
  rw [if_pos (by rw [ba_size]; omega)]
  show some ((⟨(Lib.trimSuffix (entT e) [119]).toArray⟩ : ByteArray), Lib.hasSuffix (entT e) [119]) = _
  unfold Lib.trimSuffix Lib.hasSuffix
  obtain ⟨e0, e1, e2⟩ := e
  cases e0
  · have x := ent_none he (by simp)
    simp only at x
    rw [x.2]
    rfl
  · have hp := tT_page he rfl
    have hd := (dig_ne hp).2.2.1
    simp only at hp hd
    cases e2
    · have : ([119] : List UInt8).isSuffixOf (entT (⟨true, e1, false⟩ : S44)) = false := by
        simp [entT, List.isSuffixOf, List.isPrefixOf, hd.symm]
      rw [this]; rfl
    · have : ([119] : List UInt8).isSuffixOf (entT (⟨true, e1, true⟩ : S44)) = true := by
        simp [entT, List.isSuffixOf, List.isPrefixOf]
      rw [this]; rfl
theorem atoi_dig {p : Int} (hp : 0 ≤ p ∧ p ≤ 5) : strconv_Atoi_30.f ⟨[dig p].toArray⟩ = some (p, none) := by
  obtain rfl | rfl | rfl | rfl | rfl | rfl : p = 0 ∨ p = 1 ∨ p = 2 ∨ p = 3 ∨ p = 4 ∨ p = 5 := by omega
  all_goals rfl
theorem atoi_dash : strconv_Atoi_30.f ⟨[45].toArray⟩ = some (0, some 0) := rfl
theorem trim_nl (s : List UInt8) (hs : s.length ≤ 1000) : strings_TrimSuffix.f ⟨(s ++ [10]).toArray⟩ (⟨#[10]⟩ : ByteArray) = some ⟨s.toArray⟩ := by
  unfold strings_TrimSuffix.f
  rw [if_pos (by rw [ba_size]; simp; omega)]
  show some (⟨(Lib.trimSuffix (s ++ [10]) [10]).toArray⟩ : ByteArray) = _
  unfold Lib.trimSuffix Lib.hasSuffix
  have : ([10] : List UInt8).isSuffixOf (s ++ [10]) = true := by simp [List.isSuffixOf, List.isPrefixOf]
  rw [this]; simp
theorem split_tab (l : List S44) (hb : tabB l = true) : strings_Split.f ⟨(Lib.join (l.map entT) [32]).toArray⟩ (⟨#[32]⟩ : ByteArray) = some (l.map (fun e => (⟨(entT e).toArray⟩ : ByteArray))) := by
  have h6 := tT_len hb
  have hn : ∀ w ∈ l.map entT, (32 : UInt8) ∉ w := by
    intro w hw
    obtain ⟨e, he, rfl⟩ := List.mem_map.mp hw
    exact entT_no32 (tT_ent hb he)
  have hne : l.map entT ≠ [] := by intro x; have := congrArg List.length x; rw [List.length_map, h6] at this; exact absurd this (by decide)
  have hj := join_len l
  unfold strings_Split.f
  rw [if_pos ⟨by rw [ba_size]; omega, by decide⟩]
  have hc : Lib.countB ⟨(Lib.join (l.map entT) [32]).toArray⟩ (⟨#[32]⟩ : ByteArray) = (l.map entT).length - 1 := by
    show Lib.count (Lib.join (l.map entT) [32]) [32] = _
    rw [Lib.count_one]; exact cnt_join _ hne hn
  rw [hc, split_join _ hne hn, List.map_map]
  rfl
theorem tabRead_ev (l : List S44) (hb : tabB l = true) : Ev (fun k => impl_TabRead.f k ⟨(tabS l).toArray⟩) (l, true) := by
  have h6 := tT_len hb
  have hj := join_len l
  unfold impl_TabRead.f
  simp only [show strings_TrimSuffix.f ⟨(tabS l).toArray⟩ (⟨#[10]⟩ : ByteArray) = some ⟨(Lib.join (l.map entT) [32]).toArray⟩ from trim_nl _ (by omega), Option.bind_some, split_tab l hb, List.length_map]
  have H : ∀ d i : Nat, i + d = l.length → ∀ xs : List S44, xs = l.take i → Ev (fun k => impl_TabRead.l0 k ⟨(tabS l).toArray⟩ xs (l.map (fun e => (⟨(entT e).toArray⟩ : ByteArray))) (l.length : Int) (i : Int)) (l, true) := by
    intro d
    induction d with
    | zero =>
      intro i hi xs hx
      obtain rfl : i = l.length := by omega
      rw [List.take_length] at hx
      subst hx
      refine Ev.succ ?_
      have hne : ¬ (⟨(tabS xs).toArray⟩ : ByteArray).toList = ([] : List UInt8) := by rw [ba_toList]; unfold tabS; simp
      simp only [impl_TabRead.l0, Int.lt_irrefl, if_false, if_neg hne]
      refine Ev.bind (iTabText_ev xs (by omega)) ?_
      have e : tabTx xs = ⟨(tabS xs).toArray⟩ := if_pos hb
      simp only [e, if_true]
      exact Ev.now _
    | succ d ih =>
      intro i hi xs hx
      have hlt : i < l.length := by omega
      have he := tT_ent hb (List.getElem_mem hlt)
      have hxl : xs.length = i := by rw [hx]; simp; omega
      have ih' := ih (i + 1) (by omega) (xs ++ [l[i]]) (by rw [hx, List.take_succ_eq_append_getElem hlt])
      have hr : rdOf ByteArray.empty (l.map (fun e => (⟨(entT e).toArray⟩ : ByteArray))) (i : Int) = ⟨(entT l[i]).toArray⟩ := by
        unfold rdOf; rw [Int.toNat_natCast]; simp [hlt]
      refine Ev.succ ?_
      simp only [impl_TabRead.l0, if_pos (Int.ofNat_lt.mpr hlt), if_pos (Int.natCast_nonneg i), List.length_map, hr, cut_ent he, Option.bind_some, wr1 i (by omega), if_pos (show xs.length < 5864062014805 by omega)]
      by_cases h0 : l[i].f0 = true
      · have hp := tT_page he h0
        simp only [if_pos h0, atoi_dig hp, Option.bind_some, Option.isNone_none, if_true]
        rw [show (⟨true, l[i].f1, l[i].f2⟩ : S44) = l[i] from by rw [← h0]]
        exact ih'
      · have hn := ent_none he h0
        simp only [if_neg h0, atoi_dash, Option.bind_some, Option.isNone_some, Bool.false_eq_true, if_false]
        rw [show (⟨false, 0, false⟩ : S44) = l[i] from by
          have h0' := Bool.eq_false_iff.mpr h0
          revert h0' hn
          generalize l[i] = q
          obtain ⟨q0, q1, q2⟩ := q
          rintro ⟨rfl, rfl⟩ h3
          exact congrArg (fun z => (⟨z, 0, false⟩ : S44)) h3.symm]
        exact ih'
  exact H l.length 0 (by omega) [] rfl
theorem ba_list (t : ByteArray) : ∃ l : List UInt8, t = ⟨l.toArray⟩ := ⟨t.data.toList, by cases t; simp⟩
theorem split_sizes (sep : ByteArray) : ∀ (k : Nat) (s : ByteArray), (Lib.splitB sep 0 k s).length ≤ k + 1 ∧ ∀ w ∈ Lib.splitB sep 0 k s, w.size ≤ s.size
  | 0, s => by simp [Lib.splitB]
  | k + 1, s => by
    unfold Lib.splitB
    split
    · simp
    · have ih := split_sizes sep k (s.extract ((Lib.indexB s sep).toNat + sep.size) s.size)
      refine ⟨by simp only [List.length_cons]; omega, fun w hw => ?_⟩
      rcases List.mem_cons.1 hw with rfl | hw
      · rw [ByteArray.size_extract]; omega
      · have := ih.2 w hw
        rw [ByteArray.size_extract] at this; omega
theorem trim_len (s p : List UInt8) : (Lib.trimSuffix s p).length ≤ s.length := by
  unfold Lib.trimSuffix; split
  · rw [List.length_take]; omega
  · exact Nat.le_refl _
theorem atoi_some (c : ByteArray) (hc : c.size ≤ 281474976710656) : ∃ p, strconv_Atoi_30.f c = some p := by
  unfold strconv_Atoi_30.f
  rw [if_pos hc]
  split <;> exact ⟨_, rfl⟩
theorem iRead_run (l : List UInt8) (hl : l.length ≤ 1000000000) : ∃ ys : List S44, Ev (fun k => impl_TabRead.f k ⟨l.toArray⟩) (if l = [] then ([], false) else if (tabTx ys).toList = l then (ys, true) else ([], false)) := by
  unfold impl_TabRead.f
  have e1 : strings_TrimSuffix.f ⟨l.toArray⟩ (⟨#[10]⟩ : ByteArray) = some ⟨(Lib.trimSuffix l [10]).toArray⟩ := by
    unfold strings_TrimSuffix.f
    rw [if_pos (by rw [ba_size]; omega)]
  have ht := trim_len l [10]
  generalize hq : (⟨(Lib.trimSuffix l [10]).toArray⟩ : ByteArray) = q at e1
  have hqs : q.size ≤ l.length := by rw [← hq, ba_size]; exact ht
  have hc : Lib.countB q (⟨#[32]⟩ : ByteArray) ≤ l.length := by
    rw [← hq]
    show Lib.count (Lib.trimSuffix l [10]) [32] ≤ _
    rw [Lib.count_one]
    exact Nat.le_trans List.count_le_length ht
  have e2 : strings_Split.f q (⟨#[32]⟩ : ByteArray) = some (Lib.splitB (⟨#[32]⟩ : ByteArray) 0 (Lib.countB q (⟨#[32]⟩ : ByteArray)) q) := by
    unfold strings_Split.f
    rw [if_pos ⟨by omega, by decide⟩]
  obtain ⟨s1, s2⟩ := split_sizes (⟨#[32]⟩ : ByteArray) (Lib.countB q (⟨#[32]⟩ : ByteArray)) q
  generalize Lib.splitB (⟨#[32]⟩ : ByteArray) 0 (Lib.countB q (⟨#[32]⟩ : ByteArray)) q = ws at e2 s1 s2
  simp only [e1, e2, Option.bind_some]
  have H : ∀ d i : Nat, i + d = ws.length → ∀ xs : List S44, xs.length = i → ∃ ys : List S44, Ev (fun k => impl_TabRead.l0 k ⟨l.toArray⟩ xs ws (ws.length : Int) (i : Int)) (if l = [] then ([], false) else if (tabTx ys).toList = l then (ys, true) else ([], false)) := by
    intro d
    induction d with
    | zero =>
      intro i hi xs hx
      obtain rfl : i = ws.length := by omega
      refine ⟨xs, Ev.succ ?_⟩
      simp only [impl_TabRead.l0, Int.lt_irrefl, if_false, ba_toList]
      by_cases h0 : l = []
      · simp only [if_pos h0]; exact Ev.now _
      simp only [if_neg h0]
      refine Ev.bind (iTabText_ev xs (by omega)) ?_
      by_cases h1 : (tabTx xs).toList = l
      · simp only [if_pos h1]; exact Ev.now _
      · simp only [if_neg h1]; exact Ev.now _
    | succ d ih =>
      intro i hi xs hx
      have hlt : i < ws.length := by omega
      have hw := s2 _ (List.getElem_mem hlt)
      have hr : rdOf ByteArray.empty ws (i : Int) = ws[i] := by unfold rdOf; rw [Int.toNat_natCast]; simp [hlt]
      obtain ⟨c, b, hcb, hcs⟩ : ∃ (c : ByteArray) (b : Bool), strings_CutSuffix.f ws[i] (⟨#[119]⟩ : ByteArray) = some (c, b) ∧ c.size ≤ ws[i].size := by
        unfold strings_CutSuffix.f
        rw [if_pos (by omega)]
        refine ⟨_, _, rfl, ?_⟩
        rw [ba_size]
        exact Nat.le_trans (trim_len _ _) (by rw [Array.length_toList]; exact Nat.le_refl _)
      obtain ⟨⟨v, r2⟩, ha⟩ := atoi_some c (by omega)
      cases r2 with
      | none =>
        obtain ⟨ys, g⟩ := ih (i + 1) (by omega) (xs ++ [⟨true, v, b⟩]) (by simp [hx])
        refine ⟨ys, Ev.succ ?_⟩
        simp only [impl_TabRead.l0, if_pos (Int.ofNat_lt.mpr hlt), if_pos (Int.natCast_nonneg i), hr, hcb, ha, Option.bind_some, wr1 i (by omega), if_pos (show xs.length < 5864062014805 by omega), Option.isNone_none, if_true]
        exact g
      | some z =>
        obtain ⟨ys, g⟩ := ih (i + 1) (by omega) (xs ++ [⟨false, 0, false⟩]) (by simp [hx])
        refine ⟨ys, Ev.succ ?_⟩
        simp only [impl_TabRead.l0, if_pos (Int.ofNat_lt.mpr hlt), if_pos (Int.natCast_nonneg i), hr, hcb, ha, Option.bind_some, wr1 i (by omega), if_pos (show xs.length < 5864062014805 by omega), Option.isNone_some, Bool.false_eq_true, if_false]
        exact g
  exact H ws.length 0 (by omega) [] rfl
theorem iRead_ev (l : List UInt8) (hl : l.length ≤ 1000000000) : ∃ r : List S44 × Bool, Ev (fun k => impl_TabRead.f k ⟨l.toArray⟩) r ∧ (r = ([], false) ∨ ∃ T, r = (T, true) ∧ tabB T = true ∧ l = tabS T) := by
  obtain ⟨ys, g⟩ := iRead_run l hl
  refine ⟨_, g, ?_⟩
  by_cases h0 : l = []
  · rw [if_pos h0]; exact .inl rfl
  rw [if_neg h0]
  by_cases h1 : (tabTx ys).toList = l
  · rw [if_pos h1]
    by_cases hb : tabB ys = true
    · rw [tabTx_list, if_pos hb] at h1
      exact .inr ⟨ys, rfl, hb, h1.symm⟩
    · rw [tabTx_list, if_neg hb] at h1
      exact absurd h1.symm h0
  · rw [if_neg h1]; exact .inl rfl
def putW (tab : List S44) : List S44 := tab.set (tab.length - 1) ⟨(rd_T44 tab ((tab.length - 1 : Nat) : Int)).f0, (rd_T44 tab ((tab.length - 1 : Nat) : Int)).f1, true⟩
def stp (tab : List S44) (b : Int) : List S44 :=
  if b = 45 then tab ++ [⟨false, 0, false⟩] else if 48 ≤ b ∧ b ≤ 57 then tab ++ [⟨true, (b - 48) % 256, false⟩] else if b = 119 ∧ 0 < tab.length then putW tab else tab
def runT : List UInt8 → List S44 → Option (List S44)
  | [], tab => some tab
  | b :: r, tab => if 6 < tab.length then none else runT r (stp tab (b.toNat : Int))
def endT (l : List UInt8) : Option (List S44) → List S44 × Bool
  | none => ([], false)
  | some T => if tabB T = true ∧ tabS T = l then (T, true) else ([], false)
theorem putW_len (tab : List S44) : (putW tab).length = tab.length := by simp [putW]
theorem bt_list (l : List UInt8) (i : Nat) (h : i < l.length) : bt ⟨l.toArray⟩ (i : Int) = (l[i].toNat : Int) := by
  unfold bt
  rw [dif_pos (by rw [ba_size]; simpa using h)]
  rfl
theorem sRead_run (l : List UInt8) (hl : l.length ≤ 1000000000) : ∀ d i : Nat, i + d = l.length → ∀ tab : List S44, tab.length ≤ 7 → Ev (fun k => spec_TabRead.l0 k ⟨l.toArray⟩ tab (i : Int)) (endT l (runT (l.drop i) tab)) := by
  intro d
  induction d with
  | zero =>
    intro i hi tab ht
    obtain rfl : i = l.length := by omega
    refine Ev.succ ?_
    simp only [spec_TabRead.l0, ba_size, Int.lt_irrefl, if_false, List.drop_length, runT, endT, ba_toList]
    refine Ev.bind (sTabOk_ev tab (by omega)) ?_
    by_cases hb : tabB tab = true
    · simp only [if_pos hb]
      refine Ev.bind (sTabText_ev tab (by omega)) ?_
      rw [tabTx_list, if_pos hb]
      by_cases h1 : tabS tab = l
      · simp only [if_pos h1, if_pos (show tabB tab = true ∧ tabS tab = l from ⟨hb, h1⟩)]; exact Ev.now _
      · simp only [if_neg h1, if_neg (show ¬ (tabB tab = true ∧ tabS tab = l) from fun h => h1 h.2)]; exact Ev.now _
    · simp only [if_neg hb, if_neg (show ¬ (tabB tab = true ∧ tabS tab = l) from fun h => hb h.1)]; exact Ev.now _
  | succ d ih =>
    intro i hi tab ht
    have hlt : i < l.length := by omega
    have hbt := bt_list l i hlt
    have hb0 : 0 ≤ (l[i].toNat : Int) ∧ (l[i].toNat : Int) ≤ 255 := ⟨by omega, by have := l[i].toNat_lt; omega⟩
    rw [drop_cons hlt]
    generalize hbv : (l[i].toNat : Int) = b at *
    have go : ∀ tab' : List S44, (6 < tab.length ∨ tab'.length ≤ 7) → Ev (fun k => if (tab.length : Int) > 6 then (some (([] : List S44), false)) else spec_TabRead.l0 k ⟨l.toArray⟩ tab' ((i + 1 : Nat) : Int)) (endT l (if 6 < tab.length then none else runT (l.drop (i + 1)) tab')) := by
      intro tab' h'
      by_cases h6 : 6 < tab.length
      · simp only [if_pos (show (tab.length : Int) > 6 by omega), if_pos h6, endT]; exact Ev.now _
      · simp only [if_neg (show ¬ (tab.length : Int) > 6 by omega), if_neg h6]
        exact ih (i + 1) (by omega) tab' (by omega)
    have J2 : ∀ bb : Bool, (bb = true → 0 < tab.length) → Ev (fun k => spec_TabRead.j2 k ⟨l.toArray⟩ tab (i : Int) (tab.length : Int) bb) (endT l (if 6 < tab.length then none else runT (l.drop (i + 1)) (if bb = true then putW tab else tab))) := by
      intro bb hbb
      refine Ev.succ ?_
      cases bb with
      | false =>
        simp only [spec_TabRead.j2, Bool.false_eq_true, if_false, wr1 i (by omega)]
        exact go tab (.inr ht)
      | true =>
        have hp := hbb rfl
        have e : ((tab.length : Int) - 1) = ((tab.length - 1 : Nat) : Int) := by omega
        simp only [spec_TabRead.j2, if_true, wr ((tab.length : Int) - 1) (by omega), if_pos (show 0 ≤ (tab.length : Int) - 1 by omega), if_pos (show (tab.length : Int) - 1 < (tab.length : Int) by omega), wr1 i (by omega)]
        have g := go (putW tab) (.inr (by rw [putW_len]; exact ht))
        rw [e, Int.toNat_natCast]
        exact g
    have J1 : ∀ bb : Bool, (bb = true → 48 ≤ b ∧ b ≤ 57) → b ≠ 45 → (¬ bb = true → ¬ (48 ≤ b ∧ b ≤ 57)) → Ev (fun k => spec_TabRead.j1 k ⟨l.toArray⟩ tab (i : Int) b (tab.length : Int) bb) (endT l (if 6 < tab.length then none else runT (l.drop (i + 1)) (stp tab b))) := by
      intro bb h1 h45 h2
      refine Ev.succ ?_
      cases bb with
      | true =>
        have h1' := h1 rfl
        simp only [spec_TabRead.j1, if_true, if_pos (show tab.length < 5864062014805 by omega), wr1 i (by omega)]
        rw [show stp tab b = tab ++ [⟨true, (b - 48) % 256, false⟩] by unfold stp; rw [if_neg h45, if_pos h1']]
        exact go _ (by by_cases h6 : 6 < tab.length; exact .inl h6; exact .inr (by simp; omega))
      | false =>
        have h2' := h2 (by simp)
        simp only [spec_TabRead.j1, Bool.false_eq_true, if_false]
        by_cases hw : b = 119
        · simp only [if_pos hw]
          refine Ev.cast ?_ (J2 (decide ((tab.length : Int) > 0)) (fun h => by have := of_decide_eq_true h; omega))
          unfold stp
          rw [if_neg h45, if_neg h2']
          by_cases hp : 0 < tab.length
          · rw [if_pos (show b = 119 ∧ 0 < tab.length from ⟨hw, hp⟩), if_pos (show decide ((tab.length : Int) > 0) = true from decide_eq_true (by omega))]
          · rw [if_neg (show ¬ (b = 119 ∧ 0 < tab.length) from fun h => hp h.2), if_neg (show ¬ decide ((tab.length : Int) > 0) = true from fun h => hp (by have := of_decide_eq_true h; omega))]
        · simp only [if_neg hw]
          refine Ev.cast ?_ (J2 false (fun h => by cases h))
          unfold stp
          rw [if_neg h45, if_neg h2', if_neg (show ¬ (b = 119 ∧ 0 < tab.length) from fun h => hw h.1), if_neg (show ¬ (false = true) from Bool.false_ne_true)]
    refine Ev.succ ?_
    simp only [runT, spec_TabRead.l0, ba_size, if_pos (Int.ofNat_lt.mpr hlt), if_pos (Int.natCast_nonneg i), hbt, hbv]
    by_cases h45 : b = 45
    · simp only [if_pos h45, if_pos (show tab.length < 5864062014805 by omega), wr1 i (by omega)]
      rw [show stp tab b = tab ++ [⟨false, 0, false⟩] by unfold stp; rw [if_pos h45]]
      exact go _ (by by_cases h6 : 6 < tab.length; exact .inl h6; exact .inr (by simp; omega))
    simp only [if_neg h45]
    by_cases h48 : b ≥ 48
    · simp only [if_pos h48]
      exact J1 _ (fun h => ⟨h48, of_decide_eq_true h⟩) h45 (fun h h' => h (decide_eq_true h'.2))
    · simp only [if_neg h48]
      exact J1 false (fun h => by cases h) h45 (fun _ h' => h48 h'.1)
theorem sRead_ev (l : List UInt8) (hl : l.length ≤ 1000000000) : Ev (fun k => spec_TabRead.f k ⟨l.toArray⟩) (endT l (runT l [])) := by
  have := sRead_run l hl l.length 0 (by omega) [] (by simp)
  rw [List.drop_zero] at this
  exact this
theorem run_skip (b : UInt8) (hb : (b.toNat : Int) = 32 ∨ (b.toNat : Int) = 10) (r : List UInt8) (tab : List S44) (ht : tab.length ≤ 6) : runT (b :: r) tab = runT r tab := by
  rw [runT, if_neg (by omega)]
  have : stp tab (b.toNat : Int) = tab := by
    unfold stp
    rw [if_neg (by omega), if_neg (by omega), if_neg (by omega)]
  rw [this]
theorem putW_end (tab : List S44) (x : S44) : putW (tab ++ [x]) = tab ++ [⟨x.f0, x.f1, true⟩] := by
  unfold putW
  have e : (tab ++ [x]).length - 1 = tab.length := by simp
  rw [e, rdE_at (show tab.length < (tab ++ [x]).length by simp)]
  simp
theorem run_ent {e : S44} (he : entB e = true) (r : List UInt8) (tab : List S44) (ht : tab.length ≤ 5) : runT (entT e ++ r) tab = runT r (tab ++ [e]) := by
  obtain ⟨e0, e1, e2⟩ := e
  cases e0
  · have x := ent_none he (by simp)
    simp only at x
    obtain ⟨rfl, rfl⟩ := x
    show runT (45 :: r) tab = _
    rw [runT, if_neg (by omega)]
    rfl
  · have hp := tT_page he rfl
    simp only at hp
    have hd : ((dig e1).toNat : Int) = 48 + e1 := by
      obtain rfl | rfl | rfl | rfl | rfl | rfl : e1 = 0 ∨ e1 = 1 ∨ e1 = 2 ∨ e1 = 3 ∨ e1 = 4 ∨ e1 = 5 := by omega
      all_goals rfl
    have hs : stp tab ((dig e1).toNat : Int) = tab ++ [⟨true, e1, false⟩] := by
      unfold stp
      rw [hd, if_neg (by omega), if_pos (by omega), show (48 + e1 - 48) % 256 = e1 by omega]
    cases e2
    · show runT (dig e1 :: r) tab = _
      rw [runT, if_neg (by omega), hs]
    · show runT (dig e1 :: 119 :: r) tab = _
      rw [runT, if_neg (by omega), hs, runT, if_neg (by simp; omega)]
      have : stp (tab ++ [(⟨true, e1, false⟩ : S44)]) ((119 : UInt8).toNat : Int) = tab ++ [⟨true, e1, true⟩] := by
        show stp _ 119 = _
        unfold stp
        rw [if_neg (by omega), if_neg (by omega), if_pos ⟨rfl, by simp⟩, putW_end]
      rw [this]
theorem run_tab : ∀ (rest tab : List S44), rest ≠ [] → (∀ e ∈ rest, entB e = true) → tab.length + rest.length = 6 → runT (Lib.join (rest.map entT) [32] ++ [10]) tab = some (tab ++ rest)
  | [], _, h, _, _ => absurd rfl h
  | [e], tab, _, he, hl => by
    simp only [List.length_cons, List.length_nil] at hl
    simp only [List.map_cons, List.map_nil, Lib.join_one]
    rw [run_ent (he e (by simp)) _ _ (by omega), run_skip 10 (.inr rfl) _ _ (by simp; omega), runT]
  | e :: e2 :: r, tab, _, he, hl => by
    simp only [List.length_cons] at hl
    have ih := run_tab (e2 :: r) (tab ++ [e]) (by simp) (fun x hx => he x (List.mem_cons_of_mem _ hx)) (by simp; omega)
    simp only [List.map_cons] at ih ⊢
    rw [join_step, List.append_assoc, List.append_assoc, run_ent (he e (by simp)) _ _ (by omega)]
    show runT (32 :: (Lib.join (entT e2 :: List.map entT r) [32] ++ [10])) (tab ++ [e]) = _
    rw [run_skip 32 (.inl rfl) _ _ (by simp; omega), ih, List.append_assoc]
    rfl
theorem tabS_len {T : List S44} (h : tabB T = true) : (tabS T).length ≤ 19 := by
  have := join_len T
  have h6 := tT_len h
  unfold tabS; simp; omega
theorem sRead_tab (T : List S44) (hb : tabB T = true) : Ev (fun k => spec_TabRead.f k ⟨(tabS T).toArray⟩) (T, true) := by
  have hl := tabS_len hb
  have h6 := tT_len hb
  refine Ev.cast ?_ (sRead_ev (tabS T) (by omega))
  have : runT (tabS T) [] = some T := by
    have := run_tab T [] (by intro h; rw [h] at h6; cases h6) (fun e he => tT_ent hb he) (by simpa using h6)
    simpa [tabS] using this
  rw [this]
  show (if tabB T = true ∧ tabS T = tabS T then (T, true) else ([], false)) = _
  rw [if_pos ⟨hb, rfl⟩]
theorem both_ev (l : List UInt8) (hl : l.length ≤ 1000000000) : ∃ r : List S44 × Bool, Ev (fun k => impl_TabRead.f k ⟨l.toArray⟩) r ∧ Ev (fun k => spec_TabRead.f k ⟨l.toArray⟩) r ∧ (r = ([], false) ∨ ∃ T, r = (T, true) ∧ tabB T = true ∧ l = tabS T) := by
  by_cases h : ∃ T : List S44, tabB T = true ∧ l = tabS T
  · obtain ⟨T, hb, rfl⟩ := h
    exact ⟨(T, true), tabRead_ev T hb, sRead_tab T hb, .inr ⟨T, rfl, hb, rfl⟩⟩
  · obtain ⟨r, g, hr⟩ := iRead_ev l hl
    have e : r = ([], false) := hr.elim id (fun ⟨T, _, hb, hT⟩ => absurd ⟨T, hb, hT⟩ h)
    subst e
    refine ⟨_, g, Ev.cast ?_ (sRead_ev l hl), .inl rfl⟩
    cases hq : runT l [] with
    | none => rfl
    | some T =>
      show (if tabB T = true ∧ tabS T = l then (T, true) else ([], false)) = _
      rw [if_neg fun hh => h ⟨T, hh.1, hh.2.symm⟩]

-- the law
theorem drawTabRead_ev (l : List Int) (h : ∀ x ∈ l, (Lit.int .u8 x).wf = true) : ∃ t : ByteArray, Ev (fun k => spec_DrawTabRead.f k l) t ∧ t.size ≤ 1000 := by
  unfold spec_DrawTabRead.f
  obtain ⟨b, e, hb, hl⟩ := open_eq l h
  obtain ⟨T, p, g, a1, a2, a3, a4⟩ := tab_ev b 0 hb hl (by omega) (by omega)
  have hT : (tabTx T).size ≤ 19 := by
    unfold tabTx
    by_cases hB : tabB T = true
    · rw [if_pos hB, ba_size]; exact tabS_len hB
    · rw [if_neg hB]; decide
  obtain ⟨v, g2, v0, v1⟩ := pick_ev b p ((tabTx T).size + 1) hb hl (by omega) (by omega) (by omega) (by omega)
  obtain ⟨u, g3, u0, u1⟩ := pick_ev b (p + 1) 8 hb hl (by omega) (by omega) (by omega) (by omega)
  have hp : Ev (fun k => spec_TabText.f k T) (tabTx T) := sTabText_ev T (by omega)
  generalize hX : tabTx T = X at *
  have hx1 : (X.extract 0 v.toNat).size ≤ 19 := by rw [ByteArray.size_extract]; omega
  have hx2 : (X.extract v.toNat X.size).size ≤ 19 := by rw [ByteArray.size_extract]; omega
  have g2' : Ev (fun k => spec_l6Rd_pick.f k b p (wrap64 ((X.size : Int) + 1))) (v, p + 1) := by rw [wr _ (by omega)]; exact g2
  simp only [e, Option.bind_some]
  by_cases c0 : u = 0
  · refine ⟨X.extract 0 v.toNat, Ev.bind g (Ev.bind hp (Ev.bind g2' ?_)), by omega⟩
    refine Ev.bind g3 ?_
    simp only [if_pos c0, if_pos v0, if_pos (show v ≤ (X.size : Int) by omega)]
    exact Ev.now _
  by_cases c1 : u = 1
  · obtain ⟨z, g4, z0, z1⟩ := pick_ev b (p + 1 + 1) 6 hb hl (by omega) (by omega) (by omega) (by omega)
    have g5 : Ev (fun k => spec_l6Rd_of.f k b (p + 1 + 1) [(⟨#[45]⟩ : ByteArray), (⟨#[119]⟩ : ByteArray), (⟨#[32]⟩ : ByteArray), (⟨#[49]⟩ : ByteArray), (⟨#[10]⟩ : ByteArray), (⟨#[54]⟩ : ByteArray)]) (rdOf ByteArray.empty [(⟨#[45]⟩ : ByteArray), (⟨#[119]⟩ : ByteArray), (⟨#[32]⟩ : ByteArray), (⟨#[49]⟩ : ByteArray), (⟨#[10]⟩ : ByteArray), (⟨#[54]⟩ : ByteArray)] z, p + 1 + 1 + 1) := by
      unfold spec_l6Rd_of.f
      refine Ev.bind g4 ?_
      simp only [if_pos z0, List.length_cons, List.length_nil, if_pos (show z < ((0 + 1 + 1 + 1 + 1 + 1 + 1 : Nat) : Int) by omega)]
      exact Ev.now _
    have hz : (rdOf ByteArray.empty [(⟨#[45]⟩ : ByteArray), (⟨#[119]⟩ : ByteArray), (⟨#[32]⟩ : ByteArray), (⟨#[49]⟩ : ByteArray), (⟨#[10]⟩ : ByteArray), (⟨#[54]⟩ : ByteArray)] z).size = 1 := by
      obtain rfl | rfl | rfl | rfl | rfl | rfl : z = 0 ∨ z = 1 ∨ z = 2 ∨ z = 3 ∨ z = 4 ∨ z = 5 := by omega
      all_goals rfl
    generalize hZ : rdOf ByteArray.empty [(⟨#[45]⟩ : ByteArray), (⟨#[119]⟩ : ByteArray), (⟨#[32]⟩ : ByteArray), (⟨#[49]⟩ : ByteArray), (⟨#[10]⟩ : ByteArray), (⟨#[54]⟩ : ByteArray)] z = Z at *
    refine ⟨(X.extract 0 v.toNat ++ Z) ++ X.extract v.toNat X.size, Ev.bind g (Ev.bind hp (Ev.bind g2' ?_)), by rw [ByteArray.size_append, ByteArray.size_append]; omega⟩
    refine Ev.bind g3 ?_
    simp only [if_neg c0, if_pos c1, if_pos v0, if_pos (show v ≤ (X.size : Int) by omega)]
    refine Ev.bind g5 ?_
    simp only [if_pos (show (X.extract 0 v.toNat).size + Z.size ≤ 9223372036854775807 by omega), if_pos (show (X.extract 0 v.toNat ++ Z).size + (X.extract v.toNat X.size).size ≤ 9223372036854775807 by rw [ByteArray.size_append]; omega)]
    exact Ev.now _
  · refine ⟨X, Ev.bind g (Ev.bind hp (Ev.bind g2' ?_)), by omega⟩
    refine Ev.bind g3 ?_
    simp only [if_neg c0, if_neg c1]
    exact Ev.now _
theorem FnTabStrict : laws_FnTabStrict.Pure := by
  intro l _ _ hw
  obtain ⟨t, gt, ht⟩ := drawTabRead_ev l hw
  apply Ev.rounds
  unfold laws_FnTabStrict.f
  by_cases c : (l.length : Int) > 1048576
  · simp only [if_pos c]; exact Ev.now _
  simp only [if_neg c]
  obtain ⟨s, rfl⟩ := ba_list t
  rw [ba_size] at ht
  obtain ⟨⟨T, ok⟩, g1, g2, hr⟩ := both_ev s (by omega)
  refine Ev.bind gt (Ev.bind g2 (Ev.bind g1 ?_))
  have hT : (T.length : Int) ≤ 100 := by
    rcases hr with e | ⟨T', e, hb, _⟩
    · cases e; simp
    · cases e; have := tT_len hb; omega
  simp only [bne_self_eq_false, Bool.false_eq_true, if_false]
  refine Ev.bind (lkTab_refl T (by omega)) ?_
  simp only [if_true]
  refine Ev.succ ?_
  rcases hr with e | ⟨T', e, hb, hs⟩
  · cases e
    simp only [laws_FnTabStrict.j0, Bool.not_false, if_true, beq_self_eq_true]
    exact Ev.bind (lkTab_refl [] (by simp)) (Ev.now _)
  · cases e
    simp only [laws_FnTabStrict.j0, Bool.not_true, Bool.false_eq_true, if_false]
    refine Ev.bind (Ev.cast hb (iTabOk_ev T (by omega))) ?_
    simp only [if_true]
    refine Ev.bind (iTabText_ev T (by omega)) ?_
    rw [tabTx_list, if_pos hb, ba_toList, hs, beq_self_eq_true]
    exact Ev.now _

end Go.Proofs.YtkadphbjfhbapaaDoor.Pure
