/- The pure side of the law FnTabBack: what the printed functions compute answers true. Conditions: none beyond the statement given. -/
import Derived.Test.YtkadphbjfhbapaaDoorQFnTabBackx0
import Derived.Test.YtkadphbjfhbapaaDoorQFnTabBackx1
import Derived.Test.YtkadphbjfhbapaaDoorQFnTabBackx2
import Derived.Test.YtkadphbjfhbapaaDoorQFnTabBackx3
import Derived.Test.YtkadphbjfhbapaaDoorQFnTabBackx4
import Derived.Test.YtkadphbjfhbapaaDoorQFnTabBackx5
import Derived.Laws.BitsLemmas
namespace Go.Proofs.YtkadphbjfhbapaaDoor.Pure
open Go Go.RowKit Go.Proofs.YtkadphbjfhbapaaDoor.QFnTabBack Go.Proofs.YtkadphbjfhbapaaDoorW.PrintWords Go.Proofs.YtkadphbjfhbapaaDoorW.PrintLast
set_option linter.unusedVariables false
set_option linter.unusedSimpArgs false

theorem Ev.succ {α : Type} {g : Nat → Option α} {r : α} (h : Ev (fun k => g (k + 1)) r) : Ev g r := Ev.step (fun _ => rfl) h
theorem Ev.cast {α : Type} {g : Nat → Option α} {r r' : α} (e : r = r') (h : Ev g r) : Ev g r' := e ▸ h
theorem wr (n : Int) (h : -9223372036854775808 ≤ n ∧ n ≤ 9223372036854775807) : wrap64 n = n := by unfold wrap64; omega
theorem wr1 (i : Nat) (h : (i : Int) ≤ 1000000000000000000) : wrap64 ((i : Int) + 1) = ((i + 1 : Nat) : Int) := by rw [wr _ (by omega)]; rfl
theorem Ev.down {σ ρ : Type} (g : Nat → Int → σ → Option ρ) (R : Nat → σ → ρ) (n : Nat) (hend : ∀ st, Ev (fun k => g k n st) (R n st))
    (hstep : ∀ i : Nat, i < n → (∀ st, Ev (fun k => g k ((i + 1 : Nat) : Int) st) (R (i + 1) st)) → ∀ st, Ev (fun k => g k (i : Int) st) (R i st)) :
    ∀ st, Ev (fun k => g k 0 st) (R 0 st) := by
  have H : ∀ d i : Nat, i + d = n → ∀ st, Ev (fun k => g k (i : Int) st) (R i st) := by
    intro d
    induction d with
    | zero => intro i hi st; obtain rfl : i = n := by omega
              exact hend st
    | succ d ih => intro i hi; exact hstep i (by omega) (ih (i + 1) (by omega))
  exact H n 0 (by omega)
theorem drop_cons {α : Type} {l : List α} {i : Nat} (h : i < l.length) : l.drop i = l[i] :: l.drop (i + 1) := List.drop_eq_getElem_cons h
theorem getD_at {α : Type} {l : List α} {i : Nat} (z : α) (h : i < l.length) : l.getD ((i : Int)).toNat z = l[i] := by simp [h]
theorem u8_in {n : Int} (h : (Lit.int .u8 n).wf = true) : 0 ≤ n ∧ n ≤ 255 := by
  have e1 : IntKind.u8.min = 0 := by decide
  have e2 : IntKind.u8.max = 255 := by decide
  simp only [Lit.wf, e1, e2, Bool.and_eq_true, decide_eq_true_eq] at h; exact h
def wi (a lo hi : Int) : Bool := decide (lo ≤ a) && decide (a ≤ hi)
theorem wi_iff {a lo hi : Int} : wi a lo hi = true ↔ lo ≤ a ∧ a ≤ hi := by simp [wi]
theorem l6In_eq (a lo hi : Int) : spec_l6In.f a lo hi = some (wi a lo hi) := by
  unfold spec_l6In.f wi
  by_cases h : a ≥ lo
  · rw [if_pos h]; simp [h]
  · rw [if_neg h]; simp; omega
theorem within_eq (a lo hi : Int) : impl_within.f a lo hi = some (wi a lo hi) := by
  unfold impl_within.f wi
  by_cases h : a ≥ lo
  · rw [if_pos h]; simp [h]
  · rw [if_neg h]; simp; omega
theorem xor_nat (a b : Nat) (ha : a < 2 ^ 62) (hb : b < 2 ^ 62) : bits .xor .i64 (a : Int) (b : Int) = ((a ^^^ b : Nat) : Int) := by
  have ha' : a % 2 ^ 64 = a := Nat.mod_eq_of_lt (Nat.lt_of_lt_of_le ha (by decide))
  have hb' : b % 2 ^ 64 = b := Nat.mod_eq_of_lt (Nat.lt_of_lt_of_le hb (by decide))
  have hx : a ^^^ b < 2 ^ 62 := Nat.xor_lt_two_pow ha hb
  have e : IntKind.i64.bits = 64 := rfl
  simp only [bits, e, BitVec.ofInt_natCast, BitVec.toNat_xor, BitVec.toNat_ofNat, ha', hb']
  rw [IntKind.wrap_i64]; omega
theorem xor_nn (a b : Int) (ha : 0 ≤ a) (ha' : a < 4611686018427387904) (hb : 0 ≤ b) (hb' : b < 4611686018427387904) : 0 ≤ bits .xor .i64 a b := by
  obtain ⟨x, rfl⟩ := Int.eq_ofNat_of_zero_le ha
  obtain ⟨y, rfl⟩ := Int.eq_ofNat_of_zero_le hb
  rw [xor_nat x y (by omega) (by omega)]; omega
theorem tmod_in (x n : Int) (hx : 0 ≤ x) (hn : 1 ≤ n) : 0 ≤ Int.tmod x n ∧ Int.tmod x n < n := by
  rw [Int.tmod_eq_emod_of_nonneg hx]
  exact ⟨Int.emod_nonneg _ (by omega), Int.emod_lt_of_pos _ (by omega)⟩
def ByB (b : List Int) : Prop := ∀ i : Int, 0 ≤ rd b i ∧ rd b i ≤ 255
theorem byB_of {b : List Int} (h : ∀ x ∈ b, (Lit.int .u8 x).wf = true) : ByB b := by
  intro i
  unfold rd
  rw [List.getD_eq_getElem?_getD]
  cases e : b[i.toNat]? with
  | none => simp
  | some x => simpa using u8_in (h x (List.mem_of_getElem? e))
theorem pick_ev (b : List Int) (p n : Int) (hb : ByB b) (hl : (b.length : Int) ≤ 2000) (hp : 0 ≤ p) (hp' : p ≤ 1000000000) (hn : 1 ≤ n) (hn' : n ≤ 1000000000000) :
    ∃ v, Ev (fun k => spec_l6Rd_pick.f k b p n) (v, p + 1) ∧ 0 ≤ v ∧ v < n := by
  unfold spec_l6Rd_pick.f
  simp only [if_neg (show ¬ n < 1 by omega), wr (p + 1) (by omega)]
  by_cases e : b.length = 0
  · refine ⟨0, Ev.succ ?_, by omega, by omega⟩
    simp only [spec_l6Rd_pick.j0, e]
    exact Ev.now _
  · have e' : ((b.length : Int) == 0) = false := by simp; intro h; exact e (by simp [h])
    simp only [e']
    by_cases g : p < b.length
    · have hb1 := hb p
      have t := tmod_in (rd b p) n hb1.1 hn
      refine ⟨Int.tmod (rd b p) n, Ev.succ ?_, t.1, t.2⟩
      simp only [spec_l6Rd_pick.j0, show p + 1 - 1 = p by omega, wr p (by omega), if_pos g, if_pos hp, if_neg (show ¬ n = 0 by omega), wr (rd b p) (by omega), Bool.false_eq_true, if_false]
      exact Ev.now _
    · have hL : (1 : Int) ≤ b.length := by omega
      have q1 := tmod_in p b.length hp hL
      have q2 := tmod_in (p * 7 + 3) b.length (by omega) hL
      have b1 := hb (Int.tmod p b.length)
      have b2 := hb (Int.tmod (p * 7 + 3) b.length)
      have q3 : 0 ≤ Int.tdiv p b.length ∧ Int.tdiv p b.length ≤ p := by
        rw [Int.tdiv_eq_ediv_of_nonneg hp]
        exact ⟨Int.ediv_nonneg hp (by omega), Int.ediv_le_self _ hp⟩
      generalize hx : rd b (Int.tmod p b.length) = X at *
      generalize hy : rd b (Int.tmod (p * 7 + 3) b.length) = Y at *
      generalize hz : Int.tdiv p b.length = Z at *
      have q4 : 0 ≤ Int.tdiv (X * 131 + Y * 1117 + p * 29 + Z * 53) 64 ∧ Int.tdiv (X * 131 + Y * 1117 + p * 29 + Z * 53) 64 ≤ 4611686018427387903 := by
        rw [Int.tdiv_eq_ediv_of_nonneg (by omega)]; omega
      generalize hu : Int.tdiv (X * 131 + Y * 1117 + p * 29 + Z * 53) 64 = U at *
      have q5 := xor_nn (X * 131 + Y * 1117 + p * 29 + Z * 53) U (by omega) (by omega) (by omega) (by omega)
      have t := tmod_in _ n q5 hn
      refine ⟨Int.tmod (bits .xor .i64 (X * 131 + Y * 1117 + p * 29 + Z * 53) U) n, Ev.succ ?_, t.1, t.2⟩
      simp only [spec_l6Rd_pick.j0, show p + 1 - 1 = p by omega, wr p (by omega), if_neg g, if_neg (show ¬ (b.length : Int) = 0 by omega), if_pos q1.1, if_pos q1.2, wr (p * 7) (by omega), wr (p * 7 + 3) (by omega), if_pos q2.1, if_pos q2.2, if_neg (show ¬ n = 0 by omega), hx, hy, hz, wr X (by omega), wr Y (by omega), wr Z (by omega), wr (X * 131) (by omega), wr (Y * 1117) (by omega), wr (X * 131 + Y * 1117) (by omega), wr (p * 29) (by omega), wr (X * 131 + Y * 1117 + p * 29) (by omega), wr (Z * 53) (by omega), wr (X * 131 + Y * 1117 + p * 29 + Z * 53) (by omega), hu, wr U (by omega), Bool.false_eq_true, if_false]
      exact Ev.now _
theorem open_eq (l : List Int) (h : ∀ x ∈ l, (Lit.int .u8 x).wf = true) : ∃ b, spec_l6Open.f l = some (b, 0) ∧ ByB b ∧ (b.length : Int) ≤ 2000 := by
  unfold spec_l6Open.f
  by_cases g : (l.length : Int) > 2000
  · rw [if_pos g, if_pos (by omega)]
    exact ⟨_, rfl, byB_of fun x hx => h x (List.mem_of_mem_take hx), by simp; omega⟩
  · rw [if_neg g]
    exact ⟨_, rfl, byB_of h, by omega⟩
theorem rdE_at {l : List S44} {i : Nat} (h : i < l.length) : rd_T44 l (i : Int) = l[i] := getD_at _ h
theorem entry_ev (b : List Int) (p : Int) (hb : ByB b) (hl : (b.length : Int) ≤ 2000) (hp : 0 ≤ p) (hp' : p ≤ 100000000) :
    ∃ h q w p', Ev (fun k => spec_l71Entry.f k b p) (h, q, w, p') ∧ p ≤ p' ∧ p' ≤ p + 3 ∧ -1 ≤ q ∧ q ≤ 6 := by
  unfold spec_l71Entry.f
  obtain ⟨v, h1, v1, v2⟩ := pick_ev b p 20 hb hl (by omega) (by omega) (by omega) (by omega)
  obtain ⟨u, h2, u1, u2⟩ := pick_ev b (p + 1) 2 hb hl (by omega) (by omega) (by omega) (by omega)
  obtain ⟨z, h3, z1, z2⟩ := pick_ev b (p + 1) 6 hb hl (by omega) (by omega) (by omega) (by omega)
  obtain ⟨y, h4, y1, y2⟩ := pick_ev b (p + 1 + 1) 2 hb hl (by omega) (by omega) (by omega) (by omega)
  by_cases c0 : v = 0
  · obtain rfl | rfl : u = 0 ∨ u = 1 := by omega
    · refine ⟨true, -1, false, p + 1 + 1, Ev.bind h1 ?_, by omega, by omega, by omega, by omega⟩
      simp only [if_pos c0, Option.bind_some]
      exact Ev.bind h2 (Ev.now _)
    · refine ⟨true, 6, false, p + 1 + 1, Ev.bind h1 ?_, by omega, by omega, by omega, by omega⟩
      simp only [if_pos c0, Option.bind_some]
      exact Ev.bind h2 (Ev.now _)
  by_cases c1 : v = 1
  · obtain rfl | rfl : u = 0 ∨ u = 1 := by omega
    · refine ⟨false, 1, false, p + 1 + 1, Ev.bind h1 ?_, by omega, by omega, by omega, by omega⟩
      simp only [if_neg c0, if_pos c1, Option.bind_some]
      exact Ev.bind h2 (Ev.now _)
    · refine ⟨false, 0, true, p + 1 + 1, Ev.bind h1 ?_, by omega, by omega, by omega, by omega⟩
      simp only [if_neg c0, if_pos c1, Option.bind_some]
      exact Ev.bind h2 (Ev.now _)
  have J1 : Ev (fun k => spec_l71Entry.j0 k true b (p + 1)) (false, 0, false, p + 1) := by
    refine Ev.succ ?_
    simp only [spec_l71Entry.j0, if_true]
    exact Ev.now _
  have J0 : Ev (fun k => spec_l71Entry.j0 k false b (p + 1)) (true, z, (y == 0), p + 1 + 1 + 1) := by
    refine Ev.succ ?_
    simp only [spec_l71Entry.j0, Bool.false_eq_true, if_false]
    exact Ev.bind h3 (Ev.bind h4 (Ev.now _))
  by_cases c2 : v = 2
  · refine ⟨false, 0, false, p + 1, Ev.bind h1 ?_, by omega, by omega, by omega, by omega⟩
    simp only [if_neg c0, if_neg c1, if_pos c2, show (v == 2) = true by simpa using c2]; exact J1
  by_cases c3 : v = 3
  · refine ⟨false, 0, false, p + 1, Ev.bind h1 ?_, by omega, by omega, by omega, by omega⟩
    simp only [if_neg c0, if_neg c1, if_neg c2, if_pos c3, show (v == 3) = true by simpa using c3]; exact J1
  by_cases c4 : v = 4
  · refine ⟨false, 0, false, p + 1, Ev.bind h1 ?_, by omega, by omega, by omega, by omega⟩
    simp only [if_neg c0, if_neg c1, if_neg c2, if_neg c3, if_pos c4, show (v == 4) = true by simpa using c4]; exact J1
  by_cases c5 : v = 5
  · refine ⟨false, 0, false, p + 1, Ev.bind h1 ?_, by omega, by omega, by omega, by omega⟩
    simp only [if_neg c0, if_neg c1, if_neg c2, if_neg c3, if_neg c4, show (v == 5) = true by simpa using c5]; exact J1
  · refine ⟨true, z, (y == 0), p + 1 + 1 + 1, Ev.bind h1 ?_, by omega, by omega, by omega, by omega⟩
    simp only [if_neg c0, if_neg c1, if_neg c2, if_neg c3, if_neg c4, show (v == 5) = false by simpa using c5]; exact J0
def entB (e : S44) : Bool := if e.f0 = true then wi e.f1 0 5 else (e.f1 == 0 && (!e.f2))
def tabB (l : List S44) : Bool := l.all entB && ((l.length : Int) == 6)
theorem l1Entry_eq (e : S44) : spec_l1Entry.f e.f0 e.f1 e.f2 = some (entB e) := by
  unfold spec_l1Entry.f entB
  by_cases h : e.f0 = true
  · rw [if_pos h, if_pos h, l6In_eq]; rfl
  · rw [if_neg h, if_neg h]; simp [h]
theorem sTabOk_ev (l : List S44) (hl : (l.length : Int) ≤ 1000000000000000) : Ev (fun k => spec_TabOk.f k l) (tabB l) := by
  unfold spec_TabOk.f
  have H := Ev.down (σ := Unit) (fun k i _ => spec_TabOk.l0 k l i) (fun i _ => (l.drop i).all entB && ((l.length : Int) == 6)) l.length
    (fun _ => Ev.succ (by simp only [spec_TabOk.l0, Int.lt_irrefl, if_false]; exact Ev.cast (by simp) (Ev.now _)))
    (fun i hi ih _ => by
      refine Ev.succ ?_
      simp only [spec_TabOk.l0, if_pos (Int.ofNat_lt.mpr hi), if_pos (Int.natCast_nonneg i), rdE_at hi, l1Entry_eq, Option.bind_some, wr1 i (by omega)]
      rw [drop_cons hi, List.all_cons]
      cases h : entB l[i]
      · exact Ev.now _
      · exact ih ())
  exact H ()
theorem iTabOk_ev (l : List S44) (hl : (l.length : Int) ≤ 1000000000000000) : Ev (fun k => impl_TabOk.f k l) (tabB l) := by
  unfold impl_TabOk.f
  have H := Ev.down (σ := Unit) (fun k i _ => impl_TabOk.l0 k l l l.length i) (fun i _ => (l.drop i).all entB && ((l.length : Int) == 6)) l.length
    (fun _ => Ev.succ (by simp only [impl_TabOk.l0, Int.lt_irrefl, if_false]; exact Ev.cast (by simp) (Ev.now _)))
    (fun i hi ih _ => by
      refine Ev.succ ?_
      simp only [impl_TabOk.l0, if_pos (Int.ofNat_lt.mpr hi), if_pos (Int.natCast_nonneg i), rdE_at hi, within_eq, Option.bind_some, wr1 i (by omega)]
      rw [drop_cons hi, List.all_cons]
      unfold entB
      by_cases h : l[i].f0 = true
      · simp only [if_pos h]
        cases g : wi l[i].f1 0 5
        · exact Ev.now _
        · exact ih ()
      · simp only [if_neg h]
        cases g : (l[i].f1 == 0 && (!l[i].f2))
        · rw [show (l[i].f0 || (!(l[i].f1 == 0) || l[i].f2)) = true by revert g h; cases l[i].f0 <;> cases l[i].f2 <;> simp]
          exact Ev.now _
        · have g1 : l[i].f1 = 0 := by revert g; simp; intro a _; exact a
          rw [show (l[i].f0 || (!(l[i].f1 == 0) || l[i].f2)) = false by revert g h; cases l[i].f0 <;> cases l[i].f2 <;> simp]
          simp only [Bool.false_eq_true, if_false, g1, show wi 0 0 5 = true from rfl, if_true]
          exact ih ())
  exact H ()
theorem fine_ev (b : List Int) (p : Int) (hb : ByB b) (hl : (b.length : Int) ≤ 2000) (hp : 0 ≤ p) (hp' : p ≤ 100000000) :
    ∃ h q w p', Ev (fun k => spec_l71Fine.f k b p) (h, q, w, p') ∧ p ≤ p' ∧ p' ≤ p + 3 ∧ -1 ≤ q ∧ q ≤ 6 := by
  unfold spec_l71Fine.f
  obtain ⟨v, h1, v1, v2⟩ := pick_ev b p 4 hb hl (by omega) (by omega) (by omega) (by omega)
  obtain ⟨z, h3, z1, z2⟩ := pick_ev b (p + 1) 6 hb hl (by omega) (by omega) (by omega) (by omega)
  obtain ⟨y, h4, y1, y2⟩ := pick_ev b (p + 1 + 1) 2 hb hl (by omega) (by omega) (by omega) (by omega)
  by_cases c0 : v = 0
  · refine ⟨false, 0, false, p + 1, Ev.bind h1 ?_, by omega, by omega, by omega, by omega⟩
    simp only [if_pos c0]; exact Ev.now _
  · refine ⟨true, z, (y == 0), p + 1 + 1 + 1, Ev.bind h1 ?_, by omega, by omega, by omega, by omega⟩
    simp only [if_neg c0]; exact Ev.bind h3 (Ev.bind h4 (Ev.now _))
theorem tab_ev (b : List Int) (p : Int) (hb : ByB b) (hl : (b.length : Int) ≤ 2000) (hp : 0 ≤ p) (hp' : p ≤ 10000000) :
    ∃ tab p', Ev (fun k => spec_l71Tab.f k b p) (tab, p') ∧ p ≤ p' ∧ p' ≤ p + 100 ∧ 5 ≤ tab.length ∧ tab.length ≤ 6 := by
  unfold spec_l71Tab.f
  have H : ∀ d i : Nat, i + d = 6 → ∀ (xs : List S44) (p : Int), xs.length = i → 0 ≤ p → p ≤ 10000000 + 3 * i →
      ∃ tab p', Ev (fun k => spec_l71Tab.l0 k xs (i : Int) b p) (tab, p') ∧ p ≤ p' ∧ p' ≤ p + 3 * d + 10 ∧ 5 ≤ tab.length ∧ tab.length ≤ 6 := by
    intro d
    induction d with
    | zero =>
      intro i hi xs p hx h0 h1
      obtain rfl : i = 6 := by omega
      obtain ⟨v, g1, v1, v2⟩ := pick_ev b p 20 hb hl (by omega) (by omega) (by omega) (by omega)
      obtain ⟨u, g2, u1, u2⟩ := pick_ev b (p + 1) xs.length hb hl (by omega) (by omega) (by omega) (by omega)
      obtain ⟨a, q, w, p', g3, _, _, _, _⟩ := entry_ev b (p + 1 + 1) hb hl (by omega) (by omega)
      by_cases c0 : v = 0
      · refine ⟨xs.set u.toNat ⟨a, q, w⟩, p', Ev.succ ?_, by omega, by omega, by simp [hx], by simp [hx]⟩
        simp only [spec_l71Tab.l0, if_neg (show ¬ ((6 : Nat) : Int) < 6 by omega)]
        refine Ev.bind g1 ?_
        simp only [if_pos c0]
        refine Ev.bind g2 (Ev.bind g3 ?_)
        simp only [if_pos u1, if_pos u2]
        exact Ev.now _
      · by_cases c1 : v = 1
        · refine ⟨xs.drop 1, p + 1, Ev.succ ?_, by omega, by omega, by simp [hx], by simp [hx]⟩
          simp only [spec_l71Tab.l0, if_neg (show ¬ ((6 : Nat) : Int) < 6 by omega)]
          refine Ev.bind g1 ?_
          simp only [if_neg c0, if_pos c1, if_pos (show (1 : Int) ≤ xs.length by omega)]
          exact Ev.now _
        · refine ⟨xs, p + 1, Ev.succ ?_, by omega, by omega, by omega, by omega⟩
          simp only [spec_l71Tab.l0, if_neg (show ¬ ((6 : Nat) : Int) < 6 by omega)]
          refine Ev.bind g1 ?_
          simp only [if_neg c0, if_neg c1]
          exact Ev.now _
    | succ d ih =>
      intro i hi xs p hx h0 h1
      obtain ⟨a, q, w, p1, g, a1, a2, _, _⟩ := fine_ev b p hb hl h0 (by omega)
      obtain ⟨tab, p', g', b1, b2, b3, b4⟩ := ih (i + 1) (by omega) (xs ++ [⟨a, q, w⟩]) p1 (by simp [hx]) (by omega) (by omega)
      refine ⟨tab, p', Ev.succ ?_, by omega, by omega, b3, b4⟩
      simp only [spec_l71Tab.l0, if_pos (show (i : Int) < 6 by omega)]
      refine Ev.bind g ?_
      simp only [if_pos (show xs.length < 5864062014805 by omega), wr1 i (by omega)]
      exact g'
  obtain ⟨tab, p', g, a1, a2, a3, a4⟩ := H 6 0 (by omega) [] p rfl hp (by omega)
  exact ⟨tab, p', g, a1, by omega, a3, a4⟩
theorem lkTab_refl (l : List S44) (hl : (l.length : Int) ≤ 1000000000000000) : Ev (fun k => laws_lkTab.f k l l) true := by
  unfold laws_lkTab.f
  simp only [if_true]
  have H := Ev.down (σ := Unit) (fun k i _ => laws_lkTab.l0 k l l i) (fun i _ => true) l.length
    (fun _ => Ev.succ (by simp only [laws_lkTab.l0, Int.lt_irrefl, if_false]; exact Ev.now _))
    (fun i hi ih _ => by
      refine Ev.succ ?_
      simp only [laws_lkTab.l0, if_pos (Int.ofNat_lt.mpr hi), if_pos (Int.natCast_nonneg i), beq_self_eq_true, Bool.not_true, Bool.or_self, Bool.false_eq_true, if_false, wr1 i (by omega)]
      exact ih ())
  exact H ()
theorem ba_append (a b : List UInt8) : (⟨a.toArray⟩ ++ ⟨b.toArray⟩ : ByteArray) = ⟨(a ++ b).toArray⟩ := ByteArray.ext (by simp [ByteArray.data_append])
theorem ba_size (a : List UInt8) : (⟨a.toArray⟩ : ByteArray).size = a.length := by show a.toArray.size = a.length; simp
theorem ba_loop (b : ByteArray) (i : Nat) (r : List UInt8) (h : i ≤ b.size) : ByteArray.toList.loop b i r = r.reverse ++ b.data.toList.drop i := by
  have hs : b.size = b.data.toList.length := by rw [Array.length_toList]; rfl
  have H : ∀ d i r, i + d = b.size → ByteArray.toList.loop b i r = r.reverse ++ b.data.toList.drop i := by
    intro d
    induction d with
    | zero =>
      intro i r hi
      unfold ByteArray.toList.loop
      rw [if_neg (by omega), List.drop_eq_nil_of_le (by omega), List.append_nil]
    | succ d ih =>
      intro i r hi
      unfold ByteArray.toList.loop
      rw [if_pos (by omega), ih (i + 1) _ (by omega)]
      have hl : i < b.data.toList.length := by omega
      have hl' : i < b.data.size := by simpa using hl
      rw [List.drop_eq_getElem_cons hl]
      have : b.get! i = b.data.toList[i] := by
        rw [Array.getElem_toList]
        show b.data[i]! = b.data[i]
        exact getElem!_pos b.data i hl'
      rw [this]; simp
  exact H (b.size - i) i r (by omega)
theorem ba_toList (a : List UInt8) : (⟨a.toArray⟩ : ByteArray).toList = a := by
  unfold ByteArray.toList
  rw [ba_loop _ _ _ (Nat.zero_le _)]; simp
def dig (p : Int) : UInt8 := UInt8.ofNat (48 + p.toNat)
def entT (e : S44) : List UInt8 := (if e.f0 = true then [dig e.f1] else [45]) ++ (if e.f2 = true then [119] else [])
def tabS (l : List S44) : List UInt8 := Lib.join (l.map entT) [32] ++ [10]
def tabTx (l : List S44) : ByteArray := if tabB l = true then ⟨(tabS l).toArray⟩ else ⟨#[]⟩
theorem entT_len (e : S44) : (entT e).length ≤ 2 := by unfold entT; split <;> split <;> simp
theorem join_step (x y : List UInt8) (r : List (List UInt8)) : Lib.join (x :: y :: r) [32] = x ++ ([32] ++ Lib.join (y :: r) [32]) := by
  rw [Lib.join_cons, Lib.join_cons]; simp [Lib.joinTail]
theorem join_len (l : List S44) : (Lib.join (l.map entT) [32]).length ≤ 3 * l.length := by
  induction l with
  | nil => simp [Lib.join_nil]
  | cons e r ih =>
    have he := entT_len e
    cases r with
    | nil => simp only [List.map_cons, List.map_nil, Lib.join_one, List.length_cons, List.length_nil]; omega
    | cons e2 r2 =>
      simp only [List.map_cons] at ih ⊢
      rw [join_step]
      simp only [List.length_append, List.length_cons, List.length_nil] at ih ⊢
      omega
theorem tT_ent {l : List S44} (h : tabB l = true) {e : S44} (he : e ∈ l) : entB e = true := by
  simp only [tabB, Bool.and_eq_true, List.all_eq_true] at h; exact h.1 e he
theorem tT_len {l : List S44} (h : tabB l = true) : l.length = 6 := by
  simp only [tabB, Bool.and_eq_true, List.all_eq_true, beq_iff_eq] at h; omega
theorem tT_page {e : S44} (h : entB e = true) (h0 : e.f0 = true) : 0 ≤ e.f1 ∧ e.f1 ≤ 5 := by
  unfold entB at h; rw [if_pos h0] at h; exact wi_iff.mp h
theorem ent_none {e : S44} (h : entB e = true) (h0 : ¬ e.f0 = true) : e.f1 = 0 ∧ e.f2 = false := by
  unfold entB at h; rw [if_neg h0] at h; simpa using h
theorem tabTx_list (l : List S44) : (tabTx l).toList = if tabB l = true then tabS l else [] := by
  unfold tabTx
  by_cases h : tabB l = true
  · rw [if_pos h, if_pos h, ba_toList]
  · rw [if_neg h, if_neg h]; exact ba_toList []
theorem decDig (p : Int) (h : 0 ≤ p ∧ p ≤ 5) : (⟨(Lib.decDigits p.toNat).toArray⟩ : ByteArray) = ⟨[dig p].toArray⟩ := by
  unfold Lib.decDigits
  rw [dif_pos (show p.toNat < 10 by omega)]; rfl
theorem iTabText_ev (l : List S44) (hl : (l.length : Int) ≤ 1000000000000) : Ev (fun k => impl_TabText.f k l) (tabTx l) := by
  unfold impl_TabText.f tabTx
  refine Ev.bind (iTabOk_ev l (by omega)) ?_
  cases hb : tabB l
  · simp only [Bool.false_eq_true, if_false]; exact Ev.now _
  simp only [if_true]
  have h6 := tT_len hb
  have H : ∀ d i : Nat, i + d = l.length → ∀ xs : List ByteArray, xs = (l.take i).map (fun e => (⟨(entT e).toArray⟩ : ByteArray)) → Ev (fun k => impl_TabText.l0 k xs l l.length (i : Int)) (⟨(tabS l).toArray⟩ : ByteArray) := by
    intro d
    induction d with
    | zero =>
      intro i hi xs hx
      obtain rfl : i = l.length := by omega
      rw [List.take_length] at hx
      have hj : Lib.join (xs.map (·.data.toList)) [32] = Lib.join (l.map entT) [32] := by rw [hx]; simp [Function.comp_def]
      have hn := join_len l
      have hxl : xs.length = 6 := by rw [hx]; simp [h6]
      have e : strings_Join.f xs (⟨#[32]⟩ : ByteArray) = some ⟨(Lib.join (l.map entT) [32]).toArray⟩ := by
        unfold strings_Join.f
        rw [show ((⟨#[32]⟩ : ByteArray).data.toList) = [32] from rfl, hj, if_pos ⟨by omega, by omega⟩]
      refine Ev.succ ?_
      simp only [impl_TabText.l0, Int.lt_irrefl, if_false, e, Option.bind_some, ba_size, if_pos (show (Lib.join (l.map entT) [32]).length + 1 ≤ 9223372036854775807 by omega)]
      exact Ev.cast (by unfold tabS; rw [← ba_append]) (Ev.now _)
    | succ d ih =>
      intro i hi xs hx
      have hlt : i < l.length := by omega
      have hxl : xs.length = i := by rw [hx]; simp; omega
      have he := tT_ent hb (List.getElem_mem hlt)
      have ih' := ih (i + 1) (by omega) (xs ++ [⟨(entT l[i]).toArray⟩]) (by rw [hx, List.take_succ_eq_append_getElem hlt, List.map_append]; rfl)
      refine Ev.succ ?_
      simp only [impl_TabText.l0, if_pos (Int.ofNat_lt.mpr hlt), if_pos (Int.natCast_nonneg i), rdE_at hlt, wr1 i (by omega), if_pos (show xs.length < 8796093022208 by omega)]
      by_cases h0 : l[i].f0 = true
      · have hp := tT_page he h0
        have e : strconv_Itoa_23.f l[i].f1 = some ⟨[dig l[i].f1].toArray⟩ := by
          unfold strconv_Itoa_23.f
          rw [if_pos hp.1, if_pos (by omega), decDig _ hp]
        simp only [if_pos h0, e, Option.bind_some, ba_size, if_pos (show [dig l[i].f1].length + 1 ≤ 9223372036854775807 by simp)]
        by_cases h2 : l[i].f2 = true
        · simp only [if_pos h2]
          rw [show entT l[i] = [dig l[i].f1] ++ [119] by unfold entT; rw [if_pos h0, if_pos h2], ← ba_append] at ih'
          exact ih'
        · simp only [if_neg h2]
          rw [show entT l[i] = [dig l[i].f1] by unfold entT; rw [if_pos h0, if_neg h2, List.append_nil]] at ih'
          exact ih'
      · have h2 := (ent_none he h0).2
        simp only [if_neg h0]
        rw [show entT l[i] = [45] by unfold entT; rw [if_neg h0, h2]; simp] at ih'
        exact ih'
  exact H l.length 0 (by omega) [] rfl
theorem l6Dec_ev (p : Int) (h : 0 ≤ p ∧ p ≤ 5) : Ev (fun k => spec_l6Dec.f k p) (⟨[dig p].toArray⟩ : ByteArray) := by
  refine Ev.succ ?_
  simp only [spec_l6Dec.f, if_neg (show ¬ p < -9223372036854775807 by omega), if_neg (show ¬ p < 0 by omega), if_pos (show p < 10 by omega), wr (48 + p) (by omega)]
  exact Ev.cast (by unfold strOfNums dig; rw [show ((48 + p) % 256 : Int) = 48 + p by omega]; simp [show (48 + p).toNat = 48 + p.toNat by omega]) (Ev.now _)
theorem sTabText_ev (l : List S44) (hl : (l.length : Int) ≤ 1000000000000) : Ev (fun k => spec_TabText.f k l) (tabTx l) := by
  unfold spec_TabText.f tabTx
  refine Ev.bind (sTabOk_ev l (by omega)) ?_
  cases hb : tabB l
  · simp only [Bool.false_eq_true, if_false]; exact Ev.now _
  simp only [if_true]
  have h6 := tT_len hb
  have H : ∀ d i : Nat, i + d = l.length → ∀ s : List UInt8, s.length ≤ 3 * i → Ev (fun k => spec_TabText.l0 k l ⟨s.toArray⟩ (i : Int)) (⟨(s ++ (Lib.join ((l.drop i).map entT) [32] ++ [10])).toArray⟩ : ByteArray) := by
    intro d
    induction d with
    | zero =>
      intro i hi s hs
      obtain rfl : i = l.length := by omega
      refine Ev.succ ?_
      simp only [spec_TabText.l0, Int.lt_irrefl, if_false, ba_size, if_pos (show s.length + 1 ≤ 9223372036854775807 by omega)]
      exact Ev.cast (by rw [List.drop_length, List.map_nil, Lib.join_nil, List.nil_append, ← ba_append]) (Ev.now _)
    | succ d ih =>
      intro i hi s hs
      have hlt : i < l.length := by omega
      have he := tT_ent hb (List.getElem_mem hlt)
      have J : ∀ t : List UInt8, t.length ≤ 1 → t ++ (if l[i].f2 = true then [119] else []) = entT l[i] → Ev (fun k => spec_TabText.j1 k l ⟨(s ++ t).toArray⟩ (i : Int)) (⟨(s ++ (Lib.join ((l.drop i).map entT) [32] ++ [10])).toArray⟩ : ByteArray) := by
        intro t ht hte
        have hstep : ∀ u : List UInt8, u = s ++ entT l[i] → ((i + 1 < l.length → Ev (fun k => spec_TabText.l0 k l ⟨(u ++ [32]).toArray⟩ ((i + 1 : Nat) : Int)) (⟨(s ++ (Lib.join ((l.drop i).map entT) [32] ++ [10])).toArray⟩ : ByteArray)) ∧ (¬ i + 1 < l.length → Ev (fun k => spec_TabText.l0 k l ⟨u.toArray⟩ ((i + 1 : Nat) : Int)) (⟨(s ++ (Lib.join ((l.drop i).map entT) [32] ++ [10])).toArray⟩ : ByteArray))) := by
          intro u hu
          have hel := entT_len l[i]
          constructor
          · intro hn
            refine Ev.cast ?_ (ih (i + 1) (by omega) (u ++ [32]) (by rw [hu]; simp; omega))
            rw [drop_cons hlt, drop_cons hn]
            simp only [List.map_cons]
            rw [join_step, hu]
            simp [List.append_assoc]
          · intro hn
            refine Ev.cast ?_ (ih (i + 1) (by omega) u (by rw [hu]; simp; omega))
            rw [drop_cons hlt, List.drop_eq_nil_of_le (show l.length ≤ i + 1 by omega), List.map_cons, List.map_nil, Lib.join_one, Lib.join_nil, hu]
            simp [List.append_assoc]
        refine Ev.succ ?_
        simp only [spec_TabText.j1, if_pos (Int.natCast_nonneg i), if_pos (Int.ofNat_lt.mpr hlt), rdE_at hlt, wr1 i (by omega), ba_size]
        have hsl : (s ++ t).length ≤ 3 * i + 1 := by simp; omega
        simp only [if_pos (show (s ++ t).length + 1 ≤ 9223372036854775807 by omega)]
        by_cases h2 : l[i].f2 = true
        · rw [if_pos h2] at hte
          have hc := hstep (s ++ t ++ [119]) (by rw [← hte, List.append_assoc])
          simp only [if_pos h2]
          rw [show (⟨#[119]⟩ : ByteArray) = ⟨[119].toArray⟩ from rfl, ba_append, show (⟨#[32]⟩ : ByteArray) = ⟨[32].toArray⟩ from rfl, ba_append]
          by_cases hn : i + 1 < l.length
          · simp only [if_pos (show ((i + 1 : Nat) : Int) < (l.length : Int) by omega), ba_size, if_pos (show (s ++ t ++ [119]).length + 1 ≤ 9223372036854775807 by simp at hsl ⊢; omega)]
            exact hc.1 hn
          · simp only [if_neg (show ¬ ((i + 1 : Nat) : Int) < (l.length : Int) by omega)]
            exact hc.2 hn
        · rw [if_neg h2, List.append_nil] at hte
          have hc := hstep (s ++ t) (by rw [← hte])
          simp only [if_neg h2]
          rw [show (⟨#[32]⟩ : ByteArray) = ⟨[32].toArray⟩ from rfl, ba_append]
          by_cases hn : i + 1 < l.length
          · simp only [if_pos (show ((i + 1 : Nat) : Int) < (l.length : Int) by omega)]
            exact hc.1 hn
          · simp only [if_neg (show ¬ ((i + 1 : Nat) : Int) < (l.length : Int) by omega)]
            exact hc.2 hn
      refine Ev.succ ?_
      simp only [spec_TabText.l0, if_pos (Int.ofNat_lt.mpr hlt), if_pos (Int.natCast_nonneg i), rdE_at hlt]
      by_cases h0 : l[i].f0 = true
      · have hp := tT_page he h0
        simp only [if_pos h0]
        refine Ev.bind (l6Dec_ev _ hp) ?_
        simp only [ba_size, if_pos (show s.length + [dig l[i].f1].length ≤ 9223372036854775807 by simp; omega), ba_append]
        exact J [dig l[i].f1] (by simp) (by unfold entT; rw [if_pos h0])
      · simp only [if_neg h0, ba_size, if_pos (show s.length + 1 ≤ 9223372036854775807 by omega), show (⟨#[45]⟩ : ByteArray) = ⟨[45].toArray⟩ from rfl, ba_append]
        exact J [45] (by simp) (by unfold entT; rw [if_neg h0])
  have := H l.length 0 (by omega) [] (by simp)
  simpa [tabS] using this
theorem dig_ne {p : Int} (hp : 0 ≤ p ∧ p ≤ 5) : dig p ≠ 45 ∧ dig p ≠ 32 ∧ dig p ≠ 119 ∧ dig p ≠ 10 := by
  obtain rfl | rfl | rfl | rfl | rfl | rfl : p = 0 ∨ p = 1 ∨ p = 2 ∨ p = 3 ∨ p = 4 ∨ p = 5 := by omega
  all_goals decide
theorem entT_no32 {a : S44} (ha : entB a = true) : (32 : UInt8) ∉ entT a := by
  unfold entT
  by_cases h0 : a.f0 = true
  · have := (dig_ne (tT_page ha h0)).2.1
    rw [if_pos h0]; split <;> simp [this.symm]
  · rw [if_neg h0]; split <;> simp
theorem ba_extract (l : List UInt8) (a b : Nat) : (⟨l.toArray⟩ : ByteArray).extract a b = ⟨((l.drop a).take (b - a)).toArray⟩ := by
  apply ByteArray.ext
  simp [ByteArray.data_extract]
theorem ix_hit : ∀ (x t : List UInt8), (32 : UInt8) ∉ x → Lib.index (x ++ 32 :: t) [32] = (x.length : Int)
  | [], t, _ => by simp [Lib.index, List.isPrefixOf]
  | b :: l, t, h => by
    have hb : ¬ b = 32 := fun e => h (by simp [e])
    have hp : ([32] : List UInt8).isPrefixOf (b :: (l ++ 32 :: t)) = false := by simp [List.isPrefixOf, Ne.symm hb]
    have ih := ix_hit l t (fun z => h (List.mem_cons_of_mem _ z))
    rw [List.cons_append, Lib.index, hp, ih]
    simp
theorem cnt_join : ∀ (ws : List (List UInt8)), ws ≠ [] → (∀ w ∈ ws, (32 : UInt8) ∉ w) → (Lib.join ws [32]).count 32 = ws.length - 1
  | [], h, _ => absurd rfl h
  | [w], _, h => by rw [Lib.join_one, List.count_eq_zero.mpr (h w (by simp))]; rfl
  | w :: w2 :: r, _, h => by
    have ih := cnt_join (w2 :: r) (by simp) (fun z hz => h z (List.mem_cons_of_mem _ hz))
    rw [join_step, List.count_append, List.count_append, ih, List.count_eq_zero.mpr (h w (by simp))]
    simp; omega
theorem split_join : ∀ (ws : List (List UInt8)), ws ≠ [] → (∀ w ∈ ws, (32 : UInt8) ∉ w) → Lib.splitB (⟨#[32]⟩ : ByteArray) 0 (ws.length - 1) ⟨(Lib.join ws [32]).toArray⟩ = ws.map (fun w => (⟨w.toArray⟩ : ByteArray))
  | [], h, _ => absurd rfl h
  | [w], _, _ => by rw [Lib.join_one]; rfl
  | w :: w2 :: r, _, h => by
    have ih := split_join (w2 :: r) (by simp) (fun z hz => h z (List.mem_cons_of_mem _ hz))
    have hw := h w (by simp)
    have hi : Lib.indexB ⟨(Lib.join (w :: w2 :: r) [32]).toArray⟩ (⟨#[32]⟩ : ByteArray) = (w.length : Int) := by
      show Lib.index (Lib.join (w :: w2 :: r) [32]) [32] = _
      rw [join_step]
      exact ix_hit w _ hw
    show Lib.splitB _ 0 ((w2 :: r).length - 1 + 1) _ = _
    rw [Lib.splitB, hi, if_neg (by simp), ba_extract, ba_extract]
    have e1 : ((Lib.join (w :: w2 :: r) [32]).drop 0).take ((w.length : Int).toNat + 0 - 0) = w := by
      rw [join_step]; simp
    have e2 : ((Lib.join (w :: w2 :: r) [32]).drop ((w.length : Int).toNat + (⟨#[32]⟩ : ByteArray).size)).take ((⟨(Lib.join (w :: w2 :: r) [32]).toArray⟩ : ByteArray).size - ((w.length : Int).toNat + (⟨#[32]⟩ : ByteArray).size)) = Lib.join (w2 :: r) [32] := by
      rw [join_step, show (⟨#[32]⟩ : ByteArray).size = 1 from rfl, Int.toNat_natCast]
      rw [List.take_of_length_le (by show _ ≤ (w ++ ([32] ++ Lib.join (w2 :: r) [32])).toArray.size - _; simp; omega)]
      rw [← List.append_assoc, show w.length + 1 = (w ++ [32]).length by simp, List.drop_left]
    rw [e1, e2, ih]
    rfl
theorem cut_ent {e : S44} (he : entB e = true) : strings_CutSuffix.f ⟨(entT e).toArray⟩ (⟨#[119]⟩ : ByteArray) = some (⟨(if e.f0 = true then [dig e.f1] else [45]).toArray⟩, e.f2) := by
  unfold strings_CutSuffix.f
  have hl := entT_len e
  rw [if_pos (by rw [ba_size]; omega)]
  show some ((⟨(Lib.trimSuffix (entT e) [119]).toArray⟩ : ByteArray), Lib.hasSuffix (entT e) [119]) = _
  unfold Lib.trimSuffix Lib.hasSuffix
  obtain ⟨e0, e1, e2⟩ := e
  cases e0
  · have x := ent_none he (by simp)
    simp only at x
    rw [x.2]
    rfl
  · have hp := tT_page he rfl
    have hd := (dig_ne hp).2.2.1
    simp only at hp hd
    cases e2
    · have : ([119] : List UInt8).isSuffixOf (entT (⟨true, e1, false⟩ : S44)) = false := by
        simp [entT, List.isSuffixOf, List.isPrefixOf, hd.symm]
      rw [this]; rfl
    · have : ([119] : List UInt8).isSuffixOf (entT (⟨true, e1, true⟩ : S44)) = true := by
        simp [entT, List.isSuffixOf, List.isPrefixOf]
      rw [this]; rfl
theorem atoi_dig {p : Int} (hp : 0 ≤ p ∧ p ≤ 5) : strconv_Atoi_30.f ⟨[dig p].toArray⟩ = some (p, none) := by
  obtain rfl | rfl | rfl | rfl | rfl | rfl : p = 0 ∨ p = 1 ∨ p = 2 ∨ p = 3 ∨ p = 4 ∨ p = 5 := by omega
  all_goals rfl
theorem atoi_dash : strconv_Atoi_30.f ⟨[45].toArray⟩ = some (0, some 0) := rfl
theorem trim_nl (s : List UInt8) (hs : s.length ≤ 1000) : strings_TrimSuffix.f ⟨(s ++ [10]).toArray⟩ (⟨#[10]⟩ : ByteArray) = some ⟨s.toArray⟩ := by
  unfold strings_TrimSuffix.f
  rw [if_pos (by rw [ba_size]; simp; omega)]
  show some (⟨(Lib.trimSuffix (s ++ [10]) [10]).toArray⟩ : ByteArray) = _
  unfold Lib.trimSuffix Lib.hasSuffix
  have : ([10] : List UInt8).isSuffixOf (s ++ [10]) = true := by simp [List.isSuffixOf, List.isPrefixOf]
  rw [this]; simp
theorem split_tab (l : List S44) (hb : tabB l = true) : strings_Split.f ⟨(Lib.join (l.map entT) [32]).toArray⟩ (⟨#[32]⟩ : ByteArray) = some (l.map (fun e => (⟨(entT e).toArray⟩ : ByteArray))) := by
  have h6 := tT_len hb
  have hn : ∀ w ∈ l.map entT, (32 : UInt8) ∉ w := by
    intro w hw
    obtain ⟨e, he, rfl⟩ := List.mem_map.mp hw
    exact entT_no32 (tT_ent hb he)
  have hne : l.map entT ≠ [] := by intro x; have := congrArg List.length x; rw [List.length_map, h6] at this; exact absurd this (by decide)
  have hj := join_len l
  unfold strings_Split.f
  rw [if_pos ⟨by rw [ba_size]; omega, by decide⟩]
  have hc : Lib.countB ⟨(Lib.join (l.map entT) [32]).toArray⟩ (⟨#[32]⟩ : ByteArray) = (l.map entT).length - 1 := by
    show Lib.count (Lib.join (l.map entT) [32]) [32] = _
    rw [Lib.count_one]; exact cnt_join _ hne hn
  rw [hc, split_join _ hne hn, List.map_map]
  rfl
theorem tabRead_ev (l : List S44) (hb : tabB l = true) : Ev (fun k => impl_TabRead.f k ⟨(tabS l).toArray⟩) (l, true) := by
  have h6 := tT_len hb
  have hj := join_len l
  unfold impl_TabRead.f
  simp only [show strings_TrimSuffix.f ⟨(tabS l).toArray⟩ (⟨#[10]⟩ : ByteArray) = some ⟨(Lib.join (l.map entT) [32]).toArray⟩ from trim_nl _ (by omega), Option.bind_some, split_tab l hb, List.length_map]
  have H : ∀ d i : Nat, i + d = l.length → ∀ xs : List S44, xs = l.take i → Ev (fun k => impl_TabRead.l0 k ⟨(tabS l).toArray⟩ xs (l.map (fun e => (⟨(entT e).toArray⟩ : ByteArray))) (l.length : Int) (i : Int)) (l, true) := by
    intro d
    induction d with
    | zero =>
      intro i hi xs hx
      obtain rfl : i = l.length := by omega
      rw [List.take_length] at hx
      subst hx
      refine Ev.succ ?_
      have hne : ¬ (⟨(tabS xs).toArray⟩ : ByteArray).toList = ([] : List UInt8) := by rw [ba_toList]; unfold tabS; simp
      simp only [impl_TabRead.l0, Int.lt_irrefl, if_false, if_neg hne]
      refine Ev.bind (iTabText_ev xs (by omega)) ?_
      have e : tabTx xs = ⟨(tabS xs).toArray⟩ := if_pos hb
      simp only [e, if_true]
      exact Ev.now _
    | succ d ih =>
      intro i hi xs hx
      have hlt : i < l.length := by omega
      have he := tT_ent hb (List.getElem_mem hlt)
      have hxl : xs.length = i := by rw [hx]; simp; omega
      have ih' := ih (i + 1) (by omega) (xs ++ [l[i]]) (by rw [hx, List.take_succ_eq_append_getElem hlt])
      have hr : rdOf ByteArray.empty (l.map (fun e => (⟨(entT e).toArray⟩ : ByteArray))) (i : Int) = ⟨(entT l[i]).toArray⟩ := by
        unfold rdOf; rw [Int.toNat_natCast]; simp [hlt]
      refine Ev.succ ?_
      simp only [impl_TabRead.l0, if_pos (Int.ofNat_lt.mpr hlt), if_pos (Int.natCast_nonneg i), List.length_map, hr, cut_ent he, Option.bind_some, wr1 i (by omega), if_pos (show xs.length < 5864062014805 by omega)]
      by_cases h0 : l[i].f0 = true
      · have hp := tT_page he h0
        simp only [if_pos h0, atoi_dig hp, Option.bind_some, Option.isNone_none, if_true]
        rw [show (⟨true, l[i].f1, l[i].f2⟩ : S44) = l[i] from by rw [← h0]]
        exact ih'
      · have hn := ent_none he h0
        simp only [if_neg h0, atoi_dash, Option.bind_some, Option.isNone_some, Bool.false_eq_true, if_false]
        rw [show (⟨false, 0, false⟩ : S44) = l[i] from by
          have h0' := Bool.eq_false_iff.mpr h0
          revert h0' hn
          generalize l[i] = q
          obtain ⟨q0, q1, q2⟩ := q
          rintro ⟨rfl, rfl⟩ h3
          exact congrArg (fun z => (⟨z, 0, false⟩ : S44)) h3.symm]
        exact ih'
  exact H l.length 0 (by omega) [] rfl

-- the law
theorem drawTabText_ev (l : List Int) (h : ∀ x ∈ l, (Lit.int .u8 x).wf = true) : ∃ t, Ev (fun k => spec_DrawTabText.f k l) t ∧ t.length ≤ 6 := by
  unfold spec_DrawTabText.f
  obtain ⟨b, e, hb, hl⟩ := open_eq l h
  obtain ⟨t, p, g, a1, a2, a3, a4⟩ := tab_ev b 0 hb hl (by omega) (by omega)
  refine ⟨t, ?_, a4⟩
  simp only [e, Option.bind_some]
  exact Ev.bind g (Ev.now _)
theorem FnTabBack : laws_FnTabBack.Pure := by
  intro l _ _ hw
  obtain ⟨a, ga, ha⟩ := drawTabText_ev l hw
  have hla : (a.length : Int) ≤ 1000000000000 := by omega
  apply Ev.rounds
  unfold laws_FnTabBack.f
  by_cases c : (l.length : Int) > 1048576
  · simp only [if_pos c]; exact Ev.now _
  simp only [if_neg c]
  refine Ev.bind ga (Ev.bind (iTabText_ev a hla) (Ev.bind (sTabText_ev a hla) ?_))
  simp only [if_true]
  refine Ev.succ ?_
  by_cases ta : tabB a = true
  · have e : tabTx a = ⟨(tabS a).toArray⟩ := if_pos ta
    have na : ((tabTx a).toList == ([] : List UInt8)) = false := by rw [tabTx_list, if_pos ta]; unfold tabS; simp
    rw [e] at na
    simp only [laws_FnTabBack.j0, e, na, Bool.false_eq_true, if_false]
    refine Ev.bind (tabRead_ev a ta) ?_
    simp only [if_true]
    refine Ev.bind (lkTab_refl a (by omega)) ?_
    simp only [if_true]
    exact Ev.bind (Ev.cast ta (iTabOk_ev a (by omega))) (Ev.now _)
  · have na : ((tabTx a).toList == ([] : List UInt8)) = true := by rw [tabTx_list, if_neg ta]; rfl
    simp only [laws_FnTabBack.j0, na, if_true]
    refine Ev.bind (sTabText_ev a hla) ?_
    simp only [beq_self_eq_true]
    exact Ev.now _

end Go.Proofs.YtkadphbjfhbapaaDoor.Pure
