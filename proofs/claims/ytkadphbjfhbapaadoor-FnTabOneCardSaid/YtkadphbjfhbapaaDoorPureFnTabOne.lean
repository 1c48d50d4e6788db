/- The pure side of the law FnTabOne: what the printed functions compute answers true. Conditions: none beyond the statement given. -/
import Derived.Test.YtkadphbjfhbapaaDoorQFnTabOnex0
import Derived.Test.YtkadphbjfhbapaaDoorQFnTabOnex1
import Derived.Test.YtkadphbjfhbapaaDoorQFnTabOnex2
import Derived.Test.YtkadphbjfhbapaaDoorQFnTabOnex3
import Derived.Test.YtkadphbjfhbapaaDoorQFnTabOnex4
import Derived.Test.YtkadphbjfhbapaaDoorQFnTabOnex5
import Derived.Laws.BitsLemmas
namespace Go.Proofs.YtkadphbjfhbapaaDoor.Pure
open Go Go.RowKit Go.Proofs.YtkadphbjfhbapaaDoor.QFnTabOne Go.Proofs.YtkadphbjfhbapaaDoorW.PrintWords Go.Proofs.YtkadphbjfhbapaaDoorW.PrintLast
set_option linter.unusedVariables false
set_option linter.unusedSimpArgs false

theorem Ev.succ {α : Type} {g : Nat → Option α} {r : α} (h : Ev (fun k => g (k + 1)) r) : Ev g r := Ev.step (fun _ => rfl) h
theorem Ev.cast {α : Type} {g : Nat → Option α} {r r' : α} (e : r = r') (h : Ev g r) : Ev g r' := e ▸ h
theorem wr (n : Int) (h : -9223372036854775808 ≤ n ∧ n ≤ 9223372036854775807) : wrap64 n = n := by unfold wrap64; omega
theorem wr1 (i : Nat) (h : (i : Int) ≤ 1000000000000000000) : wrap64 ((i : Int) + 1) = ((i + 1 : Nat) : Int) := by rw [wr _ (by omega)]; rfl
theorem Ev.down {σ ρ : Type} (g : Nat → Int → σ → Option ρ) (R : Nat → σ → ρ) (n : Nat) (hend : ∀ st, Ev (fun k => g k n st) (R n st))
    (hstep : ∀ i : Nat, i < n → (∀ st, Ev (fun k => g k ((i + 1 : Nat) : Int) st) (R (i + 1) st)) → ∀ st, Ev (fun k => g k (i : Int) st) (R i st)) :
    ∀ st, Ev (fun k => g k 0 st) (R 0 st) := by
  have H : ∀ d i : Nat, i + d = n → ∀ st, Ev (fun k => g k (i : Int) st) (R i st) := by
    intro d
    induction d with
    | zero => intro i hi st; obtain rfl : i = n := by omega
              exact hend st
    | succ d ih => intro i hi; exact hstep i (by omega) (ih (i + 1) (by omega))
  exact H n 0 (by omega)
theorem drop_cons {α : Type} {l : List α} {i : Nat} (h : i < l.length) : l.drop i = l[i] :: l.drop (i + 1) := List.drop_eq_getElem_cons h
theorem getD_at {α : Type} {l : List α} {i : Nat} (z : α) (h : i < l.length) : l.getD ((i : Int)).toNat z = l[i] := by simp [h]
theorem u8_in {n : Int} (h : (Lit.int .u8 n).wf = true) : 0 ≤ n ∧ n ≤ 255 := by
  have e1 : IntKind.u8.min = 0 := by decide
  have e2 : IntKind.u8.max = 255 := by decide
  simp only [Lit.wf, e1, e2, Bool.and_eq_true, decide_eq_true_eq] at h; exact h
def wi (a lo hi : Int) : Bool := decide (lo ≤ a) && decide (a ≤ hi)
theorem wi_iff {a lo hi : Int} : wi a lo hi = true ↔ lo ≤ a ∧ a ≤ hi := by simp [wi]
theorem l6In_eq (a lo hi : Int) : spec_l6In.f a lo hi = some (wi a lo hi) := by
  unfold spec_l6In.f wi
  by_cases h : a ≥ lo
  · rw [if_pos h]; simp [h]
  · rw [if_neg h]; simp; omega
theorem within_eq (a lo hi : Int) : impl_within.f a lo hi = some (wi a lo hi) := by
  unfold impl_within.f wi
  by_cases h : a ≥ lo
  · rw [if_pos h]; simp [h]
  · rw [if_neg h]; simp; omega
theorem xor_nat (a b : Nat) (ha : a < 2 ^ 62) (hb : b < 2 ^ 62) : bits .xor .i64 (a : Int) (b : Int) = ((a ^^^ b : Nat) : Int) := by
  have ha' : a % 2 ^ 64 = a := Nat.mod_eq_of_lt (Nat.lt_of_lt_of_le ha (by decide))
  have hb' : b % 2 ^ 64 = b := Nat.mod_eq_of_lt (Nat.lt_of_lt_of_le hb (by decide))
  have hx : a ^^^ b < 2 ^ 62 := Nat.xor_lt_two_pow ha hb
  have e : IntKind.i64.bits = 64 := rfl
  simp only [bits, e, BitVec.ofInt_natCast, BitVec.toNat_xor, BitVec.toNat_ofNat, ha', hb']
  rw [IntKind.wrap_i64]; omega
theorem xor_nn (a b : Int) (ha : 0 ≤ a) (ha' : a < 4611686018427387904) (hb : 0 ≤ b) (hb' : b < 4611686018427387904) : 0 ≤ bits .xor .i64 a b := by
  obtain ⟨x, rfl⟩ := Int.eq_ofNat_of_zero_le ha
  obtain ⟨y, rfl⟩ := Int.eq_ofNat_of_zero_le hb
  rw [xor_nat x y (by omega) (by omega)]; omega
theorem tmod_in (x n : Int) (hx : 0 ≤ x) (hn : 1 ≤ n) : 0 ≤ Int.tmod x n ∧ Int.tmod x n < n := by
  rw [Int.tmod_eq_emod_of_nonneg hx]
  exact ⟨Int.emod_nonneg _ (by omega), Int.emod_lt_of_pos _ (by omega)⟩
def ByB (b : List Int) : Prop := ∀ i : Int, 0 ≤ rd b i ∧ rd b i ≤ 255
theorem byB_of {b : List Int} (h : ∀ x ∈ b, (Lit.int .u8 x).wf = true) : ByB b := by
  intro i
  unfold rd
  rw [List.getD_eq_getElem?_getD]
  cases e : b[i.toNat]? with
  | none => simp
  | some x => simpa using u8_in (h x (List.mem_of_getElem? e))
theorem pick_ev (b : List Int) (p n : Int) (hb : ByB b) (hl : (b.length : Int) ≤ 2000) (hp : 0 ≤ p) (hp' : p ≤ 1000000000) (hn : 1 ≤ n) (hn' : n ≤ 1000000000000) :
    ∃ v, Ev (fun k => spec_l6Rd_pick.f k b p n) (v, p + 1) ∧ 0 ≤ v ∧ v < n := by
  unfold spec_l6Rd_pick.f
  simp only [if_neg (show ¬ n < 1 by omega), wr (p + 1) (by omega)]
  by_cases e : b.length = 0
  · refine ⟨0, Ev.succ ?_, by omega, by omega⟩
    simp only [spec_l6Rd_pick.j0, e]
    exact Ev.now _
  · have e' : ((b.length : Int) == 0) = false := by simp; intro h; exact e (by simp [h])
    simp only [e']
    by_cases g : p < b.length
    · have hb1 := hb p
      have t := tmod_in (rd b p) n hb1.1 hn
      refine ⟨Int.tmod (rd b p) n, Ev.succ ?_, t.1, t.2⟩
      simp only [spec_l6Rd_pick.j0, show p + 1 - 1 = p by omega, wr p (by omega), if_pos g, if_pos hp, if_neg (show ¬ n = 0 by omega), wr (rd b p) (by omega), Bool.false_eq_true, if_false]
      exact Ev.now _
    · have hL : (1 : Int) ≤ b.length := by omega
      have q1 := tmod_in p b.length hp hL
      have q2 := tmod_in (p * 7 + 3) b.length (by omega) hL
      have b1 := hb (Int.tmod p b.length)
      have b2 := hb (Int.tmod (p * 7 + 3) b.length)
      have q3 : 0 ≤ Int.tdiv p b.length ∧ Int.tdiv p b.length ≤ p := by
        rw [Int.tdiv_eq_ediv_of_nonneg hp]
        exact ⟨Int.ediv_nonneg hp (by omega), Int.ediv_le_self _ hp⟩
      generalize hx : rd b (Int.tmod p b.length) = X at *
      generalize hy : rd b (Int.tmod (p * 7 + 3) b.length) = Y at *
      generalize hz : Int.tdiv p b.length = Z at *
      have q4 : 0 ≤ Int.tdiv (X * 131 + Y * 1117 + p * 29 + Z * 53) 64 ∧ Int.tdiv (X * 131 + Y * 1117 + p * 29 + Z * 53) 64 ≤ 4611686018427387903 := by
        rw [Int.tdiv_eq_ediv_of_nonneg (by omega)]; omega
      generalize hu : Int.tdiv (X * 131 + Y * 1117 + p * 29 + Z * 53) 64 = U at *
      have q5 := xor_nn (X * 131 + Y * 1117 + p * 29 + Z * 53) U (by omega) (by omega) (by omega) (by omega)
      have t := tmod_in _ n q5 hn
      refine ⟨Int.tmod (bits .xor .i64 (X * 131 + Y * 1117 + p * 29 + Z * 53) U) n, Ev.succ ?_, t.1, t.2⟩
      simp only [spec_l6Rd_pick.j0, show p + 1 - 1 = p by omega, wr p (by omega), if_neg g, if_neg (show ¬ (b.length : Int) = 0 by omega), if_pos q1.1, if_pos q1.2, wr (p * 7) (by omega), wr (p * 7 + 3) (by omega), if_pos q2.1, if_pos q2.2, if_neg (show ¬ n = 0 by omega), hx, hy, hz, wr X (by omega), wr Y (by omega), wr Z (by omega), wr (X * 131) (by omega), wr (Y * 1117) (by omega), wr (X * 131 + Y * 1117) (by omega), wr (p * 29) (by omega), wr (X * 131 + Y * 1117 + p * 29) (by omega), wr (Z * 53) (by omega), wr (X * 131 + Y * 1117 + p * 29 + Z * 53) (by omega), hu, wr U (by omega), Bool.false_eq_true, if_false]
      exact Ev.now _
theorem open_eq (l : List Int) (h : ∀ x ∈ l, (Lit.int .u8 x).wf = true) : ∃ b, spec_l6Open.f l = some (b, 0) ∧ ByB b ∧ (b.length : Int) ≤ 2000 := by
  unfold spec_l6Open.f
  by_cases g : (l.length : Int) > 2000
  · rw [if_pos g, if_pos (by omega)]
    exact ⟨_, rfl, byB_of fun x hx => h x (List.mem_of_mem_take hx), by simp; omega⟩
  · rw [if_neg g]
    exact ⟨_, rfl, byB_of h, by omega⟩
theorem rdE_at {l : List S44} {i : Nat} (h : i < l.length) : rd_T44 l (i : Int) = l[i] := getD_at _ h
theorem entry_ev (b : List Int) (p : Int) (hb : ByB b) (hl : (b.length : Int) ≤ 2000) (hp : 0 ≤ p) (hp' : p ≤ 100000000) :
    ∃ h q w p', Ev (fun k => spec_l71Entry.f k b p) (h, q, w, p') ∧ p ≤ p' ∧ p' ≤ p + 3 ∧ -1 ≤ q ∧ q ≤ 6 := by
  unfold spec_l71Entry.f
  obtain ⟨v, h1, v1, v2⟩ := pick_ev b p 20 hb hl (by omega) (by omega) (by omega) (by omega)
  obtain ⟨u, h2, u1, u2⟩ := pick_ev b (p + 1) 2 hb hl (by omega) (by omega) (by omega) (by omega)
  obtain ⟨z, h3, z1, z2⟩ := pick_ev b (p + 1) 6 hb hl (by omega) (by omega) (by omega) (by omega)
  obtain ⟨y, h4, y1, y2⟩ := pick_ev b (p + 1 + 1) 2 hb hl (by omega) (by omega) (by omega) (by omega)
  by_cases c0 : v = 0
  · obtain rfl | rfl : u = 0 ∨ u = 1 := by omega
    · refine ⟨true, -1, false, p + 1 + 1, Ev.bind h1 ?_, by omega, by omega, by omega, by omega⟩
      simp only [if_pos c0, Option.bind_some]
      exact Ev.bind h2 (Ev.now _)
    · refine ⟨true, 6, false, p + 1 + 1, Ev.bind h1 ?_, by omega, by omega, by omega, by omega⟩
      simp only [if_pos c0, Option.bind_some]
      exact Ev.bind h2 (Ev.now _)
  by_cases c1 : v = 1
  · obtain rfl | rfl : u = 0 ∨ u = 1 := by omega
    · refine ⟨false, 1, false, p + 1 + 1, Ev.bind h1 ?_, by omega, by omega, by omega, by omega⟩
      simp only [if_neg c0, if_pos c1, Option.bind_some]
      exact Ev.bind h2 (Ev.now _)
    · refine ⟨false, 0, true, p + 1 + 1, Ev.bind h1 ?_, by omega, by omega, by omega, by omega⟩
      simp only [if_neg c0, if_pos c1, Option.bind_some]
      exact Ev.bind h2 (Ev.now _)
  have J1 : Ev (fun k => spec_l71Entry.j0 k true b (p + 1)) (false, 0, false, p + 1) := by
    refine Ev.succ ?_
    simp only [spec_l71Entry.j0, if_true]
    exact Ev.now _
  have J0 : Ev (fun k => spec_l71Entry.j0 k false b (p + 1)) (true, z, (y == 0), p + 1 + 1 + 1) := by
    refine Ev.succ ?_
    simp only [spec_l71Entry.j0, Bool.false_eq_true, if_false]
    exact Ev.bind h3 (Ev.bind h4 (Ev.now _))
  by_cases c2 : v = 2
  · refine ⟨false, 0, false, p + 1, Ev.bind h1 ?_, by omega, by omega, by omega, by omega⟩
    simp only [if_neg c0, if_neg c1, if_pos c2, show (v == 2) = true by simpa using c2]; exact J1
  by_cases c3 : v = 3
  · refine ⟨false, 0, false, p + 1, Ev.bind h1 ?_, by omega, by omega, by omega, by omega⟩
    simp only [if_neg c0, if_neg c1, if_neg c2, if_pos c3, show (v == 3) = true by simpa using c3]; exact J1
  by_cases c4 : v = 4
  · refine ⟨false, 0, false, p + 1, Ev.bind h1 ?_, by omega, by omega, by omega, by omega⟩
    simp only [if_neg c0, if_neg c1, if_neg c2, if_neg c3, if_pos c4, show (v == 4) = true by simpa using c4]; exact J1
  by_cases c5 : v = 5
  · refine ⟨false, 0, false, p + 1, Ev.bind h1 ?_, by omega, by omega, by omega, by omega⟩
    simp only [if_neg c0, if_neg c1, if_neg c2, if_neg c3, if_neg c4, show (v == 5) = true by simpa using c5]; exact J1
  · refine ⟨true, z, (y == 0), p + 1 + 1 + 1, Ev.bind h1 ?_, by omega, by omega, by omega, by omega⟩
    simp only [if_neg c0, if_neg c1, if_neg c2, if_neg c3, if_neg c4, show (v == 5) = false by simpa using c5]; exact J0
def entB (e : S44) : Bool := if e.f0 = true then wi e.f1 0 5 else (e.f1 == 0 && (!e.f2))
def tabB (l : List S44) : Bool := l.all entB && ((l.length : Int) == 6)
theorem l1Entry_eq (e : S44) : spec_l1Entry.f e.f0 e.f1 e.f2 = some (entB e) := by
  unfold spec_l1Entry.f entB
  by_cases h : e.f0 = true
  · rw [if_pos h, if_pos h, l6In_eq]; rfl
  · rw [if_neg h, if_neg h]; simp [h]
theorem sTabOk_ev (l : List S44) (hl : (l.length : Int) ≤ 1000000000000000) : Ev (fun k => spec_TabOk.f k l) (tabB l) := by
  unfold spec_TabOk.f
  have H := Ev.down (σ := Unit) (fun k i _ => spec_TabOk.l0 k l i) (fun i _ => (l.drop i).all entB && ((l.length : Int) == 6)) l.length
    (fun _ => Ev.succ (by simp only [spec_TabOk.l0, Int.lt_irrefl, if_false]; exact Ev.cast (by simp) (Ev.now _)))
    (fun i hi ih _ => by
      refine Ev.succ ?_
      simp only [spec_TabOk.l0, if_pos (Int.ofNat_lt.mpr hi), if_pos (Int.natCast_nonneg i), rdE_at hi, l1Entry_eq, Option.bind_some, wr1 i (by omega)]
      rw [drop_cons hi, List.all_cons]
      cases h : entB l[i]
      · exact Ev.now _
      · exact ih ())
  exact H ()
theorem iTabOk_ev (l : List S44) (hl : (l.length : Int) ≤ 1000000000000000) : Ev (fun k => impl_TabOk.f k l) (tabB l) := by
  unfold impl_TabOk.f
  have H := Ev.down (σ := Unit) (fun k i _ => impl_TabOk.l0 k l l l.length i) (fun i _ => (l.drop i).all entB && ((l.length : Int) == 6)) l.length
    (fun _ => Ev.succ (by simp only [impl_TabOk.l0, Int.lt_irrefl, if_false]; exact Ev.cast (by simp) (Ev.now _)))
    (fun i hi ih _ => by
      refine Ev.succ ?_
      simp only [impl_TabOk.l0, if_pos (Int.ofNat_lt.mpr hi), if_pos (Int.natCast_nonneg i), rdE_at hi, within_eq, Option.bind_some, wr1 i (by omega)]
      rw [drop_cons hi, List.all_cons]
      unfold entB
      by_cases h : l[i].f0 = true
      · simp only [if_pos h]
        cases g : wi l[i].f1 0 5
        · exact Ev.now _
        · exact ih ()
      · simp only [if_neg h]
        cases g : (l[i].f1 == 0 && (!l[i].f2))
        · rw [show (l[i].f0 || (!(l[i].f1 == 0) || l[i].f2)) = true by revert g h; cases l[i].f0 <;> cases l[i].f2 <;> simp]
          exact Ev.now _
        · have g1 : l[i].f1 = 0 := by revert g; simp; intro a _; exact a
          rw [show (l[i].f0 || (!(l[i].f1 == 0) || l[i].f2)) = false by revert g h; cases l[i].f0 <;> cases l[i].f2 <;> simp]
          simp only [Bool.false_eq_true, if_false, g1, show wi 0 0 5 = true from rfl, if_true]
          exact ih ())
  exact H ()
theorem fine_ev (b : List Int) (p : Int) (hb : ByB b) (hl : (b.length : Int) ≤ 2000) (hp : 0 ≤ p) (hp' : p ≤ 100000000) :
    ∃ h q w p', Ev (fun k => spec_l71Fine.f k b p) (h, q, w, p') ∧ p ≤ p' ∧ p' ≤ p + 3 ∧ -1 ≤ q ∧ q ≤ 6 := by
  unfold spec_l71Fine.f
  obtain ⟨v, h1, v1, v2⟩ := pick_ev b p 4 hb hl (by omega) (by omega) (by omega) (by omega)
  obtain ⟨z, h3, z1, z2⟩ := pick_ev b (p + 1) 6 hb hl (by omega) (by omega) (by omega) (by omega)
  obtain ⟨y, h4, y1, y2⟩ := pick_ev b (p + 1 + 1) 2 hb hl (by omega) (by omega) (by omega) (by omega)
  by_cases c0 : v = 0
  · refine ⟨false, 0, false, p + 1, Ev.bind h1 ?_, by omega, by omega, by omega, by omega⟩
    simp only [if_pos c0]; exact Ev.now _
  · refine ⟨true, z, (y == 0), p + 1 + 1 + 1, Ev.bind h1 ?_, by omega, by omega, by omega, by omega⟩
    simp only [if_neg c0]; exact Ev.bind h3 (Ev.bind h4 (Ev.now _))
theorem tab_ev (b : List Int) (p : Int) (hb : ByB b) (hl : (b.length : Int) ≤ 2000) (hp : 0 ≤ p) (hp' : p ≤ 10000000) :
    ∃ tab p', Ev (fun k => spec_l71Tab.f k b p) (tab, p') ∧ p ≤ p' ∧ p' ≤ p + 100 ∧ 5 ≤ tab.length ∧ tab.length ≤ 6 := by
  unfold spec_l71Tab.f
  have H : ∀ d i : Nat, i + d = 6 → ∀ (xs : List S44) (p : Int), xs.length = i → 0 ≤ p → p ≤ 10000000 + 3 * i →
      ∃ tab p', Ev (fun k => spec_l71Tab.l0 k xs (i : Int) b p) (tab, p') ∧ p ≤ p' ∧ p' ≤ p + 3 * d + 10 ∧ 5 ≤ tab.length ∧ tab.length ≤ 6 := by
    intro d
    induction d with
    | zero =>
      intro i hi xs p hx h0 h1
      obtain rfl : i = 6 := by omega
      obtain ⟨v, g1, v1, v2⟩ := pick_ev b p 20 hb hl (by omega) (by omega) (by omega) (by omega)
      obtain ⟨u, g2, u1, u2⟩ := pick_ev b (p + 1) xs.length hb hl (by omega) (by omega) (by omega) (by omega)
      obtain ⟨a, q, w, p', g3, _, _, _, _⟩ := entry_ev b (p + 1 + 1) hb hl (by omega) (by omega)
      by_cases c0 : v = 0
      · refine ⟨xs.set u.toNat ⟨a, q, w⟩, p', Ev.succ ?_, by omega, by omega, by simp [hx], by simp [hx]⟩
        simp only [spec_l71Tab.l0, if_neg (show ¬ ((6 : Nat) : Int) < 6 by omega)]
        refine Ev.bind g1 ?_
        simp only [if_pos c0]
        refine Ev.bind g2 (Ev.bind g3 ?_)
        simp only [if_pos u1, if_pos u2]
        exact Ev.now _
      · by_cases c1 : v = 1
        · refine ⟨xs.drop 1, p + 1, Ev.succ ?_, by omega, by omega, by simp [hx], by simp [hx]⟩
          simp only [spec_l71Tab.l0, if_neg (show ¬ ((6 : Nat) : Int) < 6 by omega)]
          refine Ev.bind g1 ?_
          simp only [if_neg c0, if_pos c1, if_pos (show (1 : Int) ≤ xs.length by omega)]
          exact Ev.now _
        · refine ⟨xs, p + 1, Ev.succ ?_, by omega, by omega, by omega, by omega⟩
          simp only [spec_l71Tab.l0, if_neg (show ¬ ((6 : Nat) : Int) < 6 by omega)]
          refine Ev.bind g1 ?_
          simp only [if_neg c0, if_neg c1]
          exact Ev.now _
    | succ d ih =>
      intro i hi xs p hx h0 h1
      obtain ⟨a, q, w, p1, g, a1, a2, _, _⟩ := fine_ev b p hb hl h0 (by omega)
      obtain ⟨tab, p', g', b1, b2, b3, b4⟩ := ih (i + 1) (by omega) (xs ++ [⟨a, q, w⟩]) p1 (by simp [hx]) (by omega) (by omega)
      refine ⟨tab, p', Ev.succ ?_, by omega, by omega, b3, b4⟩
      simp only [spec_l71Tab.l0, if_pos (show (i : Int) < 6 by omega)]
      refine Ev.bind g ?_
      simp only [if_pos (show xs.length < 5864062014805 by omega), wr1 i (by omega)]
      exact g'
  obtain ⟨tab, p', g, a1, a2, a3, a4⟩ := H 6 0 (by omega) [] p rfl hp (by omega)
  exact ⟨tab, p', g, a1, by omega, a3, a4⟩
theorem lkTab_refl (l : List S44) (hl : (l.length : Int) ≤ 1000000000000000) : Ev (fun k => laws_lkTab.f k l l) true := by
  unfold laws_lkTab.f
  simp only [if_true]
  have H := Ev.down (σ := Unit) (fun k i _ => laws_lkTab.l0 k l l i) (fun i _ => true) l.length
    (fun _ => Ev.succ (by simp only [laws_lkTab.l0, Int.lt_irrefl, if_false]; exact Ev.now _))
    (fun i hi ih _ => by
      refine Ev.succ ?_
      simp only [laws_lkTab.l0, if_pos (Int.ofNat_lt.mpr hi), if_pos (Int.natCast_nonneg i), beq_self_eq_true, Bool.not_true, Bool.or_self, Bool.false_eq_true, if_false, wr1 i (by omega)]
      exact ih ())
  exact H ()
theorem ba_append (a b : List UInt8) : (⟨a.toArray⟩ ++ ⟨b.toArray⟩ : ByteArray) = ⟨(a ++ b).toArray⟩ := ByteArray.ext (by simp [ByteArray.data_append])
theorem ba_size (a : List UInt8) : (⟨a.toArray⟩ : ByteArray).size = a.length := by show a.toArray.size = a.length; simp
theorem ba_loop (b : ByteArray) (i : Nat) (r : List UInt8) (h : i ≤ b.size) : ByteArray.toList.loop b i r = r.reverse ++ b.data.toList.drop i := by
  have hs : b.size = b.data.toList.length := by rw [Array.length_toList]; rfl
  have H : ∀ d i r, i + d = b.size → ByteArray.toList.loop b i r = r.reverse ++ b.data.toList.drop i := by
    intro d
    induction d with
    | zero =>
      intro i r hi
      unfold ByteArray.toList.loop
      rw [if_neg (by omega), List.drop_eq_nil_of_le (by omega), List.append_nil]
    | succ d ih =>
      intro i r hi
      unfold ByteArray.toList.loop
      rw [if_pos (by omega), ih (i + 1) _ (by omega)]
      have hl : i < b.data.toList.length := by omega
      have hl' : i < b.data.size := by simpa using hl
      rw [List.drop_eq_getElem_cons hl]
      have : b.get! i = b.data.toList[i] := by
        rw [Array.getElem_toList]
        show b.data[i]! = b.data[i]
        exact getElem!_pos b.data i hl'
      rw [this]; simp
  exact H (b.size - i) i r (by omega)
theorem ba_toList (a : List UInt8) : (⟨a.toArray⟩ : ByteArray).toList = a := by
  unfold ByteArray.toList
  rw [ba_loop _ _ _ (Nat.zero_le _)]; simp
def dig (p : Int) : UInt8 := UInt8.ofNat (48 + p.toNat)
def entT (e : S44) : List UInt8 := (if e.f0 = true then [dig e.f1] else [45]) ++ (if e.f2 = true then [119] else [])
def tabS (l : List S44) : List UInt8 := Lib.join (l.map entT) [32] ++ [10]
def tabTx (l : List S44) : ByteArray := if tabB l = true then ⟨(tabS l).toArray⟩ else ⟨#[]⟩
theorem entT_len (e : S44) : (entT e).length ≤ 2 := by unfold entT; split <;> split <;> simp
theorem join_step (x y : List UInt8) (r : List (List UInt8)) : Lib.join (x :: y :: r) [32] = x ++ ([32] ++ Lib.join (y :: r) [32]) := by
  rw [Lib.join_cons, Lib.join_cons]; simp [Lib.joinTail]
theorem join_len (l : List S44) : (Lib.join (l.map entT) [32]).length ≤ 3 * l.length := by
  induction l with
  | nil => simp [Lib.join_nil]
  | cons e r ih =>
    have he := entT_len e
    cases r with
    | nil => simp only [List.map_cons, List.map_nil, Lib.join_one, List.length_cons, List.length_nil]; omega
    | cons e2 r2 =>
      simp only [List.map_cons] at ih ⊢
      rw [join_step]
      simp only [List.length_append, List.length_cons, List.length_nil] at ih ⊢
      omega
theorem tT_ent {l : List S44} (h : tabB l = true) {e : S44} (he : e ∈ l) : entB e = true := by
  simp only [tabB, Bool.and_eq_true, List.all_eq_true] at h; exact h.1 e he
theorem tT_len {l : List S44} (h : tabB l = true) : l.length = 6 := by
  simp only [tabB, Bool.and_eq_true, List.all_eq_true, beq_iff_eq] at h; omega
theorem tT_page {e : S44} (h : entB e = true) (h0 : e.f0 = true) : 0 ≤ e.f1 ∧ e.f1 ≤ 5 := by
  unfold entB at h; rw [if_pos h0] at h; exact wi_iff.mp h
theorem ent_none {e : S44} (h : entB e = true) (h0 : ¬ e.f0 = true) : e.f1 = 0 ∧ e.f2 = false := by
  unfold entB at h; rw [if_neg h0] at h; simpa using h
theorem tabTx_list (l : List S44) : (tabTx l).toList = if tabB l = true then tabS l else [] := by
  unfold tabTx
  by_cases h : tabB l = true
  · rw [if_pos h, if_pos h, ba_toList]
  · rw [if_neg h, if_neg h]; exact ba_toList []
theorem decDig (p : Int) (h : 0 ≤ p ∧ p ≤ 5) : (⟨(Lib.decDigits p.toNat).toArray⟩ : ByteArray) = ⟨[dig p].toArray⟩ := by
  unfold Lib.decDigits
  rw [dif_pos (show p.toNat < 10 by omega)]; rfl
theorem iTabText_ev (l : List S44) (hl : (l.length : Int) ≤ 1000000000000) : Ev (fun k => impl_TabText.f k l) (tabTx l) := by
  unfold impl_TabText.f tabTx
  refine Ev.bind (iTabOk_ev l (by omega)) ?_
  cases hb : tabB l
  · simp only [Bool.false_eq_true, if_false]; exact Ev.now _
  simp only [if_true]
  have h6 := tT_len hb
  have H : ∀ d i : Nat, i + d = l.length → ∀ xs : List ByteArray, xs = (l.take i).map (fun e => (⟨(entT e).toArray⟩ : ByteArray)) → Ev (fun k => impl_TabText.l0 k xs l l.length (i : Int)) (⟨(tabS l).toArray⟩ : ByteArray) := by
    intro d
    induction d with
    | zero =>
      intro i hi xs hx
      obtain rfl : i = l.length := by omega
      rw [List.take_length] at hx
      have hj : Lib.join (xs.map (·.data.toList)) [32] = Lib.join (l.map entT) [32] := by rw [hx]; simp [Function.comp_def]
      have hn := join_len l
      have hxl : xs.length = 6 := by rw [hx]; simp [h6]
      have e : strings_Join.f xs (⟨#[32]⟩ : ByteArray) = some ⟨(Lib.join (l.map entT) [32]).toArray⟩ := by
        unfold strings_Join.f
        rw [show ((⟨#[32]⟩ : ByteArray).data.toList) = [32] from rfl, hj, if_pos ⟨by omega, by omega⟩]
      refine Ev.succ ?_
      simp only [impl_TabText.l0, Int.lt_irrefl, if_false, e, Option.bind_some, ba_size, if_pos (show (Lib.join (l.map entT) [32]).length + 1 ≤ 9223372036854775807 by omega)]
      exact Ev.cast (by unfold tabS; rw [← ba_append]) (Ev.now _)
    | succ d ih =>
      intro i hi xs hx
      have hlt : i < l.length := by omega
      have hxl : xs.length = i := by rw [hx]; simp; omega
      have he := tT_ent hb (List.getElem_mem hlt)
      have ih' := ih (i + 1) (by omega) (xs ++ [⟨(entT l[i]).toArray⟩]) (by rw [hx, List.take_succ_eq_append_getElem hlt, List.map_append]; rfl)
      refine Ev.succ ?_
      simp only [impl_TabText.l0, if_pos (Int.ofNat_lt.mpr hlt), if_pos (Int.natCast_nonneg i), rdE_at hlt, wr1 i (by omega), if_pos (show xs.length < 8796093022208 by omega)]
      by_cases h0 : l[i].f0 = true
      · have hp := tT_page he h0
        have e : strconv_Itoa_23.f l[i].f1 = some ⟨[dig l[i].f1].toArray⟩ := by
          unfold strconv_Itoa_23.f
          rw [if_pos hp.1, if_pos (by omega), decDig _ hp]
        simp only [if_pos h0, e, Option.bind_some, ba_size, if_pos (show [dig l[i].f1].length + 1 ≤ 9223372036854775807 by simp)]
        by_cases h2 : l[i].f2 = true
        · simp only [if_pos h2]
          rw [show entT l[i] = [dig l[i].f1] ++ [119] by unfold entT; rw [if_pos h0, if_pos h2], ← ba_append] at ih'
          exact ih'
        · simp only [if_neg h2]
          rw [show entT l[i] = [dig l[i].f1] by unfold entT; rw [if_pos h0, if_neg h2, List.append_nil]] at ih'
          exact ih'
      · have h2 := (ent_none he h0).2
        simp only [if_neg h0]
        rw [show entT l[i] = [45] by unfold entT; rw [if_neg h0, h2]; simp] at ih'
        exact ih'
  exact H l.length 0 (by omega) [] rfl
theorem l6Dec_ev (p : Int) (h : 0 ≤ p ∧ p ≤ 5) : Ev (fun k => spec_l6Dec.f k p) (⟨[dig p].toArray⟩ : ByteArray) := by
  refine Ev.succ ?_
  simp only [spec_l6Dec.f, if_neg (show ¬ p < -9223372036854775807 by omega), if_neg (show ¬ p < 0 by omega), if_pos (show p < 10 by omega), wr (48 + p) (by omega)]
  exact Ev.cast (by unfold strOfNums dig; rw [show ((48 + p) % 256 : Int) = 48 + p by omega]; simp [show (48 + p).toNat = 48 + p.toNat by omega]) (Ev.now _)
theorem sTabText_ev (l : List S44) (hl : (l.length : Int) ≤ 1000000000000) : Ev (fun k => spec_TabText.f k l) (tabTx l) := by
  unfold spec_TabText.f tabTx
  refine Ev.bind (sTabOk_ev l (by omega)) ?_
  cases hb : tabB l
  · simp only [Bool.false_eq_true, if_false]; exact Ev.now _
  simp only [if_true]
  have h6 := tT_len hb
  have H : ∀ d i : Nat, i + d = l.length → ∀ s : List UInt8, s.length ≤ 3 * i → Ev (fun k => spec_TabText.l0 k l ⟨s.toArray⟩ (i : Int)) (⟨(s ++ (Lib.join ((l.drop i).map entT) [32] ++ [10])).toArray⟩ : ByteArray) := by
    intro d
    induction d with
    | zero =>
      intro i hi s hs
      obtain rfl : i = l.length := by omega
      refine Ev.succ ?_
      simp only [spec_TabText.l0, Int.lt_irrefl, if_false, ba_size, if_pos (show s.length + 1 ≤ 9223372036854775807 by omega)]
      exact Ev.cast (by rw [List.drop_length, List.map_nil, Lib.join_nil, List.nil_append, ← ba_append]) (Ev.now _)
    | succ d ih =>
      intro i hi s hs
      have hlt : i < l.length := by omega
      have he := tT_ent hb (List.getElem_mem hlt)
      have J : ∀ t : List UInt8, t.length ≤ 1 → t ++ (if l[i].f2 = true then [119] else []) = entT l[i] → Ev (fun k => spec_TabText.j1 k l ⟨(s ++ t).toArray⟩ (i : Int)) (⟨(s ++ (Lib.join ((l.drop i).map entT) [32] ++ [10])).toArray⟩ : ByteArray) := by
        intro t ht hte
        have hstep : ∀ u : List UInt8, u = s ++ entT l[i] → ((i + 1 < l.length → Ev (fun k => spec_TabText.l0 k l ⟨(u ++ [32]).toArray⟩ ((i + 1 : Nat) : Int)) (⟨(s ++ (Lib.join ((l.drop i).map entT) [32] ++ [10])).toArray⟩ : ByteArray)) ∧ (¬ i + 1 < l.length → Ev (fun k => spec_TabText.l0 k l ⟨u.toArray⟩ ((i + 1 : Nat) : Int)) (⟨(s ++ (Lib.join ((l.drop i).map entT) [32] ++ [10])).toArray⟩ : ByteArray))) := by
          intro u hu
          have hel := entT_len l[i]
          constructor
          · intro hn
            refine Ev.cast ?_ (ih (i + 1) (by omega) (u ++ [32]) (by rw [hu]; simp; omega))
            rw [drop_cons hlt, drop_cons hn]
            simp only [List.map_cons]
            rw [join_step, hu]
            simp [List.append_assoc]
          · intro hn
            refine Ev.cast ?_ (ih (i + 1) (by omega) u (by rw [hu]; simp; omega))
            rw [drop_cons hlt, List.drop_eq_nil_of_le (show l.length ≤ i + 1 by omega), List.map_cons, List.map_nil, Lib.join_one, Lib.join_nil, hu]
            simp [List.append_assoc]
        refine Ev.succ ?_
        simp only [spec_TabText.j1, if_pos (Int.natCast_nonneg i), if_pos (Int.ofNat_lt.mpr hlt), rdE_at hlt, wr1 i (by omega), ba_size]
        have hsl : (s ++ t).length ≤ 3 * i + 1 := by simp; omega
        simp only [if_pos (show (s ++ t).length + 1 ≤ 9223372036854775807 by omega)]
        by_cases h2 : l[i].f2 = true
        · rw [if_pos h2] at hte
          have hc := hstep (s ++ t ++ [119]) (by rw [← hte, List.append_assoc])
          simp only [if_pos h2]
          rw [show (⟨#[119]⟩ : ByteArray) = ⟨[119].toArray⟩ from rfl, ba_append, show (⟨#[32]⟩ : ByteArray) = ⟨[32].toArray⟩ from rfl, ba_append]
          by_cases hn : i + 1 < l.length
          · simp only [if_pos (show ((i + 1 : Nat) : Int) < (l.length : Int) by omega), ba_size, if_pos (show (s ++ t ++ [119]).length + 1 ≤ 9223372036854775807 by simp at hsl ⊢; omega)]
            exact hc.1 hn
          · simp only [if_neg (show ¬ ((i + 1 : Nat) : Int) < (l.length : Int) by omega)]
            exact hc.2 hn
        · rw [if_neg h2, List.append_nil] at hte
          have hc := hstep (s ++ t) (by rw [← hte])
          simp only [if_neg h2]
          rw [show (⟨#[32]⟩ : ByteArray) = ⟨[32].toArray⟩ from rfl, ba_append]
          by_cases hn : i + 1 < l.length
          · simp only [if_pos (show ((i + 1 : Nat) : Int) < (l.length : Int) by omega)]
            exact hc.1 hn
          · simp only [if_neg (show ¬ ((i + 1 : Nat) : Int) < (l.length : Int) by omega)]
            exact hc.2 hn
      refine Ev.succ ?_
      simp only [spec_TabText.l0, if_pos (Int.ofNat_lt.mpr hlt), if_pos (Int.natCast_nonneg i), rdE_at hlt]
      by_cases h0 : l[i].f0 = true
      · have hp := tT_page he h0
        simp only [if_pos h0]
        refine Ev.bind (l6Dec_ev _ hp) ?_
        simp only [ba_size, if_pos (show s.length + [dig l[i].f1].length ≤ 9223372036854775807 by simp; omega), ba_append]
        exact J [dig l[i].f1] (by simp) (by unfold entT; rw [if_pos h0])
      · simp only [if_neg h0, ba_size, if_pos (show s.length + 1 ≤ 9223372036854775807 by omega), show (⟨#[45]⟩ : ByteArray) = ⟨[45].toArray⟩ from rfl, ba_append]
        exact J [45] (by simp) (by unfold entT; rw [if_neg h0])
  have := H l.length 0 (by omega) [] (by simp)
  simpa [tabS] using this
theorem dig_inj {p q : Int} (hp : 0 ≤ p ∧ p ≤ 5) (hq : 0 ≤ q ∧ q ≤ 5) (h : dig p = dig q) : p = q := by
  obtain rfl | rfl | rfl | rfl | rfl | rfl : p = 0 ∨ p = 1 ∨ p = 2 ∨ p = 3 ∨ p = 4 ∨ p = 5 := by omega
  all_goals (obtain rfl | rfl | rfl | rfl | rfl | rfl : q = 0 ∨ q = 1 ∨ q = 2 ∨ q = 3 ∨ q = 4 ∨ q = 5 := by omega)
  all_goals (first | rfl | (exact absurd h (by decide)))
theorem dig_ne {p : Int} (hp : 0 ≤ p ∧ p ≤ 5) : dig p ≠ 45 ∧ dig p ≠ 32 ∧ dig p ≠ 119 ∧ dig p ≠ 10 := by
  obtain rfl | rfl | rfl | rfl | rfl | rfl : p = 0 ∨ p = 1 ∨ p = 2 ∨ p = 3 ∨ p = 4 ∨ p = 5 := by omega
  all_goals decide
theorem entT_inj {a b : S44} (ha : entB a = true) (hb : entB b = true) (h : entT a = entT b) : a = b := by
  obtain ⟨a0, a1, a2⟩ := a
  obtain ⟨b0, b1, b2⟩ := b
  cases a0 <;> cases b0
  · have x := ent_none ha (by simp); have y := ent_none hb (by simp); simp only at x y; rw [x.1, x.2, y.1, y.2]
  · have y := tT_page hb rfl; have := (dig_ne y).1
    unfold entT at h; simp at h; exact absurd h.1.symm this
  · have y := tT_page ha rfl; have := (dig_ne y).1
    unfold entT at h; simp at h; exact absurd h.1 this
  · have x := tT_page ha rfl; have y := tT_page hb rfl
    unfold entT at h; simp only [if_true, List.cons_append, List.nil_append, List.cons.injEq] at h
    have e := dig_inj x y h.1
    simp only at e
    subst e
    cases a2 <;> cases b2 <;> simp_all
theorem entT_no32 {a : S44} (ha : entB a = true) : (32 : UInt8) ∉ entT a := by
  unfold entT
  by_cases h0 : a.f0 = true
  · have := (dig_ne (tT_page ha h0)).2.1
    rw [if_pos h0]; split <;> simp [this.symm]
  · rw [if_neg h0]; split <;> simp
theorem split32 : ∀ (x y s t : List UInt8), (32 : UInt8) ∉ x → (32 : UInt8) ∉ y → x ++ (32 :: s) = y ++ (32 :: t) → x = y ∧ s = t
  | [], [], s, t, _, _, h => by simpa using h
  | [], b :: y, s, t, _, hy, h => by simp at h; exact absurd (by rw [← h.1]; simp) hy
  | a :: x, [], s, t, hx, _, h => by simp at h; exact absurd (by rw [h.1]; simp) hx
  | a :: x, b :: y, s, t, hx, hy, h => by
    simp only [List.cons_append, List.cons.injEq] at h
    have := split32 x y s t (fun z => hx (List.mem_cons_of_mem _ z)) (fun z => hy (List.mem_cons_of_mem _ z)) h.2
    exact ⟨by rw [h.1, this.1], this.2⟩
theorem join_inj : ∀ (a b : List S44), a.length = b.length → (∀ e ∈ a, entB e = true) → (∀ e ∈ b, entB e = true) → Lib.join (a.map entT) [32] = Lib.join (b.map entT) [32] → a = b
  | [], [], _, _, _, _ => rfl
  | [], _ :: _, h, _, _, _ => by simp at h
  | _ :: _, [], h, _, _, _ => by simp at h
  | [x], [y], _, ha, hb, h => by
    simp only [List.map_cons, List.map_nil, Lib.join_one] at h
    rw [entT_inj (ha x (by simp)) (hb y (by simp)) h]
  | [_], _ :: _ :: _, h, _, _, _ => by simp at h
  | _ :: _ :: _, [_], h, _, _, _ => by simp at h
  | x :: x2 :: r, y :: y2 :: r2, hl, ha, hb, h => by
    simp only [List.map_cons] at h
    rw [join_step, join_step] at h
    obtain ⟨e1, e2⟩ := split32 _ _ _ _ (entT_no32 (ha x (by simp))) (entT_no32 (hb y (by simp))) h
    have hx := entT_inj (ha x (by simp)) (hb y (by simp)) e1
    have := join_inj (x2 :: r) (y2 :: r2) (by simpa using hl) (fun e he => ha e (List.mem_cons_of_mem _ he)) (fun e he => hb e (List.mem_cons_of_mem _ he)) e2
    rw [hx, this]
theorem tabS_inj {a b : List S44} (ha : tabB a = true) (hb : tabB b = true) (h : tabS a = tabS b) : a = b := by
  unfold tabS at h
  exact join_inj a b (by rw [tT_len ha, tT_len hb]) (fun e he => tT_ent ha he) (fun e he => tT_ent hb he) (List.append_cancel_right h)

-- the law
theorem drawTabText_ev (l : List Int) (h : ∀ x ∈ l, (Lit.int .u8 x).wf = true) : ∃ t, Ev (fun k => spec_DrawTabText.f k l) t ∧ t.length ≤ 6 := by
  unfold spec_DrawTabText.f
  obtain ⟨b, e, hb, hl⟩ := open_eq l h
  obtain ⟨t, p, g, a1, a2, a3, a4⟩ := tab_ev b 0 hb hl (by omega) (by omega)
  refine ⟨t, ?_, a4⟩
  simp only [e, Option.bind_some]
  exact Ev.bind g (Ev.now _)
theorem lkTab_ne (a b : List S44) (hl : (a.length : Int) ≤ 1000000000000) (hne : a ≠ b) : Ev (fun k => laws_lkTab.f k a b) false := by
  unfold laws_lkTab.f
  by_cases e : (a.length : Int) = b.length
  · simp only [if_pos e]
    have H : ∀ d i : Nat, i + d = a.length → a.drop i ≠ b.drop i → Ev (fun k => laws_lkTab.l0 k a b (i : Int)) false := by
      intro d
      induction d with
      | zero => intro i hi hn; exact absurd (by rw [List.drop_eq_nil_of_le (by omega), List.drop_eq_nil_of_le (by omega)]) hn
      | succ d ih =>
        intro i hi hn
        have h1 : i < a.length := by omega
        have h2 : i < b.length := by omega
        rw [drop_cons h1, drop_cons h2] at hn
        refine Ev.succ ?_
        simp only [laws_lkTab.l0, if_pos (Int.ofNat_lt.mpr h1), if_pos (Int.natCast_nonneg i), if_pos (Int.ofNat_lt.mpr h2), rdE_at h1, rdE_at h2, wr1 i (by omega)]
        by_cases c : a[i] = b[i]
        · rw [c]
          simp only [beq_self_eq_true, Bool.not_true, Bool.or_self, Bool.false_eq_true, if_false]
          exact ih (i + 1) (by omega) (fun x => hn (by rw [c, x]))
        · have hc : (!(a[i].f0 == b[i].f0) || (!(a[i].f1 == b[i].f1) || (!(a[i].f2 == b[i].f2)))) = true := by
            revert c
            generalize a[i] = x
            generalize b[i] = y
            intro c
            obtain ⟨x0, x1, x2⟩ := x
            obtain ⟨y0, y1, y2⟩ := y
            simp only [S44.mk.injEq] at c
            simp only [Bool.or_eq_true, Bool.not_eq_true', beq_eq_false_iff_ne, ne_eq]
            by_cases c1 : x0 = y0
            · by_cases c2 : x1 = y1
              · exact .inr (.inr (fun c3 => c ⟨c1, c2, c3⟩))
              · exact .inr (.inl c2)
            · exact .inl c1
          simp only [if_pos hc]
          exact Ev.now _
    exact H a.length 0 (by omega) (by simpa using hne)
  · simp only [if_neg e]; exact Ev.now _
theorem FnTabOne : laws_FnTabOne.Pure := by
  intro l l' _ _ hw _ _ hw'
  obtain ⟨a, ga, ha⟩ := drawTabText_ev l hw
  obtain ⟨b, gb, hb⟩ := drawTabText_ev l' hw'
  have hla : (a.length : Int) ≤ 1000000000000 := by omega
  have hlb : (b.length : Int) ≤ 1000000000000 := by omega
  apply Ev.rounds
  unfold laws_FnTabOne.f
  have T : Ev (fun k => laws_FnTabOne.j0 k l l' true) true := by
    refine Ev.succ ?_
    simp only [laws_FnTabOne.j0, if_true]
    exact Ev.now _
  have J1 : Ev (fun k => laws_FnTabOne.j1 k a b (tabTx a) (tabTx b) true) true := by
    refine Ev.succ ?_
    simp only [laws_FnTabOne.j1, if_true]
    refine Ev.bind (sTabText_ev a hla) ?_
    simp only [if_true]
    refine Ev.bind (sTabText_ev b hlb) ?_
    simp only [beq_self_eq_true]
    exact Ev.now _
  have J2 : tabB a = true → tabB b = true → Ev (fun k => laws_FnTabOne.j1 k a b (tabTx a) (tabTx b) false) true := by
    intro ta tb
    refine Ev.succ ?_
    simp only [laws_FnTabOne.j1, Bool.false_eq_true, if_false, tabTx_list, if_pos ta, if_pos tb]
    by_cases e : a = b
    · subst e
      refine Ev.bind (lkTab_refl a (by omega)) ?_
      simp only [beq_self_eq_true]
      exact Ev.now _
    · refine Ev.bind (lkTab_ne a b hla e) ?_
      have : ¬ tabS a = tabS b := fun x => e (tabS_inj ta tb x)
      simp only [beq_eq_false_iff_ne.mpr this, beq_self_eq_true]
      exact Ev.now _
  by_cases c : (l.length : Int) > 1048576
  · simp only [if_pos c]; exact T
  simp only [if_neg c]
  by_cases c' : (l'.length : Int) > 1048576
  · simp only [decide_eq_true c']; exact T
  simp only [decide_eq_false c']
  refine Ev.succ ?_
  simp only [laws_FnTabOne.j0, Bool.false_eq_true, if_false]
  refine Ev.bind ga (Ev.bind gb (Ev.bind (iTabText_ev a hla) (Ev.bind (iTabText_ev b hlb) (Ev.bind (sTabText_ev a hla) ?_))))
  simp only [if_true]
  refine Ev.bind (sTabText_ev b hlb) ?_
  simp only [if_true]
  by_cases ta : tabB a = true
  · have na : ¬ (tabTx a).toList = [] := by rw [tabTx_list, if_pos ta]; unfold tabS; simp
    simp only [if_neg na]
    by_cases tb : tabB b = true
    · have nb : ((tabTx b).toList == ([] : List UInt8)) = false := by rw [tabTx_list, if_pos tb]; unfold tabS; simp
      rw [nb]
      exact J2 ta tb
    · have nb : ((tabTx b).toList == ([] : List UInt8)) = true := by rw [tabTx_list, if_neg tb]; rfl
      rw [nb]
      exact J1
  · have na : (tabTx a).toList = [] := by rw [tabTx_list, if_neg ta]
    simp only [if_pos na]
    exact J1

end Go.Proofs.YtkadphbjfhbapaaDoor.Pure
