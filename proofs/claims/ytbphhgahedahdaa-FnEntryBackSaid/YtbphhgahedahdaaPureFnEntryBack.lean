/- The pure side of the law FnEntryBack: what the printed functions compute answers true. Conditions: none beyond the statement given. -/
import Derived.Test.YtbphhgahedahdaaQFnEntryBackx0
import Derived.Test.YtbphhgahedahdaaQFnEntryBackx1
import Derived.Test.YtbphhgahedahdaaQFnEntryBackx2
import Derived.Test.YtbphhgahedahdaaQFnEntryBackx3
import Derived.Laws.BitsLemmas
namespace Go.Proofs.Ytbphhgahedahdaa.Pure
open Go Go.RowKit Go.Proofs.Ytbphhgahedahdaa.QFnEntryBack Go.Proofs.YtbphhgahedahdaaW.PrintWords Go.Proofs.YtbphhgahedahdaaW.PrintLast
set_option linter.unusedVariables false
set_option linter.unusedSimpArgs false

-- core
theorem Ev.succ {α : Type} {g : Nat → Option α} {r : α} (h : Ev (fun k => g (k + 1)) r) : Ev g r := Ev.step (fun _ => rfl) h
theorem Ev.cast {α : Type} {g : Nat → Option α} {r r' : α} (e : r = r') (h : Ev g r) : Ev g r' := e ▸ h
theorem Ev.uniq {α : Type} {g : Nat → Option α} {r r' : α} (h : Ev g r) (h' : Ev g r') : r = r' := by
  obtain ⟨K, h⟩ := h; obtain ⟨K', h'⟩ := h'
  have a := h (K + K') (by omega); have b := h' (K + K') (by omega)
  exact Option.some.inj (a.symm.trans b)
theorem wr (n : Int) (h : -9223372036854775808 ≤ n ∧ n ≤ 9223372036854775807) : wrap64 n = n := by unfold wrap64; omega
theorem wr1 (i : Nat) (h : (i : Int) ≤ 1000000000000000000) : wrap64 ((i : Int) + 1) = ((i + 1 : Nat) : Int) := by rw [wr _ (by omega)]; rfl
theorem Ev.down {σ ρ : Type} (g : Nat → Int → σ → Option ρ) (R : Nat → σ → ρ) (n : Nat) (hend : ∀ st, Ev (fun k => g k n st) (R n st))
    (hstep : ∀ i : Nat, i < n → (∀ st, Ev (fun k => g k ((i + 1 : Nat) : Int) st) (R (i + 1) st)) → ∀ st, Ev (fun k => g k (i : Int) st) (R i st)) :
    ∀ st, Ev (fun k => g k 0 st) (R 0 st) := by
  have H : ∀ d i : Nat, i + d = n → ∀ st, Ev (fun k => g k (i : Int) st) (R i st) := by
    intro d
    induction d with
    | zero => intro i hi st; obtain rfl : i = n := by omega
              exact hend st
    | succ d ih => intro i hi; exact hstep i (by omega) (ih (i + 1) (by omega))
  exact H n 0 (by omega)
theorem drop_cons {α : Type} {l : List α} {i : Nat} (h : i < l.length) : l.drop i = l[i] :: l.drop (i + 1) := List.drop_eq_getElem_cons h
theorem rd_at {l : List Int} {i : Nat} (h : i < l.length) : rd l (i : Int) = l[i] := by simp [rd, h]
theorem getD_at {α : Type} {l : List α} {i : Nat} (z : α) (h : i < l.length) : l.getD ((i : Int)).toNat z = l[i] := by simp [h]
-- bounds
theorem u8_in {n : Int} (h : (Lit.int .u8 n).wf = true) : 0 ≤ n ∧ n ≤ 255 := by
  have e1 : IntKind.u8.min = 0 := by decide
  have e2 : IntKind.u8.max = 255 := by decide
  simp only [Lit.wf, e1, e2, Bool.and_eq_true, decide_eq_true_eq] at h; exact h
theorem i64_in {n : Int} (h : (Lit.int .i64 n).wf = true) : -9223372036854775808 ≤ n ∧ n ≤ 9223372036854775807 := by
  have e1 : IntKind.i64.min = -9223372036854775808 := by decide
  have e2 : IntKind.i64.max = 9223372036854775807 := by decide
  simp only [Lit.wf, e1, e2, Bool.and_eq_true, decide_eq_true_eq] at h; exact h
-- wi
def wi (a lo hi : Int) : Bool := decide (lo ≤ a) && decide (a ≤ hi)
theorem wi_iff {a lo hi : Int} : wi a lo hi = true ↔ lo ≤ a ∧ a ≤ hi := by simp [wi]
theorem wi_not {a lo hi : Int} : wi a lo hi = false ↔ ¬ (lo ≤ a ∧ a ≤ hi) := by rw [← wi_iff]; simp
-- l6In
theorem l6In_eq (a lo hi : Int) : spec_l6In.f a lo hi = some (wi a lo hi) := by
  unfold spec_l6In.f wi
  by_cases h : a ≥ lo
  · rw [if_pos h]; simp [h]
  · rw [if_neg h]; simp; omega
-- num
def num (a : Bool) (p : Int) (w : Bool) : Int := if a = true then (if w = true then wrap64 (wrap64 (2 * p) + 2) else wrap64 (wrap64 (2 * p) + 1)) else 0
theorem num_in (p : Int) (w : Bool) (h : -1000 ≤ p ∧ p ≤ 1000) : num true p w = 2 * p + (if w = true then 2 else 1) := by
  unfold num; rw [if_pos rfl]; cases w <;> simp <;> (rw [wr (2 * p) (by omega), wr _ (by omega)])
-- iNum
theorem iNum_eq (a : Bool) (p : Int) (w : Bool) : impl_EntryNum.f a p w = some (num a p w) := by
  unfold impl_EntryNum.f num
  cases a <;> cases w <;> simp
-- sNum
theorem sNum_eq (a : Bool) (p : Int) (w : Bool) : spec_EntryNum.f a p w = some (num a p w) := by
  unfold spec_EntryNum.f num
  cases a <;> cases w <;> simp <;> (unfold wrap64; omega)
-- eof
def eof (n : Int) : Bool × Int × Bool := if 5 ≤ n ∧ n ≤ 12 then (true, (n - 1) / 2, decide (n % 2 = 0)) else (false, 0, false)
theorem eof_cases (n : Int) : (5 ≤ n ∧ n ≤ 12 ∧ eof n = (true, (n - 1) / 2, decide (n % 2 = 0))) ∨ (¬ (5 ≤ n ∧ n ≤ 12) ∧ eof n = (false, 0, false)) := by
  unfold eof
  by_cases h : 5 ≤ n ∧ n ≤ 12
  · exact .inl ⟨h.1, h.2, if_pos h⟩
  · exact .inr ⟨h, if_neg h⟩
-- iEof
theorem iEof_20 (n : Int) : impl_EntryOf.f 20 n = if 5 = n then some (true, 2, false) else if 6 = n then some (true, 2, true) else if 7 = n then some (true, 3, false) else if 8 = n then some (true, 3, true) else if 9 = n then some (true, 4, false) else if 10 = n then some (true, 4, true) else if 11 = n then some (true, 5, false) else if 12 = n then some (true, 5, true) else some (false, 0, false) := by kernel_rfl
theorem iEof_ev (n : Int) : Ev (fun k => impl_EntryOf.f k n) (eof n) := by
  refine Ev.of (fun k => impl_EntryOf.mono n k) (k := 20) ?_
  rw [iEof_20]
  by_cases h : 5 ≤ n ∧ n ≤ 12
  · obtain rfl | rfl | rfl | rfl | rfl | rfl | rfl | rfl : n = 5 ∨ n = 6 ∨ n = 7 ∨ n = 8 ∨ n = 9 ∨ n = 10 ∨ n = 11 ∨ n = 12 := by omega
    all_goals rfl
  · unfold eof; rw [if_neg h]
    rw [if_neg (by omega), if_neg (by omega), if_neg (by omega), if_neg (by omega), if_neg (by omega), if_neg (by omega), if_neg (by omega), if_neg (by omega)]
-- pick
theorem xor_nat (a b : Nat) (ha : a < 2 ^ 62) (hb : b < 2 ^ 62) : bits .xor .i64 (a : Int) (b : Int) = ((a ^^^ b : Nat) : Int) := by
  have ha' : a % 2 ^ 64 = a := Nat.mod_eq_of_lt (Nat.lt_of_lt_of_le ha (by decide))
  have hb' : b % 2 ^ 64 = b := Nat.mod_eq_of_lt (Nat.lt_of_lt_of_le hb (by decide))
  have hx : a ^^^ b < 2 ^ 62 := Nat.xor_lt_two_pow ha hb
  have e : IntKind.i64.bits = 64 := rfl
  simp only [bits, e, BitVec.ofInt_natCast, BitVec.toNat_xor, BitVec.toNat_ofNat, ha', hb']
  rw [IntKind.wrap_i64]; omega
theorem xor_nn (a b : Int) (ha : 0 ≤ a) (ha' : a < 4611686018427387904) (hb : 0 ≤ b) (hb' : b < 4611686018427387904) : 0 ≤ bits .xor .i64 a b := by
  obtain ⟨x, rfl⟩ := Int.eq_ofNat_of_zero_le ha
  obtain ⟨y, rfl⟩ := Int.eq_ofNat_of_zero_le hb
  rw [xor_nat x y (by omega) (by omega)]; omega
theorem tmod_in (x n : Int) (hx : 0 ≤ x) (hn : 1 ≤ n) : 0 ≤ Int.tmod x n ∧ Int.tmod x n < n := by
  rw [Int.tmod_eq_emod_of_nonneg hx]
  exact ⟨Int.emod_nonneg _ (by omega), Int.emod_lt_of_pos _ (by omega)⟩
def ByB (b : List Int) : Prop := ∀ i : Int, 0 ≤ rd b i ∧ rd b i ≤ 255
theorem byB_of {b : List Int} (h : ∀ x ∈ b, (Lit.int .u8 x).wf = true) : ByB b := by
  intro i
  unfold rd
  rw [List.getD_eq_getElem?_getD]
  cases e : b[i.toNat]? with
  | none => simp
  | some x => simpa using u8_in (h x (List.mem_of_getElem? e))
theorem pick_ev (b : List Int) (p n : Int) (hb : ByB b) (hl : (b.length : Int) ≤ 2000) (hp : 0 ≤ p) (hp' : p ≤ 1000000000) (hn : 1 ≤ n) (hn' : n ≤ 1000000000000) :
    ∃ v, Ev (fun k => spec_l6Rd_pick.f k b p n) (v, p + 1) ∧ 0 ≤ v ∧ v < n := by
  unfold spec_l6Rd_pick.f
  simp only [if_neg (show ¬ n < 1 by omega), wr (p + 1) (by omega)]
  by_cases e : b.length = 0
  · refine ⟨0, Ev.succ ?_, by omega, by omega⟩
    simp only [spec_l6Rd_pick.j0, e]
    exact Ev.now _
  · have e' : ((b.length : Int) == 0) = false := by simp; intro h; exact e (by simp [h])
    simp only [e']
    by_cases g : p < b.length
    · have hb1 := hb p
      have t := tmod_in (rd b p) n hb1.1 hn
      refine ⟨Int.tmod (rd b p) n, Ev.succ ?_, t.1, t.2⟩
      simp only [spec_l6Rd_pick.j0, show p + 1 - 1 = p by omega, wr p (by omega), if_pos g, if_pos hp, if_neg (show ¬ n = 0 by omega), wr (rd b p) (by omega), Bool.false_eq_true, if_false]
      exact Ev.now _
    · have hL : (1 : Int) ≤ b.length := by omega
      have q1 := tmod_in p b.length hp hL
      have q2 := tmod_in (p * 7 + 3) b.length (by omega) hL
      have b1 := hb (Int.tmod p b.length)
      have b2 := hb (Int.tmod (p * 7 + 3) b.length)
      have q3 : 0 ≤ Int.tdiv p b.length ∧ Int.tdiv p b.length ≤ p := by
        rw [Int.tdiv_eq_ediv_of_nonneg hp]
        exact ⟨Int.ediv_nonneg hp (by omega), Int.ediv_le_self _ hp⟩
      generalize hx : rd b (Int.tmod p b.length) = X at *
      generalize hy : rd b (Int.tmod (p * 7 + 3) b.length) = Y at *
      generalize hz : Int.tdiv p b.length = Z at *
      have q4 : 0 ≤ Int.tdiv (X * 131 + Y * 1117 + p * 29 + Z * 53) 64 ∧ Int.tdiv (X * 131 + Y * 1117 + p * 29 + Z * 53) 64 ≤ 4611686018427387903 := by
        rw [Int.tdiv_eq_ediv_of_nonneg (by omega)]; omega
      generalize hu : Int.tdiv (X * 131 + Y * 1117 + p * 29 + Z * 53) 64 = U at *
      have q5 := xor_nn (X * 131 + Y * 1117 + p * 29 + Z * 53) U (by omega) (by omega) (by omega) (by omega)
      have t := tmod_in _ n q5 hn
      refine ⟨Int.tmod (bits .xor .i64 (X * 131 + Y * 1117 + p * 29 + Z * 53) U) n, Ev.succ ?_, t.1, t.2⟩
      simp only [spec_l6Rd_pick.j0, show p + 1 - 1 = p by omega, wr p (by omega), if_neg g, if_neg (show ¬ (b.length : Int) = 0 by omega), if_pos q1.1, if_pos q1.2, wr (p * 7) (by omega), wr (p * 7 + 3) (by omega), if_pos q2.1, if_pos q2.2, if_neg (show ¬ n = 0 by omega), hx, hy, hz, wr X (by omega), wr Y (by omega), wr Z (by omega), wr (X * 131) (by omega), wr (Y * 1117) (by omega), wr (X * 131 + Y * 1117) (by omega), wr (p * 29) (by omega), wr (X * 131 + Y * 1117 + p * 29) (by omega), wr (Z * 53) (by omega), wr (X * 131 + Y * 1117 + p * 29 + Z * 53) (by omega), hu, wr U (by omega), Bool.false_eq_true, if_false]
      exact Ev.now _
-- open
theorem open_eq (l : List Int) (h : ∀ x ∈ l, (Lit.int .u8 x).wf = true) : ∃ b, spec_l6Open.f l = some (b, 0) ∧ ByB b ∧ (b.length : Int) ≤ 2000 := by
  unfold spec_l6Open.f
  by_cases g : (l.length : Int) > 2000
  · rw [if_pos g, if_pos (by omega)]
    exact ⟨_, rfl, byB_of fun x hx => h x (List.mem_of_mem_take hx), by simp; omega⟩
  · rw [if_neg g]
    exact ⟨_, rfl, byB_of h, by omega⟩
-- entry
theorem rdE_at {l : List S24} {i : Nat} (h : i < l.length) : rd_T24 l (i : Int) = l[i] := getD_at _ h
theorem entry_ev (b : List Int) (p : Int) (hb : ByB b) (hl : (b.length : Int) ≤ 2000) (hp : 0 ≤ p) (hp' : p ≤ 100000000) :
    ∃ h q w p', Ev (fun k => spec_l71Entry.f k b p) (h, q, w, p') ∧ p ≤ p' ∧ p' ≤ p + 3 ∧ -1 ≤ q ∧ q ≤ 6 := by
  unfold spec_l71Entry.f
  obtain ⟨v, h1, v1, v2⟩ := pick_ev b p 20 hb hl (by omega) (by omega) (by omega) (by omega)
  obtain ⟨u, h2, u1, u2⟩ := pick_ev b (p + 1) 2 hb hl (by omega) (by omega) (by omega) (by omega)
  obtain ⟨z, h3, z1, z2⟩ := pick_ev b (p + 1) 6 hb hl (by omega) (by omega) (by omega) (by omega)
  obtain ⟨y, h4, y1, y2⟩ := pick_ev b (p + 1 + 1) 2 hb hl (by omega) (by omega) (by omega) (by omega)
  by_cases c0 : v = 0
  · obtain rfl | rfl : u = 0 ∨ u = 1 := by omega
    · refine ⟨true, -1, false, p + 1 + 1, Ev.bind h1 ?_, by omega, by omega, by omega, by omega⟩
      simp only [if_pos c0, Option.bind_some]
      exact Ev.bind h2 (Ev.now _)
    · refine ⟨true, 6, false, p + 1 + 1, Ev.bind h1 ?_, by omega, by omega, by omega, by omega⟩
      simp only [if_pos c0, Option.bind_some]
      exact Ev.bind h2 (Ev.now _)
  by_cases c1 : v = 1
  · obtain rfl | rfl : u = 0 ∨ u = 1 := by omega
    · refine ⟨false, 1, false, p + 1 + 1, Ev.bind h1 ?_, by omega, by omega, by omega, by omega⟩
      simp only [if_neg c0, if_pos c1, Option.bind_some]
      exact Ev.bind h2 (Ev.now _)
    · refine ⟨false, 0, true, p + 1 + 1, Ev.bind h1 ?_, by omega, by omega, by omega, by omega⟩
      simp only [if_neg c0, if_pos c1, Option.bind_some]
      exact Ev.bind h2 (Ev.now _)
  have J1 : Ev (fun k => spec_l71Entry.j0 k true b (p + 1)) (false, 0, false, p + 1) := by
    refine Ev.succ ?_
    simp only [spec_l71Entry.j0, if_true]
    exact Ev.now _
  have J0 : Ev (fun k => spec_l71Entry.j0 k false b (p + 1)) (true, z, (y == 0), p + 1 + 1 + 1) := by
    refine Ev.succ ?_
    simp only [spec_l71Entry.j0, Bool.false_eq_true, if_false]
    exact Ev.bind h3 (Ev.bind h4 (Ev.now _))
  by_cases c2 : v = 2
  · refine ⟨false, 0, false, p + 1, Ev.bind h1 ?_, by omega, by omega, by omega, by omega⟩
    simp only [if_neg c0, if_neg c1, if_pos c2, show (v == 2) = true by simpa using c2]; exact J1
  by_cases c3 : v = 3
  · refine ⟨false, 0, false, p + 1, Ev.bind h1 ?_, by omega, by omega, by omega, by omega⟩
    simp only [if_neg c0, if_neg c1, if_neg c2, if_pos c3, show (v == 3) = true by simpa using c3]; exact J1
  by_cases c4 : v = 4
  · refine ⟨false, 0, false, p + 1, Ev.bind h1 ?_, by omega, by omega, by omega, by omega⟩
    simp only [if_neg c0, if_neg c1, if_neg c2, if_neg c3, if_pos c4, show (v == 4) = true by simpa using c4]; exact J1
  by_cases c5 : v = 5
  · refine ⟨false, 0, false, p + 1, Ev.bind h1 ?_, by omega, by omega, by omega, by omega⟩
    simp only [if_neg c0, if_neg c1, if_neg c2, if_neg c3, if_neg c4, show (v == 5) = true by simpa using c5]; exact J1
  · refine ⟨true, z, (y == 0), p + 1 + 1 + 1, Ev.bind h1 ?_, by omega, by omega, by omega, by omega⟩
    simp only [if_neg c0, if_neg c1, if_neg c2, if_neg c3, if_neg c4, show (v == 5) = false by simpa using c5]; exact J0
-- drawNum
theorem drawNum_ev (l : List Int) (h : ∀ x ∈ l, (Lit.int .u8 x).wf = true) : ∃ a q w, Ev (fun k => spec_DrawEntryNum.f k l) (a, q, w) ∧ -1 ≤ q ∧ q ≤ 6 := by
  unfold spec_DrawEntryNum.f
  obtain ⟨b, e, hb, hl⟩ := open_eq l h
  obtain ⟨a, q, w, p', h1, _, _, q1, q2⟩ := entry_ev b 0 hb hl (by omega) (by omega)
  refine ⟨a, q, w, ?_, q1, q2⟩
  simp only [e, Option.bind_some]
  exact Ev.bind h1 (Ev.now _)
-- entB
def entB (e : S24) : Bool := if e.f0 = true then wi e.f1 0 5 else (e.f1 == 0 && (!e.f2))
def tabB (l : List S24) : Bool := l.all entB && ((l.length : Int) == 6)
-- sTabOk
theorem l1Entry_eq (e : S24) : spec_l1Entry.f e.f0 e.f1 e.f2 = some (entB e) := by
  unfold spec_l1Entry.f entB
  by_cases h : e.f0 = true
  · rw [if_pos h, if_pos h, l6In_eq]; rfl
  · rw [if_neg h, if_neg h]; simp [h]
theorem sTabOk_ev (l : List S24) (hl : (l.length : Int) ≤ 1000000000000000) : Ev (fun k => spec_TabOk.f k l) (tabB l) := by
  unfold spec_TabOk.f
  have H := Ev.down (σ := Unit) (fun k i _ => spec_TabOk.l0 k l i) (fun i _ => (l.drop i).all entB && ((l.length : Int) == 6)) l.length
    (fun _ => Ev.succ (by simp only [spec_TabOk.l0, Int.lt_irrefl, if_false]; exact Ev.cast (by simp) (Ev.now _)))
    (fun i hi ih _ => by
      refine Ev.succ ?_
      simp only [spec_TabOk.l0, if_pos (Int.ofNat_lt.mpr hi), if_pos (Int.natCast_nonneg i), rdE_at hi, l1Entry_eq, Option.bind_some, wr1 i (by omega)]
      rw [drop_cons hi, List.all_cons]
      cases h : entB l[i]
      · exact Ev.now _
      · exact ih ())
  exact H ()

-- the law
theorem FnEntryBack : laws_FnEntryBack.Pure := by
  intro l _ _ hw
  obtain ⟨a, q, w, h1, n1, n2⟩ := drawNum_ev l hw
  apply Ev.rounds
  unfold laws_FnEntryBack.f
  by_cases c : (l.length : Int) > 1048576
  · simp only [if_pos c]; exact Ev.now _
  simp only [if_neg c]
  refine Ev.bind h1 ?_
  simp only [iNum_eq, sNum_eq, Option.bind_some, if_true]
  refine Ev.bind (sTabOk_ev _ (by simp)) (Ev.succ ?_)
  simp only [laws_FnEntryBack.j0]
  cases ht : tabB [(⟨a, q, w⟩ : S24), ⟨a, q, w⟩, ⟨a, q, w⟩, ⟨a, q, w⟩, ⟨a, q, w⟩, ⟨a, q, w⟩]
  · simp only [Bool.not_false, if_true, sNum_eq, Option.bind_some, beq_self_eq_true]
    exact Ev.now _
  · have t' : entB (⟨a, q, w⟩ : S24) = true := by simp [tabB] at ht; exact ht
    simp only [Bool.not_true, Bool.false_eq_true, if_false]
    refine Ev.bind (iEof_ev _) ?_
    cases a
    · simp [entB] at t'
      obtain ⟨rfl, rfl⟩ := t'
      exact Ev.now _
    · simp only [entB, if_true] at t'
      rw [wi_iff] at t'
      rw [num_in q w (by omega)]
      simp only [if_true]
      by_cases q2 : q < 2
      · simp only [if_pos q2]
        rcases eof_cases (2 * q + if w = true then 2 else 1) with ⟨x, y, e⟩ | ⟨x, e⟩
        · exfalso; cases w <;> simp at x <;> omega
        · rw [e]; exact Ev.now _
      · simp only [if_neg q2]
        rcases eof_cases (2 * q + if w = true then 2 else 1) with ⟨x, y, e⟩ | ⟨x, e⟩
        · rw [e]; refine Ev.cast ?_ (Ev.now _)
          cases w <;> simp <;> omega
        · exfalso; apply x; cases w <;> simp <;> omega

end Go.Proofs.Ytbphhgahedahdaa.Pure
