/- The pure side of the law FnEntryOf: what the printed functions compute answers true. Conditions: none beyond the statement given. -/
import Derived.Test.YtgkhplaceedmaaaQFnEntryOfx0
import Derived.Test.YtgkhplaceedmaaaQFnEntryOfx1
import Derived.Test.YtgkhplaceedmaaaQFnEntryOfx2
import Derived.Test.YtgkhplaceedmaaaQFnEntryOfx3
import Derived.Laws.BitsLemmas
namespace Go.Proofs.Ytgkhplaceedmaaa.Pure
open Go Go.RowKit Go.Proofs.Ytgkhplaceedmaaa.QFnEntryOf Go.Proofs.YtgkhplaceedmaaaW.PrintWords Go.Proofs.YtgkhplaceedmaaaW.PrintLast
set_option linter.unusedVariables false
set_option linter.unusedSimpArgs false

-- core
theorem Ev.succ {α : Type} {g : Nat → Option α} {r : α} (h : Ev (fun k => g (k + 1)) r) : Ev g r := Ev.step (fun _ => rfl) h
theorem Ev.cast {α : Type} {g : Nat → Option α} {r r' : α} (e : r = r') (h : Ev g r) : Ev g r' := e ▸ h
theorem Ev.uniq {α : Type} {g : Nat → Option α} {r r' : α} (h : Ev g r) (h' : Ev g r') : r = r' := by
  obtain ⟨K, h⟩ := h; obtain ⟨K', h'⟩ := h'
  have a := h (K + K') (by omega); have b := h' (K + K') (by omega)
  exact Option.some.inj (a.symm.trans b)
theorem wr (n : Int) (h : -9223372036854775808 ≤ n ∧ n ≤ 9223372036854775807) : wrap64 n = n := by unfold wrap64; omega
theorem wr1 (i : Nat) (h : (i : Int) ≤ 1000000000000000000) : wrap64 ((i : Int) + 1) = ((i + 1 : Nat) : Int) := by rw [wr _ (by omega)]; rfl
theorem Ev.down {σ ρ : Type} (g : Nat → Int → σ → Option ρ) (R : Nat → σ → ρ) (n : Nat) (hend : ∀ st, Ev (fun k => g k n st) (R n st))
    (hstep : ∀ i : Nat, i < n → (∀ st, Ev (fun k => g k ((i + 1 : Nat) : Int) st) (R (i + 1) st)) → ∀ st, Ev (fun k => g k (i : Int) st) (R i st)) :
    ∀ st, Ev (fun k => g k 0 st) (R 0 st) := by
  have H : ∀ d i : Nat, i + d = n → ∀ st, Ev (fun k => g k (i : Int) st) (R i st) := by
    intro d
    induction d with
    | zero => intro i hi st; obtain rfl : i = n := by omega
              exact hend st
    | succ d ih => intro i hi; exact hstep i (by omega) (ih (i + 1) (by omega))
  exact H n 0 (by omega)
theorem drop_cons {α : Type} {l : List α} {i : Nat} (h : i < l.length) : l.drop i = l[i] :: l.drop (i + 1) := List.drop_eq_getElem_cons h
theorem rd_at {l : List Int} {i : Nat} (h : i < l.length) : rd l (i : Int) = l[i] := by simp [rd, h]
theorem getD_at {α : Type} {l : List α} {i : Nat} (z : α) (h : i < l.length) : l.getD ((i : Int)).toNat z = l[i] := by simp [h]
-- bounds
theorem u8_in {n : Int} (h : (Lit.int .u8 n).wf = true) : 0 ≤ n ∧ n ≤ 255 := by
  have e1 : IntKind.u8.min = 0 := by decide
  have e2 : IntKind.u8.max = 255 := by decide
  simp only [Lit.wf, e1, e2, Bool.and_eq_true, decide_eq_true_eq] at h; exact h
theorem i64_in {n : Int} (h : (Lit.int .i64 n).wf = true) : -9223372036854775808 ≤ n ∧ n ≤ 9223372036854775807 := by
  have e1 : IntKind.i64.min = -9223372036854775808 := by decide
  have e2 : IntKind.i64.max = 9223372036854775807 := by decide
  simp only [Lit.wf, e1, e2, Bool.and_eq_true, decide_eq_true_eq] at h; exact h
-- wi
def wi (a lo hi : Int) : Bool := decide (lo ≤ a) && decide (a ≤ hi)
theorem wi_iff {a lo hi : Int} : wi a lo hi = true ↔ lo ≤ a ∧ a ≤ hi := by simp [wi]
theorem wi_not {a lo hi : Int} : wi a lo hi = false ↔ ¬ (lo ≤ a ∧ a ≤ hi) := by rw [← wi_iff]; simp
-- l6In
theorem l6In_eq (a lo hi : Int) : spec_l6In.f a lo hi = some (wi a lo hi) := by
  unfold spec_l6In.f wi
  by_cases h : a ≥ lo
  · rw [if_pos h]; simp [h]
  · rw [if_neg h]; simp; omega
-- num
def num (a : Bool) (p : Int) (w : Bool) : Int := if a = true then (if w = true then wrap64 (wrap64 (2 * p) + 2) else wrap64 (wrap64 (2 * p) + 1)) else 0
theorem num_in (p : Int) (w : Bool) (h : -1000 ≤ p ∧ p ≤ 1000) : num true p w = 2 * p + (if w = true then 2 else 1) := by
  unfold num; rw [if_pos rfl]; cases w <;> simp <;> (rw [wr (2 * p) (by omega), wr _ (by omega)])
-- iNum
theorem iNum_eq (a : Bool) (p : Int) (w : Bool) : impl_EntryNum.f a p w = some (num a p w) := by
  unfold impl_EntryNum.f num
  cases a <;> cases w <;> simp
-- eof
def eof (n : Int) : Bool × Int × Bool := if 5 ≤ n ∧ n ≤ 12 then (true, (n - 1) / 2, decide (n % 2 = 0)) else (false, 0, false)
theorem eof_cases (n : Int) : (5 ≤ n ∧ n ≤ 12 ∧ eof n = (true, (n - 1) / 2, decide (n % 2 = 0))) ∨ (¬ (5 ≤ n ∧ n ≤ 12) ∧ eof n = (false, 0, false)) := by
  unfold eof
  by_cases h : 5 ≤ n ∧ n ≤ 12
  · exact .inl ⟨h.1, h.2, if_pos h⟩
  · exact .inr ⟨h, if_neg h⟩
-- iEof
theorem iEof_20 (n : Int) : impl_EntryOf.f 20 n = if 5 = n then some (true, 2, false) else if 6 = n then some (true, 2, true) else if 7 = n then some (true, 3, false) else if 8 = n then some (true, 3, true) else if 9 = n then some (true, 4, false) else if 10 = n then some (true, 4, true) else if 11 = n then some (true, 5, false) else if 12 = n then some (true, 5, true) else some (false, 0, false) := by kernel_rfl
theorem iEof_ev (n : Int) : Ev (fun k => impl_EntryOf.f k n) (eof n) := by
  refine Ev.of (fun k => impl_EntryOf.mono n k) (k := 20) ?_
  rw [iEof_20]
  by_cases h : 5 ≤ n ∧ n ≤ 12
  · obtain rfl | rfl | rfl | rfl | rfl | rfl | rfl | rfl : n = 5 ∨ n = 6 ∨ n = 7 ∨ n = 8 ∨ n = 9 ∨ n = 10 ∨ n = 11 ∨ n = 12 := by omega
    all_goals rfl
  · unfold eof; rw [if_neg h]
    rw [if_neg (by omega), if_neg (by omega), if_neg (by omega), if_neg (by omega), if_neg (by omega), if_neg (by omega), if_neg (by omega), if_neg (by omega)]
-- sEof
theorem tdiv2 (x : Int) (h : 0 ≤ x) : Int.tdiv x 2 = x / 2 := Int.tdiv_eq_ediv_of_nonneg h
theorem tmod2 (x : Int) (h : 0 ≤ x) : Int.tmod x 2 = x % 2 := Int.tmod_eq_emod_of_nonneg h
theorem sEof_eq (n : Int) (h1 : -9223372036854775808 ≤ n) (h2 : n ≤ 9223372036854775807) : spec_EntryOf.f n = some (eof n) := by
  unfold spec_EntryOf.f eof
  by_cases h : n < 1
  · rw [if_pos h, if_neg (by omega)]
  · rw [if_neg h, wr (n - 1) (by omega), tdiv2 _ (by omega), wr ((n - 1) / 2) (by omega), l6In_eq, tmod2 _ (by omega), Option.bind_some]
    by_cases g : 5 ≤ n ∧ n ≤ 12
    · rw [if_pos g, if_pos (wi_iff.mpr (by omega))]; rfl
    · rw [if_neg g, if_neg (by rw [wi_iff]; omega)]
-- pick
theorem xor_nat (a b : Nat) (ha : a < 2 ^ 62) (hb : b < 2 ^ 62) : bits .xor .i64 (a : Int) (b : Int) = ((a ^^^ b : Nat) : Int) := by
  have ha' : a % 2 ^ 64 = a := Nat.mod_eq_of_lt (Nat.lt_of_lt_of_le ha (by decide))
  have hb' : b % 2 ^ 64 = b := Nat.mod_eq_of_lt (Nat.lt_of_lt_of_le hb (by decide))
  have hx : a ^^^ b < 2 ^ 62 := Nat.xor_lt_two_pow ha hb
  have e : IntKind.i64.bits = 64 := rfl
  simp only [bits, e, BitVec.ofInt_natCast, BitVec.toNat_xor, BitVec.toNat_ofNat, ha', hb']
  rw [IntKind.wrap_i64]; omega
theorem xor_nn (a b : Int) (ha : 0 ≤ a) (ha' : a < 4611686018427387904) (hb : 0 ≤ b) (hb' : b < 4611686018427387904) : 0 ≤ bits .xor .i64 a b := by
  obtain ⟨x, rfl⟩ := Int.eq_ofNat_of_zero_le ha
  obtain ⟨y, rfl⟩ := Int.eq_ofNat_of_zero_le hb
  rw [xor_nat x y (by omega) (by omega)]; omega
theorem tmod_in (x n : Int) (hx : 0 ≤ x) (hn : 1 ≤ n) : 0 ≤ Int.tmod x n ∧ Int.tmod x n < n := by
  rw [Int.tmod_eq_emod_of_nonneg hx]
  exact ⟨Int.emod_nonneg _ (by omega), Int.emod_lt_of_pos _ (by omega)⟩
def ByB (b : List Int) : Prop := ∀ i : Int, 0 ≤ rd b i ∧ rd b i ≤ 255
theorem byB_of {b : List Int} (h : ∀ x ∈ b, (Lit.int .u8 x).wf = true) : ByB b := by
  intro i
  unfold rd
  rw [List.getD_eq_getElem?_getD]
  cases e : b[i.toNat]? with
  | none => simp
  | some x => simpa using u8_in (h x (List.mem_of_getElem? e))
theorem pick_ev (b : List Int) (p n : Int) (hb : ByB b) (hl : (b.length : Int) ≤ 2000) (hp : 0 ≤ p) (hp' : p ≤ 1000000000) (hn : 1 ≤ n) (hn' : n ≤ 1000000000000) :
    ∃ v, Ev (fun k => spec_l6Rd_pick.f k b p n) (v, p + 1) ∧ 0 ≤ v ∧ v < n := by
  unfold spec_l6Rd_pick.f
  simp only [if_neg (show ¬ n < 1 by omega), wr (p + 1) (by omega)]
  by_cases e : b.length = 0
  · refine ⟨0, Ev.succ ?_, by omega, by omega⟩
    simp only [spec_l6Rd_pick.j0, e]
    exact Ev.now _
  · have e' : ((b.length : Int) == 0) = false := by simp; intro h; exact e (by simp [h])
    simp only [e']
    by_cases g : p < b.length
    · have hb1 := hb p
      have t := tmod_in (rd b p) n hb1.1 hn
      refine ⟨Int.tmod (rd b p) n, Ev.succ ?_, t.1, t.2⟩
      simp only [spec_l6Rd_pick.j0, show p + 1 - 1 = p by omega, wr p (by omega), if_pos g, if_pos hp, if_neg (show ¬ n = 0 by omega), wr (rd b p) (by omega), Bool.false_eq_true, if_false]
      exact Ev.now _
    · have hL : (1 : Int) ≤ b.length := by omega
      have q1 := tmod_in p b.length hp hL
      have q2 := tmod_in (p * 7 + 3) b.length (by omega) hL
      have b1 := hb (Int.tmod p b.length)
      have b2 := hb (Int.tmod (p * 7 + 3) b.length)
      have q3 : 0 ≤ Int.tdiv p b.length ∧ Int.tdiv p b.length ≤ p := by
        rw [Int.tdiv_eq_ediv_of_nonneg hp]
        exact ⟨Int.ediv_nonneg hp (by omega), Int.ediv_le_self _ hp⟩
      generalize hx : rd b (Int.tmod p b.length) = X at *
      generalize hy : rd b (Int.tmod (p * 7 + 3) b.length) = Y at *
      generalize hz : Int.tdiv p b.length = Z at *
      have q4 : 0 ≤ Int.tdiv (X * 131 + Y * 1117 + p * 29 + Z * 53) 64 ∧ Int.tdiv (X * 131 + Y * 1117 + p * 29 + Z * 53) 64 ≤ 4611686018427387903 := by
        rw [Int.tdiv_eq_ediv_of_nonneg (by omega)]; omega
      generalize hu : Int.tdiv (X * 131 + Y * 1117 + p * 29 + Z * 53) 64 = U at *
      have q5 := xor_nn (X * 131 + Y * 1117 + p * 29 + Z * 53) U (by omega) (by omega) (by omega) (by omega)
      have t := tmod_in _ n q5 hn
      refine ⟨Int.tmod (bits .xor .i64 (X * 131 + Y * 1117 + p * 29 + Z * 53) U) n, Ev.succ ?_, t.1, t.2⟩
      simp only [spec_l6Rd_pick.j0, show p + 1 - 1 = p by omega, wr p (by omega), if_neg g, if_neg (show ¬ (b.length : Int) = 0 by omega), if_pos q1.1, if_pos q1.2, wr (p * 7) (by omega), wr (p * 7 + 3) (by omega), if_pos q2.1, if_pos q2.2, if_neg (show ¬ n = 0 by omega), hx, hy, hz, wr X (by omega), wr Y (by omega), wr Z (by omega), wr (X * 131) (by omega), wr (Y * 1117) (by omega), wr (X * 131 + Y * 1117) (by omega), wr (p * 29) (by omega), wr (X * 131 + Y * 1117 + p * 29) (by omega), wr (Z * 53) (by omega), wr (X * 131 + Y * 1117 + p * 29 + Z * 53) (by omega), hu, wr U (by omega), Bool.false_eq_true, if_false]
      exact Ev.now _
-- open
theorem open_eq (l : List Int) (h : ∀ x ∈ l, (Lit.int .u8 x).wf = true) : ∃ b, spec_l6Open.f l = some (b, 0) ∧ ByB b ∧ (b.length : Int) ≤ 2000 := by
  unfold spec_l6Open.f
  by_cases g : (l.length : Int) > 2000
  · rw [if_pos g, if_pos (by omega)]
    exact ⟨_, rfl, byB_of fun x hx => h x (List.mem_of_mem_take hx), by simp; omega⟩
  · rw [if_neg g]
    exact ⟨_, rfl, byB_of h, by omega⟩
-- drawEof
theorem drawEof_ev (l : List Int) (h : ∀ x ∈ l, (Lit.int .u8 x).wf = true) : ∃ n, Ev (fun k => spec_DrawEntryOf.f k l) n ∧ -100 ≤ n ∧ n ≤ 100 := by
  unfold spec_DrawEntryOf.f
  obtain ⟨b, e, hb, hl⟩ := open_eq l h
  obtain ⟨v, h1, v1, v2⟩ := pick_ev b 0 18 hb hl (by omega) (by omega) (by omega) (by omega)
  obtain ⟨u, h2, u1, u2⟩ := pick_ev b (0 + 1) 12 hb hl (by omega) (by omega) (by omega) (by omega)
  have d : 0 ≤ Int.tdiv u 11 ∧ Int.tdiv u 11 ≤ 11 := by rw [Int.tdiv_eq_ediv_of_nonneg u1]; omega
  refine ⟨v - Int.tdiv u 11 * 3, ?_, by omega, by omega⟩
  simp only [e, Option.bind_some]
  refine Ev.bind h1 (Ev.bind h2 ?_)
  simp only [wr (Int.tdiv u 11) (by omega), wr (Int.tdiv u 11 * 3) (by omega), wr (v - Int.tdiv u 11 * 3) (by omega)]
  exact Ev.now _

-- the law
theorem FnEntryOf : laws_FnEntryOf.Pure := by
  intro l _ _ hw
  obtain ⟨n, h1, n1, n2⟩ := drawEof_ev l hw
  apply Ev.rounds
  unfold laws_FnEntryOf.f
  by_cases c : (l.length : Int) > 1048576
  · simp only [if_pos c]; exact Ev.now _
  simp only [if_neg c]
  refine Ev.bind h1 (Ev.bind (iEof_ev n) ?_)
  simp only [sEof_eq n (by omega) (by omega), Option.bind_some, beq_self_eq_true, Bool.not_true, Bool.or_self, Bool.false_eq_true, if_false]
  refine Ev.succ ?_
  simp only [laws_FnEntryOf.j0]
  rcases eof_cases n with ⟨a, b, e⟩ | ⟨a, e⟩
  · simp only [e, Bool.not_true, Bool.false_eq_true, if_false, iNum_eq, Option.bind_some, num_in _ _ (show -1000 ≤ (n - 1) / 2 ∧ (n - 1) / 2 ≤ 1000 by omega)]
    rw [if_pos (by by_cases d : n % 2 = 0 <;> simp [d] <;> omega), if_pos (by omega)]
    exact Ev.cast (by simp; omega) (Ev.now _)
  · simp only [e, Bool.not_false, if_true, sEof_eq n (by omega) (by omega), Option.bind_some]
    exact Ev.now _

end Go.Proofs.Ytgkhplaceedmaaa.Pure
