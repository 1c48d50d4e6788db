/- The pure side of the law FnFlatDenied: what the printed functions compute answers true. Conditions: none beyond the statement given. -/
import Derived.Test.YtpbhoimkcoggfaaQFnFlatDeniedx0
import Derived.Test.YtpbhoimkcoggfaaQFnFlatDeniedx1
import Derived.Test.YtpbhoimkcoggfaaQFnFlatDeniedx2
import Derived.Test.YtpbhoimkcoggfaaQFnFlatDeniedx3
import Derived.Test.YtpbhoimkcoggfaaQFnFlatDeniedx4
import Derived.Test.YtpbhoimkcoggfaaQFnFlatDeniedx5
import Derived.Test.YtpbhoimkcoggfaaQFnFlatDeniedx6
import Derived.Test.YtpbhoimkcoggfaaQFnFlatDeniedx7
import Derived.Test.YtpbhoimkcoggfaaQFnFlatDeniedx8
import Derived.Test.YtpbhoimkcoggfaaQFnFlatDeniedx9
import Derived.Laws.BitsLemmas
namespace Go.Proofs.Ytpbhoimkcoggfaa.Pure
open Go Go.RowKit Go.Proofs.Ytpbhoimkcoggfaa.QFnFlatDenied Go.Proofs.YtpbhoimkcoggfaaW.PrintWords Go.Proofs.YtpbhoimkcoggfaaW.PrintLast
set_option linter.unusedVariables false
set_option linter.unusedSimpArgs false

theorem Ev.succ {α : Type} {g : Nat → Option α} {r : α} (h : Ev (fun k => g (k + 1)) r) : Ev g r := Ev.step (fun _ => rfl) h
theorem Ev.cast {α : Type} {g : Nat → Option α} {r r' : α} (e : r = r') (h : Ev g r) : Ev g r' := e ▸ h
theorem wr (n : Int) (h : -9223372036854775808 ≤ n ∧ n ≤ 9223372036854775807) : wrap64 n = n := by unfold wrap64; omega
theorem wr1 (i : Nat) (h : (i : Int) ≤ 1000000000000000000) : wrap64 ((i : Int) + 1) = ((i + 1 : Nat) : Int) := by rw [wr _ (by omega)]; rfl
theorem Ev.down {σ ρ : Type} (g : Nat → Int → σ → Option ρ) (R : Nat → σ → ρ) (n : Nat) (hend : ∀ st, Ev (fun k => g k n st) (R n st))
    (hstep : ∀ i : Nat, i < n → (∀ st, Ev (fun k => g k ((i + 1 : Nat) : Int) st) (R (i + 1) st)) → ∀ st, Ev (fun k => g k (i : Int) st) (R i st)) :
    ∀ st, Ev (fun k => g k 0 st) (R 0 st) := by
  have H : ∀ d i : Nat, i + d = n → ∀ st, Ev (fun k => g k (i : Int) st) (R i st) := by
    intro d
    induction d with
    | zero => intro i hi st; obtain rfl : i = n := by omega
              exact hend st
    | succ d ih => intro i hi; exact hstep i (by omega) (ih (i + 1) (by omega))
  exact H n 0 (by omega)
theorem drop_cons {α : Type} {l : List α} {i : Nat} (h : i < l.length) : l.drop i = l[i] :: l.drop (i + 1) := List.drop_eq_getElem_cons h
theorem rd_at {l : List Int} {i : Nat} (h : i < l.length) : rd l (i : Int) = l[i] := by simp [rd, h]
theorem getD_at {α : Type} {l : List α} {i : Nat} (z : α) (h : i < l.length) : l.getD ((i : Int)).toNat z = l[i] := by simp [h]
theorem u8_in {n : Int} (h : (Lit.int .u8 n).wf = true) : 0 ≤ n ∧ n ≤ 255 := by
  have e1 : IntKind.u8.min = 0 := by decide
  have e2 : IntKind.u8.max = 255 := by decide
  simp only [Lit.wf, e1, e2, Bool.and_eq_true, decide_eq_true_eq] at h; exact h
def wi (a lo hi : Int) : Bool := decide (lo ≤ a) && decide (a ≤ hi)
theorem wi_iff {a lo hi : Int} : wi a lo hi = true ↔ lo ≤ a ∧ a ≤ hi := by simp [wi]
theorem wi_not {a lo hi : Int} : wi a lo hi = false ↔ ¬ (lo ≤ a ∧ a ≤ hi) := by rw [← wi_iff]; simp
theorem l6In_eq (a lo hi : Int) : spec_l6In.f a lo hi = some (wi a lo hi) := by
  unfold spec_l6In.f wi
  by_cases h : a ≥ lo
  · rw [if_pos h]; simp [h]
  · rw [if_neg h]; simp; omega
theorem within_eq (a lo hi : Int) : impl_within.f a lo hi = some (wi a lo hi) := by
  unfold impl_within.f wi
  by_cases h : a ≥ lo
  · rw [if_pos h]; simp [h]
  · rw [if_neg h]; simp; omega
def eof (n : Int) : Bool × Int × Bool := if 5 ≤ n ∧ n ≤ 12 then (true, (n - 1) / 2, decide (n % 2 = 0)) else (false, 0, false)
theorem eof_cases (n : Int) : (5 ≤ n ∧ n ≤ 12 ∧ eof n = (true, (n - 1) / 2, decide (n % 2 = 0))) ∨ (¬ (5 ≤ n ∧ n ≤ 12) ∧ eof n = (false, 0, false)) := by
  unfold eof
  by_cases h : 5 ≤ n ∧ n ≤ 12
  · exact .inl ⟨h.1, h.2, if_pos h⟩
  · exact .inr ⟨h, if_neg h⟩
theorem iEof_20 (n : Int) : impl_EntryOf.f 20 n = if 5 = n then some (true, 2, false) else if 6 = n then some (true, 2, true) else if 7 = n then some (true, 3, false) else if 8 = n then some (true, 3, true) else if 9 = n then some (true, 4, false) else if 10 = n then some (true, 4, true) else if 11 = n then some (true, 5, false) else if 12 = n then some (true, 5, true) else some (false, 0, false) := by kernel_rfl
theorem iEof_ev (n : Int) : Ev (fun k => impl_EntryOf.f k n) (eof n) := by
  refine Ev.of (fun k => impl_EntryOf.mono n k) (k := 20) ?_
  rw [iEof_20]
  by_cases h : 5 ≤ n ∧ n ≤ 12
  · obtain rfl | rfl | rfl | rfl | rfl | rfl | rfl | rfl : n = 5 ∨ n = 6 ∨ n = 7 ∨ n = 8 ∨ n = 9 ∨ n = 10 ∨ n = 11 ∨ n = 12 := by omega
    all_goals rfl
  · unfold eof; rw [if_neg h]
    rw [if_neg (by omega), if_neg (by omega), if_neg (by omega), if_neg (by omega), if_neg (by omega), if_neg (by omega), if_neg (by omega), if_neg (by omega)]
theorem tdiv2 (x : Int) (h : 0 ≤ x) : Int.tdiv x 2 = x / 2 := Int.tdiv_eq_ediv_of_nonneg h
theorem tmod2 (x : Int) (h : 0 ≤ x) : Int.tmod x 2 = x % 2 := Int.tmod_eq_emod_of_nonneg h
theorem sEof_eq (n : Int) (h1 : -9223372036854775808 ≤ n) (h2 : n ≤ 9223372036854775807) : spec_EntryOf.f n = some (eof n) := by
  unfold spec_EntryOf.f eof
  by_cases h : n < 1
  · rw [if_pos h, if_neg (by omega)]
  · rw [if_neg h, wr (n - 1) (by omega), tdiv2 _ (by omega), wr ((n - 1) / 2) (by omega), l6In_eq, tmod2 _ (by omega), Option.bind_some]
    by_cases g : 5 ≤ n ∧ n ≤ 12
    · rw [if_pos g, if_pos (wi_iff.mpr (by omega))]; rfl
    · rw [if_neg g, if_neg (by rw [wi_iff]; omega)]
theorem xor_nat (a b : Nat) (ha : a < 2 ^ 62) (hb : b < 2 ^ 62) : bits .xor .i64 (a : Int) (b : Int) = ((a ^^^ b : Nat) : Int) := by
  have ha' : a % 2 ^ 64 = a := Nat.mod_eq_of_lt (Nat.lt_of_lt_of_le ha (by decide))
  have hb' : b % 2 ^ 64 = b := Nat.mod_eq_of_lt (Nat.lt_of_lt_of_le hb (by decide))
  have hx : a ^^^ b < 2 ^ 62 := Nat.xor_lt_two_pow ha hb
  have e : IntKind.i64.bits = 64 := rfl
  simp only [bits, e, BitVec.ofInt_natCast, BitVec.toNat_xor, BitVec.toNat_ofNat, ha', hb']
  rw [IntKind.wrap_i64]; omega
theorem xor_nn (a b : Int) (ha : 0 ≤ a) (ha' : a < 4611686018427387904) (hb : 0 ≤ b) (hb' : b < 4611686018427387904) : 0 ≤ bits .xor .i64 a b := by
  obtain ⟨x, rfl⟩ := Int.eq_ofNat_of_zero_le ha
  obtain ⟨y, rfl⟩ := Int.eq_ofNat_of_zero_le hb
  rw [xor_nat x y (by omega) (by omega)]; omega
theorem tmod_in (x n : Int) (hx : 0 ≤ x) (hn : 1 ≤ n) : 0 ≤ Int.tmod x n ∧ Int.tmod x n < n := by
  rw [Int.tmod_eq_emod_of_nonneg hx]
  exact ⟨Int.emod_nonneg _ (by omega), Int.emod_lt_of_pos _ (by omega)⟩
def ByB (b : List Int) : Prop := ∀ i : Int, 0 ≤ rd b i ∧ rd b i ≤ 255
theorem byB_of {b : List Int} (h : ∀ x ∈ b, (Lit.int .u8 x).wf = true) : ByB b := by
  intro i
  unfold rd
  rw [List.getD_eq_getElem?_getD]
  cases e : b[i.toNat]? with
  | none => simp
  | some x => simpa using u8_in (h x (List.mem_of_getElem? e))
theorem pick_ev (b : List Int) (p n : Int) (hb : ByB b) (hl : (b.length : Int) ≤ 2000) (hp : 0 ≤ p) (hp' : p ≤ 1000000000) (hn : 1 ≤ n) (hn' : n ≤ 1000000000000) :
    ∃ v, Ev (fun k => spec_l6Rd_pick.f k b p n) (v, p + 1) ∧ 0 ≤ v ∧ v < n := by
  unfold spec_l6Rd_pick.f
  simp only [if_neg (show ¬ n < 1 by omega), wr (p + 1) (by omega)]
  by_cases e : b.length = 0
  · refine ⟨0, Ev.succ ?_, by omega, by omega⟩
    simp only [spec_l6Rd_pick.j0, e]
    exact Ev.now _
  · have e' : ((b.length : Int) == 0) = false := by simp; intro h; exact e (by simp [h])
    simp only [e']
    by_cases g : p < b.length
    · have hb1 := hb p
      have t := tmod_in (rd b p) n hb1.1 hn
      refine ⟨Int.tmod (rd b p) n, Ev.succ ?_, t.1, t.2⟩
      simp only [spec_l6Rd_pick.j0, show p + 1 - 1 = p by omega, wr p (by omega), if_pos g, if_pos hp, if_neg (show ¬ n = 0 by omega), wr (rd b p) (by omega), Bool.false_eq_true, if_false]
      exact Ev.now _
    · have hL : (1 : Int) ≤ b.length := by omega
      have q1 := tmod_in p b.length hp hL
      have q2 := tmod_in (p * 7 + 3) b.length (by omega) hL
      have b1 := hb (Int.tmod p b.length)
      have b2 := hb (Int.tmod (p * 7 + 3) b.length)
      have q3 : 0 ≤ Int.tdiv p b.length ∧ Int.tdiv p b.length ≤ p := by
        rw [Int.tdiv_eq_ediv_of_nonneg hp]
        exact ⟨Int.ediv_nonneg hp (by omega), Int.ediv_le_self _ hp⟩
      generalize hx : rd b (Int.tmod p b.length) = X at *
      generalize hy : rd b (Int.tmod (p * 7 + 3) b.length) = Y at *
      generalize hz : Int.tdiv p b.length = Z at *
      have q4 : 0 ≤ Int.tdiv (X * 131 + Y * 1117 + p * 29 + Z * 53) 64 ∧ Int.tdiv (X * 131 + Y * 1117 + p * 29 + Z * 53) 64 ≤ 4611686018427387903 := by
        rw [Int.tdiv_eq_ediv_of_nonneg (by omega)]; omega
      generalize hu : Int.tdiv (X * 131 + Y * 1117 + p * 29 + Z * 53) 64 = U at *
      have q5 := xor_nn (X * 131 + Y * 1117 + p * 29 + Z * 53) U (by omega) (by omega) (by omega) (by omega)
      have t := tmod_in _ n q5 hn
      refine ⟨Int.tmod (bits .xor .i64 (X * 131 + Y * 1117 + p * 29 + Z * 53) U) n, Ev.succ ?_, t.1, t.2⟩
      simp only [spec_l6Rd_pick.j0, show p + 1 - 1 = p by omega, wr p (by omega), if_neg g, if_neg (show ¬ (b.length : Int) = 0 by omega), if_pos q1.1, if_pos q1.2, wr (p * 7) (by omega), wr (p * 7 + 3) (by omega), if_pos q2.1, if_pos q2.2, if_neg (show ¬ n = 0 by omega), hx, hy, hz, wr X (by omega), wr Y (by omega), wr Z (by omega), wr (X * 131) (by omega), wr (Y * 1117) (by omega), wr (X * 131 + Y * 1117) (by omega), wr (p * 29) (by omega), wr (X * 131 + Y * 1117 + p * 29) (by omega), wr (Z * 53) (by omega), wr (X * 131 + Y * 1117 + p * 29 + Z * 53) (by omega), hu, wr U (by omega), Bool.false_eq_true, if_false]
      exact Ev.now _
theorem open_eq (l : List Int) (h : ∀ x ∈ l, (Lit.int .u8 x).wf = true) : ∃ b, spec_l6Open.f l = some (b, 0) ∧ ByB b ∧ (b.length : Int) ≤ 2000 := by
  unfold spec_l6Open.f
  by_cases g : (l.length : Int) > 2000
  · rw [if_pos g, if_pos (by omega)]
    exact ⟨_, rfl, byB_of fun x hx => h x (List.mem_of_mem_take hx), by simp; omega⟩
  · rw [if_neg g]
    exact ⟨_, rfl, byB_of h, by omega⟩
theorem rdE_at {l : List S40} {i : Nat} (h : i < l.length) : rd_T40 l (i : Int) = l[i] := getD_at _ h
def entB (e : S40) : Bool := if e.f0 = true then wi e.f1 0 5 else (e.f1 == 0 && (!e.f2))
def tabB (l : List S40) : Bool := l.all entB && ((l.length : Int) == 6)
theorem iTabOk_ev (l : List S40) (hl : (l.length : Int) ≤ 1000000000000000) : Ev (fun k => impl_TabOk.f k l) (tabB l) := by
  unfold impl_TabOk.f
  have H := Ev.down (σ := Unit) (fun k i _ => impl_TabOk.l0 k l l l.length i) (fun i _ => (l.drop i).all entB && ((l.length : Int) == 6)) l.length
    (fun _ => Ev.succ (by simp only [impl_TabOk.l0, Int.lt_irrefl, if_false]; exact Ev.cast (by simp) (Ev.now _)))
    (fun i hi ih _ => by
      refine Ev.succ ?_
      simp only [impl_TabOk.l0, if_pos (Int.ofNat_lt.mpr hi), if_pos (Int.natCast_nonneg i), rdE_at hi, within_eq, Option.bind_some, wr1 i (by omega)]
      rw [drop_cons hi, List.all_cons]
      unfold entB
      by_cases h : l[i].f0 = true
      · simp only [if_pos h]
        cases g : wi l[i].f1 0 5
        · exact Ev.now _
        · exact ih ()
      · simp only [if_neg h]
        cases g : (l[i].f1 == 0 && (!l[i].f2))
        · rw [show (l[i].f0 || (!(l[i].f1 == 0) || l[i].f2)) = true by revert g h; cases l[i].f0 <;> cases l[i].f2 <;> simp]
          exact Ev.now _
        · have g1 : l[i].f1 = 0 := by revert g; simp; intro a _; exact a
          rw [show (l[i].f0 || (!(l[i].f1 == 0) || l[i].f2)) = false by revert g h; cases l[i].f0 <;> cases l[i].f2 <;> simp]
          simp only [Bool.false_eq_true, if_false, g1, show wi 0 0 5 = true from rfl, if_true]
          exact ih ())
  exact H ()
def tabAt (l : List S40) (p : Int) : Bool × Int × Bool := if tabB l = true ∧ wi p 0 5 = true then ((rd_T40 l p).f0, (rd_T40 l p).f1, (rd_T40 l p).f2) else (false, 0, false)
theorem tabB_len {l : List S40} (h : tabB l = true) : l.length = 6 := by
  simp [tabB] at h; omega
theorem iTabAt_ev (l : List S40) (p : Int) (hl : (l.length : Int) ≤ 1000000000000000) : Ev (fun k => impl_TabAt.f k l p) (tabAt l p) := by
  unfold impl_TabAt.f tabAt
  refine Ev.bind (iTabOk_ev l hl) ?_
  cases t : tabB l
  · exact Ev.now _
  · simp only [if_true, within_eq, Option.bind_some]
    cases g : wi p 0 5
    · exact Ev.now _
    · have g' := wi_iff.mp g
      have := tabB_len t
      simp only [if_true, if_pos g'.1, if_pos (show p < (l.length : Int) by omega)]
      exact Ev.now _
theorem rdL_at {l : List (List Int)} {i : Nat} (h : i < l.length) : rd_L1 l (i : Int) = l[i] := getD_at _ h
def pageB (p : List Int) : Bool := p.all (fun w => wi w 0 63) && ((p.length : Int) == 4)
def memB (m : List (List Int)) : Bool := m.all pageB
def Small (m : List (List Int)) : Prop := (m.length : Int) ≤ 1000000000000 ∧ ∀ r ∈ m, (r.length : Int) ≤ 1000000000000
theorem rdL_mem {m : List (List Int)} {i : Int} (h0 : 0 ≤ i) (h : i < m.length) : rd_L1 m i ∈ m := by
  have e : i = ((i.toNat : Nat) : Int) := by omega
  rw [e, rdL_at (show i.toNat < m.length by omega)]; exact List.getElem_mem _
theorem memB_page {m : List (List Int)} (h : memB m = true) {r : List Int} (hr : r ∈ m) : pageB r = true := List.all_eq_true.mp h r hr
theorem page_len {r : List Int} (h : pageB r = true) : r.length = 4 := by
  simp [pageB] at h; omega
theorem page_word {r : List Int} (h : pageB r = true) {i : Int} (h0 : 0 ≤ i) (h1 : i < 4) : 0 ≤ rd r i ∧ rd r i ≤ 63 := by
  have hl := page_len h
  have e : i = ((i.toNat : Nat) : Int) := by omega
  rw [e, rd_at (show i.toNat < r.length by omega)]
  simp only [pageB, Bool.and_eq_true, List.all_eq_true] at h
  exact wi_iff.mp (h.1 _ (List.getElem_mem _))
theorem sPage_ev (p : List Int) (hl : (p.length : Int) ≤ 1000000000000) : Ev (fun k => spec_l2PageOk.f k p) (pageB p) := by
  unfold spec_l2PageOk.f
  have H := Ev.down (σ := Unit) (fun k i _ => spec_l2PageOk.l0 k p i) (fun i _ => (p.drop i).all (fun w => wi w 0 63) && ((p.length : Int) == 4)) p.length
    (fun _ => Ev.succ (by simp only [spec_l2PageOk.l0, Int.lt_irrefl, if_false]; exact Ev.cast (by simp) (Ev.now _)))
    (fun i hi ih _ => by
      refine Ev.succ ?_
      simp only [spec_l2PageOk.l0, if_pos (Int.ofNat_lt.mpr hi), if_pos (Int.natCast_nonneg i), rd_at hi, l6In_eq, Option.bind_some, wr1 i (by omega)]
      rw [drop_cons hi, List.all_cons]
      cases h : wi p[i] 0 63
      · exact Ev.now _
      · exact ih ())
  exact H ()
theorem sMemOk_ev (m : List (List Int)) (hm : Small m) : Ev (fun k => spec_MemOk.f k m) (memB m) := by
  unfold spec_MemOk.f
  have hl := hm.1
  have H := Ev.down (σ := Unit) (fun k i _ => spec_MemOk.l0 k m i) (fun i _ => (m.drop i).all pageB) m.length
    (fun _ => Ev.succ (by simp only [spec_MemOk.l0, Int.lt_irrefl, if_false]; exact Ev.cast (by simp) (Ev.now _)))
    (fun i hi ih _ => by
      refine Ev.succ ?_
      simp only [spec_MemOk.l0, if_pos (Int.ofNat_lt.mpr hi), if_pos (Int.natCast_nonneg i), rdL_at hi, wr1 i (by omega)]
      refine Ev.bind (sPage_ev m[i] (hm.2 _ (List.getElem_mem hi))) ?_
      rw [drop_cons hi, List.all_cons]
      cases h : pageB m[i]
      · exact Ev.now _
      · exact ih ())
  exact H ()
theorem iPage_ev (p : List Int) (hl : (p.length : Int) ≤ 1000000000000) : Ev (fun k => impl_pageOk.f k p) (pageB p) := by
  unfold impl_pageOk.f
  have H := Ev.down (σ := Unit) (fun k i _ => impl_pageOk.l0 k p p p.length i) (fun i _ => (p.drop i).all (fun w => wi w 0 63) && ((p.length : Int) == 4)) p.length
    (fun _ => Ev.succ (by simp only [impl_pageOk.l0, Int.lt_irrefl, if_false]; exact Ev.cast (by simp) (Ev.now _)))
    (fun i hi ih _ => by
      refine Ev.succ ?_
      simp only [impl_pageOk.l0, if_pos (Int.ofNat_lt.mpr hi), if_pos (Int.natCast_nonneg i), rd_at hi, within_eq, Option.bind_some, wr1 i (by omega)]
      rw [drop_cons hi, List.all_cons]
      cases h : wi p[i] 0 63
      · exact Ev.now _
      · exact ih ())
  exact H ()
theorem iMemOk_ev (m : List (List Int)) (hm : Small m) : Ev (fun k => impl_MemOk.f k m) (memB m) := by
  unfold impl_MemOk.f
  have hl := hm.1
  have H := Ev.down (σ := Unit) (fun k i _ => impl_MemOk.l0 k m m.length i) (fun i _ => (m.drop i).all pageB) m.length
    (fun _ => Ev.succ (by simp only [impl_MemOk.l0, Int.lt_irrefl, if_false]; exact Ev.cast (by simp) (Ev.now _)))
    (fun i hi ih _ => by
      refine Ev.succ ?_
      simp only [impl_MemOk.l0, if_pos (Int.ofNat_lt.mpr hi), if_pos (Int.natCast_nonneg i), rdL_at hi, wr1 i (by omega)]
      refine Ev.bind (iPage_ev m[i] (hm.2 _ (List.getElem_mem hi))) ?_
      rw [drop_cons hi, List.all_cons]
      cases h : pageB m[i]
      · exact Ev.now _
      · exact ih ())
  exact H ()
def memAtOk (m : List (List Int)) (p o : Int) : Prop := memB m = true ∧ (0 ≤ p ∧ p < m.length) ∧ (0 ≤ o ∧ o < 4)
instance (m : List (List Int)) (p o : Int) : Decidable (memAtOk m p o) := by unfold memAtOk; infer_instance
theorem memAt_row {m : List (List Int)} {p o : Int} (h : memAtOk m p o) : pageB (rd_L1 m p) = true := memB_page h.1 (rdL_mem h.2.1.1 h.2.1.2)
theorem clone_ev (m : List (List Int)) (hm : Small m) : Ev (fun k => impl_cloneMem.f k m) m := by
  unfold impl_cloneMem.f
  have hl := hm.1
  have H : ∀ d i : Nat, i + d = m.length → ∀ xs : List (List Int), xs.length = i → Ev (fun k => impl_cloneMem.l0 k xs m m.length (i : Int)) (xs ++ m.drop i) := by
    intro d
    induction d with
    | zero =>
      intro i hi xs hx
      obtain rfl : i = m.length := by omega
      refine Ev.succ ?_
      simp only [impl_cloneMem.l0, Int.lt_irrefl, if_false]
      exact Ev.cast (by simp) (Ev.now _)
    | succ d ih =>
      intro i hi xs hx
      have hlt : i < m.length := by omega
      have hr := hm.2 _ (List.getElem_mem hlt)
      refine Ev.succ ?_
      simp only [impl_cloneMem.l0, if_pos (Int.ofNat_lt.mpr hlt), if_pos (Int.natCast_nonneg i), rdL_at hlt, Option.bind_some, List.length_nil, Nat.zero_add, List.nil_append, if_pos (show m[i].length < 17592186044416 by omega), if_pos (show xs.length < 5864062014805 by omega), wr1 i (by omega)]
      exact Ev.cast (by rw [drop_cons hlt, List.append_assoc]; rfl) (ih (i + 1) (by omega) (xs ++ [m[i]]) (by simp [hx]))
  exact H m.length 0 (by omega) [] rfl
theorem copy_ev (m : List (List Int)) (hm : Small m) : Ev (fun k => spec_l2Copy.f k m) m := by
  unfold spec_l2Copy.f
  have hl := hm.1
  have H : ∀ d i : Nat, i + d = m.length → ∀ xs : List (List Int), xs.length = i → Ev (fun k => spec_l2Copy.l0 k m xs (i : Int)) (xs ++ m.drop i) := by
    intro d
    induction d with
    | zero =>
      intro i hi xs hx
      obtain rfl : i = m.length := by omega
      refine Ev.succ ?_
      simp only [spec_l2Copy.l0, Int.lt_irrefl, if_false]
      exact Ev.cast (by simp) (Ev.now _)
    | succ d ih =>
      intro i hi xs hx
      have hlt : i < m.length := by omega
      have hr := hm.2 _ (List.getElem_mem hlt)
      refine Ev.succ ?_
      simp only [spec_l2Copy.l0, if_pos (Int.ofNat_lt.mpr hlt), if_pos (Int.natCast_nonneg i), rdL_at hlt, Option.bind_some, List.length_nil, Nat.zero_add, List.nil_append, if_pos (show m[i].length < 17592186044416 by omega), if_pos (show xs.length < 5864062014805 by omega), wr1 i (by omega)]
      exact Ev.cast (by rw [drop_cons hlt, List.append_assoc]; rfl) (ih (i + 1) (by omega) (xs ++ [m[i]]) (by simp [hx]))
  exact H m.length 0 (by omega) [] rfl
def setW (m : List (List Int)) (p o w : Int) : List (List Int) := m.set p.toNat ((rd_L1 m p).set o.toNat w)
def mw (m : List (List Int)) (i : Nat) : Int := rd (rd_L1 m ((i / 4 : Nat) : Int)) ((i % 4 : Nat) : Int)
def entOf (t : Bool × Int × Bool) : S40 := ⟨t.1, t.2.1, t.2.2⟩
def tabFrom (m : List (List Int)) (i d : Nat) : List S40 := (List.range' i d).map (fun j => entOf (eof (mw m j)))
def guestB (m : List (List Int)) : Bool := memB m && ((m.length : Int) == 6)
theorem guest_iff {m : List (List Int)} : guestB m = true ↔ memB m = true ∧ m.length = 6 := by
  simp [guestB]; intro _; omega
def memTab (m : List (List Int)) : List S40 := if guestB m = true then tabFrom m 0 6 else []
theorem mw_in {m : List (List Int)} (h : guestB m = true) {i : Nat} (hi : i < 6) : 0 ≤ mw m i ∧ mw m i ≤ 63 := by
  have g := guest_iff.mp h
  exact page_word (memB_page g.1 (rdL_mem (by omega) (by omega))) (by omega) (by omega)
theorem memTab_at {m : List (List Int)} (h : guestB m = true) {p : Int} (h0 : 0 ≤ p) (h1 : p < 6) : rd_T40 (memTab m) p = entOf (eof (mw m p.toNat)) := by
  obtain ⟨n, rfl⟩ : ∃ n : Nat, p = (n : Int) := ⟨p.toNat, by omega⟩
  unfold memTab; rw [if_pos h]
  rw [rdE_at (show n < (tabFrom m 0 6).length by simp [tabFrom]; omega), Int.toNat_natCast]
  simp [tabFrom]
theorem memTab_len {m : List (List Int)} (h : guestB m = true) : (memTab m).length = 6 := by
  unfold memTab; rw [if_pos h]; simp [tabFrom]
theorem eof_ent (n : Int) : entB (entOf (eof n)) = true := by
  rcases eof_cases n with ⟨a, b, e⟩ | ⟨_, e⟩
  · rw [e]; simp only [entOf, entB, if_true]; exact wi_iff.mpr (by omega)
  · rw [e]; rfl
theorem memTab_ok {m : List (List Int)} (h : guestB m = true) : tabB (memTab m) = true := by
  have hl := memTab_len h
  simp only [tabB, Bool.and_eq_true, List.all_eq_true]
  refine ⟨fun x hx => ?_, by simp [hl]⟩
  unfold memTab at hx; rw [if_pos h] at hx
  obtain ⟨j, _, rfl⟩ := List.mem_map.mp hx
  exact eof_ent _
theorem iGuest_ev (m : List (List Int)) (hm : Small m) : Ev (fun k => impl_guestMem.f k m) (guestB m) := by
  unfold impl_guestMem.f guestB
  refine Ev.bind (iMemOk_ev m hm) ?_
  cases memB m
  · exact Ev.now _
  · exact Ev.cast (by simp) (Ev.now _)
theorem sGuest_ev (m : List (List Int)) (hm : Small m) : Ev (fun k => spec_l11Guest.f k m) (guestB m) := by
  unfold spec_l11Guest.f guestB
  refine Ev.bind (sMemOk_ev m hm) ?_
  cases memB m
  · exact Ev.now _
  · exact Ev.cast (by simp) (Ev.now _)
theorem iMemTab_ev (m : List (List Int)) (hm : Small m) : Ev (fun k => impl_MemTab.f k m) (memTab m) := by
  unfold impl_MemTab.f memTab
  simp only [Option.bind_some]
  refine Ev.bind (iGuest_ev m hm) ?_
  cases hg : guestB m
  · exact Ev.cast (by simp) (Ev.now _)
  · have g := guest_iff.mp hg
    simp only [if_true]
    have H : ∀ d i : Nat, i + d = 6 → ∀ xs : List S40, xs.length = i → Ev (fun k => impl_MemTab.l0 k m xs (i : Int)) (xs ++ tabFrom m i d) := by
      intro d
      induction d with
      | zero =>
        intro i hi xs hx
        refine Ev.succ ?_
        simp only [impl_MemTab.l0, if_neg (show ¬ (i : Int) < 6 by omega)]
        exact Ev.cast (by simp [tabFrom]) (Ev.now _)
      | succ d ih =>
        intro i hi xs hx
        have e1 : Int.tdiv (i : Int) 4 = ((i / 4 : Nat) : Int) := rfl
        have e2 : Int.tmod (i : Int) 4 = ((i % 4 : Nat) : Int) := rfl
        have hr := page_len (memB_page g.1 (rdL_mem (m := m) (i := ((i / 4 : Nat) : Int)) (by omega) (by omega)))
        refine Ev.succ ?_
        simp only [impl_MemTab.l0, if_pos (show (i : Int) < 6 by omega), e1, e2, wr ((i / 4 : Nat) : Int) (by omega), if_pos (Int.natCast_nonneg (i / 4)), if_pos (Int.natCast_nonneg (i % 4)), if_pos (show ((i / 4 : Nat) : Int) < (m.length : Int) by omega), if_pos (show ((i % 4 : Nat) : Int) < ((rd_L1 m ((i / 4 : Nat) : Int)).length : Int) by omega)]
        refine Ev.bind (iEof_ev _) ?_
        simp only [if_pos (show xs.length < 5864062014805 by omega), wr1 i (by omega)]
        exact Ev.cast (by simp [tabFrom, List.range'_succ, entOf, mw]) (ih (i + 1) (by omega) (xs ++ [entOf (eof (mw m i))]) (by simp [hx]))
    exact H 6 0 (by omega) [] rfl
theorem sMemTab_ev (m : List (List Int)) (hm : Small m) : Ev (fun k => spec_MemTab.f k m) (memTab m) := by
  unfold spec_MemTab.f memTab
  refine Ev.bind (sMemOk_ev m hm) ?_
  cases hb : memB m
  · exact Ev.cast (by simp [guestB, hb]) (Ev.now _)
  · simp only [if_true]
    by_cases hl : m.length = 6
    · have hg : guestB m = true := guest_iff.mpr ⟨hb, hl⟩
      have r0 := page_len (memB_page hb (rdL_mem (m := m) (i := 0) (by omega) (by omega)))
      have r1 := page_len (memB_page hb (rdL_mem (m := m) (i := 1) (by omega) (by omega)))
      simp only [if_pos (show (m.length : Int) = 6 by omega), if_pos (show (0 : Int) < m.length by omega), if_pos (show (1 : Int) < m.length by omega), spec_l2Tab.f, if_pos hg]
      have H : ∀ d i : Nat, i + d = 6 → ∀ xs : List S40, xs.length = i → Ev (fun k => spec_l2Tab.l0 k (rd_L1 m 0) (rd_L1 m 1) xs (i : Int)) (xs ++ tabFrom m i d) := by
        intro d
        induction d with
        | zero =>
          intro i hi xs hx
          refine Ev.succ ?_
          simp only [spec_l2Tab.l0, if_neg (show ¬ (i : Int) < 6 by omega)]
          exact Ev.cast (by simp [tabFrom]) (Ev.now _)
        | succ d ih =>
          intro i hi xs hx
          have hw := mw_in hg (show i < 6 by omega)
          have key : Ev (fun k => spec_l2Tab.l0 k (rd_L1 m 0) (rd_L1 m 1) (xs ++ [entOf (eof (mw m i))]) ((i + 1 : Nat) : Int)) (xs ++ tabFrom m i (d + 1)) :=
            Ev.cast (by simp [tabFrom, List.range'_succ]) (ih (i + 1) (by omega) (xs ++ [entOf (eof (mw m i))]) (by simp [hx]))
          refine Ev.succ ?_
          by_cases h4 : i < 4
          · have e : mw m i = rd (rd_L1 m 0) (i : Int) := by unfold mw; rw [show i / 4 = 0 by omega, show i % 4 = i by omega]; rfl
            simp only [spec_l2Tab.l0, if_pos (show (i : Int) < 6 by omega), if_pos (show (i : Int) < 4 by omega), if_pos (Int.natCast_nonneg i), if_pos (show (i : Int) < ((rd_L1 m 0).length : Int) by omega), ← e, sEof_eq _ (show -9223372036854775808 ≤ mw m i by omega) (show mw m i ≤ 9223372036854775807 by omega), Option.bind_some, if_pos (show xs.length < 5864062014805 by omega), wr1 i (by omega)]
            exact key
          · have e : mw m i = rd (rd_L1 m 1) ((i : Int) - 4) := by unfold mw; rw [show i / 4 = 1 by omega, show ((i % 4 : Nat) : Int) = (i : Int) - 4 by omega]; rfl
            simp only [spec_l2Tab.l0, if_pos (show (i : Int) < 6 by omega), if_neg (show ¬ (i : Int) < 4 by omega), wr ((i : Int) - 4) (by omega), if_pos (show 0 ≤ (i : Int) - 4 by omega), if_pos (show (i : Int) - 4 < ((rd_L1 m 1).length : Int) by omega), ← e, sEof_eq _ (show -9223372036854775808 ≤ mw m i by omega) (show mw m i ≤ 9223372036854775807 by omega), Option.bind_some, if_pos (show xs.length < 5864062014805 by omega), wr1 i (by omega)]
            exact key
      exact Ev.bind (H 6 0 (by omega) [] rfl) (Ev.now _)
    · simp only [if_neg (show ¬ (m.length : Int) = 6 by omega)]
      exact Ev.cast (by rw [if_neg (fun x => hl (guest_iff.mp x).2)]) (Ev.now _)
theorem word_ev (b : List Int) (p : Int) (hb : ByB b) (hl : (b.length : Int) ≤ 2000) (hp : 0 ≤ p) (hp' : p ≤ 100000000) :
    ∃ v p', Ev (fun k => spec_l71Word.f k b p) (v, p') ∧ p ≤ p' ∧ p' ≤ p + 2 ∧ 0 ≤ v ∧ v ≤ 63 := by
  unfold spec_l71Word.f
  obtain ⟨v, h1, v1, v2⟩ := pick_ev b p 3 hb hl (by omega) (by omega) (by omega) (by omega)
  obtain ⟨z, h2, z1, z2⟩ := pick_ev b (p + 1) 64 hb hl (by omega) (by omega) (by omega) (by omega)
  obtain ⟨y, h3, y1, y2⟩ := pick_ev b (p + 1) 14 hb hl (by omega) (by omega) (by omega) (by omega)
  by_cases c : v = 0
  · refine ⟨z, p + 1 + 1, Ev.bind h1 ?_, by omega, by omega, by omega, by omega⟩
    simp only [if_pos c]; exact Ev.bind h2 (Ev.now _)
  · refine ⟨y, p + 1 + 1, Ev.bind h1 ?_, by omega, by omega, by omega, by omega⟩
    simp only [if_neg c]; exact Ev.bind h3 (Ev.now _)
def Shape (m : List (List Int)) : Prop := m.length = 6 ∧ ∀ r ∈ m, r.length = 4
theorem shape_set {m : List (List Int)} (h : Shape m) {p : Int} (h0 : 0 ≤ p) (h1 : p < 6) (j : Nat) (v : Int) : Shape (m.set p.toNat ((rd_L1 m p).set j v)) := by
  have hr := h.2 _ (rdL_mem (m := m) h0 (by have := h.1; omega))
  refine ⟨by simp [h.1], fun r hr' => ?_⟩
  rcases List.mem_or_eq_of_mem_set hr' with x | rfl
  · exact h.2 r x
  · simp [hr]
theorem sMemNew6 : Ev (fun k => spec_MemNew.f k 6) (List.replicate 6 (List.replicate 4 0)) := by
  refine Ev.of (fun k => spec_MemNew.mono 6 k) (k := 10) ?_
  kernel_rfl
theorem mem_ev (b : List Int) (p : Int) (hb : ByB b) (hl : (b.length : Int) ≤ 2000) (hp : 0 ≤ p) (hp' : p ≤ 10000000) :
    ∃ m p', Ev (fun k => spec_l71Mem.f k b p) (m, p') ∧ p ≤ p' ∧ p' ≤ p + 200 ∧ Shape m := by
  have H1 : ∀ n : Nat, ∀ (m : List (List Int)) (p : Int), Shape m → 0 ≤ p → p + 3 * n ≤ 20000000 → ∃ m' p', Ev (fun k => spec_l71Mem.l1 k m (n : Int) b p) (m', p') ∧ p ≤ p' ∧ p' ≤ p + 3 * n ∧ Shape m' := by
    intro n
    induction n with
    | zero =>
      intro m p hs h0 h1
      refine ⟨m, p, Ev.succ ?_, by omega, by omega, hs⟩
      simp only [spec_l71Mem.l1, if_neg (show ¬ ((0 : Nat) : Int) > 0 by omega)]
      exact Ev.now _
    | succ n ih =>
      intro m p hs h0 h1
      obtain ⟨v, g1, v1, v2⟩ := pick_ev b p 6 hb hl (by omega) (by omega) (by omega) (by omega)
      obtain ⟨u, g2, u1, u2⟩ := pick_ev b (p + 1) 8 hb hl (by omega) (by omega) (by omega) (by omega)
      have e1 : Int.tdiv v 4 = v / 4 := Int.tdiv_eq_ediv_of_nonneg v1
      have e2 : Int.tmod v 4 = v % 4 := Int.tmod_eq_emod_of_nonneg v1
      have hlen := hs.1
      have hr := hs.2 _ (rdL_mem (m := m) (i := v / 4) (by omega) (by omega))
      obtain ⟨m', p', g3, a1, a2, a3⟩ := ih _ (p + 1 + 1) (shape_set hs (p := v / 4) (by omega) (by omega) (v % 4).toNat (5 + u)) (by omega) (by omega)
      refine ⟨m', p', Ev.succ ?_, by omega, by omega, a3⟩
      simp only [spec_l71Mem.l1, if_pos (show ((n + 1 : Nat) : Int) > 0 by omega), show ((n + 1 : Nat) : Int) - 1 = (n : Int) by omega, wr (n : Int) (by omega)]
      refine Ev.bind g1 ?_
      simp only [e1, e2, wr (v / 4) (by omega), if_pos (show 0 ≤ v / 4 by omega), if_pos (show v / 4 < (m.length : Int) by omega)]
      refine Ev.bind g2 ?_
      simp only [if_pos (show 0 ≤ v % 4 by omega), if_pos (show v % 4 < ((rd_L1 m (v / 4)).length : Int) by omega), wr (5 + u) (by omega)]
      exact g3
  have H0 : ∀ n : Nat, n ≤ 26 → ∀ (m : List (List Int)) (p : Int), Shape m → 0 ≤ p → p + 5 * n ≤ 15000000 → ∃ m' p', Ev (fun k => spec_l71Mem.l0 k m (n : Int) b p) (m', p') ∧ p ≤ p' ∧ p' ≤ p + 5 * n + 30 ∧ Shape m' := by
    intro n
    induction n with
    | zero =>
      intro _ m p hs h0 h1
      obtain ⟨v, g1, v1, v2⟩ := pick_ev b p 7 hb hl (by omega) (by omega) (by omega) (by omega)
      obtain ⟨w, rfl⟩ := Int.eq_ofNat_of_zero_le v1
      obtain ⟨m', p', g2, a1, a2, a3⟩ := H1 w m (p + 1) hs (by omega) (by omega)
      refine ⟨m', p', Ev.succ ?_, by omega, by omega, a3⟩
      simp only [spec_l71Mem.l0, if_neg (show ¬ ((0 : Nat) : Int) > 0 by omega)]
      exact Ev.bind g1 g2
    | succ n ih =>
      intro hn m p hs h0 h1
      obtain ⟨v, g1, v1, v2⟩ := pick_ev b p 6 hb hl (by omega) (by omega) (by omega) (by omega)
      obtain ⟨u, g2, u1, u2⟩ := pick_ev b (p + 1) 4 hb hl (by omega) (by omega) (by omega) (by omega)
      obtain ⟨w, p1, g3, w1, w2, _, _⟩ := word_ev b (p + 1 + 1) hb hl (by omega) (by omega)
      have hlen := hs.1
      have hr := hs.2 _ (rdL_mem (m := m) (i := v) (by omega) (by omega))
      obtain ⟨m', p', g4, a1, a2, a3⟩ := ih (by omega) _ p1 (shape_set hs (p := v) (by omega) (by omega) u.toNat w) (by omega) (by omega)
      refine ⟨m', p', Ev.succ ?_, by omega, by omega, a3⟩
      simp only [spec_l71Mem.l0, if_pos (show ((n + 1 : Nat) : Int) > 0 by omega), show ((n + 1 : Nat) : Int) - 1 = (n : Int) by omega, wr (n : Int) (by omega)]
      refine Ev.bind g1 ?_
      simp only [if_pos v1, if_pos (show v < (m.length : Int) by omega)]
      refine Ev.bind g2 (Ev.bind g3 ?_)
      simp only [if_pos u1, if_pos (show u < ((rd_L1 m v).length : Int) by omega)]
      exact g4
  unfold spec_l71Mem.f
  obtain ⟨v, g1, v1, v2⟩ := pick_ev b p 26 hb hl (by omega) (by omega) (by omega) (by omega)
  obtain ⟨w, rfl⟩ := Int.eq_ofNat_of_zero_le v1
  obtain ⟨m', p', g2, a1, a2, a3⟩ := H0 w (by omega) (List.replicate 6 (List.replicate 4 0)) (p + 1) ⟨by simp, fun r hr => by rw [List.eq_of_mem_replicate hr]; simp⟩ (by omega) (by omega)
  exact ⟨m', p', Ev.bind sMemNew6 (Ev.bind g1 g2), by omega, by omega, a3⟩
def Near (m : List (List Int)) : Prop := (5 ≤ m.length ∧ m.length ≤ 6) ∧ ∀ r ∈ m, 2 ≤ r.length ∧ r.length ≤ 4
theorem near_small {m : List (List Int)} (h : Near m) : Small m := ⟨by have := h.1; omega, fun r hr => by have := h.2 r hr; omega⟩
theorem off_ev (b : List Int) (p : Int) (hb : ByB b) (hl : (b.length : Int) ≤ 2000) (hp : 0 ≤ p) (hp' : p ≤ 10000000) :
    ∃ m p', Ev (fun k => spec_l71Off.f k b p) (m, p') ∧ p ≤ p' ∧ p' ≤ p + 300 ∧ Near m := by
  unfold spec_l71Off.f
  obtain ⟨m, p1, g0, a1, a2, hs⟩ := mem_ev b p hb hl hp hp'
  obtain ⟨v, g1, v1, v2⟩ := pick_ev b p1 20 hb hl (by omega) (by omega) (by omega) (by omega)
  have hlen := hs.1
  obtain ⟨u, g2, u1, u2⟩ := pick_ev b (p1 + 1) m.length hb hl (by omega) (by omega) (by omega) (by omega)
  obtain ⟨w, g3, w1, w2⟩ := pick_ev b (p1 + 1 + 1) 2 hb hl (by omega) (by omega) (by omega) (by omega)
  have hN : Near m := ⟨by omega, fun r hr => by have := hs.2 r hr; omega⟩
  have hset : ∀ r : List Int, 2 ≤ r.length ∧ r.length ≤ 4 → Near (m.set u.toNat r) := by
    intro r hr
    refine ⟨by simp; omega, fun x hx => ?_⟩
    rcases List.mem_or_eq_of_mem_set hx with y | rfl
    · exact hN.2 x y
    · exact hr
  by_cases c0 : v = 0
  · refine ⟨m.drop 1, p1 + 1, Ev.bind g0 (Ev.bind g1 ?_), by omega, by omega, ⟨by simp; omega, fun r hr => hN.2 r (List.mem_of_mem_drop hr)⟩⟩
    simp only [if_pos c0, if_pos (show (1 : Int) ≤ m.length by omega)]
    exact Ev.now _
  by_cases c1 : v = 1
  · refine ⟨m.set u.toNat [1, 2], p1 + 1 + 1, Ev.bind g0 (Ev.bind g1 ?_), by omega, by omega, hset _ (by simp)⟩
    simp only [if_neg c0, if_pos c1]
    refine Ev.bind g2 ?_
    simp only [if_pos u1, if_pos u2]
    exact Ev.now _
  by_cases c2 : v = 2
  · have hr := hs.2 _ (rdL_mem (m := m) (i := u) u1 u2)
    refine ⟨m.set u.toNat ((rd_L1 m u).set 0 (rd [(-1), 64] w)), p1 + 1 + 1 + 1, Ev.bind g0 (Ev.bind g1 ?_), by omega, by omega, hset _ (by simp [hr])⟩
    simp only [if_neg c0, if_neg c1, if_pos c2]
    refine Ev.bind g2 ?_
    simp only [if_pos u1, if_pos u2, Option.bind_some]
    refine Ev.bind g3 ?_
    simp only [if_pos w1, if_pos (show w < (([(-1), 64] : List Int).length : Int) by simpa using w2), if_pos (show (0 : Int) < ((rd_L1 m u).length : Int) by omega)]
    exact Ev.now _
  · refine ⟨m, p1 + 1, Ev.bind g0 (Ev.bind g1 ?_), by omega, by omega, hN⟩
    simp only [if_neg c0, if_neg c1, if_neg c2]
    exact Ev.now _
theorem tdivS (x n : Int) (h0 : 0 ≤ x) (h1 : x < 24) (hn : n = 23) : 0 ≤ Int.tdiv x n ∧ Int.tdiv x n ≤ 1 := by
  subst hn; rw [Int.tdiv_eq_ediv_of_nonneg h0]; omega
theorem drawMemWith_ev (l : List Int) (h : ∀ x ∈ l, (Lit.int .u8 x).wf = true) : ∃ m p o w, Ev (fun k => spec_DrawMemWith.f k l) (m, p, o, w) ∧ Near m ∧ (0 ≤ p ∧ p ≤ 6) ∧ (0 ≤ o ∧ o ≤ 4) ∧ (0 ≤ w ∧ w ≤ 123) := by
  unfold spec_DrawMemWith.f
  obtain ⟨b, e, hb, hl⟩ := open_eq l h
  obtain ⟨m, p1, g0, a1, a2, hN⟩ := off_ev b 0 hb hl (by omega) (by omega)
  obtain ⟨v1, g1, x1, y1⟩ := pick_ev b p1 6 hb hl (by omega) (by omega) (by omega) (by omega)
  obtain ⟨v2, g2, x2, y2⟩ := pick_ev b (p1 + 1) 24 hb hl (by omega) (by omega) (by omega) (by omega)
  obtain ⟨v3, g3, x3, y3⟩ := pick_ev b (p1 + 1 + 1) 4 hb hl (by omega) (by omega) (by omega) (by omega)
  obtain ⟨v4, g4, x4, y4⟩ := pick_ev b (p1 + 1 + 1 + 1) 24 hb hl (by omega) (by omega) (by omega) (by omega)
  obtain ⟨v5, p2, g5, z1, z2, x5, y5⟩ := word_ev b (p1 + 1 + 1 + 1 + 1) hb hl (by omega) (by omega)
  obtain ⟨v6, g6, x6, y6⟩ := pick_ev b p2 24 hb hl (by omega) (by omega) (by omega) (by omega)
  have d2 := tdivS v2 23 x2 y2 rfl
  have d4 := tdivS v4 23 x4 y4 rfl
  have d6 := tdivS v6 23 x6 y6 rfl
  refine ⟨m, v1 + Int.tdiv v2 23, v3 + Int.tdiv v4 23, v5 + Int.tdiv v6 23 * 60, ?_, hN, by omega, by omega, by omega⟩
  simp only [e, Option.bind_some]
  refine Ev.bind g0 (Ev.bind g1 (Ev.bind g2 (Ev.bind g3 (Ev.bind g4 (Ev.bind g5 (Ev.bind g6 ?_))))))
  simp only [wr (Int.tdiv v2 23) (by omega), wr (v1 + Int.tdiv v2 23) (by omega), wr (Int.tdiv v4 23) (by omega), wr (v3 + Int.tdiv v4 23) (by omega), wr (Int.tdiv v6 23) (by omega), wr (Int.tdiv v6 23 * 60) (by omega), wr (v5 + Int.tdiv v6 23 * 60) (by omega)]
  exact Ev.now _
theorem lkInts_refl (l : List Int) (hl : (l.length : Int) ≤ 1000000000000) : Ev (fun k => laws_lkInts.f k l l) true := by
  unfold laws_lkInts.f
  simp only [if_true]
  have H := Ev.down (σ := Unit) (fun k i _ => laws_lkInts.l0 k l l i) (fun i _ => true) l.length
    (fun _ => Ev.succ (by simp only [laws_lkInts.l0, Int.lt_irrefl, if_false]; exact Ev.now _))
    (fun i hi ih _ => by
      refine Ev.succ ?_
      simp only [laws_lkInts.l0, if_pos (Int.ofNat_lt.mpr hi), if_pos (Int.natCast_nonneg i), if_true, wr1 i (by omega)]
      exact ih ())
  exact H ()
theorem lkMem_refl (l : List (List Int)) (hl : Small l) : Ev (fun k => laws_lkMem.f k l l) true := by
  unfold laws_lkMem.f
  simp only [if_true]
  have h1 := hl.1
  have H := Ev.down (σ := Unit) (fun k i _ => laws_lkMem.l0 k l l i) (fun i _ => true) l.length
    (fun _ => Ev.succ (by simp only [laws_lkMem.l0, Int.lt_irrefl, if_false]; exact Ev.now _))
    (fun i hi ih _ => by
      refine Ev.succ ?_
      simp only [laws_lkMem.l0, if_pos (Int.ofNat_lt.mpr hi), if_pos (Int.natCast_nonneg i), rdL_at hi, wr1 i (by omega)]
      refine Ev.bind (lkInts_refl _ (hl.2 _ (List.getElem_mem hi))) ?_
      simp only [if_true]
      exact ih ())
  exact H ()
theorem small_set {m : List (List Int)} (h : Small m) {p : Int} (h0 : 0 ≤ p) (h1 : p < m.length) (o w : Int) : Small (setW m p o w) := by
  have hr := h.2 _ (rdL_mem h0 h1)
  refine ⟨by simp [setW]; exact h.1, fun r hr' => ?_⟩
  rcases List.mem_or_eq_of_mem_set hr' with x | rfl
  · exact h.2 r x
  · simpa using hr
theorem spot_eq (p o : Int) : impl_spot.f p o = some (wi p 0 5 && wi o 0 3) := by
  unfold impl_spot.f
  rw [within_eq]; simp only [Option.bind_some, within_eq]
  cases wi p 0 5 <;> simp
def flatOk (m : List (List Int)) (p o : Int) : Prop := guestB m = true ∧ (0 ≤ p ∧ p < 6) ∧ (0 ≤ o ∧ o < 4)
instance (m : List (List Int)) (p o : Int) : Decidable (flatOk m p o) := by unfold flatOk; infer_instance
theorem flat_at {m : List (List Int)} {p o : Int} (h : flatOk m p o) : memAtOk m p o := by
  have g := guest_iff.mp h.1
  exact ⟨g.1, by have := h.2.1; omega, h.2.2⟩
theorem flatRead_word {m : List (List Int)} {p o : Int} (h : flatOk m p o) : 0 ≤ rd (rd_L1 m p) o ∧ rd (rd_L1 m p) o ≤ 63 :=
  page_word (memAt_row (flat_at h)) h.2.2.1 h.2.2.2
theorem drawFlatWriteIn_ev (l : List Int) (h : ∀ x ∈ l, (Lit.int .u8 x).wf = true) : ∃ m p o w, Ev (fun k => spec_DrawFlatWriteIn.f k l) (m, p, o, w) ∧ Near m ∧ (0 ≤ p ∧ p ≤ 6) ∧ (0 ≤ o ∧ o ≤ 4) ∧ (0 ≤ w ∧ w ≤ 123) := by
  obtain ⟨m, p, o, w, g, hN, hp, ho, hw2⟩ := drawMemWith_ev l h
  exact ⟨m, p, o, w, Ev.bind g (Ev.now _), hN, hp, ho, hw2⟩
def flatWOk (m : List (List Int)) (p o w : Int) : Prop := flatOk m p o ∧ (0 ≤ w ∧ w ≤ 63)
instance (m : List (List Int)) (p o w : Int) : Decidable (flatWOk m p o w) := by unfold flatWOk; infer_instance
def flatWrite (m : List (List Int)) (p o w : Int) : List (List Int) × Int := if flatWOk m p o w then (setW m p o w, rd (rd_L1 m p) o) else (m, -3)
theorem flatW_small {m : List (List Int)} (hm : Small m) {p o w : Int} (h : flatWOk m p o w) : Small (setW m p o w) := small_set hm (flat_at h.1).2.1.1 (flat_at h.1).2.1.2 o w
theorem iFlatWrite_ev (m : List (List Int)) (p o w : Int) (hm : Small m) : Ev (fun k => impl_FlatWrite.f k m p o w) (flatWrite m p o w) := by
  unfold impl_FlatWrite.f
  refine Ev.bind (clone_ev m hm) (Ev.bind (iGuest_ev m hm) ?_)
  by_cases h : flatWOk m p o w
  · have hr := page_len (memAt_row (flat_at h.1))
    have g := guest_iff.mp h.1.1
    have e : flatWrite m p o w = (setW m p o w, rd (rd_L1 m p) o) := if_pos h
    obtain ⟨⟨hg, hp, ho⟩, hw⟩ := h
    rw [e]
    simp only [hg, if_true, spot_eq, wi_iff.mpr (show 0 ≤ p ∧ p ≤ 5 by omega), wi_iff.mpr (show 0 ≤ o ∧ o ≤ 3 by omega), Bool.and_self, Option.bind_some, impl_wordOk.f, within_eq, wi_iff.mpr hw, if_pos hp.1, if_pos (show p < (m.length : Int) by omega), if_pos ho.1, if_pos (show o < ((rd_L1 m p).length : Int) by omega)]
    exact Ev.now _
  · have e : flatWrite m p o w = (m, -3) := if_neg h
    rw [e]
    cases hg : guestB m
    · exact Ev.now _
    · simp only [if_true, spot_eq, Option.bind_some]
      cases hs : (wi p 0 5 && wi o 0 3)
      · exact Ev.now _
      · simp only [if_true, impl_wordOk.f, within_eq, Option.bind_some]
        rw [Bool.and_eq_true, wi_iff, wi_iff] at hs
        rw [wi_not.mpr (fun x => h ⟨⟨hg, by omega, by omega⟩, x⟩)]
        exact Ev.now _
def inE (m : List (List Int)) (p : Int) : Bool × Int × Bool := eof (mw m p.toNat)
theorem inE_at {m : List (List Int)} (h : guestB m = true) {p : Int} (h0 : 0 ≤ p) (h1 : p < 6) : rd_T40 (memTab m) p = entOf (inE m p) := memTab_at h h0 h1
theorem inE_page {m : List (List Int)} {p : Int} (h : (inE m p).1 = true) : 2 ≤ (inE m p).2.1 ∧ (inE m p).2.1 ≤ 5 := by
  unfold inE at *
  rcases eof_cases (mw m p.toNat) with ⟨a, b, e⟩ | ⟨_, e⟩
  · rw [e]; simp only; omega
  · rw [e] at h; cases h
theorem inE_ok {m : List (List Int)} {p o : Int} (h : flatOk m p o) (g : (inE m p).1 = true) : flatOk m (inE m p).2.1 o := by
  have := inE_page g
  exact ⟨h.1, by omega, h.2.2⟩
def walkR (m : List (List Int)) (p o : Int) (b : Bool) : Bool × Int × Bool × Int :=
  if flatOk m p o then ((inE m p).1, (inE m p).2.1, (inE m p).2.2, if (inE m p).1 = true then (if b = true ∧ ¬ (inE m p).2.2 = true then -2 else 0) else -1) else (false, 0, false, -3)
theorem walk_ev (m : List (List Int)) (p o : Int) (b : Bool) (hm : Small m) : Ev (fun k => spec_l11Walk.f k m p o b) (walkR m p o b) := by
  unfold spec_l11Walk.f
  have J : ∀ c, (c = false → flatOk m p o) → (c = true → ¬ flatOk m p o) → Ev (fun k => spec_l11Walk.j0 k m p b c) (walkR m p o b) := by
    intro c h1 h2
    refine Ev.succ ?_
    cases c
    · have h := h1 rfl
      have hl := memTab_len h.1
      unfold walkR
      simp only [spec_l11Walk.j0, Bool.false_eq_true, if_false, if_pos h]
      refine Ev.bind (sMemTab_ev m hm) ?_
      simp only [if_pos h.2.1.1, if_pos (show p < ((memTab m).length : Int) by have := h.2.1; omega), inE_at h.1 h.2.1.1 h.2.1.2, entOf]
      by_cases g : (inE m p).1 = true
      · simp only [if_pos g]
        cases b
        · simp only [Bool.false_eq_true, if_false, false_and]; exact Ev.now _
        · by_cases g2 : (inE m p).2.2 = true
          · simp only [if_true, if_pos g2, g2, not_true, and_false, if_false]; exact Ev.now _
          · simp only [if_true, if_neg g2, g2, not_false_iff, and_self, Bool.false_eq_true, if_false]; exact Ev.now _
      · simp only [if_neg g]; exact Ev.now _
    · simp only [spec_l11Walk.j0, if_true, walkR, if_neg (h2 rfl)]
      exact Ev.now _
  refine Ev.bind (sGuest_ev m hm) ?_
  cases hg : guestB m
  · exact J true (by simp) (fun _ x => by have y := x.1; rw [hg] at y; cases y)
  · simp only [if_true, l6In_eq, Option.bind_some]
    cases hs : wi p 0 5
    · exact J true (by simp) (fun _ x => by
        have hp := x.2.1
        rw [wi_iff.mpr (show 0 ≤ p ∧ p ≤ 5 by omega)] at hs; cases hs)
    · simp only [if_true]
      cases hs2 : wi o 0 3
      · exact J true (by simp) (fun _ x => by
          have ho := x.2.2
          rw [wi_iff.mpr (show 0 ≤ o ∧ o ≤ 3 by omega)] at hs2; cases hs2)
      · rw [wi_iff] at hs hs2
        exact J false (fun _ => ⟨hg, by omega, by omega⟩) (by simp)
def flatWriteIn (m : List (List Int)) (p o w : Int) : List (List Int) × Int :=
  if flatWOk m p o w then (if (inE m p).1 = true then (if (inE m p).2.2 = true then (setW m (inE m p).2.1 o w, rd (rd_L1 m (inE m p).2.1) o) else (m, -2)) else (m, -1)) else (m, -3)
theorem inW_ok {m : List (List Int)} {p o w : Int} (h : flatWOk m p o w) (g : (inE m p).1 = true) : flatWOk m (inE m p).2.1 o w := ⟨inE_ok h.1 g, h.2⟩
theorem flatWriteIn_cases (m : List (List Int)) (p o w : Int) : (flatWOk m p o w ∧ (inE m p).1 = true ∧ (inE m p).2.2 = true ∧ flatWriteIn m p o w = (setW m (inE m p).2.1 o w, rd (rd_L1 m (inE m p).2.1) o)) ∨
    (flatWOk m p o w ∧ (inE m p).1 = true ∧ ¬ (inE m p).2.2 = true ∧ flatWriteIn m p o w = (m, -2)) ∨ (flatWOk m p o w ∧ ¬ (inE m p).1 = true ∧ flatWriteIn m p o w = (m, -1)) ∨ (¬ flatWOk m p o w ∧ flatWriteIn m p o w = (m, -3)) := by
  unfold flatWriteIn
  by_cases h : flatWOk m p o w
  · by_cases g : (inE m p).1 = true
    · by_cases g2 : (inE m p).2.2 = true
      · exact .inl ⟨h, g, g2, by rw [if_pos h, if_pos g, if_pos g2]⟩
      · exact .inr (.inl ⟨h, g, g2, by rw [if_pos h, if_pos g, if_neg g2]⟩)
    · exact .inr (.inr (.inl ⟨h, g, by rw [if_pos h, if_neg g]⟩))
  · exact .inr (.inr (.inr ⟨h, by rw [if_neg h]⟩))
theorem iFlatWriteIn_ev (m : List (List Int)) (p o w : Int) (hm : Small m) : Ev (fun k => impl_FlatWriteIn.f k m p o w) (flatWriteIn m p o w) := by
  unfold impl_FlatWriteIn.f
  have J : ∀ c, (c = false → flatWOk m p o w) → (c = true → ¬ flatWOk m p o w) → Ev (fun k => impl_FlatWriteIn.j0 k m p o w c) (flatWriteIn m p o w) := by
    intro c h1 h2
    refine Ev.succ ?_
    cases c
    · have h := h1 rfl
      have hl := memTab_len h.1.1
      unfold flatWriteIn
      simp only [impl_FlatWriteIn.j0, Bool.false_eq_true, if_false, if_pos h]
      refine Ev.bind (iMemTab_ev m hm) ?_
      simp only [if_pos h.1.2.1.1, if_pos (show p < ((memTab m).length : Int) by have := h.1.2.1; omega), inE_at h.1.1 h.1.2.1.1 h.1.2.1.2, entOf]
      by_cases g : (inE m p).1 = true
      · simp only [if_pos g]
        by_cases g2 : (inE m p).2.2 = true
        · simp only [if_pos g2]
          refine Ev.bind (iFlatWrite_ev m _ o w hm) ?_
          simp only [flatWrite, if_pos (inW_ok h g)]
          exact Ev.now _
        · simp only [if_neg g2]
          exact Ev.bind (clone_ev m hm) (Ev.now _)
      · simp only [if_neg g]
        exact Ev.bind (clone_ev m hm) (Ev.now _)
    · simp only [impl_FlatWriteIn.j0, if_true, flatWriteIn, if_neg (h2 rfl)]
      exact Ev.bind (clone_ev m hm) (Ev.now _)
  refine Ev.bind (iGuest_ev m hm) ?_
  cases hg : guestB m
  · exact J true (by simp) (fun _ x => by have y := x.1.1; rw [hg] at y; cases y)
  · simp only [if_true, spot_eq, Option.bind_some]
    cases hs : (wi p 0 5 && wi o 0 3)
    · exact J true (by simp) (fun _ x => by
        have hp := x.1.2.1; have ho := x.1.2.2
        rw [wi_iff.mpr (show 0 ≤ p ∧ p ≤ 5 by omega), wi_iff.mpr (show 0 ≤ o ∧ o ≤ 3 by omega)] at hs; cases hs)
    · simp only [if_true, impl_wordOk.f, within_eq, Option.bind_some]
      rw [Bool.and_eq_true, wi_iff, wi_iff] at hs
      cases hw : wi w 0 63
      · exact J true (by simp) (fun _ x => by rw [wi_iff.mpr x.2] at hw; cases hw)
      · exact J false (fun _ => ⟨⟨hg, by omega, by omega⟩, wi_iff.mp hw⟩) (by simp)
theorem sFlatWriteIn_ev (m : List (List Int)) (p o w : Int) (hm : Small m) : Ev (fun k => spec_FlatWriteIn.f k m p o w) (flatWriteIn m p o w) := by
  unfold spec_FlatWriteIn.f
  refine Ev.bind (walk_ev m p o true hm) ?_
  simp only [l6In_eq, Option.bind_some]
  by_cases hw : 0 ≤ w ∧ w ≤ 63
  · simp only [wi_iff.mpr hw, if_true]
    unfold walkR flatWriteIn
    by_cases h : flatOk m p o
    · simp only [if_pos h, if_pos (show flatWOk m p o w from ⟨h, hw⟩)]
      by_cases g : (inE m p).1 = true
      · by_cases g2 : (inE m p).2.2 = true
        · have hp := inE_page g
          have hr := page_len (memAt_row (flat_at (inE_ok h g)))
          have ho := h.2.2
          have g6 := guest_iff.mp h.1
          simp only [if_pos g, g2, not_true, and_false, if_false, if_true, show ¬ ((0 : Int) < 0) by decide]
          refine Ev.bind (copy_ev m hm) ?_
          simp only [if_pos (show 0 ≤ (inE m p).2.1 by omega), if_pos (show (inE m p).2.1 < (m.length : Int) by omega), if_pos ho.1, if_pos (show o < ((rd_L1 m (inE m p).2.1).length : Int) by omega)]
          exact Ev.now _
        · simp only [if_pos g, g2, not_false_iff, and_self, if_true, show ((-2 : Int) < 0) by decide, Bool.false_eq_true, if_false]
          exact Ev.bind (copy_ev m hm) (Ev.now _)
      · simp only [if_neg g, show ((-1 : Int) < 0) by decide, if_true]
        exact Ev.bind (copy_ev m hm) (Ev.now _)
    · simp only [if_neg h, if_neg (show ¬ flatWOk m p o w from fun x => h x.1), show ((-3 : Int) < 0) by decide, if_true]
      exact Ev.bind (copy_ev m hm) (Ev.now _)
  · simp only [wi_not.mpr hw, Bool.false_eq_true, if_false]
    unfold flatWriteIn
    rw [if_neg (fun x => hw x.2)]
    exact Ev.bind (copy_ev m hm) (Ev.now _)
theorem tabAt_in {m : List (List Int)} (h : guestB m = true) {p : Int} (h0 : 0 ≤ p) (h1 : p < 6) : tabAt (memTab m) p = inE m p := by
  unfold tabAt
  rw [if_pos ⟨memTab_ok h, wi_iff.mpr (by omega)⟩, inE_at h h0 h1]
  rfl

-- the law
theorem FnFlatDenied : laws_FnFlatDenied.Pure := by
  intro l _ _ hw
  obtain ⟨m, p, o, w, g, hN, hp, ho, hw2⟩ := drawFlatWriteIn_ev l hw
  have hm := near_small hN
  apply Ev.rounds
  unfold laws_FnFlatDenied.f
  by_cases c : (l.length : Int) > 1048576
  · simp only [if_pos c]; exact Ev.now _
  simp only [if_neg c]
  refine Ev.bind g (Ev.bind (sFlatWriteIn_ev m p o w hm) (Ev.bind (iFlatWriteIn_ev m p o w hm) ?_))
  simp only [if_true]
  have J : ∀ (x : List (List Int)) (v : Int), Small x → ¬ v = -3 → flatWOk m p o w → ((v == -1) == (!(inE m p).1)) = true → (if (inE m p).1 = true then ((v == -2) == (!(inE m p).2.2)) else ((v == -2) == false)) = true →
      Ev (fun k => laws_FnFlatDenied.j0 k m p x v x v (v == -3)) true := by
    intro x v hx hv h k1 k2
    have tl := memTab_len h.1.1
    simp only [show (v == -3) = false by simpa using hv]
    refine Ev.succ ?_
    simp only [laws_FnFlatDenied.j0, Bool.false_eq_true, if_false]
    refine Ev.bind (iMemTab_ev m hm) (Ev.bind (Ev.cast (tabAt_in h.1.1 h.1.2.1.1 h.1.2.1.2) (iTabAt_ev _ p (by omega))) ?_)
    simp only [k1, if_true]
    by_cases q : (inE m p).1 = true
    · simp only [if_pos q] at k2 ⊢; exact Ev.cast k2 (Ev.now _)
    · simp only [if_neg q] at k2 ⊢; exact Ev.cast k2 (Ev.now _)
  rcases flatWriteIn_cases m p o w with ⟨h, q, q2, e⟩ | ⟨h, q, q2, e⟩ | ⟨h, q, e⟩ | ⟨_, e⟩
  · have hW := inW_ok h q
    have hs := flatW_small hm hW
    have hv := flatRead_word hW.1
    rw [e]
    refine Ev.bind (lkMem_refl _ hs) ?_
    simp only [if_true]
    refine J _ _ hs (by omega) h ?_ ?_
    · rw [q, show (rd (rd_L1 m (inE m p).2.1) o == -1) = false by simp; omega]; rfl
    · rw [if_pos q, q2, show (rd (rd_L1 m (inE m p).2.1) o == -2) = false by simp; omega]; rfl
  · rw [e]
    refine Ev.bind (lkMem_refl _ hm) ?_
    simp only [if_true]
    have q2' : (inE m p).2.2 = false := by simpa using q2
    exact J _ _ hm (by decide) h (by rw [q]; rfl) (by rw [if_pos q, q2']; rfl)
  · rw [e]
    refine Ev.bind (lkMem_refl _ hm) ?_
    simp only [if_true]
    have q' : (inE m p).1 = false := by simpa using q
    exact J _ _ hm (by decide) h (by rw [q']; rfl) (by rw [if_neg q]; rfl)
  · rw [e]
    refine Ev.bind (lkMem_refl _ hm) ?_
    simp only [if_true, show ((-3 : Int) == -3) = true from rfl]
    refine Ev.succ ?_
    simp only [laws_FnFlatDenied.j0, if_true]
    exact Ev.bind (lkMem_refl _ hm) (Ev.now _)

end Go.Proofs.Ytpbhoimkcoggfaa.Pure
