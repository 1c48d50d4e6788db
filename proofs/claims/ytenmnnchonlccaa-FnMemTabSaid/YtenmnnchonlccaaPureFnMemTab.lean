/- The pure side of the law FnMemTab: what the printed functions compute answers true. Conditions: none beyond the statement given. -/
import Derived.Test.YtenmnnchonlccaaQFnMemTabx0
import Derived.Test.YtenmnnchonlccaaQFnMemTabx1
import Derived.Test.YtenmnnchonlccaaQFnMemTabx2
import Derived.Test.YtenmnnchonlccaaQFnMemTabx3
import Derived.Test.YtenmnnchonlccaaQFnMemTabx4
import Derived.Test.YtenmnnchonlccaaQFnMemTabx5
import Derived.Test.YtenmnnchonlccaaQFnMemTabx6
import Derived.Test.YtenmnnchonlccaaQFnMemTabx7
import Derived.Test.YtenmnnchonlccaaQFnMemTabx8
import Derived.Laws.BitsLemmas
namespace Go.Proofs.Ytenmnnchonlccaa.Pure
open Go Go.RowKit Go.Proofs.Ytenmnnchonlccaa.QFnMemTab Go.Proofs.YtenmnnchonlccaaW.PrintWords Go.Proofs.YtenmnnchonlccaaW.PrintLast
set_option linter.unusedVariables false
set_option linter.unusedSimpArgs false

theorem Ev.succ {α : Type} {g : Nat → Option α} {r : α} (h : Ev (fun k => g (k + 1)) r) : Ev g r := Ev.step (fun _ => rfl) h
theorem Ev.cast {α : Type} {g : Nat → Option α} {r r' : α} (e : r = r') (h : Ev g r) : Ev g r' := e ▸ h
theorem wr (n : Int) (h : -9223372036854775808 ≤ n ∧ n ≤ 9223372036854775807) : wrap64 n = n := by unfold wrap64; omega
theorem wr1 (i : Nat) (h : (i : Int) ≤ 1000000000000000000) : wrap64 ((i : Int) + 1) = ((i + 1 : Nat) : Int) := by rw [wr _ (by omega)]; rfl
theorem Ev.down {σ ρ : Type} (g : Nat → Int → σ → Option ρ) (R : Nat → σ → ρ) (n : Nat) (hend : ∀ st, Ev (fun k => g k n st) (R n st))
    (hstep : ∀ i : Nat, i < n → (∀ st, Ev (fun k => g k ((i + 1 : Nat) : Int) st) (R (i + 1) st)) → ∀ st, Ev (fun k => g k (i : Int) st) (R i st)) :
    ∀ st, Ev (fun k => g k 0 st) (R 0 st) := by
  have H : ∀ d i : Nat, i + d = n → ∀ st, Ev (fun k => g k (i : Int) st) (R i st) := by
    intro d
    induction d with
    | zero => intro i hi st; obtain rfl : i = n := by omega
              exact hend st
    | succ d ih => intro i hi; exact hstep i (by omega) (ih (i + 1) (by omega))
  exact H n 0 (by omega)
theorem drop_cons {α : Type} {l : List α} {i : Nat} (h : i < l.length) : l.drop i = l[i] :: l.drop (i + 1) := List.drop_eq_getElem_cons h
theorem rd_at {l : List Int} {i : Nat} (h : i < l.length) : rd l (i : Int) = l[i] := by simp [rd, h]
theorem getD_at {α : Type} {l : List α} {i : Nat} (z : α) (h : i < l.length) : l.getD ((i : Int)).toNat z = l[i] := by simp [h]
theorem u8_in {n : Int} (h : (Lit.int .u8 n).wf = true) : 0 ≤ n ∧ n ≤ 255 := by
  have e1 : IntKind.u8.min = 0 := by decide
  have e2 : IntKind.u8.max = 255 := by decide
  simp only [Lit.wf, e1, e2, Bool.and_eq_true, decide_eq_true_eq] at h; exact h
def wi (a lo hi : Int) : Bool := decide (lo ≤ a) && decide (a ≤ hi)
theorem wi_iff {a lo hi : Int} : wi a lo hi = true ↔ lo ≤ a ∧ a ≤ hi := by simp [wi]
theorem wi_not {a lo hi : Int} : wi a lo hi = false ↔ ¬ (lo ≤ a ∧ a ≤ hi) := by rw [← wi_iff]; simp
theorem l6In_eq (a lo hi : Int) : spec_l6In.f a lo hi = some (wi a lo hi) := by
  unfold spec_l6In.f wi
  by_cases h : a ≥ lo
  · rw [if_pos h]; simp [h]
  · rw [if_neg h]; simp; omega
theorem within_eq (a lo hi : Int) : impl_within.f a lo hi = some (wi a lo hi) := by
  unfold impl_within.f wi
  by_cases h : a ≥ lo
  · rw [if_pos h]; simp [h]
  · rw [if_neg h]; simp; omega
def eof (n : Int) : Bool × Int × Bool := if 5 ≤ n ∧ n ≤ 12 then (true, (n - 1) / 2, decide (n % 2 = 0)) else (false, 0, false)
theorem eof_cases (n : Int) : (5 ≤ n ∧ n ≤ 12 ∧ eof n = (true, (n - 1) / 2, decide (n % 2 = 0))) ∨ (¬ (5 ≤ n ∧ n ≤ 12) ∧ eof n = (false, 0, false)) := by
  unfold eof
  by_cases h : 5 ≤ n ∧ n ≤ 12
  · exact .inl ⟨h.1, h.2, if_pos h⟩
  · exact .inr ⟨h, if_neg h⟩
theorem iEof_20 (n : Int) : impl_EntryOf.f 20 n = if 5 = n then some (true, 2, false) else if 6 = n then some (true, 2, true) else if 7 = n then some (true, 3, false) else if 8 = n then some (true, 3, true) else if 9 = n then some (true, 4, false) else if 10 = n then some (true, 4, true) else if 11 = n then some (true, 5, false) else if 12 = n then some (true, 5, true) else some (false, 0, false) := by kernel_rfl
theorem iEof_ev (n : Int) : Ev (fun k => impl_EntryOf.f k n) (eof n) := by
  refine Ev.of (fun k => impl_EntryOf.mono n k) (k := 20) ?_
  rw [iEof_20]
  by_cases h : 5 ≤ n ∧ n ≤ 12
  · obtain rfl | rfl | rfl | rfl | rfl | rfl | rfl | rfl : n = 5 ∨ n = 6 ∨ n = 7 ∨ n = 8 ∨ n = 9 ∨ n = 10 ∨ n = 11 ∨ n = 12 := by omega
    all_goals rfl
  · unfold eof; rw [if_neg h]
    rw [if_neg (by omega), if_neg (by omega), if_neg (by omega), if_neg (by omega), if_neg (by omega), if_neg (by omega), if_neg (by omega), if_neg (by omega)]
theorem tdiv2 (x : Int) (h : 0 ≤ x) : Int.tdiv x 2 = x / 2 := Int.tdiv_eq_ediv_of_nonneg h
theorem tmod2 (x : Int) (h : 0 ≤ x) : Int.tmod x 2 = x % 2 := Int.tmod_eq_emod_of_nonneg h
theorem sEof_eq (n : Int) (h1 : -9223372036854775808 ≤ n) (h2 : n ≤ 9223372036854775807) : spec_EntryOf.f n = some (eof n) := by
  unfold spec_EntryOf.f eof
  by_cases h : n < 1
  · rw [if_pos h, if_neg (by omega)]
  · rw [if_neg h, wr (n - 1) (by omega), tdiv2 _ (by omega), wr ((n - 1) / 2) (by omega), l6In_eq, tmod2 _ (by omega), Option.bind_some]
    by_cases g : 5 ≤ n ∧ n ≤ 12
    · rw [if_pos g, if_pos (wi_iff.mpr (by omega))]; rfl
    · rw [if_neg g, if_neg (by rw [wi_iff]; omega)]
theorem xor_nat (a b : Nat) (ha : a < 2 ^ 62) (hb : b < 2 ^ 62) : bits .xor .i64 (a : Int) (b : Int) = ((a ^^^ b : Nat) : Int) := by
  have ha' : a % 2 ^ 64 = a := Nat.mod_eq_of_lt (Nat.lt_of_lt_of_le ha (by decide))
  have hb' : b % 2 ^ 64 = b := Nat.mod_eq_of_lt (Nat.lt_of_lt_of_le hb (by decide))
  have hx : a ^^^ b < 2 ^ 62 := Nat.xor_lt_two_pow ha hb
  have e : IntKind.i64.bits = 64 := rfl
  simp only [bits, e, BitVec.ofInt_natCast, BitVec.toNat_xor, BitVec.toNat_ofNat, ha', hb']
  rw [IntKind.wrap_i64]; omega
theorem xor_nn (a b : Int) (ha : 0 ≤ a) (ha' : a < 4611686018427387904) (hb : 0 ≤ b) (hb' : b < 4611686018427387904) : 0 ≤ bits .xor .i64 a b := by
  obtain ⟨x, rfl⟩ := Int.eq_ofNat_of_zero_le ha
  obtain ⟨y, rfl⟩ := Int.eq_ofNat_of_zero_le hb
  rw [xor_nat x y (by omega) (by omega)]; omega
theorem tmod_in (x n : Int) (hx : 0 ≤ x) (hn : 1 ≤ n) : 0 ≤ Int.tmod x n ∧ Int.tmod x n < n := by
  rw [Int.tmod_eq_emod_of_nonneg hx]
  exact ⟨Int.emod_nonneg _ (by omega), Int.emod_lt_of_pos _ (by omega)⟩
def ByB (b : List Int) : Prop := ∀ i : Int, 0 ≤ rd b i ∧ rd b i ≤ 255
theorem byB_of {b : List Int} (h : ∀ x ∈ b, (Lit.int .u8 x).wf = true) : ByB b := by
  intro i
  unfold rd
  rw [List.getD_eq_getElem?_getD]
  cases e : b[i.toNat]? with
  | none => simp
  | some x => simpa using u8_in (h x (List.mem_of_getElem? e))
theorem pick_ev (b : List Int) (p n : Int) (hb : ByB b) (hl : (b.length : Int) ≤ 2000) (hp : 0 ≤ p) (hp' : p ≤ 1000000000) (hn : 1 ≤ n) (hn' : n ≤ 1000000000000) :
    ∃ v, Ev (fun k => spec_l6Rd_pick.f k b p n) (v, p + 1) ∧ 0 ≤ v ∧ v < n := by
  unfold spec_l6Rd_pick.f
  simp only [if_neg (show ¬ n < 1 by omega), wr (p + 1) (by omega)]
  by_cases e : b.length = 0
  · refine ⟨0, Ev.succ ?_, by omega, by omega⟩
    simp only [spec_l6Rd_pick.j0, e]
    exact Ev.now _
  · have e' : ((b.length : Int) == 0) = false := by simp; intro h; exact e (by simp [h])
    simp only [e']
    by_cases g : p < b.length
    · have hb1 := hb p
      have t := tmod_in (rd b p) n hb1.1 hn
      refine ⟨Int.tmod (rd b p) n, Ev.succ ?_, t.1, t.2⟩
      simp only [spec_l6Rd_pick.j0, show p + 1 - 1 = p by omega, wr p (by omega), if_pos g, if_pos hp, if_neg (show ¬ n = 0 by omega), wr (rd b p) (by omega), Bool.false_eq_true, if_false]
      exact Ev.now _
    · have hL : (1 : Int) ≤ b.length := by omega
      have q1 := tmod_in p b.length hp hL
      have q2 := tmod_in (p * 7 + 3) b.length (by omega) hL
      have b1 := hb (Int.tmod p b.length)
      have b2 := hb (Int.tmod (p * 7 + 3) b.length)
      have q3 : 0 ≤ Int.tdiv p b.length ∧ Int.tdiv p b.length ≤ p := by
        rw [Int.tdiv_eq_ediv_of_nonneg hp]
        exact ⟨Int.ediv_nonneg hp (by omega), Int.ediv_le_self _ hp⟩
      generalize hx : rd b (Int.tmod p b.length) = X at *
      generalize hy : rd b (Int.tmod (p * 7 + 3) b.length) = Y at *
      generalize hz : Int.tdiv p b.length = Z at *
      have q4 : 0 ≤ Int.tdiv (X * 131 + Y * 1117 + p * 29 + Z * 53) 64 ∧ Int.tdiv (X * 131 + Y * 1117 + p * 29 + Z * 53) 64 ≤ 4611686018427387903 := by
        rw [Int.tdiv_eq_ediv_of_nonneg (by omega)]; omega
      generalize hu : Int.tdiv (X * 131 + Y * 1117 + p * 29 + Z * 53) 64 = U at *
      have q5 := xor_nn (X * 131 + Y * 1117 + p * 29 + Z * 53) U (by omega) (by omega) (by omega) (by omega)
      have t := tmod_in _ n q5 hn
      refine ⟨Int.tmod (bits .xor .i64 (X * 131 + Y * 1117 + p * 29 + Z * 53) U) n, Ev.succ ?_, t.1, t.2⟩
      simp only [spec_l6Rd_pick.j0, show p + 1 - 1 = p by omega, wr p (by omega), if_neg g, if_neg (show ¬ (b.length : Int) = 0 by omega), if_pos q1.1, if_pos q1.2, wr (p * 7) (by omega), wr (p * 7 + 3) (by omega), if_pos q2.1, if_pos q2.2, if_neg (show ¬ n = 0 by omega), hx, hy, hz, wr X (by omega), wr Y (by omega), wr Z (by omega), wr (X * 131) (by omega), wr (Y * 1117) (by omega), wr (X * 131 + Y * 1117) (by omega), wr (p * 29) (by omega), wr (X * 131 + Y * 1117 + p * 29) (by omega), wr (Z * 53) (by omega), wr (X * 131 + Y * 1117 + p * 29 + Z * 53) (by omega), hu, wr U (by omega), Bool.false_eq_true, if_false]
      exact Ev.now _
theorem open_eq (l : List Int) (h : ∀ x ∈ l, (Lit.int .u8 x).wf = true) : ∃ b, spec_l6Open.f l = some (b, 0) ∧ ByB b ∧ (b.length : Int) ≤ 2000 := by
  unfold spec_l6Open.f
  by_cases g : (l.length : Int) > 2000
  · rw [if_pos g, if_pos (by omega)]
    exact ⟨_, rfl, byB_of fun x hx => h x (List.mem_of_mem_take hx), by simp; omega⟩
  · rw [if_neg g]
    exact ⟨_, rfl, byB_of h, by omega⟩
theorem rdE_at {l : List S48} {i : Nat} (h : i < l.length) : rd_T48 l (i : Int) = l[i] := getD_at _ h
def entB (e : S48) : Bool := if e.f0 = true then wi e.f1 0 5 else (e.f1 == 0 && (!e.f2))
def tabB (l : List S48) : Bool := l.all entB && ((l.length : Int) == 6)
theorem iTabOk_ev (l : List S48) (hl : (l.length : Int) ≤ 1000000000000000) : Ev (fun k => impl_TabOk.f k l) (tabB l) := by
  unfold impl_TabOk.f
  have H := Ev.down (σ := Unit) (fun k i _ => impl_TabOk.l0 k l l l.length i) (fun i _ => (l.drop i).all entB && ((l.length : Int) == 6)) l.length
    (fun _ => Ev.succ (by simp only [impl_TabOk.l0, Int.lt_irrefl, if_false]; exact Ev.cast (by simp) (Ev.now _)))
    (fun i hi ih _ => by
      refine Ev.succ ?_
      simp only [impl_TabOk.l0, if_pos (Int.ofNat_lt.mpr hi), if_pos (Int.natCast_nonneg i), rdE_at hi, within_eq, Option.bind_some, wr1 i (by omega)]
      rw [drop_cons hi, List.all_cons]
      unfold entB
      by_cases h : l[i].f0 = true
      · simp only [if_pos h]
        cases g : wi l[i].f1 0 5
        · exact Ev.now _
        · exact ih ()
      · simp only [if_neg h]
        cases g : (l[i].f1 == 0 && (!l[i].f2))
        · rw [show (l[i].f0 || (!(l[i].f1 == 0) || l[i].f2)) = true by revert g h; cases l[i].f0 <;> cases l[i].f2 <;> simp]
          exact Ev.now _
        · have g1 : l[i].f1 = 0 := by revert g; simp; intro a _; exact a
          rw [show (l[i].f0 || (!(l[i].f1 == 0) || l[i].f2)) = false by revert g h; cases l[i].f0 <;> cases l[i].f2 <;> simp]
          simp only [Bool.false_eq_true, if_false, g1, show wi 0 0 5 = true from rfl, if_true]
          exact ih ())
  exact H ()
theorem lkTab_refl (l : List S48) (hl : (l.length : Int) ≤ 1000000000000000) : Ev (fun k => laws_lkTab.f k l l) true := by
  unfold laws_lkTab.f
  simp only [if_true]
  have H := Ev.down (σ := Unit) (fun k i _ => laws_lkTab.l0 k l l i) (fun i _ => true) l.length
    (fun _ => Ev.succ (by simp only [laws_lkTab.l0, Int.lt_irrefl, if_false]; exact Ev.now _))
    (fun i hi ih _ => by
      refine Ev.succ ?_
      simp only [laws_lkTab.l0, if_pos (Int.ofNat_lt.mpr hi), if_pos (Int.natCast_nonneg i), beq_self_eq_true, Bool.not_true, Bool.or_self, Bool.false_eq_true, if_false, wr1 i (by omega)]
      exact ih ())
  exact H ()
theorem rdL_at {l : List (List Int)} {i : Nat} (h : i < l.length) : rd_L1 l (i : Int) = l[i] := getD_at _ h
def pageB (p : List Int) : Bool := p.all (fun w => wi w 0 63) && ((p.length : Int) == 4)
def memB (m : List (List Int)) : Bool := m.all pageB
def Small (m : List (List Int)) : Prop := (m.length : Int) ≤ 1000000000000 ∧ ∀ r ∈ m, (r.length : Int) ≤ 1000000000000
theorem rdL_mem {m : List (List Int)} {i : Int} (h0 : 0 ≤ i) (h : i < m.length) : rd_L1 m i ∈ m := by
  have e : i = ((i.toNat : Nat) : Int) := by omega
  rw [e, rdL_at (show i.toNat < m.length by omega)]; exact List.getElem_mem _
theorem memB_page {m : List (List Int)} (h : memB m = true) {r : List Int} (hr : r ∈ m) : pageB r = true := List.all_eq_true.mp h r hr
theorem page_len {r : List Int} (h : pageB r = true) : r.length = 4 := by
  simp [pageB] at h; omega
theorem page_word {r : List Int} (h : pageB r = true) {i : Int} (h0 : 0 ≤ i) (h1 : i < 4) : 0 ≤ rd r i ∧ rd r i ≤ 63 := by
  have hl := page_len h
  have e : i = ((i.toNat : Nat) : Int) := by omega
  rw [e, rd_at (show i.toNat < r.length by omega)]
  simp only [pageB, Bool.and_eq_true, List.all_eq_true] at h
  exact wi_iff.mp (h.1 _ (List.getElem_mem _))
theorem sPage_ev (p : List Int) (hl : (p.length : Int) ≤ 1000000000000) : Ev (fun k => spec_l2PageOk.f k p) (pageB p) := by
  unfold spec_l2PageOk.f
  have H := Ev.down (σ := Unit) (fun k i _ => spec_l2PageOk.l0 k p i) (fun i _ => (p.drop i).all (fun w => wi w 0 63) && ((p.length : Int) == 4)) p.length
    (fun _ => Ev.succ (by simp only [spec_l2PageOk.l0, Int.lt_irrefl, if_false]; exact Ev.cast (by simp) (Ev.now _)))
    (fun i hi ih _ => by
      refine Ev.succ ?_
      simp only [spec_l2PageOk.l0, if_pos (Int.ofNat_lt.mpr hi), if_pos (Int.natCast_nonneg i), rd_at hi, l6In_eq, Option.bind_some, wr1 i (by omega)]
      rw [drop_cons hi, List.all_cons]
      cases h : wi p[i] 0 63
      · exact Ev.now _
      · exact ih ())
  exact H ()
theorem sMemOk_ev (m : List (List Int)) (hm : Small m) : Ev (fun k => spec_MemOk.f k m) (memB m) := by
  unfold spec_MemOk.f
  have hl := hm.1
  have H := Ev.down (σ := Unit) (fun k i _ => spec_MemOk.l0 k m i) (fun i _ => (m.drop i).all pageB) m.length
    (fun _ => Ev.succ (by simp only [spec_MemOk.l0, Int.lt_irrefl, if_false]; exact Ev.cast (by simp) (Ev.now _)))
    (fun i hi ih _ => by
      refine Ev.succ ?_
      simp only [spec_MemOk.l0, if_pos (Int.ofNat_lt.mpr hi), if_pos (Int.natCast_nonneg i), rdL_at hi, wr1 i (by omega)]
      refine Ev.bind (sPage_ev m[i] (hm.2 _ (List.getElem_mem hi))) ?_
      rw [drop_cons hi, List.all_cons]
      cases h : pageB m[i]
      · exact Ev.now _
      · exact ih ())
  exact H ()
theorem iPage_ev (p : List Int) (hl : (p.length : Int) ≤ 1000000000000) : Ev (fun k => impl_pageOk.f k p) (pageB p) := by
  unfold impl_pageOk.f
  have H := Ev.down (σ := Unit) (fun k i _ => impl_pageOk.l0 k p p p.length i) (fun i _ => (p.drop i).all (fun w => wi w 0 63) && ((p.length : Int) == 4)) p.length
    (fun _ => Ev.succ (by simp only [impl_pageOk.l0, Int.lt_irrefl, if_false]; exact Ev.cast (by simp) (Ev.now _)))
    (fun i hi ih _ => by
      refine Ev.succ ?_
      simp only [impl_pageOk.l0, if_pos (Int.ofNat_lt.mpr hi), if_pos (Int.natCast_nonneg i), rd_at hi, within_eq, Option.bind_some, wr1 i (by omega)]
      rw [drop_cons hi, List.all_cons]
      cases h : wi p[i] 0 63
      · exact Ev.now _
      · exact ih ())
  exact H ()
theorem iMemOk_ev (m : List (List Int)) (hm : Small m) : Ev (fun k => impl_MemOk.f k m) (memB m) := by
  unfold impl_MemOk.f
  have hl := hm.1
  have H := Ev.down (σ := Unit) (fun k i _ => impl_MemOk.l0 k m m.length i) (fun i _ => (m.drop i).all pageB) m.length
    (fun _ => Ev.succ (by simp only [impl_MemOk.l0, Int.lt_irrefl, if_false]; exact Ev.cast (by simp) (Ev.now _)))
    (fun i hi ih _ => by
      refine Ev.succ ?_
      simp only [impl_MemOk.l0, if_pos (Int.ofNat_lt.mpr hi), if_pos (Int.natCast_nonneg i), rdL_at hi, wr1 i (by omega)]
      refine Ev.bind (iPage_ev m[i] (hm.2 _ (List.getElem_mem hi))) ?_
      rw [drop_cons hi, List.all_cons]
      cases h : pageB m[i]
      · exact Ev.now _
      · exact ih ())
  exact H ()
def memAtOk (m : List (List Int)) (p o : Int) : Prop := memB m = true ∧ (0 ≤ p ∧ p < m.length) ∧ (0 ≤ o ∧ o < 4)
instance (m : List (List Int)) (p o : Int) : Decidable (memAtOk m p o) := by unfold memAtOk; infer_instance
def memAt (m : List (List Int)) (p o : Int) : Int × Bool := if memAtOk m p o then (rd (rd_L1 m p) o, true) else (0, false)
theorem iMemAt_ev (m : List (List Int)) (p o : Int) (hm : Small m) : Ev (fun k => impl_MemAt.f k m p o) (memAt m p o) := by
  unfold impl_MemAt.f
  have hl := hm.1
  refine Ev.bind (iMemOk_ev m hm) ?_
  cases hb : memB m
  · exact Ev.cast (by unfold memAt; rw [if_neg (by simp [memAtOk, hb])]) (Ev.now (0, false))
  · simp only [if_true, within_eq, Option.bind_some, wr ((m.length : Int) - 1) (by omega)]
    by_cases h1 : 0 ≤ p ∧ p < m.length
    · simp only [wi_iff.mpr (show 0 ≤ p ∧ p ≤ (m.length : Int) - 1 by omega), if_true]
      by_cases h2 : 0 ≤ o ∧ o < 4
      · have hr := page_len (memB_page hb (rdL_mem h1.1 h1.2))
        simp only [wi_iff.mpr (show 0 ≤ o ∧ o ≤ 3 by omega), if_true, if_pos h1.1, if_pos h1.2, if_pos h2.1, if_pos (show o < ((rd_L1 m p).length : Int) by omega)]
        exact Ev.cast (by unfold memAt; rw [if_pos ⟨hb, h1, h2⟩]) (Ev.now _)
      · simp only [wi_not.mpr (show ¬ (0 ≤ o ∧ o ≤ 3) by omega), Bool.false_eq_true, if_false]
        exact Ev.cast (by unfold memAt; rw [if_neg (fun x => h2 x.2.2)]) (Ev.now _)
    · simp only [wi_not.mpr (show ¬ (0 ≤ p ∧ p ≤ (m.length : Int) - 1) by omega), Bool.false_eq_true, if_false]
      exact Ev.cast (by unfold memAt; rw [if_neg (fun x => h1 x.2.1)]) (Ev.now _)
def mw (m : List (List Int)) (i : Nat) : Int := rd (rd_L1 m ((i / 4 : Nat) : Int)) ((i % 4 : Nat) : Int)
def entOf (t : Bool × Int × Bool) : S48 := ⟨t.1, t.2.1, t.2.2⟩
def tabFrom (m : List (List Int)) (i d : Nat) : List S48 := (List.range' i d).map (fun j => entOf (eof (mw m j)))
def guestB (m : List (List Int)) : Bool := memB m && ((m.length : Int) == 6)
theorem guest_iff {m : List (List Int)} : guestB m = true ↔ memB m = true ∧ m.length = 6 := by
  simp [guestB]; intro _; omega
def memTab (m : List (List Int)) : List S48 := if guestB m = true then tabFrom m 0 6 else []
theorem mw_in {m : List (List Int)} (h : guestB m = true) {i : Nat} (hi : i < 6) : 0 ≤ mw m i ∧ mw m i ≤ 63 := by
  have g := guest_iff.mp h
  exact page_word (memB_page g.1 (rdL_mem (by omega) (by omega))) (by omega) (by omega)
theorem memTab_at {m : List (List Int)} (h : guestB m = true) {p : Int} (h0 : 0 ≤ p) (h1 : p < 6) : rd_T48 (memTab m) p = entOf (eof (mw m p.toNat)) := by
  obtain ⟨n, rfl⟩ : ∃ n : Nat, p = (n : Int) := ⟨p.toNat, by omega⟩
  unfold memTab; rw [if_pos h]
  rw [rdE_at (show n < (tabFrom m 0 6).length by simp [tabFrom]; omega), Int.toNat_natCast]
  simp [tabFrom]
theorem memTab_len {m : List (List Int)} (h : guestB m = true) : (memTab m).length = 6 := by
  unfold memTab; rw [if_pos h]; simp [tabFrom]
theorem eof_ent (n : Int) : entB (entOf (eof n)) = true := by
  rcases eof_cases n with ⟨a, b, e⟩ | ⟨_, e⟩
  · rw [e]; simp only [entOf, entB, if_true]; exact wi_iff.mpr (by omega)
  · rw [e]; rfl
theorem memTab_ok {m : List (List Int)} (h : guestB m = true) : tabB (memTab m) = true := by
  have hl := memTab_len h
  simp only [tabB, Bool.and_eq_true, List.all_eq_true]
  refine ⟨fun x hx => ?_, by simp [hl]⟩
  unfold memTab at hx; rw [if_pos h] at hx
  obtain ⟨j, _, rfl⟩ := List.mem_map.mp hx
  exact eof_ent _
theorem iGuest_ev (m : List (List Int)) (hm : Small m) : Ev (fun k => impl_guestMem.f k m) (guestB m) := by
  unfold impl_guestMem.f guestB
  refine Ev.bind (iMemOk_ev m hm) ?_
  cases memB m
  · exact Ev.now _
  · exact Ev.cast (by simp) (Ev.now _)
theorem iMemTab_ev (m : List (List Int)) (hm : Small m) : Ev (fun k => impl_MemTab.f k m) (memTab m) := by
  unfold impl_MemTab.f memTab
  simp only [Option.bind_some]
  refine Ev.bind (iGuest_ev m hm) ?_
  cases hg : guestB m
  · exact Ev.cast (by simp) (Ev.now _)
  · have g := guest_iff.mp hg
    simp only [if_true]
    have H : ∀ d i : Nat, i + d = 6 → ∀ xs : List S48, xs.length = i → Ev (fun k => impl_MemTab.l0 k m xs (i : Int)) (xs ++ tabFrom m i d) := by
      intro d
      induction d with
      | zero =>
        intro i hi xs hx
        refine Ev.succ ?_
        simp only [impl_MemTab.l0, if_neg (show ¬ (i : Int) < 6 by omega)]
        exact Ev.cast (by simp [tabFrom]) (Ev.now _)
      | succ d ih =>
        intro i hi xs hx
        have e1 : Int.tdiv (i : Int) 4 = ((i / 4 : Nat) : Int) := rfl
        have e2 : Int.tmod (i : Int) 4 = ((i % 4 : Nat) : Int) := rfl
        have hr := page_len (memB_page g.1 (rdL_mem (m := m) (i := ((i / 4 : Nat) : Int)) (by omega) (by omega)))
        refine Ev.succ ?_
        simp only [impl_MemTab.l0, if_pos (show (i : Int) < 6 by omega), e1, e2, wr ((i / 4 : Nat) : Int) (by omega), if_pos (Int.natCast_nonneg (i / 4)), if_pos (Int.natCast_nonneg (i % 4)), if_pos (show ((i / 4 : Nat) : Int) < (m.length : Int) by omega), if_pos (show ((i % 4 : Nat) : Int) < ((rd_L1 m ((i / 4 : Nat) : Int)).length : Int) by omega)]
        refine Ev.bind (iEof_ev _) ?_
        simp only [if_pos (show xs.length < 5864062014805 by omega), wr1 i (by omega)]
        exact Ev.cast (by simp [tabFrom, List.range'_succ, entOf, mw]) (ih (i + 1) (by omega) (xs ++ [entOf (eof (mw m i))]) (by simp [hx]))
    exact H 6 0 (by omega) [] rfl
theorem sMemTab_ev (m : List (List Int)) (hm : Small m) : Ev (fun k => spec_MemTab.f k m) (memTab m) := by
  unfold spec_MemTab.f memTab
  refine Ev.bind (sMemOk_ev m hm) ?_
  cases hb : memB m
  · exact Ev.cast (by simp [guestB, hb]) (Ev.now _)
  · simp only [if_true]
    by_cases hl : m.length = 6
    · have hg : guestB m = true := guest_iff.mpr ⟨hb, hl⟩
      have r0 := page_len (memB_page hb (rdL_mem (m := m) (i := 0) (by omega) (by omega)))
      have r1 := page_len (memB_page hb (rdL_mem (m := m) (i := 1) (by omega) (by omega)))
      simp only [if_pos (show (m.length : Int) = 6 by omega), if_pos (show (0 : Int) < m.length by omega), if_pos (show (1 : Int) < m.length by omega), spec_l2Tab.f, if_pos hg]
      have H : ∀ d i : Nat, i + d = 6 → ∀ xs : List S48, xs.length = i → Ev (fun k => spec_l2Tab.l0 k (rd_L1 m 0) (rd_L1 m 1) xs (i : Int)) (xs ++ tabFrom m i d) := by
        intro d
        induction d with
        | zero =>
          intro i hi xs hx
          refine Ev.succ ?_
          simp only [spec_l2Tab.l0, if_neg (show ¬ (i : Int) < 6 by omega)]
          exact Ev.cast (by simp [tabFrom]) (Ev.now _)
        | succ d ih =>
          intro i hi xs hx
          have hw := mw_in hg (show i < 6 by omega)
          have key : Ev (fun k => spec_l2Tab.l0 k (rd_L1 m 0) (rd_L1 m 1) (xs ++ [entOf (eof (mw m i))]) ((i + 1 : Nat) : Int)) (xs ++ tabFrom m i (d + 1)) :=
            Ev.cast (by simp [tabFrom, List.range'_succ]) (ih (i + 1) (by omega) (xs ++ [entOf (eof (mw m i))]) (by simp [hx]))
          refine Ev.succ ?_
          by_cases h4 : i < 4
          · have e : mw m i = rd (rd_L1 m 0) (i : Int) := by unfold mw; rw [show i / 4 = 0 by omega, show i % 4 = i by omega]; rfl
            simp only [spec_l2Tab.l0, if_pos (show (i : Int) < 6 by omega), if_pos (show (i : Int) < 4 by omega), if_pos (Int.natCast_nonneg i), if_pos (show (i : Int) < ((rd_L1 m 0).length : Int) by omega), ← e, sEof_eq _ (show -9223372036854775808 ≤ mw m i by omega) (show mw m i ≤ 9223372036854775807 by omega), Option.bind_some, if_pos (show xs.length < 5864062014805 by omega), wr1 i (by omega)]
            exact key
          · have e : mw m i = rd (rd_L1 m 1) ((i : Int) - 4) := by unfold mw; rw [show i / 4 = 1 by omega, show ((i % 4 : Nat) : Int) = (i : Int) - 4 by omega]; rfl
            simp only [spec_l2Tab.l0, if_pos (show (i : Int) < 6 by omega), if_neg (show ¬ (i : Int) < 4 by omega), wr ((i : Int) - 4) (by omega), if_pos (show 0 ≤ (i : Int) - 4 by omega), if_pos (show (i : Int) - 4 < ((rd_L1 m 1).length : Int) by omega), ← e, sEof_eq _ (show -9223372036854775808 ≤ mw m i by omega) (show mw m i ≤ 9223372036854775807 by omega), Option.bind_some, if_pos (show xs.length < 5864062014805 by omega), wr1 i (by omega)]
            exact key
      exact Ev.bind (H 6 0 (by omega) [] rfl) (Ev.now _)
    · simp only [if_neg (show ¬ (m.length : Int) = 6 by omega)]
      exact Ev.cast (by rw [if_neg (fun x => hl (guest_iff.mp x).2)]) (Ev.now _)
theorem word_ev (b : List Int) (p : Int) (hb : ByB b) (hl : (b.length : Int) ≤ 2000) (hp : 0 ≤ p) (hp' : p ≤ 100000000) :
    ∃ v p', Ev (fun k => spec_l71Word.f k b p) (v, p') ∧ p ≤ p' ∧ p' ≤ p + 2 ∧ 0 ≤ v ∧ v ≤ 63 := by
  unfold spec_l71Word.f
  obtain ⟨v, h1, v1, v2⟩ := pick_ev b p 3 hb hl (by omega) (by omega) (by omega) (by omega)
  obtain ⟨z, h2, z1, z2⟩ := pick_ev b (p + 1) 64 hb hl (by omega) (by omega) (by omega) (by omega)
  obtain ⟨y, h3, y1, y2⟩ := pick_ev b (p + 1) 14 hb hl (by omega) (by omega) (by omega) (by omega)
  by_cases c : v = 0
  · refine ⟨z, p + 1 + 1, Ev.bind h1 ?_, by omega, by omega, by omega, by omega⟩
    simp only [if_pos c]; exact Ev.bind h2 (Ev.now _)
  · refine ⟨y, p + 1 + 1, Ev.bind h1 ?_, by omega, by omega, by omega, by omega⟩
    simp only [if_neg c]; exact Ev.bind h3 (Ev.now _)
def Shape (m : List (List Int)) : Prop := m.length = 6 ∧ ∀ r ∈ m, r.length = 4
theorem shape_set {m : List (List Int)} (h : Shape m) {p : Int} (h0 : 0 ≤ p) (h1 : p < 6) (j : Nat) (v : Int) : Shape (m.set p.toNat ((rd_L1 m p).set j v)) := by
  have hr := h.2 _ (rdL_mem (m := m) h0 (by have := h.1; omega))
  refine ⟨by simp [h.1], fun r hr' => ?_⟩
  rcases List.mem_or_eq_of_mem_set hr' with x | rfl
  · exact h.2 r x
  · simp [hr]
theorem sMemNew6 : Ev (fun k => spec_MemNew.f k 6) (List.replicate 6 (List.replicate 4 0)) := by
  refine Ev.of (fun k => spec_MemNew.mono 6 k) (k := 10) ?_
  kernel_rfl
theorem mem_ev (b : List Int) (p : Int) (hb : ByB b) (hl : (b.length : Int) ≤ 2000) (hp : 0 ≤ p) (hp' : p ≤ 10000000) :
    ∃ m p', Ev (fun k => spec_l71Mem.f k b p) (m, p') ∧ p ≤ p' ∧ p' ≤ p + 200 ∧ Shape m := by
  have H1 : ∀ n : Nat, ∀ (m : List (List Int)) (p : Int), Shape m → 0 ≤ p → p + 3 * n ≤ 20000000 → ∃ m' p', Ev (fun k => spec_l71Mem.l1 k m (n : Int) b p) (m', p') ∧ p ≤ p' ∧ p' ≤ p + 3 * n ∧ Shape m' := by
    intro n
    induction n with
    | zero =>
      intro m p hs h0 h1
      refine ⟨m, p, Ev.succ ?_, by omega, by omega, hs⟩
      simp only [spec_l71Mem.l1, if_neg (show ¬ ((0 : Nat) : Int) > 0 by omega)]
      exact Ev.now _
    | succ n ih =>
      intro m p hs h0 h1
      obtain ⟨v, g1, v1, v2⟩ := pick_ev b p 6 hb hl (by omega) (by omega) (by omega) (by omega)
      obtain ⟨u, g2, u1, u2⟩ := pick_ev b (p + 1) 8 hb hl (by omega) (by omega) (by omega) (by omega)
      have e1 : Int.tdiv v 4 = v / 4 := Int.tdiv_eq_ediv_of_nonneg v1
      have e2 : Int.tmod v 4 = v % 4 := Int.tmod_eq_emod_of_nonneg v1
      have hlen := hs.1
      have hr := hs.2 _ (rdL_mem (m := m) (i := v / 4) (by omega) (by omega))
      obtain ⟨m', p', g3, a1, a2, a3⟩ := ih _ (p + 1 + 1) (shape_set hs (p := v / 4) (by omega) (by omega) (v % 4).toNat (5 + u)) (by omega) (by omega)
      refine ⟨m', p', Ev.succ ?_, by omega, by omega, a3⟩
      simp only [spec_l71Mem.l1, if_pos (show ((n + 1 : Nat) : Int) > 0 by omega), show ((n + 1 : Nat) : Int) - 1 = (n : Int) by omega, wr (n : Int) (by omega)]
      refine Ev.bind g1 ?_
      simp only [e1, e2, wr (v / 4) (by omega), if_pos (show 0 ≤ v / 4 by omega), if_pos (show v / 4 < (m.length : Int) by omega)]
      refine Ev.bind g2 ?_
      simp only [if_pos (show 0 ≤ v % 4 by omega), if_pos (show v % 4 < ((rd_L1 m (v / 4)).length : Int) by omega), wr (5 + u) (by omega)]
      exact g3
  have H0 : ∀ n : Nat, n ≤ 26 → ∀ (m : List (List Int)) (p : Int), Shape m → 0 ≤ p → p + 5 * n ≤ 15000000 → ∃ m' p', Ev (fun k => spec_l71Mem.l0 k m (n : Int) b p) (m', p') ∧ p ≤ p' ∧ p' ≤ p + 5 * n + 30 ∧ Shape m' := by
    intro n
    induction n with
    | zero =>
      intro _ m p hs h0 h1
      obtain ⟨v, g1, v1, v2⟩ := pick_ev b p 7 hb hl (by omega) (by omega) (by omega) (by omega)
      obtain ⟨w, rfl⟩ := Int.eq_ofNat_of_zero_le v1
      obtain ⟨m', p', g2, a1, a2, a3⟩ := H1 w m (p + 1) hs (by omega) (by omega)
      refine ⟨m', p', Ev.succ ?_, by omega, by omega, a3⟩
      simp only [spec_l71Mem.l0, if_neg (show ¬ ((0 : Nat) : Int) > 0 by omega)]
      exact Ev.bind g1 g2
    | succ n ih =>
      intro hn m p hs h0 h1
      obtain ⟨v, g1, v1, v2⟩ := pick_ev b p 6 hb hl (by omega) (by omega) (by omega) (by omega)
      obtain ⟨u, g2, u1, u2⟩ := pick_ev b (p + 1) 4 hb hl (by omega) (by omega) (by omega) (by omega)
      obtain ⟨w, p1, g3, w1, w2, _, _⟩ := word_ev b (p + 1 + 1) hb hl (by omega) (by omega)
      have hlen := hs.1
      have hr := hs.2 _ (rdL_mem (m := m) (i := v) (by omega) (by omega))
      obtain ⟨m', p', g4, a1, a2, a3⟩ := ih (by omega) _ p1 (shape_set hs (p := v) (by omega) (by omega) u.toNat w) (by omega) (by omega)
      refine ⟨m', p', Ev.succ ?_, by omega, by omega, a3⟩
      simp only [spec_l71Mem.l0, if_pos (show ((n + 1 : Nat) : Int) > 0 by omega), show ((n + 1 : Nat) : Int) - 1 = (n : Int) by omega, wr (n : Int) (by omega)]
      refine Ev.bind g1 ?_
      simp only [if_pos v1, if_pos (show v < (m.length : Int) by omega)]
      refine Ev.bind g2 (Ev.bind g3 ?_)
      simp only [if_pos u1, if_pos (show u < ((rd_L1 m v).length : Int) by omega)]
      exact g4
  unfold spec_l71Mem.f
  obtain ⟨v, g1, v1, v2⟩ := pick_ev b p 26 hb hl (by omega) (by omega) (by omega) (by omega)
  obtain ⟨w, rfl⟩ := Int.eq_ofNat_of_zero_le v1
  obtain ⟨m', p', g2, a1, a2, a3⟩ := H0 w (by omega) (List.replicate 6 (List.replicate 4 0)) (p + 1) ⟨by simp, fun r hr => by rw [List.eq_of_mem_replicate hr]; simp⟩ (by omega) (by omega)
  exact ⟨m', p', Ev.bind sMemNew6 (Ev.bind g1 g2), by omega, by omega, a3⟩
def Near (m : List (List Int)) : Prop := (5 ≤ m.length ∧ m.length ≤ 6) ∧ ∀ r ∈ m, 2 ≤ r.length ∧ r.length ≤ 4
theorem near_small {m : List (List Int)} (h : Near m) : Small m := ⟨by have := h.1; omega, fun r hr => by have := h.2 r hr; omega⟩
theorem off_ev (b : List Int) (p : Int) (hb : ByB b) (hl : (b.length : Int) ≤ 2000) (hp : 0 ≤ p) (hp' : p ≤ 10000000) :
    ∃ m p', Ev (fun k => spec_l71Off.f k b p) (m, p') ∧ p ≤ p' ∧ p' ≤ p + 300 ∧ Near m := by
  unfold spec_l71Off.f
  obtain ⟨m, p1, g0, a1, a2, hs⟩ := mem_ev b p hb hl hp hp'
  obtain ⟨v, g1, v1, v2⟩ := pick_ev b p1 20 hb hl (by omega) (by omega) (by omega) (by omega)
  have hlen := hs.1
  obtain ⟨u, g2, u1, u2⟩ := pick_ev b (p1 + 1) m.length hb hl (by omega) (by omega) (by omega) (by omega)
  obtain ⟨w, g3, w1, w2⟩ := pick_ev b (p1 + 1 + 1) 2 hb hl (by omega) (by omega) (by omega) (by omega)
  have hN : Near m := ⟨by omega, fun r hr => by have := hs.2 r hr; omega⟩
  have hset : ∀ r : List Int, 2 ≤ r.length ∧ r.length ≤ 4 → Near (m.set u.toNat r) := by
    intro r hr
    refine ⟨by simp; omega, fun x hx => ?_⟩
    rcases List.mem_or_eq_of_mem_set hx with y | rfl
    · exact hN.2 x y
    · exact hr
  by_cases c0 : v = 0
  · refine ⟨m.drop 1, p1 + 1, Ev.bind g0 (Ev.bind g1 ?_), by omega, by omega, ⟨by simp; omega, fun r hr => hN.2 r (List.mem_of_mem_drop hr)⟩⟩
    simp only [if_pos c0, if_pos (show (1 : Int) ≤ m.length by omega)]
    exact Ev.now _
  by_cases c1 : v = 1
  · refine ⟨m.set u.toNat [1, 2], p1 + 1 + 1, Ev.bind g0 (Ev.bind g1 ?_), by omega, by omega, hset _ (by simp)⟩
    simp only [if_neg c0, if_pos c1]
    refine Ev.bind g2 ?_
    simp only [if_pos u1, if_pos u2]
    exact Ev.now _
  by_cases c2 : v = 2
  · have hr := hs.2 _ (rdL_mem (m := m) (i := u) u1 u2)
    refine ⟨m.set u.toNat ((rd_L1 m u).set 0 (rd [(-1), 64] w)), p1 + 1 + 1 + 1, Ev.bind g0 (Ev.bind g1 ?_), by omega, by omega, hset _ (by simp [hr])⟩
    simp only [if_neg c0, if_neg c1, if_pos c2]
    refine Ev.bind g2 ?_
    simp only [if_pos u1, if_pos u2, Option.bind_some]
    refine Ev.bind g3 ?_
    simp only [if_pos w1, if_pos (show w < (([(-1), 64] : List Int).length : Int) by simpa using w2), if_pos (show (0 : Int) < ((rd_L1 m u).length : Int) by omega)]
    exact Ev.now _
  · refine ⟨m, p1 + 1, Ev.bind g0 (Ev.bind g1 ?_), by omega, by omega, hN⟩
    simp only [if_neg c0, if_neg c1, if_neg c2]
    exact Ev.now _
theorem drawMemTab_ev (l : List Int) (h : ∀ x ∈ l, (Lit.int .u8 x).wf = true) : ∃ m, Ev (fun k => spec_DrawMemTab.f k l) m ∧ Near m := by
  unfold spec_DrawMemTab.f
  obtain ⟨b, e, hb, hl⟩ := open_eq l h
  obtain ⟨m, p1, g0, a1, a2, hN⟩ := off_ev b 0 hb hl (by omega) (by omega)
  refine ⟨m, ?_, hN⟩
  simp only [e, Option.bind_some]
  exact Ev.bind g0 (Ev.now _)

-- the law
theorem FnMemTab : laws_FnMemTab.Pure := by
  intro l _ _ hw
  obtain ⟨m, g, hN⟩ := drawMemTab_ev l hw
  have hm := near_small hN
  apply Ev.rounds
  unfold laws_FnMemTab.f
  by_cases c : (l.length : Int) > 1048576
  · simp only [if_pos c]; exact Ev.now _
  simp only [if_neg c]
  have tl : (memTab m).length ≤ 6 := by unfold memTab; split <;> simp [tabFrom]
  refine Ev.bind g (Ev.bind (iMemTab_ev m hm) (Ev.bind (sMemTab_ev m hm) (Ev.bind (lkTab_refl _ (by omega)) ?_)))
  simp only [if_true]
  refine Ev.succ ?_
  simp only [laws_FnMemTab.j0]
  cases hg : guestB m
  · have e : memTab m = [] := by unfold memTab; rw [if_neg (by rw [hg]; simp)]
    simp only [e, List.length_nil, show (((0 : Nat) : Int) == 0) = true from rfl, if_true]
    exact Ev.bind (Ev.cast e (sMemTab_ev m hm)) (Ev.bind (lkTab_refl [] (by simp)) (Ev.now _))
  · have gm := guest_iff.mp hg
    have e6 := memTab_len hg
    simp only [e6, show (((6 : Nat) : Int) == 0) = false from rfl, Bool.false_eq_true, if_false]
    have H : ∀ d i : Nat, i + d = 6 → Ev (fun k => laws_FnMemTab.l0 k m (memTab m) (i : Int)) true := by
      intro d
      induction d with
      | zero =>
        intro i hi
        refine Ev.succ ?_
        simp only [laws_FnMemTab.l0, if_neg (show ¬ (i : Int) < 6 by omega)]
        exact Ev.bind (Ev.cast (memTab_ok hg) (iTabOk_ev _ (by omega))) (Ev.now _)
      | succ d ih =>
        intro i hi
        have e1 : Int.tdiv (i : Int) 4 = ((i / 4 : Nat) : Int) := rfl
        have e2 : Int.tmod (i : Int) 4 = ((i % 4 : Nat) : Int) := rfl
        have hq : memAtOk m ((i / 4 : Nat) : Int) ((i % 4 : Nat) : Int) := ⟨gm.1, by omega, by omega⟩
        have ht := memTab_at hg (p := (i : Int)) (by omega) (by omega)
        rw [Int.toNat_natCast] at ht
        refine Ev.succ ?_
        simp only [laws_FnMemTab.l0, if_pos (show (i : Int) < 6 by omega), e1, e2, wr ((i / 4 : Nat) : Int) (by omega)]
        refine Ev.bind (iMemAt_ev m _ _ hm) ?_
        simp only [memAt, if_pos hq, if_true, if_pos (Int.natCast_nonneg i), if_pos (show (i : Int) < ((memTab m).length : Int) by omega)]
        refine Ev.bind (iEof_ev _) ?_
        rw [ht]
        have em : rd (rd_L1 m ((i / 4 : Nat) : Int)) ((i % 4 : Nat) : Int) = mw m i := rfl
        rw [em]
        simp only [entOf, beq_self_eq_true, Bool.not_true, Bool.or_self, Bool.false_eq_true, if_false, wr1 i (by omega)]
        have nx := ih (i + 1) (by omega)
        rcases eof_cases (mw m i) with ⟨a, b, e⟩ | ⟨a, e⟩
        · simp only [e, if_true, if_neg (show ¬ (mw m i - 1) / 2 < 2 by omega)]; exact nx
        · simp only [e, Bool.false_eq_true, if_false]; exact nx
    exact H 6 0 (by omega)

end Go.Proofs.Ytenmnnchonlccaa.Pure
