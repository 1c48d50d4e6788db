/- The pure side of the law FnHostNew: what the printed functions compute answers true. Conditions: none beyond the statement given. -/
import Derived.Test.YtfamknibfokfmaaVFnHostNewx0
import Derived.Test.YtfamknibfokfmaaVFnHostNewx1
import Derived.Test.YtfamknibfokfmaaVFnHostNewx2
import Derived.Test.YtfamknibfokfmaaVFnHostNewx3
import Derived.Test.YtfamknibfokfmaaVFnHostNewx4
import Derived.Test.YtfamknibfokfmaaVFnHostNewx5
import Derived.Test.YtfamknibfokfmaaVFnHostNewx6
import Derived.Test.YtfamknibfokfmaaVFnHostNewx7
import Derived.Test.YtfamknibfokfmaaVFnHostNewx8
import Derived.Test.YtfamknibfokfmaaVFnHostNewx9
import Derived.Test.YtfamknibfokfmaaVFnHostNewx10
import Derived.Test.YtfamknibfokfmaaVFnHostNewx11
import Derived.Test.YtfamknibfokfmaaVFnHostNewx12
import Derived.Test.YtfamknibfokfmaaVFnHostNewx13
import Derived.Laws.BitsLemmas
namespace Go.Proofs.Ytfamknibfokfmaa.Pure
open Go Go.RowKit Go.Proofs.Ytfamknibfokfmaa.QFnHostNew Go.Proofs.YtfamknibfokfmaaW.PrintWords Go.Proofs.YtfamknibfokfmaaW.PrintLast
set_option linter.unusedVariables false
set_option linter.unusedSimpArgs false

theorem Ev.succ {α : Type} {g : Nat → Option α} {r : α} (h : Ev (fun k => g (k + 1)) r) : Ev g r := Ev.step (fun _ => rfl) h
theorem wr (n : Int) (h : -9223372036854775808 ≤ n ∧ n ≤ 9223372036854775807) : wrap64 n = n := by unfold wrap64; omega
theorem u8_in {n : Int} (h : (Lit.int .u8 n).wf = true) : 0 ≤ n ∧ n ≤ 255 := by
  have e1 : IntKind.u8.min = 0 := by decide
  have e2 : IntKind.u8.max = 255 := by decide
  simp only [Lit.wf, e1, e2, Bool.and_eq_true, decide_eq_true_eq] at h; exact h
theorem xor_nat (a b : Nat) (ha : a < 2 ^ 62) (hb : b < 2 ^ 62) : bits .xor .i64 (a : Int) (b : Int) = ((a ^^^ b : Nat) : Int) := by
  have ha' : a % 2 ^ 64 = a := Nat.mod_eq_of_lt (Nat.lt_of_lt_of_le ha (by decide))
  have hb' : b % 2 ^ 64 = b := Nat.mod_eq_of_lt (Nat.lt_of_lt_of_le hb (by decide))
  have hx : a ^^^ b < 2 ^ 62 := Nat.xor_lt_two_pow ha hb
  have e : IntKind.i64.bits = 64 := rfl
  simp only [bits, e, BitVec.ofInt_natCast, BitVec.toNat_xor, BitVec.toNat_ofNat, ha', hb']
  rw [IntKind.wrap_i64]; omega
theorem xor_nn (a b : Int) (ha : 0 ≤ a) (ha' : a < 4611686018427387904) (hb : 0 ≤ b) (hb' : b < 4611686018427387904) : 0 ≤ bits .xor .i64 a b := by
  obtain ⟨x, rfl⟩ := Int.eq_ofNat_of_zero_le ha
  obtain ⟨y, rfl⟩ := Int.eq_ofNat_of_zero_le hb
  rw [xor_nat x y (by omega) (by omega)]; omega
theorem tmod_in (x n : Int) (hx : 0 ≤ x) (hn : 1 ≤ n) : 0 ≤ Int.tmod x n ∧ Int.tmod x n < n := by
  rw [Int.tmod_eq_emod_of_nonneg hx]
  exact ⟨Int.emod_nonneg _ (by omega), Int.emod_lt_of_pos _ (by omega)⟩
def ByB (b : List Int) : Prop := ∀ i : Int, 0 ≤ rd b i ∧ rd b i ≤ 255
theorem byB_of {b : List Int} (h : ∀ x ∈ b, (Lit.int .u8 x).wf = true) : ByB b := by
  intro i
  unfold rd
  rw [List.getD_eq_getElem?_getD]
  cases e : b[i.toNat]? with
  | none => simp
  | some x => simpa using u8_in (h x (List.mem_of_getElem? e))
theorem pick_ev (b : List Int) (p n : Int) (hb : ByB b) (hl : (b.length : Int) ≤ 2000) (hp : 0 ≤ p) (hp' : p ≤ 1000000000) (hn : 1 ≤ n) (hn' : n ≤ 1000000000000) :
    ∃ v, Ev (fun k => spec_l6Rd_pick.f k b p n) (v, p + 1) ∧ 0 ≤ v ∧ v < n := by
  unfold spec_l6Rd_pick.f
  simp only [if_neg (show ¬ n < 1 by omega), wr (p + 1) (by omega)]
  by_cases e : b.length = 0
  · refine ⟨0, Ev.succ ?_, by omega, by omega⟩
    simp only [spec_l6Rd_pick.j0, e]
    exact Ev.now _
  · have e' : ((b.length : Int) == 0) = false := by simp; intro h; exact e (by simp [h])
    simp only [e']
    by_cases g : p < b.length
    · have hb1 := hb p
      have t := tmod_in (rd b p) n hb1.1 hn
      refine ⟨Int.tmod (rd b p) n, Ev.succ ?_, t.1, t.2⟩
      simp only [spec_l6Rd_pick.j0, show p + 1 - 1 = p by omega, wr p (by omega), if_pos g, if_pos hp, if_neg (show ¬ n = 0 by omega), wr (rd b p) (by omega), Bool.false_eq_true, if_false]
      exact Ev.now _
    · have hL : (1 : Int) ≤ b.length := by omega
      have q1 := tmod_in p b.length hp hL
      have q2 := tmod_in (p * 7 + 3) b.length (by omega) hL
      have b1 := hb (Int.tmod p b.length)
      have b2 := hb (Int.tmod (p * 7 + 3) b.length)
      have q3 : 0 ≤ Int.tdiv p b.length ∧ Int.tdiv p b.length ≤ p := by
        rw [Int.tdiv_eq_ediv_of_nonneg hp]
        exact ⟨Int.ediv_nonneg hp (by omega), Int.ediv_le_self _ hp⟩
      generalize hx : rd b (Int.tmod p b.length) = X at *
      generalize hy : rd b (Int.tmod (p * 7 + 3) b.length) = Y at *
      generalize hz : Int.tdiv p b.length = Z at *
      have q4 : 0 ≤ Int.tdiv (X * 131 + Y * 1117 + p * 29 + Z * 53) 64 ∧ Int.tdiv (X * 131 + Y * 1117 + p * 29 + Z * 53) 64 ≤ 4611686018427387903 := by
        rw [Int.tdiv_eq_ediv_of_nonneg (by omega)]; omega
      generalize hu : Int.tdiv (X * 131 + Y * 1117 + p * 29 + Z * 53) 64 = U at *
      have q5 := xor_nn (X * 131 + Y * 1117 + p * 29 + Z * 53) U (by omega) (by omega) (by omega) (by omega)
      have t := tmod_in _ n q5 hn
      refine ⟨Int.tmod (bits .xor .i64 (X * 131 + Y * 1117 + p * 29 + Z * 53) U) n, Ev.succ ?_, t.1, t.2⟩
      simp only [spec_l6Rd_pick.j0, show p + 1 - 1 = p by omega, wr p (by omega), if_neg g, if_neg (show ¬ (b.length : Int) = 0 by omega), if_pos q1.1, if_pos q1.2, wr (p * 7) (by omega), wr (p * 7 + 3) (by omega), if_pos q2.1, if_pos q2.2, if_neg (show ¬ n = 0 by omega), hx, hy, hz, wr X (by omega), wr Y (by omega), wr Z (by omega), wr (X * 131) (by omega), wr (Y * 1117) (by omega), wr (X * 131 + Y * 1117) (by omega), wr (p * 29) (by omega), wr (X * 131 + Y * 1117 + p * 29) (by omega), wr (Z * 53) (by omega), wr (X * 131 + Y * 1117 + p * 29 + Z * 53) (by omega), hu, wr U (by omega), Bool.false_eq_true, if_false]
      exact Ev.now _
theorem open_eq (l : List Int) (h : ∀ x ∈ l, (Lit.int .u8 x).wf = true) : ∃ b, spec_l6Open.f l = some (b, 0) ∧ ByB b ∧ (b.length : Int) ≤ 2000 := by
  unfold spec_l6Open.f
  by_cases g : (l.length : Int) > 2000
  · rw [if_pos g, if_pos (by omega)]
    exact ⟨_, rfl, byB_of fun x hx => h x (List.mem_of_mem_take hx), by simp; omega⟩
  · rw [if_neg g]
    exact ⟨_, rfl, byB_of h, by omega⟩

-- the law
theorem drawHostNew_ev (l : List Int) (h : ∀ x ∈ l, (Lit.int .u8 x).wf = true) : ∃ n, Ev (fun k => spec_DrawHostNew.f k l) n ∧ -1 ≤ n ∧ n ≤ 3 := by
  unfold spec_DrawHostNew.f
  obtain ⟨b, e, hb, hl⟩ := open_eq l h
  obtain ⟨v, h1, v1, v2⟩ := pick_ev b 0 5 hb hl (by omega) (by omega) (by omega) (by omega)
  refine ⟨v - 1, ?_, by omega, by omega⟩
  simp only [e, Option.bind_some]
  refine Ev.bind h1 ?_
  simp only [wr (v - 1) (by omega)]
  exact Ev.now _
def hnRest (k : Nat) (t362 : Int) : Option Bool := ((spec_HostNew.f k t362).bind fun bt363 => ((impl_HostNew.f k t362).bind fun bt372 => (if (bt372.2.2.2 != bt363.2.2.2) = true then (laws_FnHostNew.j0 k t362 bt363.2.2.2 bt372.2.2.2 true bt363.1 bt363.2.1 bt363.2.2.1 bt372.1 bt372.2.1 bt372.2.2.1) else ((laws_lkHost.f k bt372.1 bt372.2.1 bt372.2.2.1 bt363.1 bt363.2.1 bt363.2.2.1).bind fun t381 => (if t381 = true then (laws_FnHostNew.j0 k t362 bt363.2.2.2 bt372.2.2.2 (!bt372.2.2.2) bt363.1 bt363.2.1 bt363.2.2.1 bt372.1 bt372.2.1 bt372.2.2.1) else (laws_FnHostNew.j0 k t362 bt363.2.2.2 bt372.2.2.2 true bt363.1 bt363.2.1 bt363.2.2.1 bt372.1 bt372.2.1 bt372.2.2.1))))))
theorem hnRest_mono (a0 : Int) (k : Nat) : LeO (hnRest k a0) (hnRest (k + 1) a0) := by
  obtain ⟨ih0, ih1⟩ := laws_FnHostNew.mono_l k
  unfold hnRest
  repeat' first
      | (with_reducible exact ih0 _ _ _ _ _ _ _ _ _ _)
      | (with_reducible exact ih1 _ _ _ _ _ _)
      | (with_reducible exact impl_HostFree.mono _ _ _ _)
      | (with_reducible exact impl_HostLoad.mono _ _)
      | (with_reducible exact impl_HostNew.mono _ _)
      | (with_reducible exact impl_HostOk.mono _ _ _ _)
      | (with_reducible exact impl_HostSee.mono _ _ _ _ _)
      | (with_reducible exact impl_MemNew.mono _ _)
      | (with_reducible exact laws_lkHost.mono _ _ _ _ _ _ _)
      | (with_reducible exact laws_lkMem.mono _ _ _)
      | (with_reducible exact spec_DrawHostNew.mono _ _)
      | (with_reducible exact spec_HostNew.mono _ _)
      | (with_reducible exact LeO.refl _)
      | (with_reducible exact LeO.none _)
      | (with_reducible refine LeO.ite ?_ ?_)
      | (with_reducible refine LeO.bind ?_ (fun _ => ?_))
      | exact ih0 _ _ _ _ _ _ _ _ _ _
      | exact ih1 _ _ _ _ _ _
      | exact impl_HostFree.mono _ _ _ _
      | exact impl_HostLoad.mono _ _
      | exact impl_HostNew.mono _ _
      | exact impl_HostOk.mono _ _ _ _
      | exact impl_HostSee.mono _ _ _ _ _
      | exact impl_MemNew.mono _ _
      | exact laws_lkHost.mono _ _ _ _ _ _ _
      | exact laws_lkMem.mono _ _ _
      | exact spec_DrawHostNew.mono _ _
      | exact spec_HostNew.mono _ _
      | exact LeO.none _
      | refine LeO.ite ?_ ?_
      | refine LeO.bind ?_ (fun _ => ?_)
theorem FnHostNew : laws_FnHostNew.Pure := by
  intro l _ _ hw
  obtain ⟨n, g, n1, n2⟩ := drawHostNew_ev l hw
  apply Ev.rounds
  unfold laws_FnHostNew.f
  by_cases c : (l.length : Int) > 1048576
  · simp only [if_pos c]; exact Ev.now _
  simp only [if_neg c]
  refine Ev.bind g ?_
  show Ev (fun k => hnRest k n) true
  refine Ev.of (fun k => hnRest_mono n k) (k := 200) ?_
  obtain rfl | rfl | rfl | rfl | rfl : n = -1 ∨ n = 0 ∨ n = 1 ∨ n = 2 ∨ n = 3 := by omega
  all_goals kernel_rfl

end Go.Proofs.Ytfamknibfokfmaa.Pure
