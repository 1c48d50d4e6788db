/- The pure side of the law FnExactTabText: what the printed functions compute answers true. Conditions: none beyond the statement given. -/
import Derived.Test.YtkadphbjfhbapaaDoorQFnExactTabTextx0
import Derived.Test.YtkadphbjfhbapaaDoorQFnExactTabTextx1
import Derived.Test.YtkadphbjfhbapaaDoorQFnExactTabTextx2
import Derived.Test.YtkadphbjfhbapaaDoorQFnExactTabTextx3
import Derived.Test.YtkadphbjfhbapaaDoorQFnExactTabTextx4
import Derived.Laws.BitsLemmas
namespace Go.Proofs.YtkadphbjfhbapaaDoor.Pure
open Go Go.RowKit Go.Proofs.YtkadphbjfhbapaaDoor.QFnExactTabText Go.Proofs.YtkadphbjfhbapaaDoorW.PrintWords Go.Proofs.YtkadphbjfhbapaaDoorW.PrintLast
set_option linter.unusedVariables false
set_option linter.unusedSimpArgs false

theorem Ev.succ {α : Type} {g : Nat → Option α} {r : α} (h : Ev (fun k => g (k + 1)) r) : Ev g r := Ev.step (fun _ => rfl) h
theorem Ev.cast {α : Type} {g : Nat → Option α} {r r' : α} (e : r = r') (h : Ev g r) : Ev g r' := e ▸ h
theorem wr (n : Int) (h : -9223372036854775808 ≤ n ∧ n ≤ 9223372036854775807) : wrap64 n = n := by unfold wrap64; omega
theorem wr1 (i : Nat) (h : (i : Int) ≤ 1000000000000000000) : wrap64 ((i : Int) + 1) = ((i + 1 : Nat) : Int) := by rw [wr _ (by omega)]; rfl
theorem Ev.down {σ ρ : Type} (g : Nat → Int → σ → Option ρ) (R : Nat → σ → ρ) (n : Nat) (hend : ∀ st, Ev (fun k => g k n st) (R n st))
    (hstep : ∀ i : Nat, i < n → (∀ st, Ev (fun k => g k ((i + 1 : Nat) : Int) st) (R (i + 1) st)) → ∀ st, Ev (fun k => g k (i : Int) st) (R i st)) :
    ∀ st, Ev (fun k => g k 0 st) (R 0 st) := by
  have H : ∀ d i : Nat, i + d = n → ∀ st, Ev (fun k => g k (i : Int) st) (R i st) := by
    intro d
    induction d with
    | zero => intro i hi st; obtain rfl : i = n := by omega
              exact hend st
    | succ d ih => intro i hi; exact hstep i (by omega) (ih (i + 1) (by omega))
  exact H n 0 (by omega)
theorem drop_cons {α : Type} {l : List α} {i : Nat} (h : i < l.length) : l.drop i = l[i] :: l.drop (i + 1) := List.drop_eq_getElem_cons h
theorem getD_at {α : Type} {l : List α} {i : Nat} (z : α) (h : i < l.length) : l.getD ((i : Int)).toNat z = l[i] := by simp [h]
def wi (a lo hi : Int) : Bool := decide (lo ≤ a) && decide (a ≤ hi)
theorem wi_iff {a lo hi : Int} : wi a lo hi = true ↔ lo ≤ a ∧ a ≤ hi := by simp [wi]
theorem l6In_eq (a lo hi : Int) : spec_l6In.f a lo hi = some (wi a lo hi) := by
  unfold spec_l6In.f wi
  by_cases h : a ≥ lo
  · rw [if_pos h]; simp [h]
  · rw [if_neg h]; simp; omega
theorem within_eq (a lo hi : Int) : impl_within.f a lo hi = some (wi a lo hi) := by
  unfold impl_within.f wi
  by_cases h : a ≥ lo
  · rw [if_pos h]; simp [h]
  · rw [if_neg h]; simp; omega
theorem rdE_at {l : List S44} {i : Nat} (h : i < l.length) : rd_T44 l (i : Int) = l[i] := getD_at _ h
def entB (e : S44) : Bool := if e.f0 = true then wi e.f1 0 5 else (e.f1 == 0 && (!e.f2))
def tabB (l : List S44) : Bool := l.all entB && ((l.length : Int) == 6)
theorem l1Entry_eq (e : S44) : spec_l1Entry.f e.f0 e.f1 e.f2 = some (entB e) := by
  unfold spec_l1Entry.f entB
  by_cases h : e.f0 = true
  · rw [if_pos h, if_pos h, l6In_eq]; rfl
  · rw [if_neg h, if_neg h]; simp [h]
theorem sTabOk_ev (l : List S44) (hl : (l.length : Int) ≤ 1000000000000000) : Ev (fun k => spec_TabOk.f k l) (tabB l) := by
  unfold spec_TabOk.f
  have H := Ev.down (σ := Unit) (fun k i _ => spec_TabOk.l0 k l i) (fun i _ => (l.drop i).all entB && ((l.length : Int) == 6)) l.length
    (fun _ => Ev.succ (by simp only [spec_TabOk.l0, Int.lt_irrefl, if_false]; exact Ev.cast (by simp) (Ev.now _)))
    (fun i hi ih _ => by
      refine Ev.succ ?_
      simp only [spec_TabOk.l0, if_pos (Int.ofNat_lt.mpr hi), if_pos (Int.natCast_nonneg i), rdE_at hi, l1Entry_eq, Option.bind_some, wr1 i (by omega)]
      rw [drop_cons hi, List.all_cons]
      cases h : entB l[i]
      · exact Ev.now _
      · exact ih ())
  exact H ()
theorem iTabOk_ev (l : List S44) (hl : (l.length : Int) ≤ 1000000000000000) : Ev (fun k => impl_TabOk.f k l) (tabB l) := by
  unfold impl_TabOk.f
  have H := Ev.down (σ := Unit) (fun k i _ => impl_TabOk.l0 k l l l.length i) (fun i _ => (l.drop i).all entB && ((l.length : Int) == 6)) l.length
    (fun _ => Ev.succ (by simp only [impl_TabOk.l0, Int.lt_irrefl, if_false]; exact Ev.cast (by simp) (Ev.now _)))
    (fun i hi ih _ => by
      refine Ev.succ ?_
      simp only [impl_TabOk.l0, if_pos (Int.ofNat_lt.mpr hi), if_pos (Int.natCast_nonneg i), rdE_at hi, within_eq, Option.bind_some, wr1 i (by omega)]
      rw [drop_cons hi, List.all_cons]
      unfold entB
      by_cases h : l[i].f0 = true
      · simp only [if_pos h]
        cases g : wi l[i].f1 0 5
        · exact Ev.now _
        · exact ih ()
      · simp only [if_neg h]
        cases g : (l[i].f1 == 0 && (!l[i].f2))
        · rw [show (l[i].f0 || (!(l[i].f1 == 0) || l[i].f2)) = true by revert g h; cases l[i].f0 <;> cases l[i].f2 <;> simp]
          exact Ev.now _
        · have g1 : l[i].f1 = 0 := by revert g; simp; intro a _; exact a
          rw [show (l[i].f0 || (!(l[i].f1 == 0) || l[i].f2)) = false by revert g h; cases l[i].f0 <;> cases l[i].f2 <;> simp]
          simp only [Bool.false_eq_true, if_false, g1, show wi 0 0 5 = true from rfl, if_true]
          exact ih ())
  exact H ()
theorem rdLE_at {l : List S60} {i : Nat} (h : i < l.length) : rd_T60 l (i : Int) = l[i] := getD_at _ h
def toE (e : S60) : S44 := ⟨e.f0, e.f1, e.f2⟩
theorem set_snoc {α : Type} (xs : List α) (z : α) (n : Nat) (y : α) : (xs ++ List.replicate (n + 1) z).set xs.length y = (xs ++ [y]) ++ List.replicate n z := by
  rw [List.set_append_right _ _ (Nat.le_refl _)]; simp [List.replicate_succ]
theorem toEntryS_ev (l : List S60) (hl : (l.length : Int) ≤ 1048576) : Ev (fun k => laws_toEntryS.f k l) (l.map toE) := by
  unfold laws_toEntryS.f
  simp only [if_pos (Int.natCast_nonneg l.length), Int.toNat_natCast, if_pos (show l.length ≤ 11728124029610 by omega)]
  have H : ∀ d i : Nat, i + d = l.length → Ev (fun k => laws_toEntryS.l0 k l ((l.take i).map toE ++ List.replicate d z44) (i : Int)) (l.map toE) := by
    intro d
    induction d with
    | zero =>
      intro i hi
      obtain rfl : i = l.length := by omega
      refine Ev.succ ?_
      simp only [laws_toEntryS.l0, Int.lt_irrefl, if_false, List.take_length, List.replicate_zero, List.append_nil]
      exact Ev.now _
    | succ d ih =>
      intro i hi
      have hlt : i < l.length := by omega
      have ih' := ih (i + 1) (by omega)
      refine Ev.succ ?_
      simp only [laws_toEntryS.l0, if_pos (Int.ofNat_lt.mpr hlt), if_pos (Int.natCast_nonneg i), laws_toEntry.f, Option.bind_some, rdLE_at hlt, wr1 i (by omega), Int.toNat_natCast]
      simp only [if_pos (show (i : Int) < (((l.take i).map toE ++ List.replicate (d + 1) z44).length : Int) by simp; omega)]
      have e := set_snoc ((l.take i).map toE) z44 d (toE l[i])
      rw [show ((l.take i).map toE).length = i by simp; omega] at e
      have e2 : (l.take i).map toE ++ [toE l[i]] = (l.take (i + 1)).map toE := by rw [List.take_succ_eq_append_getElem hlt, List.map_append]; rfl
      rw [e2] at e
      unfold toE at e ih' ⊢
      simp only [e]
      exact ih'
  exact H l.length 0 (by omega)
theorem eqEntryS_refl (l : List S44) (hl : (l.length : Int) ≤ 1000000000000000) : Ev (fun k => laws_eqEntryS.f k l l) true := by
  unfold laws_eqEntryS.f
  simp only [if_true]
  have H := Ev.down (σ := Unit) (fun k i _ => laws_eqEntryS.l0 k l l i) (fun i _ => true) l.length
    (fun _ => Ev.succ (by simp only [laws_eqEntryS.l0, Int.lt_irrefl, if_false]; exact Ev.now _))
    (fun i hi ih _ => by
      refine Ev.succ ?_
      simp only [laws_eqEntryS.l0, if_pos (Int.ofNat_lt.mpr hi), if_pos (Int.natCast_nonneg i), laws_eqEntry.f, bne_self_eq_false, Bool.false_eq_true, if_false, if_true, Option.bind_some, wr1 i (by omega)]
      exact ih ())
  exact H ()
theorem szEntryS_eq (l : List S60) (hl : l.length ≤ 9223372036854775807) : (laws_szEntryS.f l 1048576 = some (-1)) ∨ (∃ n, laws_szEntryS.f l 1048576 = some n ∧ 0 ≤ n ∧ (l.length : Int) ≤ 1048576) := by
  unfold laws_szEntryS.f
  rw [wr (1048576 - (l.length : Int)) (by omega)]
  by_cases h : 1048576 - (l.length : Int) < 0
  · exact .inl (if_pos h)
  · exact .inr ⟨_, if_neg h, by omega, by omega⟩
theorem ba_append (a b : List UInt8) : (⟨a.toArray⟩ ++ ⟨b.toArray⟩ : ByteArray) = ⟨(a ++ b).toArray⟩ := ByteArray.ext (by simp [ByteArray.data_append])
theorem ba_size (a : List UInt8) : (⟨a.toArray⟩ : ByteArray).size = a.length := by show a.toArray.size = a.length; simp
def dig (p : Int) : UInt8 := UInt8.ofNat (48 + p.toNat)
def entT (e : S44) : List UInt8 := (if e.f0 = true then [dig e.f1] else [45]) ++ (if e.f2 = true then [119] else [])
def tabS (l : List S44) : List UInt8 := Lib.join (l.map entT) [32] ++ [10]
def tabTx (l : List S44) : ByteArray := if tabB l = true then ⟨(tabS l).toArray⟩ else ⟨#[]⟩
theorem entT_len (e : S44) : (entT e).length ≤ 2 := by unfold entT; split <;> split <;> simp
theorem join_step (x y : List UInt8) (r : List (List UInt8)) : Lib.join (x :: y :: r) [32] = x ++ ([32] ++ Lib.join (y :: r) [32]) := by
  rw [Lib.join_cons, Lib.join_cons]; simp [Lib.joinTail]
theorem join_len (l : List S44) : (Lib.join (l.map entT) [32]).length ≤ 3 * l.length := by
  induction l with
  | nil => simp [Lib.join_nil]
  | cons e r ih =>
    have he := entT_len e
    cases r with
    | nil => simp only [List.map_cons, List.map_nil, Lib.join_one, List.length_cons, List.length_nil]; omega
    | cons e2 r2 =>
      simp only [List.map_cons] at ih ⊢
      rw [join_step]
      simp only [List.length_append, List.length_cons, List.length_nil] at ih ⊢
      omega
theorem tT_ent {l : List S44} (h : tabB l = true) {e : S44} (he : e ∈ l) : entB e = true := by
  simp only [tabB, Bool.and_eq_true, List.all_eq_true] at h; exact h.1 e he
theorem tT_len {l : List S44} (h : tabB l = true) : l.length = 6 := by
  simp only [tabB, Bool.and_eq_true, List.all_eq_true, beq_iff_eq] at h; omega
theorem tT_page {e : S44} (h : entB e = true) (h0 : e.f0 = true) : 0 ≤ e.f1 ∧ e.f1 ≤ 5 := by
  unfold entB at h; rw [if_pos h0] at h; exact wi_iff.mp h
theorem ent_none {e : S44} (h : entB e = true) (h0 : ¬ e.f0 = true) : e.f1 = 0 ∧ e.f2 = false := by
  unfold entB at h; rw [if_neg h0] at h; simpa using h
theorem decDig (p : Int) (h : 0 ≤ p ∧ p ≤ 5) : (⟨(Lib.decDigits p.toNat).toArray⟩ : ByteArray) = ⟨[dig p].toArray⟩ := by
  unfold Lib.decDigits
  rw [dif_pos (show p.toNat < 10 by omega)]; rfl
theorem iTabText_ev (l : List S44) (hl : (l.length : Int) ≤ 1000000000000) : Ev (fun k => impl_TabText.f k l) (tabTx l) := by
  unfold impl_TabText.f tabTx
  refine Ev.bind (iTabOk_ev l (by omega)) ?_
  cases hb : tabB l
  · simp only [Bool.false_eq_true, if_false]; exact Ev.now _
  simp only [if_true]
  have h6 := tT_len hb
  have H : ∀ d i : Nat, i + d = l.length → ∀ xs : List ByteArray, xs = (l.take i).map (fun e => (⟨(entT e).toArray⟩ : ByteArray)) → Ev (fun k => impl_TabText.l0 k xs l l.length (i : Int)) (⟨(tabS l).toArray⟩ : ByteArray) := by
    intro d
    induction d with
    | zero =>
      intro i hi xs hx
      obtain rfl : i = l.length := by omega
      rw [List.take_length] at hx
      have hj : Lib.join (xs.map (·.data.toList)) [32] = Lib.join (l.map entT) [32] := by rw [hx]; simp [Function.comp_def]
      have hn := join_len l
      have hxl : xs.length = 6 := by rw [hx]; simp [h6]
      have e : strings_Join.f xs (⟨#[32]⟩ : ByteArray) = some ⟨(Lib.join (l.map entT) [32]).toArray⟩ := by
        unfold strings_Join.f
        rw [show ((⟨#[32]⟩ : ByteArray).data.toList) = [32] from rfl, hj, if_pos ⟨by omega, by omega⟩]
      refine Ev.succ ?_
      simp only [impl_TabText.l0, Int.lt_irrefl, if_false, e, Option.bind_some, ba_size, if_pos (show (Lib.join (l.map entT) [32]).length + 1 ≤ 9223372036854775807 by omega)]
      exact Ev.cast (by unfold tabS; rw [← ba_append]) (Ev.now _)
    | succ d ih =>
      intro i hi xs hx
      have hlt : i < l.length := by omega
      have hxl : xs.length = i := by rw [hx]; simp; omega
      have he := tT_ent hb (List.getElem_mem hlt)
      have ih' := ih (i + 1) (by omega) (xs ++ [⟨(entT l[i]).toArray⟩]) (by rw [hx, List.take_succ_eq_append_getElem hlt, List.map_append]; rfl)
      refine Ev.succ ?_
      simp only [impl_TabText.l0, if_pos (Int.ofNat_lt.mpr hlt), if_pos (Int.natCast_nonneg i), rdE_at hlt, wr1 i (by omega), if_pos (show xs.length < 8796093022208 by omega)]
      by_cases h0 : l[i].f0 = true
      · have hp := tT_page he h0
        have e : strconv_Itoa_23.f l[i].f1 = some ⟨[dig l[i].f1].toArray⟩ := by
          unfold strconv_Itoa_23.f
          rw [if_pos hp.1, if_pos (by omega), decDig _ hp]
        simp only [if_pos h0, e, Option.bind_some, ba_size, if_pos (show [dig l[i].f1].length + 1 ≤ 9223372036854775807 by simp)]
        by_cases h2 : l[i].f2 = true
        · simp only [if_pos h2]
          rw [show entT l[i] = [dig l[i].f1] ++ [119] by unfold entT; rw [if_pos h0, if_pos h2], ← ba_append] at ih'
          exact ih'
        · simp only [if_neg h2]
          rw [show entT l[i] = [dig l[i].f1] by unfold entT; rw [if_pos h0, if_neg h2, List.append_nil]] at ih'
          exact ih'
      · have h2 := (ent_none he h0).2
        simp only [if_neg h0]
        rw [show entT l[i] = [45] by unfold entT; rw [if_neg h0, h2]; simp] at ih'
        exact ih'
  exact H l.length 0 (by omega) [] rfl
theorem l6Dec_ev (p : Int) (h : 0 ≤ p ∧ p ≤ 5) : Ev (fun k => spec_l6Dec.f k p) (⟨[dig p].toArray⟩ : ByteArray) := by
  refine Ev.succ ?_
  simp only [spec_l6Dec.f, if_neg (show ¬ p < -9223372036854775807 by omega), if_neg (show ¬ p < 0 by omega), if_pos (show p < 10 by omega), wr (48 + p) (by omega)]
  exact Ev.cast (by unfold strOfNums dig; rw [show ((48 + p) % 256 : Int) = 48 + p by omega]; simp [show (48 + p).toNat = 48 + p.toNat by omega]) (Ev.now _)
theorem sTabText_ev (l : List S44) (hl : (l.length : Int) ≤ 1000000000000) : Ev (fun k => spec_TabText.f k l) (tabTx l) := by
  unfold spec_TabText.f tabTx
  refine Ev.bind (sTabOk_ev l (by omega)) ?_
  cases hb : tabB l
  · simp only [Bool.false_eq_true, if_false]; exact Ev.now _
  simp only [if_true]
  have h6 := tT_len hb
  have H : ∀ d i : Nat, i + d = l.length → ∀ s : List UInt8, s.length ≤ 3 * i → Ev (fun k => spec_TabText.l0 k l ⟨s.toArray⟩ (i : Int)) (⟨(s ++ (Lib.join ((l.drop i).map entT) [32] ++ [10])).toArray⟩ : ByteArray) := by
    intro d
    induction d with
    | zero =>
      intro i hi s hs
      obtain rfl : i = l.length := by omega
      refine Ev.succ ?_
      simp only [spec_TabText.l0, Int.lt_irrefl, if_false, ba_size, if_pos (show s.length + 1 ≤ 9223372036854775807 by omega)]
      exact Ev.cast (by rw [List.drop_length, List.map_nil, Lib.join_nil, List.nil_append, ← ba_append]) (Ev.now _)
    | succ d ih =>
      intro i hi s hs
      have hlt : i < l.length := by omega
      have he := tT_ent hb (List.getElem_mem hlt)
      have J : ∀ t : List UInt8, t.length ≤ 1 → t ++ (if l[i].f2 = true then [119] else []) = entT l[i] → Ev (fun k => spec_TabText.j1 k l ⟨(s ++ t).toArray⟩ (i : Int)) (⟨(s ++ (Lib.join ((l.drop i).map entT) [32] ++ [10])).toArray⟩ : ByteArray) := by
        intro t ht hte
        have hstep : ∀ u : List UInt8, u = s ++ entT l[i] → ((i + 1 < l.length → Ev (fun k => spec_TabText.l0 k l ⟨(u ++ [32]).toArray⟩ ((i + 1 : Nat) : Int)) (⟨(s ++ (Lib.join ((l.drop i).map entT) [32] ++ [10])).toArray⟩ : ByteArray)) ∧ (¬ i + 1 < l.length → Ev (fun k => spec_TabText.l0 k l ⟨u.toArray⟩ ((i + 1 : Nat) : Int)) (⟨(s ++ (Lib.join ((l.drop i).map entT) [32] ++ [10])).toArray⟩ : ByteArray))) := by
          intro u hu
          have hel := entT_len l[i]
          constructor
          · intro hn
            refine Ev.cast ?_ (ih (i + 1) (by omega) (u ++ [32]) (by rw [hu]; simp; omega))
            rw [drop_cons hlt, drop_cons hn]
            simp only [List.map_cons]
            rw [join_step, hu]
            simp [List.append_assoc]
          · intro hn
            refine Ev.cast ?_ (ih (i + 1) (by omega) u (by rw [hu]; simp; omega))
            rw [drop_cons hlt, List.drop_eq_nil_of_le (show l.length ≤ i + 1 by omega), List.map_cons, List.map_nil, Lib.join_one, Lib.join_nil, hu]
            simp [List.append_assoc]
        refine Ev.succ ?_
        simp only [spec_TabText.j1, if_pos (Int.natCast_nonneg i), if_pos (Int.ofNat_lt.mpr hlt), rdE_at hlt, wr1 i (by omega), ba_size]
        have hsl : (s ++ t).length ≤ 3 * i + 1 := by simp; omega
        simp only [if_pos (show (s ++ t).length + 1 ≤ 9223372036854775807 by omega)]
        by_cases h2 : l[i].f2 = true
        · rw [if_pos h2] at hte
          have hc := hstep (s ++ t ++ [119]) (by rw [← hte, List.append_assoc])
          simp only [if_pos h2]
          rw [show (⟨#[119]⟩ : ByteArray) = ⟨[119].toArray⟩ from rfl, ba_append, show (⟨#[32]⟩ : ByteArray) = ⟨[32].toArray⟩ from rfl, ba_append]
          by_cases hn : i + 1 < l.length
          · simp only [if_pos (show ((i + 1 : Nat) : Int) < (l.length : Int) by omega), ba_size, if_pos (show (s ++ t ++ [119]).length + 1 ≤ 9223372036854775807 by simp at hsl ⊢; omega)]
            exact hc.1 hn
          · simp only [if_neg (show ¬ ((i + 1 : Nat) : Int) < (l.length : Int) by omega)]
            exact hc.2 hn
        · rw [if_neg h2, List.append_nil] at hte
          have hc := hstep (s ++ t) (by rw [← hte])
          simp only [if_neg h2]
          rw [show (⟨#[32]⟩ : ByteArray) = ⟨[32].toArray⟩ from rfl, ba_append]
          by_cases hn : i + 1 < l.length
          · simp only [if_pos (show ((i + 1 : Nat) : Int) < (l.length : Int) by omega)]
            exact hc.1 hn
          · simp only [if_neg (show ¬ ((i + 1 : Nat) : Int) < (l.length : Int) by omega)]
            exact hc.2 hn
      refine Ev.succ ?_
      simp only [spec_TabText.l0, if_pos (Int.ofNat_lt.mpr hlt), if_pos (Int.natCast_nonneg i), rdE_at hlt]
      by_cases h0 : l[i].f0 = true
      · have hp := tT_page he h0
        simp only [if_pos h0]
        refine Ev.bind (l6Dec_ev _ hp) ?_
        simp only [ba_size, if_pos (show s.length + [dig l[i].f1].length ≤ 9223372036854775807 by simp; omega), ba_append]
        exact J [dig l[i].f1] (by simp) (by unfold entT; rw [if_pos h0])
      · simp only [if_neg h0, ba_size, if_pos (show s.length + 1 ≤ 9223372036854775807 by omega), show (⟨#[45]⟩ : ByteArray) = ⟨[45].toArray⟩ from rfl, ba_append]
        exact J [45] (by simp) (by unfold entT; rw [if_neg h0])
  have := H l.length 0 (by omega) [] (by simp)
  simpa [tabS] using this

-- the law
theorem FnExactTabText (l : List S60) (hl : l.length ≤ 9223372036854775807) : ∃ k, laws_FnExactTabText.f k l = some true := by
  apply Ev.rounds
  unfold laws_FnExactTabText.f
  rcases szEntryS_eq l hl with e | ⟨n, e, h0, hL⟩
  · simp only [e, Option.bind_some, show ((-1 : Int) < 0) by decide, if_true]; exact Ev.now _
  · simp only [e, Option.bind_some, if_neg (show ¬ n < 0 by omega)]
    have T := toEntryS_ev l hL
    have hm : ((l.map toE).length : Int) ≤ 1000000000000 := by simp; omega
    refine Ev.bind T (Ev.bind (sTabText_ev _ hm) (Ev.bind T (Ev.bind (iTabText_ev _ hm) ?_)))
    simp only [if_true]
    refine Ev.bind T (Ev.bind (eqEntryS_refl _ (by omega)) ?_)
    simp only [if_true]
    exact Ev.now _

end Go.Proofs.YtkadphbjfhbapaaDoor.Pure
