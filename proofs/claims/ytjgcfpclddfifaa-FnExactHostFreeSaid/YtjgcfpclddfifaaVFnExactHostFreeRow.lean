/- The row of the law FnExactHostFree: called with whatever arguments, the Go function answers true and leaves them as they were. Conditions: none beyond the statement given. -/
import Derived.Test.YtjgcfpclddfifaaRows
import Derived.Test.YtjgcfpclddfifaaVFnExactHostFreex15
import Derived.Test.YtjgcfpclddfifaaVFnExactHostFreePure
import Derived.WalkKit
import Derived.ProofKit
import Derived.OpenShut
import Derived.ShutString
import Derived.ChangeOld
import Derived.Below
import Derived.SizedLaws
import Derived.Deep.Slices
import Derived.Deep.Strs
import Derived.Lib.SmallJoins
namespace Go.Proofs.Ytjgcfpclddfifaa.fnExactHostFree
open Go Go.ChangeShapes Go.WideShapes Go.ChangeAt Go.RowKit Go.Proofs.Ytjgcfpclddfifaa.QFnExactHostFree
open Go.ChangeMaps (open_string shut_string)
set_option linter.unusedVariables false
theorem own : ownKnob Try.prog.godebug = none := by kernel_rfl
theorem laidOut : laidOutB Try.prog = true := by kernel_rfl
open Go.Proofs.YtjgcfpclddfifaaW.PrintWords
/-- What a type's cells read as: a value of the kind d. -/
def Opens {α H : Type} (enc : TypeId × Value → H) (P : Program) (W : World) (base : Nat) (spare : Nat → Bool) (held : Bool) (t : TypeId) (d : Kd α) : Prop :=
  ∀ (fuel : Nat) (cs : List Value) (x : DataW H × List MemPlace), DataW.trod enc P W base spare held fuel t cs = some x → ∃ a : α, d.K W a cs
section
variable {α β γ H : Type} {enc : TypeId × Value → H} {P : Program} {W : World} {base : Nat} {spare : Nat → Bool} {held : Bool}
theorem opens_int {t : TypeId} {k : IntKind} (ht : P.underlying t = some (.int k)) : Opens enc P W base spare held t (Kd.int k) := fun _ _ _ hx => by
  obtain ⟨n, rfl, _, _⟩ := DataW.trod_int ht hx
  exact ⟨n, rfl⟩
theorem opens_bool {t : TypeId} (ht : P.underlying t = some .bool) : Opens enc P W base spare held t Kd.bool := fun _ _ _ hx => by
  obtain ⟨n, rfl, _⟩ := DataW.trod_bool ht hx
  exact ⟨n, rfl⟩
theorem list_of {α : Type} {p : Nat → α → Prop} : ∀ n : Nat, (∀ i, i < n → ∃ x, p i x) → ∃ xs : List α, xs.length = n ∧ ∀ i x, xs[i]? = some x → p i x := by
  intro n
  induction n with
  | zero => intro _; exact ⟨[], rfl, fun i x h => by simp at h⟩
  | succ n ih =>
    intro h
    obtain ⟨xs, hl, hx⟩ := ih fun i hi => h i (by omega)
    obtain ⟨y, hy⟩ := h n (by omega)
    refine ⟨xs ++ [y], by simp [hl], fun i x hi => ?_⟩
    by_cases c : i < xs.length
    · rw [List.getElem?_append_left c] at hi; exact hx i x hi
    · rw [List.getElem?_append_right (by omega)] at hi
      have e : i = n := by
        by_cases z : i - xs.length = 0
        · omega
        · rw [List.getElem?_eq_none (by simp; omega)] at hi; cases hi
      subst e
      rw [show i - xs.length = 0 by omega] at hi
      simp at hi; subst hi; exact hy
theorem opens_slice {t e : TypeId} {e' : Nat} {d : Kd α} (ht : P.underlying t = some (.slice e)) (hc : P.cellsOf e = d.sz) (he : Opens enc P W base spare held e d) : Opens enc P W base spare held t (Kd.slice e' d) := fun fuel cs x hx => by
  rcases Go.Deep.open_slice ht hx with ⟨rfl, _⟩ | ⟨a, len, cap, m, n, D, Pl, rfl, hb, hl, hm, hmm, _, hel⟩
  · exact ⟨[], none, 0, rfl, by simp, Kd.C_nil d W⟩
  · have hlm : len ≤ m := by rw [hmm]; split <;> omega
    obtain ⟨xs, hxl, hxs⟩ := list_of (p := fun i y => ∃ cs', W.cells? base (a.add (i * P.cellsOf e)) (P.cellsOf e) = some cs' ∧ d.K W y cs') len (fun i hi => by
      obtain ⟨cs', h1, h2⟩ := hel i (by omega)
      obtain ⟨y, hy⟩ := he _ _ _ h2
      exact ⟨y, cs', h1, hy⟩)
    subst hxl
    refine ⟨xs, some a, cap, rfl, hl, ⟨rfl, ?_, fun _ => ⟨a, rfl, fun j p hj => ?_⟩⟩⟩
    · unfold maxLen at hm; omega
    · obtain ⟨cs', h1, hy⟩ := hxs j p hj
      obtain ⟨_, h2, h3⟩ := World.cells?_some h1
      rw [hc] at h1 h2 h3
      refine ⟨cs', h2, hy, fun i u hu => ?_⟩
      have hi : i < d.sz := by rw [← h2]; exact (List.getElem?_eq_some_iff.mp hu).1
      have := h3 i hi
      rw [hu, Go.Deep.add_add] at this
      exact this
theorem opens_iso {t : TypeId} {d : Kd α} (f : β → α) (g : α → β) (hf : ∀ x, f (g x) = x) (h : Opens enc P W base spare held t d) : Opens enc P W base spare held t (Kd.iso d f) := fun fuel cs x hx => by
  obtain ⟨a, ha⟩ := h fuel cs x hx
  exact ⟨g a, by show d.K W (f (g a)) cs; rw [hf]; exact ha⟩
theorem cut3 {cs : List Value} {a b c : Nat} (h : cs.length = a + (b + c)) : cs = (cs.drop 0).take a ++ ((cs.drop a).take b ++ (cs.drop (a + b)).take c) := by
  have h1 : (cs.drop (a + b)).take c = cs.drop (a + b) := List.take_of_length_le (by simp; omega)
  rw [h1, List.drop_zero, ← List.drop_drop, List.take_append_drop, List.take_append_drop]
theorem opens_struct3 {δ : Type} {t : TypeId} {f0 f1 f2 : Field} {d0 : Kd α} {d1 : Kd β} {d2 : Kd δ} (ht : P.underlying t = some (.struct #[f0, f1, f2])) (hc : P.cellsOf t = d0.sz + (d1.sz + d2.sz))
    (c0 : P.cellsOf f0.type = d0.sz) (c1 : P.cellsOf f1.type = d1.sz) (c2 : P.cellsOf f2.type = d2.sz) (o0 : f0.offset = 0) (o1 : f1.offset = d0.sz) (o2 : f2.offset = d0.sz + d1.sz)
    (h0 : Opens enc P W base spare held f0.type d0) (h1 : Opens enc P W base spare held f1.type d1) (h2 : Opens enc P W base spare held f2.type d2) :
    Opens enc P W base spare held t (Kd.pair d0 (Kd.pair d1 d2)) := fun fuel cs x hx => by
  obtain ⟨y0, y1, y2, n, _, hl, g0, g1, g2⟩ := Go.Deep.trod_struct3 ht hx
  obtain ⟨a0, k0⟩ := h0 _ _ _ g0
  obtain ⟨a1, k1⟩ := h1 _ _ _ g1
  obtain ⟨a2, k2⟩ := h2 _ _ _ g2
  rw [o0, c0] at k0; rw [o1, c1] at k1; rw [o2, c2] at k2
  exact ⟨(a0, a1, a2), _, _, cut3 (hl.trans hc), k0, _, _, rfl, k1, k2⟩
theorem cut4 {cs : List Value} {a b c d : Nat} (h : cs.length = a + (b + (c + d))) : cs = (cs.drop 0).take a ++ ((cs.drop a).take b ++ ((cs.drop (a + b)).take c ++ (cs.drop (a + b + c)).take d)) := by
  have h1 : (cs.drop (a + b + c)).take d = cs.drop (a + b + c) := List.take_of_length_le (by simp; omega)
  rw [h1, List.drop_zero, ← List.drop_drop (i := c) (j := a + b), List.take_append_drop, ← List.drop_drop, List.take_append_drop, List.take_append_drop]
theorem opens_struct4 {δ ε : Type} {t : TypeId} {f0 f1 f2 f3 : Field} {d0 : Kd α} {d1 : Kd β} {d2 : Kd δ} {d3 : Kd ε} (ht : P.underlying t = some (.struct #[f0, f1, f2, f3])) (hc : P.cellsOf t = d0.sz + (d1.sz + (d2.sz + d3.sz)))
    (c0 : P.cellsOf f0.type = d0.sz) (c1 : P.cellsOf f1.type = d1.sz) (c2 : P.cellsOf f2.type = d2.sz) (c3 : P.cellsOf f3.type = d3.sz) (o0 : f0.offset = 0) (o1 : f1.offset = d0.sz) (o2 : f2.offset = d0.sz + d1.sz) (o3 : f3.offset = d0.sz + d1.sz + d2.sz)
    (h0 : Opens enc P W base spare held f0.type d0) (h1 : Opens enc P W base spare held f1.type d1) (h2 : Opens enc P W base spare held f2.type d2) (h3 : Opens enc P W base spare held f3.type d3) :
    Opens enc P W base spare held t (Kd.pair d0 (Kd.pair d1 (Kd.pair d2 d3))) := fun fuel cs x hx => by
  obtain ⟨y0, y1, y2, y3, n, _, hl, g0, g1, g2, g3⟩ := Go.Joins.trod_struct4 ht hx
  obtain ⟨a0, k0⟩ := h0 _ _ _ g0
  obtain ⟨a1, k1⟩ := h1 _ _ _ g1
  obtain ⟨a2, k2⟩ := h2 _ _ _ g2
  obtain ⟨a3, k3⟩ := h3 _ _ _ g3
  rw [o0, c0] at k0; rw [o1, c1] at k1; rw [o2, c2] at k2; rw [o3, c3] at k3
  exact ⟨(a0, a1, a2, a3), _, _, cut4 (hl.trans hc), k0, _, _, rfl, k1, _, _, rfl, k2, k3⟩
theorem rows_max {e : Nat} {d : Kd α} {A : Option Addr} {n : Nat} {xs : List (List α)} (h : Kd.C (Kd.slice e d) W A n xs) : ∀ r ∈ xs, r.length ≤ 9223372036854775807 := by
  intro r hr
  obtain ⟨j, hj⟩ := List.getElem?_of_mem hr
  have hn : 0 < n := by rw [← h.1]; exact List.length_pos_of_mem hr
  obtain ⟨ad, _, hc⟩ := h.2.2 hn
  obtain ⟨c, _, ⟨A', c', _, _, hC⟩, _⟩ := hc j r hj
  exact Kd.C_max hC
end

theorem opens99 {H : Type} {enc : TypeId × Value → H} {W : World} {base : Nat} {spare : Nat → Bool} {held : Bool} : Opens enc Try.prog W base spare held 99 k99 :=
  opens_iso (fun x : S99 => (x.f0, x.f1, x.f2)) (fun x => (⟨x.1, x.2.1, x.2.2⟩ : S99)) (fun _ => rfl) (opens_struct3 Try.underlying99 (by kernel_rfl) (by kernel_rfl) (by kernel_rfl) (by kernel_rfl) (by kernel_rfl) (by kernel_rfl) (by kernel_rfl) (opens_bool Try.underlying4) (opens_int Try.underlying3) (opens_bool Try.underlying4))
theorem opens101 {H : Type} {enc : TypeId × Value → H} {W : World} {base : Nat} {spare : Nat → Bool} {held : Bool} : Opens enc Try.prog W base spare held 101 k101 :=
  opens_iso (fun x : S101 => (x.f0, x.f1, x.f2, x.f3)) (fun x => (⟨x.1, x.2.1, x.2.2.1, x.2.2.2⟩ : S101)) (fun _ => rfl) (opens_struct4 Try.underlying101 (by kernel_rfl) (by kernel_rfl) (by kernel_rfl) (by kernel_rfl) (by kernel_rfl) (by kernel_rfl) (by kernel_rfl) (by kernel_rfl) (by kernel_rfl) (opens_bool Try.underlying4) (opens_int Try.underlying3) (opens_int Try.underlying3) (opens_bool Try.underlying4))
theorem opens80 {H : Type} {enc : TypeId × Value → H} {W : World} {base : Nat} {spare : Nat → Bool} {held : Bool} : Opens enc Try.prog W base spare held 80 k80 :=
  opens_iso (fun x : S80 => (x.f0, x.f1, x.f2)) (fun x => (⟨x.1, x.2.1, x.2.2⟩ : S80)) (fun _ => rfl) (opens_struct3 Try.underlying80 (by kernel_rfl) (by kernel_rfl) (by kernel_rfl) (by kernel_rfl) (by kernel_rfl) (by kernel_rfl) (by kernel_rfl) (opens_slice Try.underlying77 (by kernel_rfl) opens99) (opens_slice Try.underlying23 (by kernel_rfl) (opens_slice Try.underlying45 (by kernel_rfl) (opens_int Try.underlying3))) (opens_slice Try.underlying78 (by kernel_rfl) opens101))
theorem guests_max {W : World} {A : Option Addr} {n : Nat} {xs : List S80} (h : Kd.C k80 W A n xs) : ∀ g ∈ xs, g.f0.length ≤ 9223372036854775807 ∧ (g.f1.length ≤ 9223372036854775807 ∧ ∀ r ∈ g.f1, r.length ≤ 9223372036854775807) ∧ g.f2.length ≤ 9223372036854775807 := by
  intro g hg
  obtain ⟨j, hj⟩ := List.getElem?_of_mem hg
  have hn : 0 < n := by rw [← h.1]; exact List.length_pos_of_mem hg
  obtain ⟨ad, _, hc⟩ := h.2.2 hn
  obtain ⟨c, _, hK, _⟩ := hc j g hj
  obtain ⟨A0, c0, A1, c1, A2, c2, _, _, g0, _, g1, _, g2⟩ := k80_open hK
  exact ⟨Kd.C_max g0, ⟨Kd.C_max g1, rows_max g1⟩, Kd.C_max g2⟩
set_option maxRecDepth 100000 in
theorem lifted (os : Os) (started : os.Started) (H : Type) (enc : TypeId × Value → H) :
    ReturnsInHanded {} Try.checked os 6 .any (Rows.fnExactHostFreeSpec.pre6 enc Try.prog Try.f6 Rows.fnExactHostFreeRow.domain false) (Rows.fnExactHostFreeSpec.post enc Try.prog Try.f6 false true false false) := by
  refine returnsInHanded_of_change_sized (C := Try.checked) own started (by kernel_rfl) Try.func6
    (ChangeSpec.witness6 (enc := enc) (C := Try.checked) false ⟨#[], #[.agg #[.slice none 0 0, .slice none 0 0, .int .i64 0]], []⟩ 8 (by kernel_rfl) (by kernel_rfl) (by kernel_rfl) (by kernel_rfl)) ?_
  intro W base args ds gs before hval0 hW hcnd hsz0 _
  have hval : ∀ (j : Nat) t v, Try.f6.params[j]? = some t → args[j]? = some v → Value.okWide Try.prog W .any base t v := hval0
  have hW' := hW
  obtain ⟨p, q, hA0, hV, rfl, hfz, hnd⟩ := hW
  have hA : DataW.TrodAll enc Try.prog W 0 (fun _ => true) true Try.f6.params.toList args.toList ds p := hA0
  rw [Try.params6] at hA hval
  obtain ⟨v0, vs0, d0, ds0, p0, q0, hargs, rfl, rfl, h0, r0⟩ := trodAll_cons hA
  obtain ⟨rfl, rfl, rfl⟩ := trodAll_nil r0
  obtain rfl : args = #[v0] := by cases args; simp_all
  obtain ⟨rfl, rfl⟩ := trodVars_none hV
  have k0 := h0
  have lt0 : ∀ x ∈ p0, x.block < W.heap.size := by obtain ⟨m, hm⟩ := k0; exact DataW.trod_lt m _ _ _ hm
  obtain ⟨c0, c1, c2, y0, y1, y2, m, rfl, rfl, rfl, e0, e1, e2⟩ := Go.Joins.open_agg3 Try.underlying43 (by kernel_rfl) (by kernel_rfl) (hval 0 43 v0 rfl rfl) h0
  obtain ⟨l0, A0, cap0, g0, hc0, hr0⟩ := (opens_slice (e' := 0) Try.underlying23 (by kernel_rfl) (opens_slice Try.underlying45 (by kernel_rfl) (opens_int Try.underlying3))) _ _ _ e0
  obtain ⟨l1, A1, cap1, g1, hc1, hr1⟩ := (opens_slice (e' := 0) Try.underlying41 (by kernel_rfl) opens80) _ _ _ e1
  obtain ⟨b2, g2, _, w2⟩ := DataW.trod_int Try.underlying3 e2
  obtain rfl := List.head_eq_of_cons_eq g0
  obtain rfl := List.head_eq_of_cons_eq g1
  obtain rfl := List.head_eq_of_cons_eq g2
  obtain ⟨k, h⟩ := Pure.FnExactHostFree l0 l1 b2 (Kd.C_max hr0) (rows_max hr0) (Kd.C_max hr1) (guests_max hr1) w2
  refine (laws_FnExactHostFree.calls k A0 _ l0 A1 _ l1 b2 true W hr0 hc0 hr1 hc1 h).mono fun e W' ⟨he, bel0⟩ => ?_
  have bel : Below W.heap.size W W' := by first | exact bel0 | exact bel0.below
  subst he
  exact ⟨_, rfl, _, _, _, [], _, [], hW', trodAll_mk1 (shut_bool Try.underlying4 _), (trodAll_cons_mk (Below.trod laidOut (by kernel_rfl) (of_decide_eq_true (by kernel_rfl)) k0 bel lt0) trodAll_mk0), rfl, bel.frame _, fun h => by cases h⟩
theorem over : Rows.fnExactHostFreeRow.holds Try.pinned (OpenSpec.ofChange Rows.fnExactHostFreeSpec) :=
  OpenClaim.holds_of_wide 6 Try.f6 rfl rfl rfl rfl rfl rfl rfl ⟨rfl, rfl, rfl, rfl, rfl⟩ rfl rfl rfl rfl rfl (by kernel_rfl) Try.func6 (by kernel_rfl)
    (of_decide_eq_true (by kernel_rfl)) (by unfold Func.isWrapper; first | (rw [if_pos (by decide +kernel)]; kernel_rfl) | (rw [if_neg (by decide +kernel)]; exact ⟨rfl, rfl⟩))
    (fun os started H enc _ => lifted os started H enc)
theorem proved : Rows.FnExactHostFreeSaid := over
#print axioms proved
end Go.Proofs.Ytjgcfpclddfifaa.fnExactHostFree
namespace Go.Proofs.Ytjgcfpclddfifaa
/-- The row, under a short name, for the claim. -/
theorem fnExactHostFree_holds : Rows.FnExactHostFreeSaid := fnExactHostFree.proved
end Go.Proofs.Ytjgcfpclddfifaa
