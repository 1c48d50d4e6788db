/- The row of the law FnExactHostLoad: called with whatever arguments, the Go function answers true and leaves them as they were. Conditions: none beyond the statement given. -/
import Derived.Test.YtjgcfpclddfifaaRows
import Derived.Test.YtjgcfpclddfifaaVFnExactHostLoadx11
import Derived.Test.YtjgcfpclddfifaaVFnExactHostLoadPure
import Derived.WalkKit
import Derived.ProofKit
import Derived.OpenShut
import Derived.ShutString
import Derived.ChangeOld
import Derived.Below
import Derived.SizedLaws
import Derived.Deep.Slices
import Derived.Deep.Strs
import Derived.Lib.SmallJoins
namespace Go.Proofs.Ytjgcfpclddfifaa.fnExactHostLoad
open Go Go.ChangeShapes Go.WideShapes Go.ChangeAt Go.RowKit Go.Proofs.Ytjgcfpclddfifaa.QFnExactHostLoad
open Go.ChangeMaps (open_string shut_string)
set_option linter.unusedVariables false
theorem own : ownKnob Try.prog.godebug = none := by kernel_rfl
theorem laidOut : laidOutB Try.prog = true := by kernel_rfl
open Go.Proofs.YtjgcfpclddfifaaW.PrintWords
/-- What a type's cells read as: a value of the kind d. -/
def Opens {α H : Type} (enc : TypeId × Value → H) (P : Program) (W : World) (base : Nat) (spare : Nat → Bool) (held : Bool) (t : TypeId) (d : Kd α) : Prop :=
  ∀ (fuel : Nat) (cs : List Value) (x : DataW H × List MemPlace), DataW.trod enc P W base spare held fuel t cs = some x → ∃ a : α, d.K W a cs
section
variable {α β γ H : Type} {enc : TypeId × Value → H} {P : Program} {W : World} {base : Nat} {spare : Nat → Bool} {held : Bool}
theorem opens_int {t : TypeId} {k : IntKind} (ht : P.underlying t = some (.int k)) : Opens enc P W base spare held t (Kd.int k) := fun _ _ _ hx => by
  obtain ⟨n, rfl, _, _⟩ := DataW.trod_int ht hx
  exact ⟨n, rfl⟩
theorem list_of {α : Type} {p : Nat → α → Prop} : ∀ n : Nat, (∀ i, i < n → ∃ x, p i x) → ∃ xs : List α, xs.length = n ∧ ∀ i x, xs[i]? = some x → p i x := by
  intro n
  induction n with
  | zero => intro _; exact ⟨[], rfl, fun i x h => by simp at h⟩
  | succ n ih =>
    intro h
    obtain ⟨xs, hl, hx⟩ := ih fun i hi => h i (by omega)
    obtain ⟨y, hy⟩ := h n (by omega)
    refine ⟨xs ++ [y], by simp [hl], fun i x hi => ?_⟩
    by_cases c : i < xs.length
    · rw [List.getElem?_append_left c] at hi; exact hx i x hi
    · rw [List.getElem?_append_right (by omega)] at hi
      have e : i = n := by
        by_cases z : i - xs.length = 0
        · omega
        · rw [List.getElem?_eq_none (by simp; omega)] at hi; cases hi
      subst e
      rw [show i - xs.length = 0 by omega] at hi
      simp at hi; subst hi; exact hy
theorem opens_slice {t e : TypeId} {e' : Nat} {d : Kd α} (ht : P.underlying t = some (.slice e)) (hc : P.cellsOf e = d.sz) (he : Opens enc P W base spare held e d) : Opens enc P W base spare held t (Kd.slice e' d) := fun fuel cs x hx => by
  rcases Go.Deep.open_slice ht hx with ⟨rfl, _⟩ | ⟨a, len, cap, m, n, D, Pl, rfl, hb, hl, hm, hmm, _, hel⟩
  · exact ⟨[], none, 0, rfl, by simp, Kd.C_nil d W⟩
  · have hlm : len ≤ m := by rw [hmm]; split <;> omega
    obtain ⟨xs, hxl, hxs⟩ := list_of (p := fun i y => ∃ cs', W.cells? base (a.add (i * P.cellsOf e)) (P.cellsOf e) = some cs' ∧ d.K W y cs') len (fun i hi => by
      obtain ⟨cs', h1, h2⟩ := hel i (by omega)
      obtain ⟨y, hy⟩ := he _ _ _ h2
      exact ⟨y, cs', h1, hy⟩)
    subst hxl
    refine ⟨xs, some a, cap, rfl, hl, ⟨rfl, ?_, fun _ => ⟨a, rfl, fun j p hj => ?_⟩⟩⟩
    · unfold maxLen at hm; omega
    · obtain ⟨cs', h1, hy⟩ := hxs j p hj
      obtain ⟨_, h2, h3⟩ := World.cells?_some h1
      rw [hc] at h1 h2 h3
      refine ⟨cs', h2, hy, fun i u hu => ?_⟩
      have hi : i < d.sz := by rw [← h2]; exact (List.getElem?_eq_some_iff.mp hu).1
      have := h3 i hi
      rw [hu, Go.Deep.add_add] at this
      exact this
/-- A parameter that is a slice. -/
theorem opens_top {t : TypeId} {e' : Nat} {d : Kd α} {A : Option Addr} {len cap : Nat} {D : DataW H} {p : List MemPlace} (h : Opens enc P W base spare held t (Kd.slice e' d)) (hx : DataW.Trod enc P W base spare held t (.slice A len cap) D p) :
    ∃ xs : List α, len = xs.length ∧ xs.length ≤ cap ∧ Kd.C d W A xs.length xs := by
  obtain ⟨fuel, hf⟩ := hx
  obtain ⟨xs, A', c', e, hl, hC⟩ := h _ _ _ hf
  simp [Value.cells] at e
  obtain ⟨rfl, rfl, rfl⟩ := e
  exact ⟨xs, rfl, hl, hC⟩
theorem rows_max {e : Nat} {d : Kd α} {A : Option Addr} {n : Nat} {xs : List (List α)} (h : Kd.C (Kd.slice e d) W A n xs) : ∀ r ∈ xs, r.length ≤ 9223372036854775807 := by
  intro r hr
  obtain ⟨j, hj⟩ := List.getElem?_of_mem hr
  have hn : 0 < n := by rw [← h.1]; exact List.length_pos_of_mem hr
  obtain ⟨ad, _, hc⟩ := h.2.2 hn
  obtain ⟨c, _, ⟨A', c', _, _, hC⟩, _⟩ := hc j r hj
  exact Kd.C_max hC
end

set_option maxRecDepth 100000 in
theorem lifted (os : Os) (started : os.Started) (H : Type) (enc : TypeId × Value → H) :
    ReturnsInHanded {} Try.checked os 5 .any (Rows.fnExactHostLoadSpec.pre6 enc Try.prog Try.f5 Rows.fnExactHostLoadRow.domain false) (Rows.fnExactHostLoadSpec.post enc Try.prog Try.f5 false true false false) := by
  refine returnsInHanded_of_change_sized (C := Try.checked) own started (by kernel_rfl) Try.func5
    (ChangeSpec.witness6 (enc := enc) (C := Try.checked) false ⟨#[], #[.slice none 0 0], []⟩ 8 (by kernel_rfl) (by kernel_rfl) (by kernel_rfl) (by kernel_rfl)) ?_
  intro W base args ds gs before hval0 hW hcnd hsz0 _
  have hval : ∀ (j : Nat) t v, Try.f5.params[j]? = some t → args[j]? = some v → Value.okWide Try.prog W .any base t v := hval0
  have hW' := hW
  obtain ⟨p, q, hA0, hV, rfl, hfz, hnd⟩ := hW
  have hA : DataW.TrodAll enc Try.prog W 0 (fun _ => true) true Try.f5.params.toList args.toList ds p := hA0
  rw [Try.params5] at hA hval
  obtain ⟨v0, vs0, d0, ds0, p0, q0, hargs, rfl, rfl, h0, r0⟩ := trodAll_cons hA
  obtain ⟨rfl, rfl, rfl⟩ := trodAll_nil r0
  obtain rfl : args = #[v0] := by cases args; simp_all
  obtain ⟨rfl, rfl⟩ := trodVars_none hV
  have k0 := h0
  have lt0 : ∀ x ∈ p0, x.block < W.heap.size := by obtain ⟨m, hm⟩ := k0; exact DataW.trod_lt m _ _ _ hm
  obtain ⟨A0, len0, cap0, rfl⟩ := okWide_slice Try.underlying23 (hval 0 23 v0 rfl rfl)
  obtain ⟨l0, rfl, hc0, hr0⟩ := opens_top (e' := 0) (opens_slice Try.underlying23 (by kernel_rfl) (opens_slice Try.underlying45 (by kernel_rfl) (opens_int Try.underlying3))) h0
  obtain ⟨k, h⟩ := Pure.FnExactHostLoad l0 (Kd.C_max hr0) (rows_max hr0)
  refine (laws_FnExactHostLoad.calls k A0 _ l0 true W hr0 hc0 h).mono fun e W' ⟨he, bel0⟩ => ?_
  have bel : Below W.heap.size W W' := by first | exact bel0 | exact bel0.below
  subst he
  exact ⟨_, rfl, _, _, _, [], _, [], hW', trodAll_mk1 (shut_bool Try.underlying4 _), (trodAll_cons_mk (Below.trod laidOut (by kernel_rfl) (of_decide_eq_true (by kernel_rfl)) k0 bel lt0) trodAll_mk0), rfl, bel.frame _, fun h => by cases h⟩
theorem over : Rows.fnExactHostLoadRow.holds Try.pinned (OpenSpec.ofChange Rows.fnExactHostLoadSpec) :=
  OpenClaim.holds_of_wide 5 Try.f5 rfl rfl rfl rfl rfl rfl rfl ⟨rfl, rfl, rfl, rfl, rfl⟩ rfl rfl rfl rfl rfl (by kernel_rfl) Try.func5 (by kernel_rfl)
    (of_decide_eq_true (by kernel_rfl)) (by unfold Func.isWrapper; first | (rw [if_pos (by decide +kernel)]; kernel_rfl) | (rw [if_neg (by decide +kernel)]; exact ⟨rfl, rfl⟩))
    (fun os started H enc _ => lifted os started H enc)
theorem proved : Rows.FnExactHostLoadSaid := over
#print axioms proved
end Go.Proofs.Ytjgcfpclddfifaa.fnExactHostLoad
namespace Go.Proofs.Ytjgcfpclddfifaa
/-- The row, under a short name, for the claim. -/
theorem fnExactHostLoad_holds : Rows.FnExactHostLoadSaid := fnExactHostLoad.proved
end Go.Proofs.Ytjgcfpclddfifaa
