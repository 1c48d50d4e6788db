/- Walks of this claim: each Go function that the law reaches comes to what the Lean function beside it says. Conditions: none beyond those that each theorem names. -/
import Derived.Test.YtbphhgahedahdaaQFnOverLessx0
import Derived.Test.YtbphhgahedahdaaQFnOverLessx1
import Derived.Test.YtbphhgahedahdaaQFnOverLessx3
import Derived.Test.YtbphhgahedahdaaQFnOverLessx4
import Derived.Test.YtbphhgahedahdaaQFnOverLessx5
namespace Go.Proofs.Ytbphhgahedahdaa.QFnOverLess
open Go.RowKit Go.Proofs.YtbphhgahedahdaaW.PrintWords Go.Proofs.YtbphhgahedahdaaW.PrintLast Go.Proofs.YtbphhgahedahdaaW.PrintMore
attribute [local go_sem] max2_int min2_int max_two min_two max_three min_three max_four min_four   -- for this text's walks alone
set_option linter.unusedVariables false
set_option linter.unusedSimpArgs false

attribute [local go_sem high] eqA24
/-! ### laws_FnOverLess: function 9 -/
mutual
def laws_FnOverLess.j0 : Nat → List Int → List Int → Bool → Option (Bool)
  | 0, _, _, _ => none
  | k + 1, x0, x1, x21 => if x21 = true then (some true) else ((spec_DrawTabOver.f k x0).bind fun bt223 => ((impl_TabOver.f k bt223.1 bt223.2).bind fun t229 => ((spec_TabOver.f k bt223.1 bt223.2).bind fun t232 => ((laws_lkTab.f k t229 t232).bind fun t235 => (if t235 = true then (laws_FnOverLess.j1 k x1 bt223.1 bt223.2 t229 ((t229.length : Int) == 0)) else (laws_FnOverLess.j1 k x1 bt223.1 bt223.2 t229 true))))))
def laws_FnOverLess.j1 : Nat → List Int → List (S24) → List (S24) → List (S24) → Bool → Option (Bool)
  | 0, _, _, _, _, _ => none
  | k + 1, x1, x5, x6, x7, x40 => if x40 = true then ((spec_TabOver.f k x5 x6).bind fun t236 => ((laws_lkTab.f k x7 t236).bind fun t239 => (some t239))) else ((some (([] : List (S24)) : List (S24))).bind fun y240 => (if y240.length + x6.length < 5864062014805 then ((some (y240 ++ x6 : List (S24))).bind fun y243 => (if 0 ≤ ((x1.length : Int) % 6) then (if ((x1.length : Int) % 6) < (y243.length : Int) then ((impl_TabOver.f k x5 (y243.set (((x1.length : Int) % 6) : Int).toNat (⟨false, 0, false⟩ : S24))).bind fun t247 => ((some (([] : List (S24)) : List (S24))).bind fun y250 => (if y250.length + x6.length < 5864062014805 then ((some (y250 ++ x6 : List (S24))).bind fun y253 => (if ((x1.length : Int) % 6) < (y253.length : Int) then ((impl_TabOver.f k x5 (y253.set (((x1.length : Int) % 6) : Int).toNat (⟨(rd_T24 y253 ((x1.length : Int) % 6)).f0, (rd_T24 y253 ((x1.length : Int) % 6)).f1, false⟩ : S24))).bind fun t257 => (if (t247.length : Int) = (x7.length : Int) then (laws_FnOverLess.j2 k x7 t247 t257 ((t257.length : Int) != (x7.length : Int))) else (laws_FnOverLess.j2 k x7 t247 t257 true))) else (none))) else (none)))) else (none)) else (none))) else (none)))
def laws_FnOverLess.j2 : Nat → List (S24) → List (S24) → List (S24) → Bool → Option (Bool)
  | 0, _, _, _, _ => none
  | k + 1, x7, x10, x12, x80 => if x80 = true then (some false) else (laws_FnOverLess.l0 k x7 x10 x12 0)
def laws_FnOverLess.l0 : Nat → List (S24) → List (S24) → List (S24) → Int → Option (Bool)
  | 0, _, _, _, _ => none
  | k + 1, x7, x10, x12, x13 => if x13 < 6 then (if 0 ≤ x13 then (if x13 < (x10.length : Int) then (if (rd_T24 x10 x13).f0 = true then (if x13 < (x7.length : Int) then (if (!(((rd_T24 x10 x13).f0) == ((rd_T24 x7 x13).f0)) || (!(((rd_T24 x10 x13).f1) == ((rd_T24 x7 x13).f1)) || (!(((rd_T24 x10 x13).f2) == ((rd_T24 x7 x13).f2))))) = true then (some false) else (if x13 < (x12.length : Int) then (if (((rd_T24 x12 x13).f0) != ((rd_T24 x7 x13).f0)) = true then (some false) else (if (rd_T24 x12 x13).f2 = true then (if ((rd_T24 x7 x13).f2 = true) then (if ((rd_T24 x12 x13).f1) = ((rd_T24 x7 x13).f1) then (laws_FnOverLess.l0 k x7 x10 x12 (wrap64 (x13 + 1))) else (some false)) else (some false)) else (if ((rd_T24 x12 x13).f1) = ((rd_T24 x7 x13).f1) then (laws_FnOverLess.l0 k x7 x10 x12 (wrap64 (x13 + 1))) else (some false)))) else (none))) else (none)) else (if x13 < (x12.length : Int) then (if x13 < (x7.length : Int) then (if (((rd_T24 x12 x13).f0) != ((rd_T24 x7 x13).f0)) = true then (some false) else (if (rd_T24 x12 x13).f2 = true then (if ((rd_T24 x7 x13).f2 = true) then (if ((rd_T24 x12 x13).f1) = ((rd_T24 x7 x13).f1) then (laws_FnOverLess.l0 k x7 x10 x12 (wrap64 (x13 + 1))) else (some false)) else (some false)) else (if ((rd_T24 x12 x13).f1) = ((rd_T24 x7 x13).f1) then (laws_FnOverLess.l0 k x7 x10 x12 (wrap64 (x13 + 1))) else (some false)))) else (none)) else (none))) else (none)) else (none)) else (some true)
end
def laws_FnOverLess.f (k : Nat) (l0 : List Int) (l1 : List Int) : Option (Bool) := if (l0.length : Int) > 1048576 then (laws_FnOverLess.j0 k l0 l1 true) else (laws_FnOverLess.j0 k l0 l1 (decide ((l1.length : Int) > 1048576)))
theorem laws_FnOverLess.mono_l : ∀ k, (∀ y0 y1 y2, LeO (laws_FnOverLess.j0 k y0 y1 y2) (laws_FnOverLess.j0 (k + 1) y0 y1 y2)) ∧ (∀ y0 y1 y2 y3 y4, LeO (laws_FnOverLess.j1 k y0 y1 y2 y3 y4) (laws_FnOverLess.j1 (k + 1) y0 y1 y2 y3 y4)) ∧ (∀ y0 y1 y2 y3, LeO (laws_FnOverLess.j2 k y0 y1 y2 y3) (laws_FnOverLess.j2 (k + 1) y0 y1 y2 y3)) ∧ (∀ y0 y1 y2 y3, LeO (laws_FnOverLess.l0 k y0 y1 y2 y3) (laws_FnOverLess.l0 (k + 1) y0 y1 y2 y3))
  | 0 => ⟨fun _ _ _ r h => by simp [laws_FnOverLess.j0] at h, fun _ _ _ _ _ r h => by simp [laws_FnOverLess.j1] at h, fun _ _ _ _ r h => by simp [laws_FnOverLess.j2] at h, fun _ _ _ _ r h => by simp [laws_FnOverLess.l0] at h⟩
  | k + 1 => by
    obtain ⟨ih0, ih1, ih2, ih3⟩ := laws_FnOverLess.mono_l k
    refine ⟨?_, ?_, ?_, ?_⟩
    · intro y0 y1 y2
      unfold laws_FnOverLess.j0
      repeat' first
      | (with_reducible exact ih0 _ _ _)
      | (with_reducible exact ih1 _ _ _ _ _)
      | (with_reducible exact ih2 _ _ _ _)
      | (with_reducible exact ih3 _ _ _ _)
      | (with_reducible exact impl_TabOver.mono _ _ _)
      | (with_reducible exact laws_lkTab.mono _ _ _)
      | (with_reducible exact spec_DrawTabOver.mono _ _)
      | (with_reducible exact spec_TabOver.mono _ _ _)
      | (with_reducible exact LeO.refl _)
      | (with_reducible exact LeO.none _)
      | (with_reducible refine LeO.ite ?_ ?_)
      | (with_reducible refine LeO.bind ?_ (fun _ => ?_))
      | exact ih0 _ _ _
      | exact ih1 _ _ _ _ _
      | exact ih2 _ _ _ _
      | exact ih3 _ _ _ _
      | exact impl_TabOver.mono _ _ _
      | exact laws_lkTab.mono _ _ _
      | exact spec_DrawTabOver.mono _ _
      | exact spec_TabOver.mono _ _ _
      | exact LeO.none _
      | refine LeO.ite ?_ ?_
      | refine LeO.bind ?_ (fun _ => ?_)
    · intro y0 y1 y2 y3 y4
      unfold laws_FnOverLess.j1
      repeat' first
      | (with_reducible exact ih0 _ _ _)
      | (with_reducible exact ih1 _ _ _ _ _)
      | (with_reducible exact ih2 _ _ _ _)
      | (with_reducible exact ih3 _ _ _ _)
      | (with_reducible exact impl_TabOver.mono _ _ _)
      | (with_reducible exact laws_lkTab.mono _ _ _)
      | (with_reducible exact spec_DrawTabOver.mono _ _)
      | (with_reducible exact spec_TabOver.mono _ _ _)
      | (with_reducible exact LeO.refl _)
      | (with_reducible exact LeO.none _)
      | (with_reducible refine LeO.ite ?_ ?_)
      | (with_reducible refine LeO.bind ?_ (fun _ => ?_))
      | exact ih0 _ _ _
      | exact ih1 _ _ _ _ _
      | exact ih2 _ _ _ _
      | exact ih3 _ _ _ _
      | exact impl_TabOver.mono _ _ _
      | exact laws_lkTab.mono _ _ _
      | exact spec_DrawTabOver.mono _ _
      | exact spec_TabOver.mono _ _ _
      | exact LeO.none _
      | refine LeO.ite ?_ ?_
      | refine LeO.bind ?_ (fun _ => ?_)
    · intro y0 y1 y2 y3
      unfold laws_FnOverLess.j2
      repeat' first
      | (with_reducible exact ih0 _ _ _)
      | (with_reducible exact ih1 _ _ _ _ _)
      | (with_reducible exact ih2 _ _ _ _)
      | (with_reducible exact ih3 _ _ _ _)
      | (with_reducible exact impl_TabOver.mono _ _ _)
      | (with_reducible exact laws_lkTab.mono _ _ _)
      | (with_reducible exact spec_DrawTabOver.mono _ _)
      | (with_reducible exact spec_TabOver.mono _ _ _)
      | (with_reducible exact LeO.refl _)
      | (with_reducible exact LeO.none _)
      | (with_reducible refine LeO.ite ?_ ?_)
      | (with_reducible refine LeO.bind ?_ (fun _ => ?_))
      | exact ih0 _ _ _
      | exact ih1 _ _ _ _ _
      | exact ih2 _ _ _ _
      | exact ih3 _ _ _ _
      | exact impl_TabOver.mono _ _ _
      | exact laws_lkTab.mono _ _ _
      | exact spec_DrawTabOver.mono _ _
      | exact spec_TabOver.mono _ _ _
      | exact LeO.none _
      | refine LeO.ite ?_ ?_
      | refine LeO.bind ?_ (fun _ => ?_)
    · intro y0 y1 y2 y3
      unfold laws_FnOverLess.l0
      repeat' first
      | (with_reducible exact ih0 _ _ _)
      | (with_reducible exact ih1 _ _ _ _ _)
      | (with_reducible exact ih2 _ _ _ _)
      | (with_reducible exact ih3 _ _ _ _)
      | (with_reducible exact impl_TabOver.mono _ _ _)
      | (with_reducible exact laws_lkTab.mono _ _ _)
      | (with_reducible exact spec_DrawTabOver.mono _ _)
      | (with_reducible exact spec_TabOver.mono _ _ _)
      | (with_reducible exact LeO.refl _)
      | (with_reducible exact LeO.none _)
      | (with_reducible refine LeO.ite ?_ ?_)
      | (with_reducible refine LeO.bind ?_ (fun _ => ?_))
      | exact ih0 _ _ _
      | exact ih1 _ _ _ _ _
      | exact ih2 _ _ _ _
      | exact ih3 _ _ _ _
      | exact impl_TabOver.mono _ _ _
      | exact laws_lkTab.mono _ _ _
      | exact spec_DrawTabOver.mono _ _
      | exact spec_TabOver.mono _ _ _
      | exact LeO.none _
      | refine LeO.ite ?_ ?_
      | refine LeO.bind ?_ (fun _ => ?_)
theorem laws_FnOverLess.mono : ∀ a0 a1 k, LeO (laws_FnOverLess.f k a0 a1) (laws_FnOverLess.f (k + 1) a0 a1) := by
  intro a0 a1 k
  obtain ⟨ih0, ih1, ih2, ih3⟩ := laws_FnOverLess.mono_l k
  unfold laws_FnOverLess.f
  repeat' first
      | (with_reducible exact ih0 _ _ _)
      | (with_reducible exact ih1 _ _ _ _ _)
      | (with_reducible exact ih2 _ _ _ _)
      | (with_reducible exact ih3 _ _ _ _)
      | (with_reducible exact impl_TabOver.mono _ _ _)
      | (with_reducible exact laws_lkTab.mono _ _ _)
      | (with_reducible exact spec_DrawTabOver.mono _ _)
      | (with_reducible exact spec_TabOver.mono _ _ _)
      | (with_reducible exact LeO.refl _)
      | (with_reducible exact LeO.none _)
      | (with_reducible refine LeO.ite ?_ ?_)
      | (with_reducible refine LeO.bind ?_ (fun _ => ?_))
      | exact ih0 _ _ _
      | exact ih1 _ _ _ _ _
      | exact ih2 _ _ _ _
      | exact ih3 _ _ _ _
      | exact impl_TabOver.mono _ _ _
      | exact laws_lkTab.mono _ _ _
      | exact spec_DrawTabOver.mono _ _
      | exact spec_TabOver.mono _ _ _
      | exact LeO.none _
      | refine LeO.ite ?_ ?_
      | refine LeO.bind ?_ (fun _ => ?_)
set_option maxHeartbeats 8000000 in
set_option maxRecDepth 100000 in
theorem laws_FnOverLess.calls (k : Nat) (A0 : Option Addr) (c0 : Nat) (l0 : List Int) (A1 : Option Addr) (c1 : Nat) (l1 : List Int) (r : Bool) (w : World) (hr0 : Kd.C (Kd.int .u8) w A0 l0.length l0) (hc0 : l0.length ≤ c0) (hr1 : Kd.C (Kd.int .u8) w A1 l1.length l1) (hc1 : l1.length ≤ c1) (h : laws_FnOverLess.f k l0 l1 = some r) :
    Calls Try.prog 9 #[.slice A0 l0.length c0, .slice A1 l1.length c1] w fun e w' => e = .returned (.bool r) ∧ Below w.heap.size w w' := by
  have hu24 := Try.underlying24
  have HR0 := Aside0.mk hr0
  have HC0 := Aside0.mk hc0
  clear hr0 hc0
  have HR1 := Aside0.mk hr1
  have HC1 := Aside0.mk hc1
  clear hr1 hc1
  have HB := Aside0.mk (Below.refl w.heap.size w)
  have H : (if (l0.length : Int) > 1048576 then (laws_FnOverLess.j0 k l0 l1 true) else (laws_FnOverLess.j0 k l0 l1 (decide ((l1.length : Int) > 1048576)))) = some r := h
  clear h
  have HC3 := Aside0.mk H
  clear H
  go_enter Try.func9, Try.ntmps9
  go_upto_region 1 with (fail)
  repeat (go_quiet (fail); go_upto_region 1 with (fail))
  go_cut [21] (fun v21 wc => ∃ (kq : Nat) (x21_2 : Bool), v21 = .bool x21_2 ∧ Aside0 (laws_FnOverLess.j0 kq l0 l1 x21_2 = some r) ∧ Aside0 (kq ≤ k) ∧ Aside0 (Below w.heap.size w wc))
  case first =>
    have H := HC3.out
    clear HC3
    by_cases c4 : (l0.length : Int) > 1048576
    · rw [if_pos c4] at H
      have c4b0 : decide (1048576 < (l0.length : Int)) = true := decide_eq_true c4
      have c4b1 : decide (1048576 < l0.length) = true := decide_eq_true (by omega)
      clear c4
      (first | rw [c4b0] | (simp only [i64_w, i32_w]; rw [c4b0]) | skip)
      have H' := Aside0.mk H
      clear H
      go_wp2
      repeat (go_quiet (fail); try go_wp2)
      go_meet
      case rel => exact ⟨_, (true), (by first | rfl | (simp; done) | (simp [*]; done)), H', ⟨by first | omega | exact Nat.le_refl _⟩, ⟨by repeat (first | (with_reducible first | exact HB.out | apply below_alloc | apply pw_below_drewN | apply below_drew1) | exact HB.out)⟩⟩
    · rw [if_neg c4] at H
      have c4b0 : decide (1048576 < (l0.length : Int)) = false := decide_eq_false c4
      have c4b1 : decide (1048576 < l0.length) = false := decide_eq_false (by omega)
      clear c4
      (first | rw [c4b0] | (simp only [i64_w, i32_w]; rw [c4b0]) | skip)
      have H' := Aside0.mk H
      clear H
      go_wp2
      repeat (go_quiet (fail); try go_wp2)
      go_meet
      case rel => exact ⟨_, (decide ((l1.length : Int) > 1048576)), (by first | rfl | (simp; done) | (simp [*]; done)), H', ⟨by first | omega | exact Nat.le_refl _⟩, ⟨by repeat (first | (with_reducible first | exact HB.out | apply below_alloc | apply pw_below_drewN | apply below_drew1) | exact HB.out)⟩⟩
  case rest =>
    clear HC3
    try clear c1
    try clear p2
    try clear c4
    try clear c4b0
    try clear c4b1
    obtain ⟨kq, x21_2, rfl, HA, HJ2, HB⟩ := hcut
    cases kq with
    | zero => exact absurd HA.out (by simp [laws_FnOverLess.j0])
    | succ kj2 =>
      have H := HA.out
      clear HA
      simp only [laws_FnOverLess.j0] at H
      by_cases c5 : x21_2 = true
      · subst c5
        have H1 : (some true) = some r := by rw [if_pos rfl] at H; exact H
        clear H
        have H := H1
        clear H1
        obtain rfl := Option.some.inj H
        go_wp2
        repeat (go_quiet (fail); try go_wp2)
        go_ret
        exact ⟨by first | rfl | (simp [errW_none, errW_some] <;> rfl) | (simp [*, errW_none, errW_some] <;> rfl), by repeat (first | (with_reducible first | exact HB.out | apply below_alloc | apply pw_below_drewN | apply below_drew1) | exact HB.out)⟩
      · replace c5 := Bool.eq_false_iff.mpr c5
        subst c5
        have H1 : ((spec_DrawTabOver.f kj2 l0).bind fun bt223 => ((impl_TabOver.f kj2 bt223.1 bt223.2).bind fun t229 => ((spec_TabOver.f kj2 bt223.1 bt223.2).bind fun t232 => ((laws_lkTab.f kj2 t229 t232).bind fun t235 => (if t235 = true then (laws_FnOverLess.j1 kj2 l1 bt223.1 bt223.2 t229 ((t229.length : Int) == 0)) else (laws_FnOverLess.j1 kj2 l1 bt223.1 bt223.2 t229 true)))))) = some r := by rw [if_neg (show ¬ (false = true) by decide)] at H; exact H
        clear H
        have H := H1
        clear H1
        replace H := Option.bind_eq_some_iff.mp H
        obtain ⟨⟨t223, t224⟩, A60, H⟩ := H
        replace H : ((impl_TabOver.f kj2 t223 t224).bind fun t229 => ((spec_TabOver.f kj2 t223 t224).bind fun t232 => ((laws_lkTab.f kj2 t229 t232).bind fun t235 => (if t235 = true then (laws_FnOverLess.j1 kj2 l1 t223 t224 t229 ((t229.length : Int) == 0)) else (laws_FnOverLess.j1 kj2 l1 t223 t224 t229 true))))) = some r := H
        have A6 := Aside0.mk A60
        clear A60
        replace H := Option.bind_eq_some_iff.mp H
        obtain ⟨t229, A70, H⟩ := H
        replace H : ((spec_TabOver.f kj2 t223 t224).bind fun t232 => ((laws_lkTab.f kj2 t229 t232).bind fun t235 => (if t235 = true then (laws_FnOverLess.j1 kj2 l1 t223 t224 t229 ((t229.length : Int) == 0)) else (laws_FnOverLess.j1 kj2 l1 t223 t224 t229 true)))) = some r := H
        have A7 := Aside0.mk A70
        clear A70
        have HC8 := Aside0.mk H
        clear H
        go_upto_region 5 with (first | (go_at_call 38; (with_reducible refine (spec_DrawTabOver.calls kj2 _ _ l0 t223 t224 _ ?side1 ?side2 A6.out).mono ?_); (case side1 => repeat (first | exact (Kd.C_below HR0.out HB.out) | exact HR0.out | (with_reducible refine Kd.C_alloc ?_ _) | (with_reducible refine Kd.C_drewN ?_ _) | (with_reducible refine Kd.C_drew ?_))); (case side2 => exact HC0.out); rintro e w9 ⟨v225, v227, rfl, ho0, ho1, hb⟩; have n0_ := Aside0.mk (Kd.Q_lower ho0 (below_size (by repeat (first | (with_reducible first | exact HB.out | apply below_alloc | apply pw_below_drewN | apply below_drew1) | exact HB.out)))); have n1_ := Aside0.mk (Kd.Q_lower ho1 (below_size (by repeat (first | (with_reducible first | exact HB.out | apply below_alloc | apply pw_below_drewN | apply below_drew1) | exact HB.out)))); have n2_ := Aside0.mk (below_step (by repeat (first | (with_reducible first | exact HB.out | apply below_alloc | apply pw_below_drewN | apply below_drew1) | exact HB.out)) hb); clear HB; have HO226 := n0_; have HO228 := n1_; have HB := n2_; clear n0_ n1_ n2_; (try clear hb); (try clear hb2); (try clear hk); (try clear hi); (try clear ho0); (try clear ho1); obtain ⟨Ao10, co10, eo10, _⟩ := Kd.Q_slice HO226.out; subst eo10; obtain ⟨Ao11, co11, eo11, _⟩ := Kd.Q_slice HO228.out; subst eo11) | (go_at_call 39; (with_reducible refine (impl_TabOver.calls kj2 _ _ t223 _ _ t224 t229 _ ?side1 ?side2 ?side3 ?side4 A7.out).mono ?_); (case side1 => repeat (first | exact (Kd.Q_reads' HO226.out).2.2 | (with_reducible refine Kd.C_alloc ?_ _) | (with_reducible refine Kd.C_drewN ?_ _) | (with_reducible refine Kd.C_drew ?_))); (case side2 => exact (Kd.Q_reads' HO226.out).2.1); (case side3 => repeat (first | exact (Kd.Q_reads' HO228.out).2.2 | (with_reducible refine Kd.C_alloc ?_ _) | (with_reducible refine Kd.C_drewN ?_ _) | (with_reducible refine Kd.C_drew ?_))); (case side4 => exact (Kd.Q_reads' HO228.out).2.1); rintro e w12 ⟨v230, rfl, ho0, hb⟩; have n0_ := Aside0.mk (Kd.Q_elder' (by (with_reducible repeat (first | apply Kd.Q_alloc | apply Kd.Q_drewN | apply Kd.Q_drew)); exact HO226.out) (Kd.R_base ho0) hb); have n1_ := Aside0.mk (Kd.Q_elder' (by (with_reducible repeat (first | apply Kd.Q_alloc | apply Kd.Q_drewN | apply Kd.Q_drew)); exact HO228.out) (Kd.R_base ho0) hb); have n2_ := Aside0.mk (Kd.R_lower (Kd.R_new' (Kd.R_new' ho0 (Kd.Q_lt (by (with_reducible repeat (first | apply Kd.Q_alloc | apply Kd.Q_drewN | apply Kd.Q_drew)); exact HO226.out))) (Kd.Q_lt (by (with_reducible repeat (first | apply Kd.Q_alloc | apply Kd.Q_drewN | apply Kd.Q_drew)); exact HO228.out))) (below_size (by repeat (first | (with_reducible first | exact HB.out | apply below_alloc | apply pw_below_drewN | apply below_drew1) | exact HB.out)))); have n3_ := Aside0.mk (below_step (by repeat (first | (with_reducible first | exact HB.out | apply below_alloc | apply pw_below_drewN | apply below_drew1) | exact HB.out)) hb); clear HO226; clear HO228; clear HB; have HO226 := n0_; have HO228 := n1_; have HO231 := n2_; have HB := n3_; clear n0_ n1_ n2_ n3_; (try clear hb); (try clear hb2); (try clear hk); (try clear hi); (try clear ho0)))
        repeat (go_quiet (fail); try go_wp2)
        (try simp only [Act.put, List.setIfInBounds_toArray, List.set_cons_zero, List.set_cons_succ])
        go_cut [40] (fun v40 wc => ∃ (kq : Nat) (x40_7 : Bool), v40 = .bool x40_7 ∧ Aside0 (laws_FnOverLess.j1 kq l1 t223 t224 t229 x40_7 = some r) ∧ Aside0 (kq ≤ kj2) ∧ Aside0 (Kd.Q k24 24 wc w.heap.size (fun k_ => some k_ ≠ ((.slice Ao11 t224.length co11) : Value).ownBlock ∧ some k_ ≠ (v230 : Value).ownBlock) (.slice Ao10 t223.length co10) t223) ∧ Aside0 (Kd.Q k24 24 wc w.heap.size (fun k_ => some k_ ≠ ((.slice Ao10 t223.length co10) : Value).ownBlock ∧ some k_ ≠ (v230 : Value).ownBlock) (.slice Ao11 t224.length co11) t224) ∧ Aside0 (Kd.R k24 24 wc w.heap.size (fun k_ => some k_ ≠ ((.slice Ao10 t223.length co10) : Value).ownBlock ∧ some k_ ≠ ((.slice Ao11 t224.length co11) : Value).ownBlock) v230 t229) ∧ Aside0 (Below w.heap.size w wc))
        case first =>
          have H := HC8.out
          clear HC8
          replace H := Option.bind_eq_some_iff.mp H
          obtain ⟨t232, A130, H⟩ := H
          replace H : ((laws_lkTab.f kj2 t229 t232).bind fun t235 => (if t235 = true then (laws_FnOverLess.j1 kj2 l1 t223 t224 t229 ((t229.length : Int) == 0)) else (laws_FnOverLess.j1 kj2 l1 t223 t224 t229 true))) = some r := H
          have A13 := Aside0.mk A130
          clear A130
          replace H := Option.bind_eq_some_iff.mp H
          obtain ⟨t235, A140, H⟩ := H
          replace H : (if t235 = true then (laws_FnOverLess.j1 kj2 l1 t223 t224 t229 ((t229.length : Int) == 0)) else (laws_FnOverLess.j1 kj2 l1 t223 t224 t229 true)) = some r := H
          have A14 := Aside0.mk A140
          clear A140
          by_cases c15 : t235 = true
          · subst c15
            have H1 : (laws_FnOverLess.j1 kj2 l1 t223 t224 t229 ((t229.length : Int) == 0)) = some r := by rw [if_pos rfl] at H; exact H
            clear H
            have H := H1
            clear H1
            have H' := Aside0.mk H
            clear H
            go_wp2_with (first | (go_at_call 41; (with_reducible refine (spec_TabOver.calls kj2 _ _ t223 _ _ t224 t232 _ ?side1 ?side2 ?side3 ?side4 A13.out).mono ?_); (case side1 => repeat (first | exact (Kd.Q_reads' HO226.out).2.2 | (with_reducible refine Kd.C_alloc ?_ _) | (with_reducible refine Kd.C_drewN ?_ _) | (with_reducible refine Kd.C_drew ?_))); (case side2 => exact (Kd.Q_reads' HO226.out).2.1); (case side3 => repeat (first | exact (Kd.Q_reads' HO228.out).2.2 | (with_reducible refine Kd.C_alloc ?_ _) | (with_reducible refine Kd.C_drewN ?_ _) | (with_reducible refine Kd.C_drew ?_))); (case side4 => exact (Kd.Q_reads' HO228.out).2.1); rintro e w16 ⟨v233, rfl, ho0, hb⟩; have n0_ := Aside0.mk (Kd.Q_elder' (by (with_reducible repeat (first | apply Kd.Q_alloc | apply Kd.Q_drewN | apply Kd.Q_drew)); exact HO226.out) (Kd.R_base ho0) hb); have n1_ := Aside0.mk (Kd.Q_elder' (by (with_reducible repeat (first | apply Kd.Q_alloc | apply Kd.Q_drewN | apply Kd.Q_drew)); exact HO228.out) (Kd.R_base ho0) hb); have n2_ := Aside0.mk (Kd.R_elder' (by (with_reducible repeat (first | apply Kd.R_alloc | apply Kd.R_drewN | apply Kd.R_drew)); exact HO231.out) (Kd.R_base ho0) hb); have n3_ := Aside0.mk (Kd.R_lower (Kd.R_new' (Kd.R_new' (Kd.R_new' ho0 (Kd.Q_lt (by (with_reducible repeat (first | apply Kd.Q_alloc | apply Kd.Q_drewN | apply Kd.Q_drew)); exact HO226.out))) (Kd.Q_lt (by (with_reducible repeat (first | apply Kd.Q_alloc | apply Kd.Q_drewN | apply Kd.Q_drew)); exact HO228.out))) (Kd.R_lt (by (with_reducible repeat (first | apply Kd.R_alloc | apply Kd.R_drewN | apply Kd.R_drew)); exact HO231.out))) (below_size (by repeat (first | (with_reducible first | exact HB.out | apply below_alloc | apply pw_below_drewN | apply below_drew1) | exact HB.out)))); have n4_ := Aside0.mk (below_step (by repeat (first | (with_reducible first | exact HB.out | apply below_alloc | apply pw_below_drewN | apply below_drew1) | exact HB.out)) hb); clear HO226; clear HO228; clear HO231; clear HB; have HO226 := n0_; have HO228 := n1_; have HO231 := n2_; have HO234 := n3_; have HB := n4_; clear n0_ n1_ n2_ n3_ n4_; (try clear hb); (try clear hb2); (try clear hk); (try clear hi); (try clear ho0); obtain ⟨Ao17, co17, eo17⟩ := Kd.R_slice HO231.out; subst eo17; obtain ⟨Ao18, co18, eo18⟩ := Kd.R_slice HO234.out; subst eo18) | (go_at_call 40; (with_reducible refine (laws_lkTab.calls kj2 _ _ t229 _ _ t232 true _ ?side1 ?side2 ?side3 ?side4 A14.out).mono ?_); (case side1 => repeat (first | exact (Kd.R_reads' HO231.out).2.2 | (with_reducible refine Kd.C_alloc ?_ _) | (with_reducible refine Kd.C_drewN ?_ _) | (with_reducible refine Kd.C_drew ?_))); (case side2 => exact (Kd.R_reads' HO231.out).2.1); (case side3 => repeat (first | exact (Kd.R_reads' HO234.out).2.2 | (with_reducible refine Kd.C_alloc ?_ _) | (with_reducible refine Kd.C_drewN ?_ _) | (with_reducible refine Kd.C_drew ?_))); (case side4 => exact (Kd.R_reads' HO234.out).2.1); rintro e w' ⟨rfl, ⟨nd, rfl⟩⟩; (try first | exact ⟨rfl, _, World.drewN_drewN _ _ _⟩ | exact ⟨rfl, _, Eq.trans (World.drewN_drewN _ _ _) (congrArg (World.drewN _) (Nat.add_assoc _ _ _))⟩)))
            repeat (go_quiet (fail); try go_wp2)
            go_meet
            case rel => exact ⟨_, (((t229.length : Int) == 0)), (by first | rfl | (simp; done) | (simp [*]; done)), H', ⟨by have := HJ2.out; first | omega | exact Nat.le_refl _⟩, ⟨by (with_reducible repeat (first | apply Kd.Q_alloc | apply Kd.Q_drewN | apply Kd.Q_drew)); exact Kd.Q_mono HO226.out (fun _ hk => ⟨hk.1.1, hk.1.2⟩)⟩, ⟨by (with_reducible repeat (first | apply Kd.Q_alloc | apply Kd.Q_drewN | apply Kd.Q_drew)); exact Kd.Q_mono HO228.out (fun _ hk => ⟨hk.1.1, hk.1.2⟩)⟩, ⟨by (with_reducible repeat (first | apply Kd.R_alloc | apply Kd.R_drewN | apply Kd.R_drew)); exact Kd.R_mono HO231.out (fun _ hk => ⟨hk.1.1.2, hk.1.2⟩)⟩, ⟨by repeat (first | (with_reducible first | exact HB.out | apply below_alloc | apply pw_below_drewN | apply below_drew1) | exact HB.out)⟩⟩
          · replace c15 := Bool.eq_false_iff.mpr c15
            subst c15
            have H1 : (laws_FnOverLess.j1 kj2 l1 t223 t224 t229 true) = some r := by rw [if_neg (show ¬ (false = true) by decide)] at H; exact H
            clear H
            have H := H1
            clear H1
            have H' := Aside0.mk H
            clear H
            go_wp2_with (first | (go_at_call 41; (with_reducible refine (spec_TabOver.calls kj2 _ _ t223 _ _ t224 t232 _ ?side1 ?side2 ?side3 ?side4 A13.out).mono ?_); (case side1 => repeat (first | exact (Kd.Q_reads' HO226.out).2.2 | (with_reducible refine Kd.C_alloc ?_ _) | (with_reducible refine Kd.C_drewN ?_ _) | (with_reducible refine Kd.C_drew ?_))); (case side2 => exact (Kd.Q_reads' HO226.out).2.1); (case side3 => repeat (first | exact (Kd.Q_reads' HO228.out).2.2 | (with_reducible refine Kd.C_alloc ?_ _) | (with_reducible refine Kd.C_drewN ?_ _) | (with_reducible refine Kd.C_drew ?_))); (case side4 => exact (Kd.Q_reads' HO228.out).2.1); rintro e w19 ⟨v233, rfl, ho0, hb⟩; have n0_ := Aside0.mk (Kd.Q_elder' (by (with_reducible repeat (first | apply Kd.Q_alloc | apply Kd.Q_drewN | apply Kd.Q_drew)); exact HO226.out) (Kd.R_base ho0) hb); have n1_ := Aside0.mk (Kd.Q_elder' (by (with_reducible repeat (first | apply Kd.Q_alloc | apply Kd.Q_drewN | apply Kd.Q_drew)); exact HO228.out) (Kd.R_base ho0) hb); have n2_ := Aside0.mk (Kd.R_elder' (by (with_reducible repeat (first | apply Kd.R_alloc | apply Kd.R_drewN | apply Kd.R_drew)); exact HO231.out) (Kd.R_base ho0) hb); have n3_ := Aside0.mk (Kd.R_lower (Kd.R_new' (Kd.R_new' (Kd.R_new' ho0 (Kd.Q_lt (by (with_reducible repeat (first | apply Kd.Q_alloc | apply Kd.Q_drewN | apply Kd.Q_drew)); exact HO226.out))) (Kd.Q_lt (by (with_reducible repeat (first | apply Kd.Q_alloc | apply Kd.Q_drewN | apply Kd.Q_drew)); exact HO228.out))) (Kd.R_lt (by (with_reducible repeat (first | apply Kd.R_alloc | apply Kd.R_drewN | apply Kd.R_drew)); exact HO231.out))) (below_size (by repeat (first | (with_reducible first | exact HB.out | apply below_alloc | apply pw_below_drewN | apply below_drew1) | exact HB.out)))); have n4_ := Aside0.mk (below_step (by repeat (first | (with_reducible first | exact HB.out | apply below_alloc | apply pw_below_drewN | apply below_drew1) | exact HB.out)) hb); clear HO226; clear HO228; clear HO231; clear HB; have HO226 := n0_; have HO228 := n1_; have HO231 := n2_; have HO234 := n3_; have HB := n4_; clear n0_ n1_ n2_ n3_ n4_; (try clear hb); (try clear hb2); (try clear hk); (try clear hi); (try clear ho0); obtain ⟨Ao20, co20, eo20⟩ := Kd.R_slice HO231.out; subst eo20; obtain ⟨Ao21, co21, eo21⟩ := Kd.R_slice HO234.out; subst eo21) | (go_at_call 40; (with_reducible refine (laws_lkTab.calls kj2 _ _ t229 _ _ t232 false _ ?side1 ?side2 ?side3 ?side4 A14.out).mono ?_); (case side1 => repeat (first | exact (Kd.R_reads' HO231.out).2.2 | (with_reducible refine Kd.C_alloc ?_ _) | (with_reducible refine Kd.C_drewN ?_ _) | (with_reducible refine Kd.C_drew ?_))); (case side2 => exact (Kd.R_reads' HO231.out).2.1); (case side3 => repeat (first | exact (Kd.R_reads' HO234.out).2.2 | (with_reducible refine Kd.C_alloc ?_ _) | (with_reducible refine Kd.C_drewN ?_ _) | (with_reducible refine Kd.C_drew ?_))); (case side4 => exact (Kd.R_reads' HO234.out).2.1); rintro e w' ⟨rfl, ⟨nd, rfl⟩⟩; (try first | exact ⟨rfl, _, World.drewN_drewN _ _ _⟩ | exact ⟨rfl, _, Eq.trans (World.drewN_drewN _ _ _) (congrArg (World.drewN _) (Nat.add_assoc _ _ _))⟩)))
            repeat (go_quiet (fail); try go_wp2)
            go_meet
            case rel => exact ⟨_, (true), (by first | rfl | (simp; done) | (simp [*]; done)), H', ⟨by have := HJ2.out; first | omega | exact Nat.le_refl _⟩, ⟨by (with_reducible repeat (first | apply Kd.Q_alloc | apply Kd.Q_drewN | apply Kd.Q_drew)); exact Kd.Q_mono HO226.out (fun _ hk => ⟨hk.1.1, hk.1.2⟩)⟩, ⟨by (with_reducible repeat (first | apply Kd.Q_alloc | apply Kd.Q_drewN | apply Kd.Q_drew)); exact Kd.Q_mono HO228.out (fun _ hk => ⟨hk.1.1, hk.1.2⟩)⟩, ⟨by (with_reducible repeat (first | apply Kd.R_alloc | apply Kd.R_drewN | apply Kd.R_drew)); exact Kd.R_mono HO231.out (fun _ hk => ⟨hk.1.1.2, hk.1.2⟩)⟩, ⟨by repeat (first | (with_reducible first | exact HB.out | apply below_alloc | apply pw_below_drewN | apply below_drew1) | exact HB.out)⟩⟩
        case rest =>
          clear HC8
          try clear c1
          try clear p2
          try clear c4
          try clear c4b0
          try clear c4b1
          try clear c5
          try clear c9
          try clear c15
          try clear p2
          obtain ⟨kq, x40_7, rfl, HA, HJ7, HO_5, HO_6, HO_7, HB⟩ := hcut
          cases kq with
          | zero => exact absurd HA.out (by simp [laws_FnOverLess.j1])
          | succ kj7 =>
            have H := HA.out
            clear HA
            simp only [laws_FnOverLess.j1] at H
            by_cases c22 : x40_7 = true
            · subst c22
              have H1 : ((spec_TabOver.f kj7 t223 t224).bind fun t236 => ((laws_lkTab.f kj7 t229 t236).bind fun t239 => (some t239))) = some r := by rw [if_pos rfl] at H; exact H
              clear H
              have H := H1
              clear H1
              replace H := Option.bind_eq_some_iff.mp H
              obtain ⟨t236, A230, H⟩ := H
              replace H : ((laws_lkTab.f kj7 t229 t236).bind fun t239 => (some t239)) = some r := H
              have A23 := Aside0.mk A230
              clear A230
              replace H := Option.bind_eq_some_iff.mp H
              obtain ⟨t239, A240, H⟩ := H
              replace H : (some t239) = some r := H
              have A24 := Aside0.mk A240
              clear A240
              obtain rfl := Option.some.inj H
              go_wp2_with (first | (go_at_call 41; (with_reducible refine (spec_TabOver.calls kj7 _ _ t223 _ _ t224 t236 _ ?side1 ?side2 ?side3 ?side4 A23.out).mono ?_); (case side1 => repeat (first | exact (Kd.Q_reads' HO_5.out).2.2 | (with_reducible refine Kd.C_alloc ?_ _) | (with_reducible refine Kd.C_drewN ?_ _) | (with_reducible refine Kd.C_drew ?_))); (case side2 => exact (Kd.Q_reads' HO_5.out).2.1); (case side3 => repeat (first | exact (Kd.Q_reads' HO_6.out).2.2 | (with_reducible refine Kd.C_alloc ?_ _) | (with_reducible refine Kd.C_drewN ?_ _) | (with_reducible refine Kd.C_drew ?_))); (case side4 => exact (Kd.Q_reads' HO_6.out).2.1); rintro e w25 ⟨v237, rfl, ho0, hb⟩; have n0_ := Aside0.mk (Kd.Q_elder' (by (with_reducible repeat (first | apply Kd.Q_alloc | apply Kd.Q_drewN | apply Kd.Q_drew)); exact HO_5.out) (Kd.R_base ho0) hb); have n1_ := Aside0.mk (Kd.Q_elder' (by (with_reducible repeat (first | apply Kd.Q_alloc | apply Kd.Q_drewN | apply Kd.Q_drew)); exact HO_6.out) (Kd.R_base ho0) hb); have n2_ := Aside0.mk (Kd.R_elder' (by (with_reducible repeat (first | apply Kd.R_alloc | apply Kd.R_drewN | apply Kd.R_drew)); exact HO_7.out) (Kd.R_base ho0) hb); have n3_ := Aside0.mk (Kd.R_lower (Kd.R_new' (Kd.R_new' (Kd.R_new' ho0 (Kd.Q_lt (by (with_reducible repeat (first | apply Kd.Q_alloc | apply Kd.Q_drewN | apply Kd.Q_drew)); exact HO_5.out))) (Kd.Q_lt (by (with_reducible repeat (first | apply Kd.Q_alloc | apply Kd.Q_drewN | apply Kd.Q_drew)); exact HO_6.out))) (Kd.R_lt (by (with_reducible repeat (first | apply Kd.R_alloc | apply Kd.R_drewN | apply Kd.R_drew)); exact HO_7.out))) (below_size (by repeat (first | (with_reducible first | exact HB.out | apply below_alloc | apply pw_below_drewN | apply below_drew1) | exact HB.out)))); have n4_ := Aside0.mk (below_step (by repeat (first | (with_reducible first | exact HB.out | apply below_alloc | apply pw_below_drewN | apply below_drew1) | exact HB.out)) hb); clear HO_5; clear HO_6; clear HO_7; clear HB; have HO_5 := n0_; have HO_6 := n1_; have HO_7 := n2_; have HO238 := n3_; have HB := n4_; clear n0_ n1_ n2_ n3_ n4_; (try clear hb); (try clear hb2); (try clear hk); (try clear hi); (try clear ho0); obtain ⟨Ao26, co26, eo26⟩ := Kd.R_slice HO_7.out; subst eo26; obtain ⟨Ao27, co27, eo27⟩ := Kd.R_slice HO238.out; subst eo27) | (go_at_call 40; (with_reducible refine (laws_lkTab.calls kj7 _ _ t229 _ _ t236 t239 _ ?side1 ?side2 ?side3 ?side4 A24.out).mono ?_); (case side1 => repeat (first | exact (Kd.R_reads' HO_7.out).2.2 | (with_reducible refine Kd.C_alloc ?_ _) | (with_reducible refine Kd.C_drewN ?_ _) | (with_reducible refine Kd.C_drew ?_))); (case side2 => exact (Kd.R_reads' HO_7.out).2.1); (case side3 => repeat (first | exact (Kd.R_reads' HO238.out).2.2 | (with_reducible refine Kd.C_alloc ?_ _) | (with_reducible refine Kd.C_drewN ?_ _) | (with_reducible refine Kd.C_drew ?_))); (case side4 => exact (Kd.R_reads' HO238.out).2.1); rintro e w' ⟨rfl, ⟨nd, rfl⟩⟩; (try first | exact ⟨rfl, _, World.drewN_drewN _ _ _⟩ | exact ⟨rfl, _, Eq.trans (World.drewN_drewN _ _ _) (congrArg (World.drewN _) (Nat.add_assoc _ _ _))⟩)))
              repeat (go_quiet (fail); try go_wp2)
              go_ret
              exact ⟨by first | rfl | (simp [errW_none, errW_some] <;> rfl) | (simp [*, errW_none, errW_some] <;> rfl), by repeat (first | (with_reducible first | exact HB.out | apply below_alloc | apply pw_below_drewN | apply below_drew1) | exact HB.out)⟩
            · replace c22 := Bool.eq_false_iff.mpr c22
              subst c22
              have H1 : ((some (([] : List (S24)) : List (S24))).bind fun y240 => (if y240.length + t224.length < 5864062014805 then ((some (y240 ++ t224 : List (S24))).bind fun y243 => (if 0 ≤ ((l1.length : Int) % 6) then (if ((l1.length : Int) % 6) < (y243.length : Int) then ((impl_TabOver.f kj7 t223 (y243.set (((l1.length : Int) % 6) : Int).toNat (⟨false, 0, false⟩ : S24))).bind fun t247 => ((some (([] : List (S24)) : List (S24))).bind fun y250 => (if y250.length + t224.length < 5864062014805 then ((some (y250 ++ t224 : List (S24))).bind fun y253 => (if ((l1.length : Int) % 6) < (y253.length : Int) then ((impl_TabOver.f kj7 t223 (y253.set (((l1.length : Int) % 6) : Int).toNat (⟨(rd_T24 y253 ((l1.length : Int) % 6)).f0, (rd_T24 y253 ((l1.length : Int) % 6)).f1, false⟩ : S24))).bind fun t257 => (if (t247.length : Int) = (t229.length : Int) then (laws_FnOverLess.j2 kj7 t229 t247 t257 ((t257.length : Int) != (t229.length : Int))) else (laws_FnOverLess.j2 kj7 t229 t247 t257 true))) else (none))) else (none)))) else (none)) else (none))) else (none))) = some r := by rw [if_neg (show ¬ (false = true) by decide)] at H; exact H
              clear H
              have H := H1
              clear H1
              obtain ⟨y240, hy240⟩ : ∃ y_ : List (S24), y_ = (([] : List (S24))) := ⟨_, rfl⟩
              replace H : (if y240.length + t224.length < 5864062014805 then ((some (y240 ++ t224 : List (S24))).bind fun y243 => (if 0 ≤ ((l1.length : Int) % 6) then (if ((l1.length : Int) % 6) < (y243.length : Int) then ((impl_TabOver.f kj7 t223 (y243.set (((l1.length : Int) % 6) : Int).toNat (⟨false, 0, false⟩ : S24))).bind fun t247 => ((some (([] : List (S24)) : List (S24))).bind fun y250 => (if y250.length + t224.length < 5864062014805 then ((some (y250 ++ t224 : List (S24))).bind fun y253 => (if ((l1.length : Int) % 6) < (y253.length : Int) then ((impl_TabOver.f kj7 t223 (y253.set (((l1.length : Int) % 6) : Int).toNat (⟨(rd_T24 y253 ((l1.length : Int) % 6)).f0, (rd_T24 y253 ((l1.length : Int) % 6)).f1, false⟩ : S24))).bind fun t257 => (if (t247.length : Int) = (t229.length : Int) then (laws_FnOverLess.j2 kj7 t229 t247 t257 ((t257.length : Int) != (t229.length : Int))) else (laws_FnOverLess.j2 kj7 t229 t247 t257 true))) else (none))) else (none)))) else (none)) else (none))) else (none)) = some r := by first | (rw [hy240]; with_reducible exact H) | (have H2_ := (Option.bind_some _ _).symm.trans H; rw [hy240]; with_reducible exact H2_) | (have H2_ := (Option.bind_some _ _).symm.trans H; with_reducible exact H2_) | with_reducible exact H | (rw [hy240]; exact H) | exact H
              have Ny240 := Aside0.mk hy240
              clear hy240
              by_cases c28 : y240.length + t224.length < 5864062014805
              · rw [if_pos c28] at H
                have LMc28 := Aside0.mk c28
                clear c28
                obtain ⟨y243, hy243⟩ : ∃ y_ : List (S24), y_ = (y240 ++ t224) := ⟨_, rfl⟩
                replace H : (if 0 ≤ ((l1.length : Int) % 6) then (if ((l1.length : Int) % 6) < (y243.length : Int) then ((impl_TabOver.f kj7 t223 (y243.set (((l1.length : Int) % 6) : Int).toNat (⟨false, 0, false⟩ : S24))).bind fun t247 => ((some (([] : List (S24)) : List (S24))).bind fun y250 => (if y250.length + t224.length < 5864062014805 then ((some (y250 ++ t224 : List (S24))).bind fun y253 => (if ((l1.length : Int) % 6) < (y253.length : Int) then ((impl_TabOver.f kj7 t223 (y253.set (((l1.length : Int) % 6) : Int).toNat (⟨(rd_T24 y253 ((l1.length : Int) % 6)).f0, (rd_T24 y253 ((l1.length : Int) % 6)).f1, false⟩ : S24))).bind fun t257 => (if (t247.length : Int) = (t229.length : Int) then (laws_FnOverLess.j2 kj7 t229 t247 t257 ((t257.length : Int) != (t229.length : Int))) else (laws_FnOverLess.j2 kj7 t229 t247 t257 true))) else (none))) else (none)))) else (none)) else (none)) = some r := by first | (rw [hy243]; with_reducible exact H) | (have H2_ := (Option.bind_some _ _).symm.trans H; rw [hy243]; with_reducible exact H2_) | (have H2_ := (Option.bind_some _ _).symm.trans H; with_reducible exact H2_) | with_reducible exact H | (rw [hy243]; exact H) | exact H
                have Ny243 := Aside0.mk hy243
                clear hy243
                obtain ⟨ji29, hji29⟩ : ∃ j_ : Int, ((l1.length : Int) % 6) = j_ := ⟨_, rfl⟩
                replace H : (if 0 ≤ (ji29) then (if (ji29) < (y243.length : Int) then ((impl_TabOver.f kj7 t223 (y243.set ((ji29) : Int).toNat (⟨false, 0, false⟩ : S24))).bind fun t247 => ((some (([] : List (S24)) : List (S24))).bind fun y250 => (if y250.length + t224.length < 5864062014805 then ((some (y250 ++ t224 : List (S24))).bind fun y253 => (if (ji29) < (y253.length : Int) then ((impl_TabOver.f kj7 t223 (y253.set ((ji29) : Int).toNat (⟨(rd_T24 y253 (ji29)).f0, (rd_T24 y253 (ji29)).f1, false⟩ : S24))).bind fun t257 => (if (t247.length : Int) = (t229.length : Int) then (laws_FnOverLess.j2 kj7 t229 t247 t257 ((t257.length : Int) != (t229.length : Int))) else (laws_FnOverLess.j2 kj7 t229 t247 t257 true))) else (none))) else (none)))) else (none)) else (none)) = some r := by first | (rw [hji29] at H; exact H) | (simp only [hji29] at H ⊢; exact H)
                by_cases c30 : 0 ≤ (ji29)
                · rw [if_pos c30] at H
                  have c30b0 : decide (0 ≤ (ji29)) = true := decide_eq_true c30
                  clear c30
                  by_cases c31 : (ji29) < (y243.length : Int)
                  · rw [if_pos c31] at H
                    have c31b0 : decide ((ji29) < (y243.length : Int)) = true := decide_eq_true c31
                    clear c31
                    obtain ⟨y246, hy246⟩ : ∃ y_ : List (S24), y_ = (y243.set ((ji29) : Int).toNat (⟨false, 0, false⟩ : S24)) := ⟨_, rfl⟩
                    replace H : ((impl_TabOver.f kj7 t223 y246).bind fun t247 => ((some (([] : List (S24)) : List (S24))).bind fun y250 => (if y250.length + t224.length < 5864062014805 then ((some (y250 ++ t224 : List (S24))).bind fun y253 => (if (ji29) < (y253.length : Int) then ((impl_TabOver.f kj7 t223 (y253.set ((ji29) : Int).toNat (⟨(rd_T24 y253 (ji29)).f0, (rd_T24 y253 (ji29)).f1, false⟩ : S24))).bind fun t257 => (if (t247.length : Int) = (t229.length : Int) then (laws_FnOverLess.j2 kj7 t229 t247 t257 ((t257.length : Int) != (t229.length : Int))) else (laws_FnOverLess.j2 kj7 t229 t247 t257 true))) else (none))) else (none)))) = some r := by first | (rw [hy246]; with_reducible exact H) | (have H2_ := (Option.bind_some _ _).symm.trans H; rw [hy246]; with_reducible exact H2_) | (have H2_ := (Option.bind_some _ _).symm.trans H; with_reducible exact H2_) | with_reducible exact H | (rw [hy246]; exact H) | exact H
                    have Ny246 := Aside0.mk hy246
                    clear hy246
                    replace H := Option.bind_eq_some_iff.mp H
                    obtain ⟨t247, A330, H⟩ := H
                    replace H : ((some (([] : List (S24)) : List (S24))).bind fun y250 => (if y250.length + t224.length < 5864062014805 then ((some (y250 ++ t224 : List (S24))).bind fun y253 => (if (ji29) < (y253.length : Int) then ((impl_TabOver.f kj7 t223 (y253.set ((ji29) : Int).toNat (⟨(rd_T24 y253 (ji29)).f0, (rd_T24 y253 (ji29)).f1, false⟩ : S24))).bind fun t257 => (if (t247.length : Int) = (t229.length : Int) then (laws_FnOverLess.j2 kj7 t229 t247 t257 ((t257.length : Int) != (t229.length : Int))) else (laws_FnOverLess.j2 kj7 t229 t247 t257 true))) else (none))) else (none))) = some r := H
                    have A33 := Aside0.mk A330
                    clear A330
                    obtain ⟨y250, hy250⟩ : ∃ y_ : List (S24), y_ = (([] : List (S24))) := ⟨_, rfl⟩
                    replace H : (if y250.length + t224.length < 5864062014805 then ((some (y250 ++ t224 : List (S24))).bind fun y253 => (if (ji29) < (y253.length : Int) then ((impl_TabOver.f kj7 t223 (y253.set ((ji29) : Int).toNat (⟨(rd_T24 y253 (ji29)).f0, (rd_T24 y253 (ji29)).f1, false⟩ : S24))).bind fun t257 => (if (t247.length : Int) = (t229.length : Int) then (laws_FnOverLess.j2 kj7 t229 t247 t257 ((t257.length : Int) != (t229.length : Int))) else (laws_FnOverLess.j2 kj7 t229 t247 t257 true))) else (none))) else (none)) = some r := by first | (rw [hy250]; with_reducible exact H) | (have H2_ := (Option.bind_some _ _).symm.trans H; rw [hy250]; with_reducible exact H2_) | (have H2_ := (Option.bind_some _ _).symm.trans H; with_reducible exact H2_) | with_reducible exact H | (rw [hy250]; exact H) | exact H
                    have Ny250 := Aside0.mk hy250
                    clear hy250
                    by_cases c34 : y250.length + t224.length < 5864062014805
                    · rw [if_pos c34] at H
                      have LMc34 := Aside0.mk c34
                      clear c34
                      obtain ⟨y253, hy253⟩ : ∃ y_ : List (S24), y_ = (y250 ++ t224) := ⟨_, rfl⟩
                      replace H : (if (ji29) < (y253.length : Int) then ((impl_TabOver.f kj7 t223 (y253.set ((ji29) : Int).toNat (⟨(rd_T24 y253 (ji29)).f0, (rd_T24 y253 (ji29)).f1, false⟩ : S24))).bind fun t257 => (if (t247.length : Int) = (t229.length : Int) then (laws_FnOverLess.j2 kj7 t229 t247 t257 ((t257.length : Int) != (t229.length : Int))) else (laws_FnOverLess.j2 kj7 t229 t247 t257 true))) else (none)) = some r := by first | (rw [hy253]; with_reducible exact H) | (have H2_ := (Option.bind_some _ _).symm.trans H; rw [hy253]; with_reducible exact H2_) | (have H2_ := (Option.bind_some _ _).symm.trans H; with_reducible exact H2_) | with_reducible exact H | (rw [hy253]; exact H) | exact H
                      have Ny253 := Aside0.mk hy253
                      clear hy253
                      by_cases c35 : (ji29) < (y253.length : Int)
                      · rw [if_pos c35] at H
                        have c35b0 : decide ((ji29) < (y253.length : Int)) = true := decide_eq_true c35
                        clear c35
                        obtain ⟨y256, hy256⟩ : ∃ y_ : List (S24), y_ = (y253.set ((ji29) : Int).toNat (⟨(rd_T24 y253 (ji29)).f0, (rd_T24 y253 (ji29)).f1, false⟩ : S24)) := ⟨_, rfl⟩
                        replace H : ((impl_TabOver.f kj7 t223 y256).bind fun t257 => (if (t247.length : Int) = (t229.length : Int) then (laws_FnOverLess.j2 kj7 t229 t247 t257 ((t257.length : Int) != (t229.length : Int))) else (laws_FnOverLess.j2 kj7 t229 t247 t257 true))) = some r := by first | (rw [hy256]; with_reducible exact H) | (have H2_ := (Option.bind_some _ _).symm.trans H; rw [hy256]; with_reducible exact H2_) | (have H2_ := (Option.bind_some _ _).symm.trans H; with_reducible exact H2_) | with_reducible exact H | (rw [hy256]; exact H) | exact H
                        have Ny256 := Aside0.mk hy256
                        clear hy256
                        replace H := Option.bind_eq_some_iff.mp H
                        obtain ⟨t257, A370, H⟩ := H
                        replace H : (if (t247.length : Int) = (t229.length : Int) then (laws_FnOverLess.j2 kj7 t229 t247 t257 ((t257.length : Int) != (t229.length : Int))) else (laws_FnOverLess.j2 kj7 t229 t247 t257 true)) = some r := H
                        have A37 := Aside0.mk A370
                        clear A370
                        have HC38 := Aside0.mk H
                        clear H
                        go_upto_region 14 with (first | ((with_reducible refine gate_dst (N := 49) rfl ?_); (try (refine gate_guard (by rfl) ?_; dsimp only)); refine Kd.R_lit k24 _ 24 ?hg (N := 49) ?hd (xs := ([] : List (S24))) (inner := []) (ok := fun _ => True) (okp := fun _ => True) ?hr ?hp (fun _ hk => hk) trivial (Below.refl _ _) (Nat.le_refl _) (by simp) ?_; (case hd => rfl); (case hg => rfl); (case hr => first | (go_simp; done) | (go_simp; rfl)); (case hp => exact (Reps.none _ _)); intro v241 w39 ho40 hb hg_ hnew_; clear hg_ hnew_; (first | rw [← Ny240.out] at ho40 | (simp only [Int.reduceToNat] at ho40; rw [← Ny240.out] at ho40)); have n0_ := Aside0.mk (Kd.Q_elder' (by (with_reducible repeat (first | apply Kd.Q_alloc | apply Kd.Q_drewN | apply Kd.Q_drew)); exact HO_5.out) (Kd.R_base ho40) hb); have n1_ := Aside0.mk (Kd.Q_elder' (by (with_reducible repeat (first | apply Kd.Q_alloc | apply Kd.Q_drewN | apply Kd.Q_drew)); exact HO_6.out) (Kd.R_base ho40) hb); have n2_ := Aside0.mk (Kd.R_elder' (by (with_reducible repeat (first | apply Kd.R_alloc | apply Kd.R_drewN | apply Kd.R_drew)); exact HO_7.out) (Kd.R_base ho40) hb); have n3_ := Aside0.mk (Kd.R_lower (Kd.R_new' (Kd.R_new' (Kd.R_new' ho40 (Kd.Q_lt (by (with_reducible repeat (first | apply Kd.Q_alloc | apply Kd.Q_drewN | apply Kd.Q_drew)); exact HO_5.out))) (Kd.Q_lt (by (with_reducible repeat (first | apply Kd.Q_alloc | apply Kd.Q_drewN | apply Kd.Q_drew)); exact HO_6.out))) (Kd.R_lt (by (with_reducible repeat (first | apply Kd.R_alloc | apply Kd.R_drewN | apply Kd.R_drew)); exact HO_7.out))) (below_size (by repeat (first | (with_reducible first | exact HB.out | apply below_alloc | apply pw_below_drewN | apply below_drew1) | exact HB.out)))); have n4_ := Aside0.mk (below_step (by repeat (first | (with_reducible first | exact HB.out | apply below_alloc | apply pw_below_drewN | apply below_drew1) | exact HB.out)) hb); clear HO_5; clear HO_6; clear HO_7; clear HB; have HO_5 := n0_; have HO_6 := n1_; have HO_7 := n2_; have HO242 := n3_; have HB := n4_; clear n0_ n1_ n2_ n3_ n4_; clear hb ho40) | ((with_reducible refine gate_builtin (b := .append) (xs := #[.tmp 49, .tmp 50]) rfl ?_); (try (refine gate_guard (by rfl) ?_; dsimp only)); at_builtin; refine Kd.R_append_rows k24 (w0 := w) w.heap.size rfl (.tmp 49) (.tmp 50) 28 24 (.agg #[(.bool false), (.int .i64 0), (.bool false)]) 24 rfl Try.underlying28 info24 rfl (by decide) (by omega) v241 y240 t224 _ _ _ (fun k_ => some k_ ≠ (.slice Ao10 t223.length co10 : Value).ownBlock ∧ some k_ ≠ (.slice Ao11 t224.length co11 : Value).ownBlock ∧ some k_ ≠ (v230 : Value).ownBlock) (fun _ => False) rfl rfl ?aO ?aR (fun _ _ h => h) (fun _ h => h.elim) ?aF ?aB ?aS ?aL ?_; (case aR => repeat (first | exact (Kd.Q_reads' HO_6.out).2.2 | (with_reducible refine Kd.C_alloc ?_ _) | (with_reducible refine Kd.C_drewN ?_ _) | (with_reducible refine Kd.C_drew ?_))); (case aB => exact (by repeat (first | (with_reducible first | exact HB.out | apply below_alloc | apply pw_below_drewN | apply below_drew1) | exact HB.out))); (case aF => exact (fun k_ hk => ⟨Kd.fresh' (Kd.Q_lt (by (with_reducible repeat (first | apply Kd.Q_alloc | apply Kd.Q_drewN | apply Kd.Q_drew)); exact HO_5.out)) k_ hk, Kd.fresh' (Kd.Q_lt (by (with_reducible repeat (first | apply Kd.Q_alloc | apply Kd.Q_drewN | apply Kd.Q_drew)); exact HO_6.out)) k_ hk, Kd.fresh' (Kd.R_lt (by (with_reducible repeat (first | apply Kd.R_alloc | apply Kd.R_drewN | apply Kd.R_drew)); exact HO_7.out)) k_ hk⟩)); (case aO => exact (by (with_reducible repeat (first | apply Kd.R_alloc | apply Kd.R_drewN | apply Kd.R_drew)); exact Kd.R_mono HO242.out (fun _ hk => ⟨hk.1.1.2, ⟨hk.1.2, hk.2⟩⟩))); (case aS => exact (below_size (by repeat (first | (with_reducible first | exact HB.out | apply below_alloc | apply pw_below_drewN | apply below_drew1) | exact HB.out)))); (case aL => have := LMc28.out; omega); intro v244 w41 ho hb hg hat; rw [← Ny243.out] at ho; have n0_ := Aside0.mk (Kd.Q_after (ok := (fun k_ => some k_ ≠ (.slice Ao11 t224.length co11 : Value).ownBlock ∧ some k_ ≠ (v230 : Value).ownBlock)) (by (with_reducible repeat (first | apply Kd.Q_alloc | apply Kd.Q_drewN | apply Kd.Q_drew)); exact HO_5.out) hg hat); have n1_ := Aside0.mk (Kd.Q_after (ok := (fun k_ => some k_ ≠ (.slice Ao10 t223.length co10 : Value).ownBlock ∧ some k_ ≠ (v230 : Value).ownBlock)) (by (with_reducible repeat (first | apply Kd.Q_alloc | apply Kd.Q_drewN | apply Kd.Q_drew)); exact HO_6.out) hg hat); have n2_ := Aside0.mk (Kd.R_after (ok := (fun k_ => some k_ ≠ (.slice Ao10 t223.length co10 : Value).ownBlock ∧ some k_ ≠ (.slice Ao11 t224.length co11 : Value).ownBlock)) (by (with_reducible repeat (first | apply Kd.R_alloc | apply Kd.R_drewN | apply Kd.R_drew)); exact HO_7.out) hg hat); have n3_ := Aside0.mk (hb); have n4_ := Aside0.mk (ho); clear HO_5; clear HO_6; clear HO_7; clear HB; clear HO242; have HO_5 := n0_; have HO_6 := n1_; have HO_7 := n2_; have HB := n3_; have HO245 := n4_; clear n0_ n1_ n2_ n3_ n4_; clear ho hb hg hat; have p32 : 0 ≤ ((ji29) : Int) := of_decide_eq_true (by first | (with_reducible assumption) | assumption); have q32 : ((ji29) : Int) < ((y243.length : Int) : Int) := of_decide_eq_true (by first | (with_reducible assumption) | assumption); obtain ⟨go32, co32, eo32, gb32, gl32, cl32, HG32⟩ := Kd.R_form HO245.out (by omega); (first | cases eo32 | (injection eo32 with ea_ en_ ec_; (first | subst ea_ | (injection ea_ with ea_; subst ea_)); subst ec_; clear en_)); have GB32 := Aside0.mk gb32; have GG32 := Aside0.mk HG32; clear gb32 gl32 HG32; obtain ⟨ce32, hcl32, hM32, hcc32, hfr32⟩ := Kd.R_elem HO245.out z24 ((ji29) : Int) p32 q32; obtain rfl := k24_openM hM32; have hx32_0 : w41.cell? ⟨go32, ((ji29) : Int).toNat * 3, none⟩ = some (.bool ((rd_T24 y243 (ji29)).f0)) := hcc32 0 _ rfl; have hx32_1 : w41.cell? ⟨go32, ((ji29) : Int).toNat * 3 + 1, none⟩ = some (.int .i64 ((rd_T24 y243 (ji29)).f1)) := hcc32 1 _ rfl; have hx32_2 : w41.cell? ⟨go32, ((ji29) : Int).toNat * 3 + 2, none⟩ = some (.bool ((rd_T24 y243 (ji29)).f2)) := hcc32 2 _ rfl; have hf32_0 : w41.frozen? ⟨go32, ((ji29) : Int).toNat * 3, none⟩ = false := hfr32 0; have hf32_1 : w41.frozen? ⟨go32, ((ji29) : Int).toNat * 3 + 1, none⟩ = false := hfr32 1; have hf32_2 : w41.frozen? ⟨go32, ((ji29) : Int).toNat * 3 + 2, none⟩ = false := hfr32 2; (try clear hcl32); (try clear hcc32); (try clear hfr32); (try clear hM32); replace p32 := eq_true p32; replace q32 := eq_true q32; have HX42 := Aside0.mk (show Kd.R k24 24 w41 w.heap.size (fun k_ => some k_ ≠ (.slice Ao10 t223.length co10 : Value).ownBlock ∧ some k_ ≠ (.slice Ao11 t224.length co11 : Value).ownBlock ∧ some k_ ≠ (v230 : Value).ownBlock) (.slice (some ⟨go32, 0, none⟩) y243.length co32) y243 from (by (with_reducible repeat (first | apply Kd.R_alloc | apply Kd.R_drewN | apply Kd.R_drew)); exact HO245.out)); obtain ⟨ce42, hcl42, hM42, hcc42, hfr42⟩ := Kd.R_elem HX42.out z24 ((ji29) : Int) (of_decide_eq_true (by first | (with_reducible assumption) | assumption)) (by have h_ : ((ji29) : Int) < ((y243.length : Int) : Int) := of_decide_eq_true (by first | (with_reducible assumption) | assumption); first | exact h_ | (have e_ := (Kd.R_reads' HO245.out).1; omega) | simpa using h_); obtain rfl := k24_openM hM42; have HP42 := Kd.R_seg HX42.out ((ji29) : Int) (of_decide_eq_true (by first | (with_reducible assumption) | assumption)) (by have h_ : ((ji29) : Int) < ((y243.length : Int) : Int) := of_decide_eq_true (by first | (with_reducible assumption) | assumption); first | exact h_ | (have e_ := (Kd.R_reads' HO245.out).1; omega) | simpa using h_) (seg := [.bool false, .int .i64 0, .bool false]) (j := 0) hcl42 hcc42 (show 3 ≤ 3 from by decide) (x' := (⟨false, 0, false⟩ : S24)) (k24_mkM _ _ _ (⟨false, 0, false⟩ : S24) ) (fun _ hk => hk); have hx42_0 := hcc42 0 _ rfl; (try simp only [show (k24).sz = 3 from rfl, Nat.mul_one, Nat.add_zero] at hx42_0); have hf42_0 := hfr42 0; (try simp only [show (k24).sz = 3 from rfl, Nat.mul_one, Nat.add_zero] at hf42_0); have hx42_1 := hcc42 1 _ rfl; (try simp only [show (k24).sz = 3 from rfl, Nat.mul_one, Nat.add_zero] at hx42_1); have hf42_1 := hfr42 1; (try simp only [show (k24).sz = 3 from rfl, Nat.mul_one, Nat.add_zero] at hf42_1); have hx42_2 := hcc42 2 _ rfl; (try simp only [show (k24).sz = 3 from rfl, Nat.mul_one, Nat.add_zero] at hx42_2); have hf42_2 := hfr42 2; (try simp only [show (k24).sz = 3 from rfl, Nat.mul_one, Nat.add_zero] at hf42_2); (try clear hcl42); (try clear hcc42); (try clear hfr42); (try clear hM42)) | ((with_reducible refine gate_store (t := 24) (p := 55) rfl ?_); (try (rw [drewN_self w41]; generalize hq_ : World.drewN w41 _ = w41; have n0_ := Aside0.mk (Kd.Q_at hq_ HO_5.out); have n1_ := Aside0.mk (Kd.Q_at hq_ HO_6.out); have n2_ := Aside0.mk (Kd.R_at hq_ HO_7.out); have n3_ := Aside0.mk (Kd.R_at hq_ HO245.out); have n4_ := Aside0.mk (below_at hq_ HB.out); clear hq_ HO_5 HO_6 HO_7 HO245 HB; have HO_5 := n0_; have HO_6 := n1_; have HO_7 := n2_; have HO245 := n3_; have HB := n4_; clear n0_ n1_ n2_ n3_ n4_; (try (have HX42 := Aside0.mk (show Kd.R k24 24 w41 w.heap.size (fun k_ => some k_ ≠ (.slice Ao10 t223.length co10 : Value).ownBlock ∧ some k_ ≠ (.slice Ao11 t224.length co11 : Value).ownBlock ∧ some k_ ≠ (v230 : Value).ownBlock) (.slice (some ⟨go32, 0, none⟩) y243.length co32) y243 from (by (with_reducible repeat (first | apply Kd.R_alloc | apply Kd.R_drewN | apply Kd.R_drew)); exact HO245.out)))); (try (obtain ⟨ce42, hcl42, hM42, hcc42, hfr42⟩ := Kd.R_elem HX42.out z24 ((ji29) : Int) (of_decide_eq_true (by first | (with_reducible assumption) | assumption)) (by have h_ : ((ji29) : Int) < ((y243.length : Int) : Int) := of_decide_eq_true (by first | (with_reducible assumption) | assumption); first | exact h_ | (have e_ := (Kd.R_reads' HO245.out).1; omega) | simpa using h_))); (try (obtain rfl := k24_openM hM42)); (try (have HP42 := Kd.R_seg HX42.out ((ji29) : Int) (of_decide_eq_true (by first | (with_reducible assumption) | assumption)) (by have h_ : ((ji29) : Int) < ((y243.length : Int) : Int) := of_decide_eq_true (by first | (with_reducible assumption) | assumption); first | exact h_ | (have e_ := (Kd.R_reads' HO245.out).1; omega) | simpa using h_) (seg := [.bool false, .int .i64 0, .bool false]) (j := 0) hcl42 hcc42 (show 3 ≤ 3 from by decide) (x' := (⟨false, 0, false⟩ : S24)) (k24_mkM _ _ _ (⟨false, 0, false⟩ : S24) ) (fun _ hk => hk))); (try (have hx42_0 := hcc42 0 _ rfl)); (try (try simp only [show (k24).sz = 3 from rfl, Nat.mul_one, Nat.add_zero] at hx42_0)); (try (have hf42_0 := hfr42 0)); (try (try simp only [show (k24).sz = 3 from rfl, Nat.mul_one, Nat.add_zero] at hf42_0)); (try (have hx42_1 := hcc42 1 _ rfl)); (try (try simp only [show (k24).sz = 3 from rfl, Nat.mul_one, Nat.add_zero] at hx42_1)); (try (have hf42_1 := hfr42 1)); (try (try simp only [show (k24).sz = 3 from rfl, Nat.mul_one, Nat.add_zero] at hf42_1)); (try (have hx42_2 := hcc42 2 _ rfl)); (try (try simp only [show (k24).sz = 3 from rfl, Nat.mul_one, Nat.add_zero] at hx42_2)); (try (have hf42_2 := hfr42 2)); (try (try simp only [show (k24).sz = 3 from rfl, Nat.mul_one, Nat.add_zero] at hf42_2)); (try (clear hcl42 hcc42 hfr42 hM42)))); refine store_event (t := 24) (p := 55) (v := ?vo_w43) (w1 := (((w41.setCell ⟨go32, ((ji29) : Int).toNat * 3, none⟩ (.bool false)).setCell ⟨go32, ((ji29) : Int).toNat * 3 + 1, none⟩ (.int .i64 0)).setCell ⟨go32, ((ji29) : Int).toNat * 3 + 2, none⟩ (.bool false))) ?hg ?ho ?hn ?hr ?_; (case ho => rfl); (case hg => rfl); (case hn => rfl); (case hr => first | (go_simp; done) | (go_simp; rfl)); intro w43 hw; have hg : w41.grownBy w43 (some go32) := (by rw [hw]; exact HP42.2); have hp_ : Kd.R k24 24 w43 w.heap.size (fun k_ => some k_ ≠ (.slice Ao10 t223.length co10 : Value).ownBlock ∧ some k_ ≠ (.slice Ao11 t224.length co11 : Value).ownBlock ∧ some k_ ≠ (v230 : Value).ownBlock) (.slice (some ⟨go32, 0, none⟩) y243.length co32) y246 := (by rw [hw, Ny246.out]; exact HP42.1); clear HP42; have n0_ := Aside0.mk (Kd.Q_after (v := (.slice (some ⟨go32, 0, none⟩) y243.length co32)) (v1 := (.slice (some ⟨go32, 0, none⟩) y243.length co32)) (ok := (fun k_ => some k_ ≠ (.slice Ao11 t224.length co11 : Value).ownBlock ∧ some k_ ≠ (v230 : Value).ownBlock)) (by (with_reducible repeat (first | apply Kd.Q_alloc | apply Kd.Q_drewN | apply Kd.Q_drew)); exact HO_5.out) hg (.inl rfl)); have n1_ := Aside0.mk (Kd.Q_after (v := (.slice (some ⟨go32, 0, none⟩) y243.length co32)) (v1 := (.slice (some ⟨go32, 0, none⟩) y243.length co32)) (ok := (fun k_ => some k_ ≠ (.slice Ao10 t223.length co10 : Value).ownBlock ∧ some k_ ≠ (v230 : Value).ownBlock)) (by (with_reducible repeat (first | apply Kd.Q_alloc | apply Kd.Q_drewN | apply Kd.Q_drew)); exact HO_6.out) hg (.inl rfl)); have n2_ := Aside0.mk (Kd.R_after (v := (.slice (some ⟨go32, 0, none⟩) y243.length co32)) (v1 := (.slice (some ⟨go32, 0, none⟩) y243.length co32)) (ok := (fun k_ => some k_ ≠ (.slice Ao10 t223.length co10 : Value).ownBlock ∧ some k_ ≠ (.slice Ao11 t224.length co11 : Value).ownBlock)) (by (with_reducible repeat (first | apply Kd.R_alloc | apply Kd.R_drewN | apply Kd.R_drew)); exact HO_7.out) hg (.inl rfl)); have n3_ := Aside0.mk (hp_); have n4_ := Aside0.mk ((by rw [hw]; exact below_set (below_set (below_set (HB.out) GB32.out) GB32.out) GB32.out : Below w.heap.size w w43)); clear HO_5; clear HO_6; clear HO_7; clear HO245; clear HB; have HO_5 := n0_; have HO_6 := n1_; have HO_7 := n2_; have HO245 := n3_; have HB := n4_; clear n0_ n1_ n2_ n3_ n4_; clear hg hw hp_) | (go_at_call 39; refine calls_of_args (args' := #[.slice Ao10 t223.length co10, .slice (some ⟨go32, 0, none⟩) y246.length co32]) (by first | (rw [show y246.length = y243.length from (Kd.R_reads' HO245.out).1.symm] <;> rfl) | rfl) ?_; (with_reducible refine (impl_TabOver.calls kj7 _ _ t223 _ _ y246 t247 _ ?side1 ?side2 ?side3 ?side4 A33.out).mono ?_); (case side1 => repeat (first | exact (Kd.Q_reads' HO_5.out).2.2 | (with_reducible refine Kd.C_alloc ?_ _) | (with_reducible refine Kd.C_drewN ?_ _) | (with_reducible refine Kd.C_drew ?_))); (case side2 => exact (Kd.Q_reads' HO_5.out).2.1); (case side3 => repeat (first | exact (Kd.R_reads' HO245.out).2.2 | (with_reducible refine Kd.C_alloc ?_ _) | (with_reducible refine Kd.C_drewN ?_ _) | (with_reducible refine Kd.C_drew ?_))); (case side4 => rw [show y246.length = y243.length from (Kd.R_reads' HO245.out).1.symm]; exact (Kd.R_reads' HO245.out).2.1); rintro e w44 ⟨v248, rfl, ho0, hb⟩; have n0_ := Aside0.mk (Kd.Q_elder' (by (with_reducible repeat (first | apply Kd.Q_alloc | apply Kd.Q_drewN | apply Kd.Q_drew)); exact HO_5.out) (Kd.R_base ho0) hb); have n1_ := Aside0.mk (Kd.Q_elder' (by (with_reducible repeat (first | apply Kd.Q_alloc | apply Kd.Q_drewN | apply Kd.Q_drew)); exact HO_6.out) (Kd.R_base ho0) hb); have n2_ := Aside0.mk (Kd.R_elder' (by (with_reducible repeat (first | apply Kd.R_alloc | apply Kd.R_drewN | apply Kd.R_drew)); exact HO_7.out) (Kd.R_base ho0) hb); have n3_ := Aside0.mk (Kd.R_elder' (by (with_reducible repeat (first | apply Kd.R_alloc | apply Kd.R_drewN | apply Kd.R_drew)); exact HO245.out) (Kd.R_base ho0) hb); have n4_ := Aside0.mk (Kd.R_lower (Kd.R_new' (Kd.R_new' (Kd.R_new' (Kd.R_new' ho0 (Kd.Q_lt (by (with_reducible repeat (first | apply Kd.Q_alloc | apply Kd.Q_drewN | apply Kd.Q_drew)); exact HO_5.out))) (Kd.Q_lt (by (with_reducible repeat (first | apply Kd.Q_alloc | apply Kd.Q_drewN | apply Kd.Q_drew)); exact HO_6.out))) (Kd.R_lt (by (with_reducible repeat (first | apply Kd.R_alloc | apply Kd.R_drewN | apply Kd.R_drew)); exact HO_7.out))) (Kd.R_lt (by (with_reducible repeat (first | apply Kd.R_alloc | apply Kd.R_drewN | apply Kd.R_drew)); exact HO245.out))) (below_size (by repeat (first | (with_reducible first | exact HB.out | apply below_alloc | apply pw_below_drewN | apply below_drew1) | exact HB.out)))); have n5_ := Aside0.mk (below_step (by repeat (first | (with_reducible first | exact HB.out | apply below_alloc | apply pw_below_drewN | apply below_drew1) | exact HB.out)) hb); clear HO_5; clear HO_6; clear HO_7; clear HO245; clear HB; have HO_5 := n0_; have HO_6 := n1_; have HO_7 := n2_; have HO245 := n3_; have HO249 := n4_; have HB := n5_; clear n0_ n1_ n2_ n3_ n4_ n5_; (try clear hb); (try clear hb2); (try clear hk); (try clear hi); (try clear ho0)) | ((with_reducible refine gate_dst (N := 59) rfl ?_); (try (refine gate_guard (by rfl) ?_; dsimp only)); refine Kd.R_lit k24 _ 24 ?hg (N := 59) ?hd (xs := ([] : List (S24))) (inner := []) (ok := fun _ => True) (okp := fun _ => True) ?hr ?hp (fun _ hk => hk) trivial (Below.refl _ _) (Nat.le_refl _) (by simp) ?_; (case hd => rfl); (case hg => rfl); (case hr => first | (go_simp; done) | (go_simp; rfl)); (case hp => exact (Reps.none _ _)); intro v251 w45 ho46 hb hg_ hnew_; clear hg_ hnew_; (first | rw [← Ny250.out] at ho46 | (simp only [Int.reduceToNat] at ho46; rw [← Ny250.out] at ho46)); have n0_ := Aside0.mk (Kd.Q_elder' (by (with_reducible repeat (first | apply Kd.Q_alloc | apply Kd.Q_drewN | apply Kd.Q_drew)); exact HO_5.out) (Kd.R_base ho46) hb); have n1_ := Aside0.mk (Kd.Q_elder' (by (with_reducible repeat (first | apply Kd.Q_alloc | apply Kd.Q_drewN | apply Kd.Q_drew)); exact HO_6.out) (Kd.R_base ho46) hb); have n2_ := Aside0.mk (Kd.R_elder' (by (with_reducible repeat (first | apply Kd.R_alloc | apply Kd.R_drewN | apply Kd.R_drew)); exact HO_7.out) (Kd.R_base ho46) hb); have n3_ := Aside0.mk (Kd.R_elder' (by (with_reducible repeat (first | apply Kd.R_alloc | apply Kd.R_drewN | apply Kd.R_drew)); exact HO245.out) (Kd.R_base ho46) hb); have n4_ := Aside0.mk (Kd.R_elder' (by (with_reducible repeat (first | apply Kd.R_alloc | apply Kd.R_drewN | apply Kd.R_drew)); exact HO249.out) (Kd.R_base ho46) hb); have n5_ := Aside0.mk (Kd.R_lower (Kd.R_new' (Kd.R_new' (Kd.R_new' (Kd.R_new' (Kd.R_new' ho46 (Kd.Q_lt (by (with_reducible repeat (first | apply Kd.Q_alloc | apply Kd.Q_drewN | apply Kd.Q_drew)); exact HO_5.out))) (Kd.Q_lt (by (with_reducible repeat (first | apply Kd.Q_alloc | apply Kd.Q_drewN | apply Kd.Q_drew)); exact HO_6.out))) (Kd.R_lt (by (with_reducible repeat (first | apply Kd.R_alloc | apply Kd.R_drewN | apply Kd.R_drew)); exact HO_7.out))) (Kd.R_lt (by (with_reducible repeat (first | apply Kd.R_alloc | apply Kd.R_drewN | apply Kd.R_drew)); exact HO245.out))) (Kd.R_lt (by (with_reducible repeat (first | apply Kd.R_alloc | apply Kd.R_drewN | apply Kd.R_drew)); exact HO249.out))) (below_size (by repeat (first | (with_reducible first | exact HB.out | apply below_alloc | apply pw_below_drewN | apply below_drew1) | exact HB.out)))); have n6_ := Aside0.mk (below_step (by repeat (first | (with_reducible first | exact HB.out | apply below_alloc | apply pw_below_drewN | apply below_drew1) | exact HB.out)) hb); clear HO_5; clear HO_6; clear HO_7; clear HO245; clear HO249; clear HB; have HO_5 := n0_; have HO_6 := n1_; have HO_7 := n2_; have HO245 := n3_; have HO249 := n4_; have HO252 := n5_; have HB := n6_; clear n0_ n1_ n2_ n3_ n4_ n5_ n6_; clear hb ho46) | ((with_reducible refine gate_builtin (b := .append) (xs := #[.tmp 59, .tmp 60]) rfl ?_); (try (refine gate_guard (by rfl) ?_; dsimp only)); at_builtin; refine Kd.R_append_rows k24 (w0 := w) w.heap.size rfl (.tmp 59) (.tmp 60) 28 24 (.agg #[(.bool false), (.int .i64 0), (.bool false)]) 24 rfl Try.underlying28 info24 rfl (by decide) (by omega) v251 y250 t224 _ _ _ (fun k_ => some k_ ≠ (.slice Ao10 t223.length co10 : Value).ownBlock ∧ some k_ ≠ (.slice Ao11 t224.length co11 : Value).ownBlock ∧ some k_ ≠ (v230 : Value).ownBlock ∧ some k_ ≠ (.slice (some ⟨go32, 0, none⟩) y243.length co32 : Value).ownBlock ∧ some k_ ≠ (v248 : Value).ownBlock) (fun _ => False) rfl rfl ?aO ?aR (fun _ _ h => h) (fun _ h => h.elim) ?aF ?aB ?aS ?aL ?_; (case aR => repeat (first | exact (Kd.Q_reads' HO_6.out).2.2 | (with_reducible refine Kd.C_alloc ?_ _) | (with_reducible refine Kd.C_drewN ?_ _) | (with_reducible refine Kd.C_drew ?_))); (case aB => exact (by repeat (first | (with_reducible first | exact HB.out | apply below_alloc | apply pw_below_drewN | apply below_drew1) | exact HB.out))); (case aF => exact (fun k_ hk => ⟨Kd.fresh' (Kd.Q_lt (by (with_reducible repeat (first | apply Kd.Q_alloc | apply Kd.Q_drewN | apply Kd.Q_drew)); exact HO_5.out)) k_ hk, Kd.fresh' (Kd.Q_lt (by (with_reducible repeat (first | apply Kd.Q_alloc | apply Kd.Q_drewN | apply Kd.Q_drew)); exact HO_6.out)) k_ hk, Kd.fresh' (Kd.R_lt (by (with_reducible repeat (first | apply Kd.R_alloc | apply Kd.R_drewN | apply Kd.R_drew)); exact HO_7.out)) k_ hk, Kd.fresh' (Kd.R_lt (by (with_reducible repeat (first | apply Kd.R_alloc | apply Kd.R_drewN | apply Kd.R_drew)); exact HO245.out)) k_ hk, Kd.fresh' (Kd.R_lt (by (with_reducible repeat (first | apply Kd.R_alloc | apply Kd.R_drewN | apply Kd.R_drew)); exact HO249.out)) k_ hk⟩)); (case aO => exact (by (with_reducible repeat (first | apply Kd.R_alloc | apply Kd.R_drewN | apply Kd.R_drew)); exact Kd.R_mono HO252.out (fun _ hk => ⟨hk.1.1.1.1.2, ⟨hk.1.1.1.2, ⟨hk.1.1.2, ⟨hk.1.2, hk.2⟩⟩⟩⟩))); (case aS => exact (below_size (by repeat (first | (with_reducible first | exact HB.out | apply below_alloc | apply pw_below_drewN | apply below_drew1) | exact HB.out)))); (case aL => have := LMc34.out; omega); intro v254 w47 ho hb hg hat; rw [← Ny253.out] at ho; have n0_ := Aside0.mk (Kd.Q_after (ok := (fun k_ => some k_ ≠ (.slice Ao11 t224.length co11 : Value).ownBlock ∧ some k_ ≠ (v230 : Value).ownBlock ∧ some k_ ≠ (.slice (some ⟨go32, 0, none⟩) y243.length co32 : Value).ownBlock ∧ some k_ ≠ (v248 : Value).ownBlock)) (by (with_reducible repeat (first | apply Kd.Q_alloc | apply Kd.Q_drewN | apply Kd.Q_drew)); exact Kd.Q_mono HO_5.out (fun _ hk => ⟨⟨hk.1.1.1.1, ⟨hk.1.1.1.2, ⟨hk.1.1.2, hk.1.2⟩⟩⟩, hk.2⟩)) hg hat); have n1_ := Aside0.mk (Kd.Q_after (ok := (fun k_ => some k_ ≠ (.slice Ao10 t223.length co10 : Value).ownBlock ∧ some k_ ≠ (v230 : Value).ownBlock ∧ some k_ ≠ (.slice (some ⟨go32, 0, none⟩) y243.length co32 : Value).ownBlock ∧ some k_ ≠ (v248 : Value).ownBlock)) (by (with_reducible repeat (first | apply Kd.Q_alloc | apply Kd.Q_drewN | apply Kd.Q_drew)); exact Kd.Q_mono HO_6.out (fun _ hk => ⟨⟨hk.1.1.1.1, ⟨hk.1.1.1.2, ⟨hk.1.1.2, hk.1.2⟩⟩⟩, hk.2⟩)) hg hat); have n2_ := Aside0.mk (Kd.R_after (ok := (fun k_ => some k_ ≠ (.slice Ao10 t223.length co10 : Value).ownBlock ∧ some k_ ≠ (.slice Ao11 t224.length co11 : Value).ownBlock ∧ some k_ ≠ (.slice (some ⟨go32, 0, none⟩) y243.length co32 : Value).ownBlock ∧ some k_ ≠ (v248 : Value).ownBlock)) (by (with_reducible repeat (first | apply Kd.R_alloc | apply Kd.R_drewN | apply Kd.R_drew)); exact Kd.R_mono HO_7.out (fun _ hk => ⟨⟨hk.1.1.1.1, ⟨hk.1.1.1.2, ⟨hk.1.1.2, hk.1.2⟩⟩⟩, hk.2⟩)) hg hat); have n3_ := Aside0.mk (Kd.R_after (ok := (fun k_ => some k_ ≠ (.slice Ao10 t223.length co10 : Value).ownBlock ∧ some k_ ≠ (.slice Ao11 t224.length co11 : Value).ownBlock ∧ some k_ ≠ (v230 : Value).ownBlock ∧ some k_ ≠ (v248 : Value).ownBlock)) (by (with_reducible repeat (first | apply Kd.R_alloc | apply Kd.R_drewN | apply Kd.R_drew)); exact Kd.R_mono HO245.out (fun _ hk => ⟨⟨hk.1.1.1, ⟨hk.1.1.2.1, ⟨hk.1.1.2.2, hk.1.2⟩⟩⟩, hk.2⟩)) hg hat); have n4_ := Aside0.mk (Kd.R_after (ok := (fun k_ => some k_ ≠ (.slice Ao10 t223.length co10 : Value).ownBlock ∧ some k_ ≠ (.slice Ao11 t224.length co11 : Value).ownBlock ∧ some k_ ≠ (v230 : Value).ownBlock ∧ some k_ ≠ (.slice (some ⟨go32, 0, none⟩) y243.length co32 : Value).ownBlock)) (by (with_reducible repeat (first | apply Kd.R_alloc | apply Kd.R_drewN | apply Kd.R_drew)); exact Kd.R_mono HO249.out (fun _ hk => ⟨⟨hk.1.1.1.1.2, ⟨hk.1.1.1.2, ⟨hk.1.1.2, hk.1.2⟩⟩⟩, hk.2⟩)) hg hat); have n5_ := Aside0.mk (hb); have n6_ := Aside0.mk (ho); clear HO_5; clear HO_6; clear HO_7; clear HO245; clear HO249; clear HB; clear HO252; have HO_5 := n0_; have HO_6 := n1_; have HO_7 := n2_; have HO245 := n3_; have HO249 := n4_; have HB := n5_; have HO255 := n6_; clear n0_ n1_ n2_ n3_ n4_ n5_ n6_; clear ho hb hg hat; have p36 : 0 ≤ ((ji29) : Int) := of_decide_eq_true (by first | (with_reducible assumption) | assumption); have q36 : ((ji29) : Int) < ((y253.length : Int) : Int) := of_decide_eq_true (by first | (with_reducible assumption) | assumption); obtain ⟨go36, co36, eo36, gb36, gl36, cl36, HG36⟩ := Kd.R_form HO255.out (by omega); (first | cases eo36 | (injection eo36 with ea_ en_ ec_; (first | subst ea_ | (injection ea_ with ea_; subst ea_)); subst ec_; clear en_)); have GB36 := Aside0.mk gb36; have GG36 := Aside0.mk HG36; clear gb36 gl36 HG36; obtain ⟨ce36, hcl36, hM36, hcc36, hfr36⟩ := Kd.R_elem HO255.out z24 ((ji29) : Int) p36 q36; obtain rfl := k24_openM hM36; have hx36_0 : w47.cell? ⟨go36, ((ji29) : Int).toNat * 3, none⟩ = some (.bool ((rd_T24 y253 (ji29)).f0)) := hcc36 0 _ rfl; have hx36_1 : w47.cell? ⟨go36, ((ji29) : Int).toNat * 3 + 1, none⟩ = some (.int .i64 ((rd_T24 y253 (ji29)).f1)) := hcc36 1 _ rfl; have hx36_2 : w47.cell? ⟨go36, ((ji29) : Int).toNat * 3 + 2, none⟩ = some (.bool ((rd_T24 y253 (ji29)).f2)) := hcc36 2 _ rfl; have hf36_0 : w47.frozen? ⟨go36, ((ji29) : Int).toNat * 3, none⟩ = false := hfr36 0; have hf36_1 : w47.frozen? ⟨go36, ((ji29) : Int).toNat * 3 + 1, none⟩ = false := hfr36 1; have hf36_2 : w47.frozen? ⟨go36, ((ji29) : Int).toNat * 3 + 2, none⟩ = false := hfr36 2; (try clear hcl36); (try clear hcc36); (try clear hfr36); (try clear hM36); replace p36 := eq_true p36; replace q36 := eq_true q36; have HX48 := Aside0.mk (show Kd.R k24 24 w47 w.heap.size (fun k_ => some k_ ≠ (.slice Ao10 t223.length co10 : Value).ownBlock ∧ some k_ ≠ (.slice Ao11 t224.length co11 : Value).ownBlock ∧ some k_ ≠ (v230 : Value).ownBlock ∧ some k_ ≠ (.slice (some ⟨go32, 0, none⟩) y243.length co32 : Value).ownBlock ∧ some k_ ≠ (v248 : Value).ownBlock) (.slice (some ⟨go36, 0, none⟩) y253.length co36) y253 from (by (with_reducible repeat (first | apply Kd.R_alloc | apply Kd.R_drewN | apply Kd.R_drew)); exact HO255.out)); obtain ⟨ce48, hcl48, hM48, hcc48, hfr48⟩ := Kd.R_elem HX48.out z24 ((ji29) : Int) (of_decide_eq_true (by first | (with_reducible assumption) | assumption)) (by have h_ : ((ji29) : Int) < ((y253.length : Int) : Int) := of_decide_eq_true (by first | (with_reducible assumption) | assumption); first | exact h_ | (have e_ := (Kd.R_reads' HO255.out).1; omega) | simpa using h_); obtain rfl := k24_openM hM48; have HP48 := Kd.R_seg HX48.out ((ji29) : Int) (of_decide_eq_true (by first | (with_reducible assumption) | assumption)) (by have h_ : ((ji29) : Int) < ((y253.length : Int) : Int) := of_decide_eq_true (by first | (with_reducible assumption) | assumption); first | exact h_ | (have e_ := (Kd.R_reads' HO255.out).1; omega) | simpa using h_) (seg := [.bool false]) (j := 2) hcl48 hcc48 (show 3 ≤ 3 from by decide) (x' := (⟨(rd_T24 y253 (ji29)).f0, (rd_T24 y253 (ji29)).f1, false⟩ : S24)) (k24_mkM _ _ _ (⟨(rd_T24 y253 (ji29)).f0, (rd_T24 y253 (ji29)).f1, false⟩ : S24) ) (fun _ hk => hk); have hx48_2 := hcc48 2 _ rfl; (try simp only [show (k24).sz = 3 from rfl, Nat.mul_one, Nat.add_zero] at hx48_2); have hf48_2 := hfr48 2; (try simp only [show (k24).sz = 3 from rfl, Nat.mul_one, Nat.add_zero] at hf48_2); (try clear hcl48); (try clear hcc48); (try clear hfr48); (try clear hM48)) | ((with_reducible refine gate_store (t := 4) (p := 65) rfl ?_); (try (rw [drewN_self w47]; generalize hq_ : World.drewN w47 _ = w47; have n0_ := Aside0.mk (Kd.Q_at hq_ HO_5.out); have n1_ := Aside0.mk (Kd.Q_at hq_ HO_6.out); have n2_ := Aside0.mk (Kd.R_at hq_ HO_7.out); have n3_ := Aside0.mk (Kd.R_at hq_ HO245.out); have n4_ := Aside0.mk (Kd.R_at hq_ HO249.out); have n5_ := Aside0.mk (Kd.R_at hq_ HO255.out); have n6_ := Aside0.mk (below_at hq_ HB.out); clear hq_ HO_5 HO_6 HO_7 HO245 HO249 HO255 HB; have HO_5 := n0_; have HO_6 := n1_; have HO_7 := n2_; have HO245 := n3_; have HO249 := n4_; have HO255 := n5_; have HB := n6_; clear n0_ n1_ n2_ n3_ n4_ n5_ n6_; (try (have HX48 := Aside0.mk (show Kd.R k24 24 w47 w.heap.size (fun k_ => some k_ ≠ (.slice Ao10 t223.length co10 : Value).ownBlock ∧ some k_ ≠ (.slice Ao11 t224.length co11 : Value).ownBlock ∧ some k_ ≠ (v230 : Value).ownBlock ∧ some k_ ≠ (.slice (some ⟨go32, 0, none⟩) y243.length co32 : Value).ownBlock ∧ some k_ ≠ (v248 : Value).ownBlock) (.slice (some ⟨go36, 0, none⟩) y253.length co36) y253 from (by (with_reducible repeat (first | apply Kd.R_alloc | apply Kd.R_drewN | apply Kd.R_drew)); exact HO255.out)))); (try (obtain ⟨ce48, hcl48, hM48, hcc48, hfr48⟩ := Kd.R_elem HX48.out z24 ((ji29) : Int) (of_decide_eq_true (by first | (with_reducible assumption) | assumption)) (by have h_ : ((ji29) : Int) < ((y253.length : Int) : Int) := of_decide_eq_true (by first | (with_reducible assumption) | assumption); first | exact h_ | (have e_ := (Kd.R_reads' HO255.out).1; omega) | simpa using h_))); (try (obtain rfl := k24_openM hM48)); (try (have HP48 := Kd.R_seg HX48.out ((ji29) : Int) (of_decide_eq_true (by first | (with_reducible assumption) | assumption)) (by have h_ : ((ji29) : Int) < ((y253.length : Int) : Int) := of_decide_eq_true (by first | (with_reducible assumption) | assumption); first | exact h_ | (have e_ := (Kd.R_reads' HO255.out).1; omega) | simpa using h_) (seg := [.bool false]) (j := 2) hcl48 hcc48 (show 3 ≤ 3 from by decide) (x' := (⟨(rd_T24 y253 (ji29)).f0, (rd_T24 y253 (ji29)).f1, false⟩ : S24)) (k24_mkM _ _ _ (⟨(rd_T24 y253 (ji29)).f0, (rd_T24 y253 (ji29)).f1, false⟩ : S24) ) (fun _ hk => hk))); (try (have hx48_2 := hcc48 2 _ rfl)); (try (try simp only [show (k24).sz = 3 from rfl, Nat.mul_one, Nat.add_zero] at hx48_2)); (try (have hf48_2 := hfr48 2)); (try (try simp only [show (k24).sz = 3 from rfl, Nat.mul_one, Nat.add_zero] at hf48_2)); (try (clear hcl48 hcc48 hfr48 hM48)))); refine store_event (t := 4) (p := 65) (v := ?vo_w49) (w1 := (w47.setCell ⟨go36, ((ji29) : Int).toNat * 3 + 2, none⟩ (.bool false))) ?hg ?ho ?hn ?hr ?_; (case ho => rfl); (case hg => rfl); (case hn => rfl); (case hr => first | (go_simp; done) | (go_simp; rfl)); intro w49 hw; have hg : w47.grownBy w49 (some go36) := (by rw [hw]; exact HP48.2); have hp_ : Kd.R k24 24 w49 w.heap.size (fun k_ => some k_ ≠ (.slice Ao10 t223.length co10 : Value).ownBlock ∧ some k_ ≠ (.slice Ao11 t224.length co11 : Value).ownBlock ∧ some k_ ≠ (v230 : Value).ownBlock ∧ some k_ ≠ (.slice (some ⟨go32, 0, none⟩) y243.length co32 : Value).ownBlock ∧ some k_ ≠ (v248 : Value).ownBlock) (.slice (some ⟨go36, 0, none⟩) y253.length co36) y256 := (by rw [hw, Ny256.out]; exact HP48.1); clear HP48; have n0_ := Aside0.mk (Kd.Q_after (v := (.slice (some ⟨go36, 0, none⟩) y253.length co36)) (v1 := (.slice (some ⟨go36, 0, none⟩) y253.length co36)) (ok := (fun k_ => some k_ ≠ (.slice Ao11 t224.length co11 : Value).ownBlock ∧ some k_ ≠ (v230 : Value).ownBlock ∧ some k_ ≠ (.slice (some ⟨go32, 0, none⟩) y243.length co32 : Value).ownBlock ∧ some k_ ≠ (v248 : Value).ownBlock)) (by (with_reducible repeat (first | apply Kd.Q_alloc | apply Kd.Q_drewN | apply Kd.Q_drew)); exact HO_5.out) hg (.inl rfl)); have n1_ := Aside0.mk (Kd.Q_after (v := (.slice (some ⟨go36, 0, none⟩) y253.length co36)) (v1 := (.slice (some ⟨go36, 0, none⟩) y253.length co36)) (ok := (fun k_ => some k_ ≠ (.slice Ao10 t223.length co10 : Value).ownBlock ∧ some k_ ≠ (v230 : Value).ownBlock ∧ some k_ ≠ (.slice (some ⟨go32, 0, none⟩) y243.length co32 : Value).ownBlock ∧ some k_ ≠ (v248 : Value).ownBlock)) (by (with_reducible repeat (first | apply Kd.Q_alloc | apply Kd.Q_drewN | apply Kd.Q_drew)); exact HO_6.out) hg (.inl rfl)); have n2_ := Aside0.mk (Kd.R_after (v := (.slice (some ⟨go36, 0, none⟩) y253.length co36)) (v1 := (.slice (some ⟨go36, 0, none⟩) y253.length co36)) (ok := (fun k_ => some k_ ≠ (.slice Ao10 t223.length co10 : Value).ownBlock ∧ some k_ ≠ (.slice Ao11 t224.length co11 : Value).ownBlock ∧ some k_ ≠ (.slice (some ⟨go32, 0, none⟩) y243.length co32 : Value).ownBlock ∧ some k_ ≠ (v248 : Value).ownBlock)) (by (with_reducible repeat (first | apply Kd.R_alloc | apply Kd.R_drewN | apply Kd.R_drew)); exact HO_7.out) hg (.inl rfl)); have n3_ := Aside0.mk (Kd.R_after (v := (.slice (some ⟨go36, 0, none⟩) y253.length co36)) (v1 := (.slice (some ⟨go36, 0, none⟩) y253.length co36)) (ok := (fun k_ => some k_ ≠ (.slice Ao10 t223.length co10 : Value).ownBlock ∧ some k_ ≠ (.slice Ao11 t224.length co11 : Value).ownBlock ∧ some k_ ≠ (v230 : Value).ownBlock ∧ some k_ ≠ (v248 : Value).ownBlock)) (by (with_reducible repeat (first | apply Kd.R_alloc | apply Kd.R_drewN | apply Kd.R_drew)); exact HO245.out) hg (.inl rfl)); have n4_ := Aside0.mk (Kd.R_after (v := (.slice (some ⟨go36, 0, none⟩) y253.length co36)) (v1 := (.slice (some ⟨go36, 0, none⟩) y253.length co36)) (ok := (fun k_ => some k_ ≠ (.slice Ao10 t223.length co10 : Value).ownBlock ∧ some k_ ≠ (.slice Ao11 t224.length co11 : Value).ownBlock ∧ some k_ ≠ (v230 : Value).ownBlock ∧ some k_ ≠ (.slice (some ⟨go32, 0, none⟩) y243.length co32 : Value).ownBlock)) (by (with_reducible repeat (first | apply Kd.R_alloc | apply Kd.R_drewN | apply Kd.R_drew)); exact HO249.out) hg (.inl rfl)); have n5_ := Aside0.mk (hp_); have n6_ := Aside0.mk ((by rw [hw]; exact below_set (HB.out) GB36.out : Below w.heap.size w w49)); clear HO_5; clear HO_6; clear HO_7; clear HO245; clear HO249; clear HO255; clear HB; have HO_5 := n0_; have HO_6 := n1_; have HO_7 := n2_; have HO245 := n3_; have HO249 := n4_; have HO255 := n5_; have HB := n6_; clear n0_ n1_ n2_ n3_ n4_ n5_ n6_; clear hg hw hp_) | (go_at_call 39; refine calls_of_args (args' := #[.slice Ao10 t223.length co10, .slice (some ⟨go36, 0, none⟩) y256.length co36]) (by first | (rw [show y256.length = y253.length from (Kd.R_reads' HO255.out).1.symm] <;> rfl) | rfl) ?_; (with_reducible refine (impl_TabOver.calls kj7 _ _ t223 _ _ y256 t257 _ ?side1 ?side2 ?side3 ?side4 A37.out).mono ?_); (case side1 => repeat (first | exact (Kd.Q_reads' HO_5.out).2.2 | (with_reducible refine Kd.C_alloc ?_ _) | (with_reducible refine Kd.C_drewN ?_ _) | (with_reducible refine Kd.C_drew ?_))); (case side2 => exact (Kd.Q_reads' HO_5.out).2.1); (case side3 => repeat (first | exact (Kd.R_reads' HO255.out).2.2 | (with_reducible refine Kd.C_alloc ?_ _) | (with_reducible refine Kd.C_drewN ?_ _) | (with_reducible refine Kd.C_drew ?_))); (case side4 => rw [show y256.length = y253.length from (Kd.R_reads' HO255.out).1.symm]; exact (Kd.R_reads' HO255.out).2.1); rintro e w50 ⟨v258, rfl, ho0, hb⟩; have n0_ := Aside0.mk (Kd.Q_elder' (by (with_reducible repeat (first | apply Kd.Q_alloc | apply Kd.Q_drewN | apply Kd.Q_drew)); exact HO_5.out) (Kd.R_base ho0) hb); have n1_ := Aside0.mk (Kd.Q_elder' (by (with_reducible repeat (first | apply Kd.Q_alloc | apply Kd.Q_drewN | apply Kd.Q_drew)); exact HO_6.out) (Kd.R_base ho0) hb); have n2_ := Aside0.mk (Kd.R_elder' (by (with_reducible repeat (first | apply Kd.R_alloc | apply Kd.R_drewN | apply Kd.R_drew)); exact HO_7.out) (Kd.R_base ho0) hb); have n3_ := Aside0.mk (Kd.R_elder' (by (with_reducible repeat (first | apply Kd.R_alloc | apply Kd.R_drewN | apply Kd.R_drew)); exact HO245.out) (Kd.R_base ho0) hb); have n4_ := Aside0.mk (Kd.R_elder' (by (with_reducible repeat (first | apply Kd.R_alloc | apply Kd.R_drewN | apply Kd.R_drew)); exact HO249.out) (Kd.R_base ho0) hb); have n5_ := Aside0.mk (Kd.R_elder' (by (with_reducible repeat (first | apply Kd.R_alloc | apply Kd.R_drewN | apply Kd.R_drew)); exact HO255.out) (Kd.R_base ho0) hb); have n6_ := Aside0.mk (Kd.R_lower (Kd.R_new' (Kd.R_new' (Kd.R_new' (Kd.R_new' (Kd.R_new' (Kd.R_new' ho0 (Kd.Q_lt (by (with_reducible repeat (first | apply Kd.Q_alloc | apply Kd.Q_drewN | apply Kd.Q_drew)); exact HO_5.out))) (Kd.Q_lt (by (with_reducible repeat (first | apply Kd.Q_alloc | apply Kd.Q_drewN | apply Kd.Q_drew)); exact HO_6.out))) (Kd.R_lt (by (with_reducible repeat (first | apply Kd.R_alloc | apply Kd.R_drewN | apply Kd.R_drew)); exact HO_7.out))) (Kd.R_lt (by (with_reducible repeat (first | apply Kd.R_alloc | apply Kd.R_drewN | apply Kd.R_drew)); exact HO245.out))) (Kd.R_lt (by (with_reducible repeat (first | apply Kd.R_alloc | apply Kd.R_drewN | apply Kd.R_drew)); exact HO249.out))) (Kd.R_lt (by (with_reducible repeat (first | apply Kd.R_alloc | apply Kd.R_drewN | apply Kd.R_drew)); exact HO255.out))) (below_size (by repeat (first | (with_reducible first | exact HB.out | apply below_alloc | apply pw_below_drewN | apply below_drew1) | exact HB.out)))); have n7_ := Aside0.mk (below_step (by repeat (first | (with_reducible first | exact HB.out | apply below_alloc | apply pw_below_drewN | apply below_drew1) | exact HB.out)) hb); clear HO_5; clear HO_6; clear HO_7; clear HO245; clear HO249; clear HO255; clear HB; have HO_5 := n0_; have HO_6 := n1_; have HO_7 := n2_; have HO245 := n3_; have HO249 := n4_; have HO255 := n5_; have HO259 := n6_; have HB := n7_; clear n0_ n1_ n2_ n3_ n4_ n5_ n6_ n7_; (try clear hb); (try clear hb2); (try clear hk); (try clear hi); (try clear ho0)))
                        repeat (go_quiet (fail); try go_wp2)
                        (try simp only [Act.put, List.setIfInBounds_toArray, List.set_cons_zero, List.set_cons_succ])
                        go_cut [80] (fun v80 wc => ∃ (kq : Nat) (x80_37 : Bool), v80 = .bool x80_37 ∧ Aside0 (laws_FnOverLess.j2 kq t229 t247 t257 x80_37 = some r) ∧ Aside0 (kq ≤ kj7) ∧ Aside0 (Kd.R k24 24 wc w.heap.size (fun k_ => some k_ ≠ (v248 : Value).ownBlock ∧ some k_ ≠ (v258 : Value).ownBlock) v230 t229) ∧ Aside0 (Kd.R k24 24 wc w.heap.size (fun k_ => some k_ ≠ (v230 : Value).ownBlock ∧ some k_ ≠ (v258 : Value).ownBlock) v248 t247) ∧ Aside0 (Kd.R k24 24 wc w.heap.size (fun k_ => some k_ ≠ (v230 : Value).ownBlock ∧ some k_ ≠ (v248 : Value).ownBlock) v258 t257) ∧ Aside0 (Below w.heap.size w wc))
                        case first =>
                          have H := HC38.out
                          clear HC38
                          by_cases c51 : (t247.length : Int) = (t229.length : Int)
                          · rw [if_pos c51] at H
                            have c51b0 : ((t247.length : Int) == (t229.length : Int)) = true := beq_iff_eq.mpr c51
                            have c51b1 : ((t247.length : Int) != (t229.length : Int)) = false := bne_eq_false_iff_eq.mpr c51
                            have c51b2 : (t247.length == t229.length) = true := by first | simpa using c51 | (simp at c51 ⊢; omega)
                            clear c51
                            (first | rw [c51b0] | (simp only [i64_w, i32_w]; rw [c51b0]) | skip)
                            have H' := Aside0.mk H
                            clear H
                            obtain ⟨Ao52, co52, eo52⟩ := Kd.R_slice HO249.out
                            subst eo52
                            obtain ⟨Ao53, co53, eo53⟩ := Kd.R_slice HO_7.out
                            subst eo53
                            obtain ⟨Ao54, co54, eo54⟩ := Kd.R_slice HO259.out
                            subst eo54
                            go_wp2
                            repeat (go_quiet (fail); try go_wp2)
                            go_meet
                            case rel => exact ⟨_, (((t257.length : Int) != (t229.length : Int))), (by first | rfl | (simp; done) | (simp [*]; done)), H', ⟨by have := HJ2.out; have := HJ7.out; first | omega | exact Nat.le_refl _⟩, ⟨by (with_reducible repeat (first | apply Kd.R_alloc | apply Kd.R_drewN | apply Kd.R_drew)); exact Kd.R_mono HO_7.out (fun _ hk => ⟨hk.1.1.2.2.2, hk.2⟩)⟩, ⟨by (with_reducible repeat (first | apply Kd.R_alloc | apply Kd.R_drewN | apply Kd.R_drew)); exact Kd.R_mono HO249.out (fun _ hk => ⟨hk.1.1.2.2.1, hk.2⟩)⟩, ⟨by (with_reducible repeat (first | apply Kd.R_alloc | apply Kd.R_drewN | apply Kd.R_drew)); exact Kd.R_mono HO259.out (fun _ hk => ⟨hk.1.1.1.2, hk.1.2⟩)⟩, ⟨by repeat (first | (with_reducible first | exact HB.out | apply below_alloc | apply pw_below_drewN | apply below_drew1) | exact HB.out)⟩⟩
                          · rw [if_neg c51] at H
                            have c51b0 : ((t247.length : Int) == (t229.length : Int)) = false := beq_eq_false_iff_ne.mpr c51
                            have c51b1 : ((t247.length : Int) != (t229.length : Int)) = true := bne_iff_ne.mpr c51
                            have c51b2 : (t247.length == t229.length) = false := by first | simpa using c51 | (simp at c51 ⊢; omega)
                            (first | rw [c51b0] | (simp only [i64_w, i32_w]; rw [c51b0]) | skip)
                            have H' := Aside0.mk H
                            clear H
                            obtain ⟨Ao55, co55, eo55⟩ := Kd.R_slice HO249.out
                            subst eo55
                            obtain ⟨Ao56, co56, eo56⟩ := Kd.R_slice HO_7.out
                            subst eo56
                            go_wp2
                            repeat (go_quiet (fail); try go_wp2)
                            go_meet
                            case rel => exact ⟨_, (true), (by first | rfl | (simp; done) | (simp [*]; done)), H', ⟨by have := HJ2.out; have := HJ7.out; first | omega | exact Nat.le_refl _⟩, ⟨by (with_reducible repeat (first | apply Kd.R_alloc | apply Kd.R_drewN | apply Kd.R_drew)); exact Kd.R_mono HO_7.out (fun _ hk => ⟨hk.1.1.2.2.2, hk.2⟩)⟩, ⟨by (with_reducible repeat (first | apply Kd.R_alloc | apply Kd.R_drewN | apply Kd.R_drew)); exact Kd.R_mono HO249.out (fun _ hk => ⟨hk.1.1.2.2.1, hk.2⟩)⟩, ⟨by (with_reducible repeat (first | apply Kd.R_alloc | apply Kd.R_drewN | apply Kd.R_drew)); exact Kd.R_mono HO259.out (fun _ hk => ⟨hk.1.1.1.2, hk.1.2⟩)⟩, ⟨by repeat (first | (with_reducible first | exact HB.out | apply below_alloc | apply pw_below_drewN | apply below_drew1) | exact HB.out)⟩⟩
                        case rest =>
                          clear HC38
                          try clear c1
                          try clear c2
                          try clear p2
                          try clear c3
                          try clear p3
                          try clear q3
                          try clear hx3
                          try clear hf3
                          try clear c4
                          try clear c4b0
                          try clear c4b1
                          try clear hx4
                          try clear hf4
                          try clear c5
                          try clear c9
                          try clear c15
                          try clear c22
                          try clear c28
                          try clear c30
                          try clear c30b0
                          try clear c31
                          try clear c31b0
                          try clear c32
                          try clear p32
                          try clear q32
                          try clear hx32
                          try clear hf32
                          try clear c34
                          try clear c35
                          try clear c35b0
                          try clear c36
                          try clear p36
                          try clear q36
                          try clear hx36
                          try clear hf36
                          try clear c42
                          try clear hx42
                          try clear hf42
                          try clear c48
                          try clear hx48
                          try clear hf48
                          try clear c51
                          try clear c51b0
                          try clear c51b1
                          try clear c51b2
                          try clear hx32_0
                          try clear hx32_1
                          try clear hx32_2
                          try clear hx36_0
                          try clear hx36_1
                          try clear hx36_2
                          try clear hx42_0
                          try clear hx42_1
                          try clear hx42_2
                          try clear hx48_2
                          try clear p2
                          try clear p32
                          try clear p36
                          try clear q32
                          try clear q36
                          obtain ⟨kq, x80_37, rfl, HA, HJ37, HO_7, HO_10, HO_12, HB⟩ := hcut
                          cases kq with
                          | zero => exact absurd HA.out (by simp [laws_FnOverLess.j2])
                          | succ kj37 =>
                            have H := HA.out
                            clear HA
                            simp only [laws_FnOverLess.j2] at H
                            by_cases c57 : x80_37 = true
                            · subst c57
                              have H1 : (some false) = some r := by rw [if_pos rfl] at H; exact H
                              clear H
                              have H := H1
                              clear H1
                              obtain rfl := Option.some.inj H
                              go_wp2
                              repeat (go_quiet (fail); try go_wp2)
                              go_ret
                              exact ⟨by first | rfl | (simp [errW_none, errW_some] <;> rfl) | (simp only [← hji29]; first | rfl | (simp [errW_none, errW_some] <;> rfl)) | (simp [*, errW_none, errW_some] <;> rfl), by repeat (first | (with_reducible first | exact HB.out | apply below_alloc | apply pw_below_drewN | apply below_drew1) | exact HB.out)⟩
                            · replace c57 := Bool.eq_false_iff.mpr c57
                              subst c57
                              have H1 : (laws_FnOverLess.l0 kj37 t229 t247 t257 0) = some r := by rw [if_neg (show ¬ (false = true) by decide)] at H; exact H
                              clear H
                              have H := H1
                              clear H1
                              have H' := Aside0.mk H
                              clear H
                              go_wp2
                              repeat (go_quiet (fail); try go_wp2)
                              go_loopg [13] kj37 (fun kq v13 w' => ∃ (x13_4 : Int), v13 = .int .i64 x13_4 ∧ Aside0 (laws_FnOverLess.l0 kq t229 t247 t257 x13_4 = some r) ∧ Aside0 (kq ≤ kj37) ∧ Aside0 (Kd.R k24 24 w' w.heap.size (fun k_ => some k_ ≠ (v248 : Value).ownBlock ∧ some k_ ≠ (v258 : Value).ownBlock) v230 t229) ∧ Aside0 (Kd.R k24 24 w' w.heap.size (fun k_ => some k_ ≠ (v230 : Value).ownBlock ∧ some k_ ≠ (v258 : Value).ownBlock) v248 t247) ∧ Aside0 (Kd.R k24 24 w' w.heap.size (fun k_ => some k_ ≠ (v230 : Value).ownBlock ∧ some k_ ≠ (v248 : Value).ownBlock) v258 t257) ∧ Aside0 (Below w.heap.size w w'))
                              case atStart => exact ⟨(0), (by first | rfl | (simp; done) | (simp [*]; done)), H', ⟨Nat.le_refl _⟩, ⟨by (with_reducible repeat (first | apply Kd.R_alloc | apply Kd.R_drewN | apply Kd.R_drew)); exact HO_7.out⟩, ⟨by (with_reducible repeat (first | apply Kd.R_alloc | apply Kd.R_drewN | apply Kd.R_drew)); exact HO_10.out⟩, ⟨by (with_reducible repeat (first | apply Kd.R_alloc | apply Kd.R_drewN | apply Kd.R_drew)); exact HO_12.out⟩, ⟨by repeat (first | (with_reducible first | exact HB.out | apply below_alloc | apply pw_below_drewN | apply below_drew1) | exact HB.out)⟩⟩
                              case round =>
                                clear H'
                                try clear c1
                                try clear c2
                                try clear p2
                                try clear c3
                                try clear p3
                                try clear q3
                                try clear hx3
                                try clear hf3
                                try clear c4
                                try clear c4b0
                                try clear c4b1
                                try clear hx4
                                try clear hf4
                                try clear c5
                                try clear c9
                                try clear c15
                                try clear c22
                                try clear c28
                                try clear c30
                                try clear c30b0
                                try clear c31
                                try clear c31b0
                                try clear c32
                                try clear p32
                                try clear q32
                                try clear hx32
                                try clear hf32
                                try clear c34
                                try clear c35
                                try clear c35b0
                                try clear c36
                                try clear p36
                                try clear q36
                                try clear hx36
                                try clear hf36
                                try clear c42
                                try clear hx42
                                try clear hf42
                                try clear c48
                                try clear hx48
                                try clear hf48
                                try clear c51
                                try clear c51b0
                                try clear c51b1
                                try clear c51b2
                                try clear c57
                                try clear hx32_0
                                try clear hx32_1
                                try clear hx32_2
                                try clear hx36_0
                                try clear hx36_1
                                try clear hx36_2
                                try clear hx42_0
                                try clear hx42_1
                                try clear hx42_2
                                try clear hx48_2
                                try clear p2
                                try clear p3
                                try clear p32
                                try clear p36
                                try clear q3
                                try clear q32
                                try clear q36
                                obtain ⟨x13_4, rfl, HA, HK4, HO_7, HO_10, HO_12, HB⟩ := hrel
                                cases gk with
                                | zero => exact absurd HA.out (by simp [laws_FnOverLess.l0])
                                | succ k4 =>
                                  have H := HA.out
                                  clear HA
                                  simp only [laws_FnOverLess.l0] at H
                                  by_cases c58 : x13_4 < 6
                                  · rw [if_pos c58] at H
                                    have c58b0 : decide (x13_4 < 6) = true := decide_eq_true c58
                                    clear c58
                                    by_cases c59 : 0 ≤ x13_4
                                    · rw [if_pos c59] at H
                                      have c59b0 : decide (0 ≤ x13_4) = true := decide_eq_true c59
                                      clear c59
                                      by_cases c60 : x13_4 < (t247.length : Int)
                                      · rw [if_pos c60] at H
                                        have c60b0 : decide (x13_4 < (t247.length : Int)) = true := decide_eq_true c60
                                        clear c60
                                        obtain ⟨bq61, hbq61⟩ : ∃ b_ : Bool, b_ = ((rd_T24 t247 x13_4).f0) := ⟨_, rfl⟩
                                        replace H : (if bq61 = true then (if x13_4 < (t229.length : Int) then (if (!((bq61) == ((rd_T24 t229 x13_4).f0)) || (!(((rd_T24 t247 x13_4).f1) == ((rd_T24 t229 x13_4).f1)) || (!(((rd_T24 t247 x13_4).f2) == ((rd_T24 t229 x13_4).f2))))) = true then (some false) else (if x13_4 < (t257.length : Int) then (if (((rd_T24 t257 x13_4).f0) != ((rd_T24 t229 x13_4).f0)) = true then (some false) else (if (rd_T24 t257 x13_4).f2 = true then (if ((rd_T24 t229 x13_4).f2 = true) then (if ((rd_T24 t257 x13_4).f1) = ((rd_T24 t229 x13_4).f1) then (laws_FnOverLess.l0 k4 t229 t247 t257 (wrap64 (x13_4 + 1))) else (some false)) else (some false)) else (if ((rd_T24 t257 x13_4).f1) = ((rd_T24 t229 x13_4).f1) then (laws_FnOverLess.l0 k4 t229 t247 t257 (wrap64 (x13_4 + 1))) else (some false)))) else (none))) else (none)) else (if x13_4 < (t257.length : Int) then (if x13_4 < (t229.length : Int) then (if (((rd_T24 t257 x13_4).f0) != ((rd_T24 t229 x13_4).f0)) = true then (some false) else (if (rd_T24 t257 x13_4).f2 = true then (if ((rd_T24 t229 x13_4).f2 = true) then (if ((rd_T24 t257 x13_4).f1) = ((rd_T24 t229 x13_4).f1) then (laws_FnOverLess.l0 k4 t229 t247 t257 (wrap64 (x13_4 + 1))) else (some false)) else (some false)) else (if ((rd_T24 t257 x13_4).f1) = ((rd_T24 t229 x13_4).f1) then (laws_FnOverLess.l0 k4 t229 t247 t257 (wrap64 (x13_4 + 1))) else (some false)))) else (none)) else (none))) = some r := by rw [← hbq61] at H; exact H
                                        have Nbq61 := Aside0.mk hbq61
                                        clear hbq61
                                        by_cases c62 : bq61 = true
                                        · subst c62
                                          have H1 : (if x13_4 < (t229.length : Int) then (if (!((true) == ((rd_T24 t229 x13_4).f0)) || (!(((rd_T24 t247 x13_4).f1) == ((rd_T24 t229 x13_4).f1)) || (!(((rd_T24 t247 x13_4).f2) == ((rd_T24 t229 x13_4).f2))))) = true then (some false) else (if x13_4 < (t257.length : Int) then (if (((rd_T24 t257 x13_4).f0) != ((rd_T24 t229 x13_4).f0)) = true then (some false) else (if (rd_T24 t257 x13_4).f2 = true then (if ((rd_T24 t229 x13_4).f2 = true) then (if ((rd_T24 t257 x13_4).f1) = ((rd_T24 t229 x13_4).f1) then (laws_FnOverLess.l0 k4 t229 t247 t257 (wrap64 (x13_4 + 1))) else (some false)) else (some false)) else (if ((rd_T24 t257 x13_4).f1) = ((rd_T24 t229 x13_4).f1) then (laws_FnOverLess.l0 k4 t229 t247 t257 (wrap64 (x13_4 + 1))) else (some false)))) else (none))) else (none)) = some r := by rw [if_pos rfl] at H; exact H
                                          clear H
                                          have H := H1
                                          clear H1
                                          by_cases c63 : x13_4 < (t229.length : Int)
                                          · rw [if_pos c63] at H
                                            have c63b0 : decide (x13_4 < (t229.length : Int)) = true := decide_eq_true c63
                                            clear c63
                                            by_cases c64 : (!((true) == ((rd_T24 t229 x13_4).f0)) || (!(((rd_T24 t247 x13_4).f1) == ((rd_T24 t229 x13_4).f1)) || (!(((rd_T24 t247 x13_4).f2) == ((rd_T24 t229 x13_4).f2))))) = true
                                            · rw [if_pos c64] at H
                                              have c64b0 : (!((true) == ((rd_T24 t229 x13_4).f0)) || (!(((rd_T24 t247 x13_4).f1) == ((rd_T24 t229 x13_4).f1)) || (!(((rd_T24 t247 x13_4).f2) == ((rd_T24 t229 x13_4).f2))))) = true := c64
                                              (try (have c64b9 := c64b0; simp only [Bool.true_beq, Bool.false_beq, Bool.not_not] at c64b9))
                                              clear c64
                                              obtain rfl := Option.some.inj H
                                              obtain ⟨Ao65, co65, eo65⟩ := Kd.R_slice HO_10.out
                                              subst eo65
                                              have p260 : 0 ≤ (x13_4 : Int) := of_decide_eq_true (by first | (with_reducible assumption) | assumption)
                                              have q260 : x13_4 < (t247.length : Int) := of_decide_eq_true (by first | (with_reducible assumption) | assumption)
                                              (try (obtain ⟨Aq260, cq260, eq260⟩ := Kd.R_slice HO_10.out; subst eq260))
                                              obtain ⟨ad260, e260, hx260_0, hx260_1, hx260_2⟩ := at_T24 (Kd.R_reads' HO_10.out).2.2 x13_4 p260 q260
                                              (try rw [← Nbq61.out] at hx260_0)
                                              (try rw [← Nbq61.out] at hx260_2)
                                              cases e260
                                              replace p260 := eq_true p260
                                              replace q260 := eq_true q260
                                              have p261 : 0 ≤ (x13_4 : Int) := of_decide_eq_true (by first | (with_reducible assumption) | assumption)
                                              have q261 : x13_4 < (t247.length : Int) := of_decide_eq_true (by first | (with_reducible assumption) | assumption)
                                              (try (obtain ⟨Aq261, cq261, eq261⟩ := Kd.R_slice HO_10.out; subst eq261))
                                              obtain ⟨ad261, e261, hx261_0, hx261_1, hx261_2⟩ := at_T24 (Kd.R_reads' HO_10.out).2.2 x13_4 p261 q261
                                              (try rw [← Nbq61.out] at hx261_0)
                                              (try rw [← Nbq61.out] at hx261_2)
                                              obtain rfl : ad260 = ad261 := (by injection e261)
                                              replace p261 := eq_true p261
                                              replace q261 := eq_true q261
                                              obtain ⟨Ao66, co66, eo66⟩ := Kd.R_slice HO_7.out
                                              subst eo66
                                              have p262 : 0 ≤ (x13_4 : Int) := of_decide_eq_true (by first | (with_reducible assumption) | assumption)
                                              have q262 : x13_4 < (t229.length : Int) := of_decide_eq_true (by first | (with_reducible assumption) | assumption)
                                              (try (obtain ⟨Aq262, cq262, eq262⟩ := Kd.R_slice HO_7.out; subst eq262))
                                              obtain ⟨ad262, e262, hx262_0, hx262_1, hx262_2⟩ := at_T24 (Kd.R_reads' HO_7.out).2.2 x13_4 p262 q262
                                              (try rw [← Nbq61.out] at hx262_0)
                                              (try rw [← Nbq61.out] at hx262_2)
                                              cases e262
                                              replace p262 := eq_true p262
                                              replace q262 := eq_true q262
                                              go_wp2
                                              repeat (go_quiet (fail); try go_wp2)
                                              go_ret
                                              exact ⟨by first | rfl | (simp [errW_none, errW_some] <;> rfl) | (simp only [← hji29]; first | rfl | (simp [errW_none, errW_some] <;> rfl)) | (simp [*, errW_none, errW_some] <;> rfl), by repeat (first | (with_reducible first | exact HB.out | apply below_alloc | apply pw_below_drewN | apply below_drew1) | exact HB.out)⟩
                                            · rw [if_neg c64] at H
                                              have c64b0 : (!((true) == ((rd_T24 t229 x13_4).f0)) || (!(((rd_T24 t247 x13_4).f1) == ((rd_T24 t229 x13_4).f1)) || (!(((rd_T24 t247 x13_4).f2) == ((rd_T24 t229 x13_4).f2))))) = false := by simpa using c64
                                              (try (have c64b9 := c64b0; simp only [Bool.true_beq, Bool.false_beq, Bool.not_not] at c64b9))
                                              clear c64
                                              by_cases c67 : x13_4 < (t257.length : Int)
                                              · rw [if_pos c67] at H
                                                have c67b0 : decide (x13_4 < (t257.length : Int)) = true := decide_eq_true c67
                                                clear c67
                                                by_cases c68 : (((rd_T24 t257 x13_4).f0) != ((rd_T24 t229 x13_4).f0)) = true
                                                · rw [if_pos c68] at H
                                                  have c68b0 : (((rd_T24 t257 x13_4).f0) != ((rd_T24 t229 x13_4).f0)) = true := c68
                                                  (try (have c68b1 : decide (((rd_T24 t257 x13_4).f0) = ((rd_T24 t229 x13_4).f0)) = false := by simpa using c68))
                                                  (try (have c68b2 : (((rd_T24 t257 x13_4).f0) == ((rd_T24 t229 x13_4).f0)) = false := by simpa using c68))
                                                  (try (have c68b3 : ¬ (((rd_T24 t257 x13_4).f0) = ((rd_T24 t229 x13_4).f0)) := by simpa using c68))
                                                  clear c68
                                                  obtain rfl := Option.some.inj H
                                                  obtain ⟨Ao69, co69, eo69⟩ := Kd.R_slice HO_10.out
                                                  subst eo69
                                                  have p260 : 0 ≤ (x13_4 : Int) := of_decide_eq_true (by first | (with_reducible assumption) | assumption)
                                                  have q260 : x13_4 < (t247.length : Int) := of_decide_eq_true (by first | (with_reducible assumption) | assumption)
                                                  (try (obtain ⟨Aq260, cq260, eq260⟩ := Kd.R_slice HO_10.out; subst eq260))
                                                  obtain ⟨ad260, e260, hx260_0, hx260_1, hx260_2⟩ := at_T24 (Kd.R_reads' HO_10.out).2.2 x13_4 p260 q260
                                                  (try rw [← Nbq61.out] at hx260_0)
                                                  (try rw [← Nbq61.out] at hx260_2)
                                                  cases e260
                                                  replace p260 := eq_true p260
                                                  replace q260 := eq_true q260
                                                  have p261 : 0 ≤ (x13_4 : Int) := of_decide_eq_true (by first | (with_reducible assumption) | assumption)
                                                  have q261 : x13_4 < (t247.length : Int) := of_decide_eq_true (by first | (with_reducible assumption) | assumption)
                                                  (try (obtain ⟨Aq261, cq261, eq261⟩ := Kd.R_slice HO_10.out; subst eq261))
                                                  obtain ⟨ad261, e261, hx261_0, hx261_1, hx261_2⟩ := at_T24 (Kd.R_reads' HO_10.out).2.2 x13_4 p261 q261
                                                  (try rw [← Nbq61.out] at hx261_0)
                                                  (try rw [← Nbq61.out] at hx261_2)
                                                  obtain rfl : ad260 = ad261 := (by injection e261)
                                                  replace p261 := eq_true p261
                                                  replace q261 := eq_true q261
                                                  obtain ⟨Ao70, co70, eo70⟩ := Kd.R_slice HO_7.out
                                                  subst eo70
                                                  have p262 : 0 ≤ (x13_4 : Int) := of_decide_eq_true (by first | (with_reducible assumption) | assumption)
                                                  have q262 : x13_4 < (t229.length : Int) := of_decide_eq_true (by first | (with_reducible assumption) | assumption)
                                                  (try (obtain ⟨Aq262, cq262, eq262⟩ := Kd.R_slice HO_7.out; subst eq262))
                                                  obtain ⟨ad262, e262, hx262_0, hx262_1, hx262_2⟩ := at_T24 (Kd.R_reads' HO_7.out).2.2 x13_4 p262 q262
                                                  (try rw [← Nbq61.out] at hx262_0)
                                                  (try rw [← Nbq61.out] at hx262_2)
                                                  cases e262
                                                  replace p262 := eq_true p262
                                                  replace q262 := eq_true q262
                                                  obtain ⟨Ao71, co71, eo71⟩ := Kd.R_slice HO_12.out
                                                  subst eo71
                                                  have p263 : 0 ≤ (x13_4 : Int) := of_decide_eq_true (by first | (with_reducible assumption) | assumption)
                                                  have q263 : x13_4 < (t257.length : Int) := of_decide_eq_true (by first | (with_reducible assumption) | assumption)
                                                  (try (obtain ⟨Aq263, cq263, eq263⟩ := Kd.R_slice HO_12.out; subst eq263))
                                                  obtain ⟨ad263, e263, hx263_0, hx263_1, hx263_2⟩ := at_T24 (Kd.R_reads' HO_12.out).2.2 x13_4 p263 q263
                                                  (try rw [← Nbq61.out] at hx263_0)
                                                  (try rw [← Nbq61.out] at hx263_2)
                                                  cases e263
                                                  replace p263 := eq_true p263
                                                  replace q263 := eq_true q263
                                                  have p264 : 0 ≤ (x13_4 : Int) := of_decide_eq_true (by first | (with_reducible assumption) | assumption)
                                                  have q264 : x13_4 < (t229.length : Int) := of_decide_eq_true (by first | (with_reducible assumption) | assumption)
                                                  (try (obtain ⟨Aq264, cq264, eq264⟩ := Kd.R_slice HO_7.out; subst eq264))
                                                  obtain ⟨ad264, e264, hx264_0, hx264_1, hx264_2⟩ := at_T24 (Kd.R_reads' HO_7.out).2.2 x13_4 p264 q264
                                                  (try rw [← Nbq61.out] at hx264_0)
                                                  (try rw [← Nbq61.out] at hx264_2)
                                                  obtain rfl : ad262 = ad264 := (by injection e264)
                                                  replace p264 := eq_true p264
                                                  replace q264 := eq_true q264
                                                  go_wp2
                                                  repeat (go_quiet (fail); try go_wp2)
                                                  go_ret
                                                  exact ⟨by first | rfl | (simp [errW_none, errW_some] <;> rfl) | (simp only [← hji29]; first | rfl | (simp [errW_none, errW_some] <;> rfl)) | (simp [*, errW_none, errW_some] <;> rfl), by repeat (first | (with_reducible first | exact HB.out | apply below_alloc | apply pw_below_drewN | apply below_drew1) | exact HB.out)⟩
                                                · rw [if_neg c68] at H
                                                  have c68b0 : (((rd_T24 t257 x13_4).f0) != ((rd_T24 t229 x13_4).f0)) = false := by simpa using c68
                                                  (try (have c68b1 : decide (((rd_T24 t257 x13_4).f0) = ((rd_T24 t229 x13_4).f0)) = true := by simpa using c68))
                                                  (try (have c68b2 : (((rd_T24 t257 x13_4).f0) == ((rd_T24 t229 x13_4).f0)) = true := by simpa using c68))
                                                  clear c68
                                                  obtain ⟨bq72, hbq72⟩ : ∃ b_ : Bool, b_ = ((rd_T24 t257 x13_4).f2) := ⟨_, rfl⟩
                                                  replace H : (if bq72 = true then (if ((rd_T24 t229 x13_4).f2 = true) then (if ((rd_T24 t257 x13_4).f1) = ((rd_T24 t229 x13_4).f1) then (laws_FnOverLess.l0 k4 t229 t247 t257 (wrap64 (x13_4 + 1))) else (some false)) else (some false)) else (if ((rd_T24 t257 x13_4).f1) = ((rd_T24 t229 x13_4).f1) then (laws_FnOverLess.l0 k4 t229 t247 t257 (wrap64 (x13_4 + 1))) else (some false))) = some r := by rw [← hbq72] at H; exact H
                                                  have Nbq72 := Aside0.mk hbq72
                                                  clear hbq72
                                                  by_cases c73 : bq72 = true
                                                  · subst c73
                                                    have H1 : (if ((rd_T24 t229 x13_4).f2 = true) then (if ((rd_T24 t257 x13_4).f1) = ((rd_T24 t229 x13_4).f1) then (laws_FnOverLess.l0 k4 t229 t247 t257 (wrap64 (x13_4 + 1))) else (some false)) else (some false)) = some r := by rw [if_pos rfl] at H; exact H
                                                    clear H
                                                    have H := H1
                                                    clear H1
                                                    obtain ⟨bq74, hbq74⟩ : ∃ b_ : Bool, b_ = ((rd_T24 t229 x13_4).f2) := ⟨_, rfl⟩
                                                    replace H : (if (bq74 = true) then (if ((rd_T24 t257 x13_4).f1) = ((rd_T24 t229 x13_4).f1) then (laws_FnOverLess.l0 k4 t229 t247 t257 (wrap64 (x13_4 + 1))) else (some false)) else (some false)) = some r := by rw [← hbq74] at H; exact H
                                                    have Nbq74 := Aside0.mk hbq74
                                                    clear hbq74
                                                    by_cases c75 : (bq74 = true)
                                                    · subst c75
                                                      (try (have c64b7bq74 := c64b0; simp only [Bool.true_beq, Bool.false_beq, Bool.not_not, ← Nbq74.out, beq_true, beq_false] at c64b7bq74))
                                                      have H1 : (if ((rd_T24 t257 x13_4).f1) = ((rd_T24 t229 x13_4).f1) then (laws_FnOverLess.l0 k4 t229 t247 t257 (wrap64 (x13_4 + 1))) else (some false)) = some r := by rw [if_pos rfl] at H; exact H
                                                      clear H
                                                      have H := H1
                                                      clear H1
                                                      by_cases c76 : ((rd_T24 t257 x13_4).f1) = ((rd_T24 t229 x13_4).f1)
                                                      · rw [if_pos c76] at H
                                                        have c76b0 : (((rd_T24 t257 x13_4).f1) == ((rd_T24 t229 x13_4).f1)) = true := beq_iff_eq.mpr c76
                                                        have c76b1 : (((rd_T24 t257 x13_4).f1) != ((rd_T24 t229 x13_4).f1)) = false := bne_eq_false_iff_eq.mpr c76
                                                        clear c76
                                                        have H' := Aside0.mk H
                                                        clear H
                                                        obtain ⟨Ao77, co77, eo77⟩ := Kd.R_slice HO_10.out
                                                        subst eo77
                                                        have p260 : 0 ≤ (x13_4 : Int) := of_decide_eq_true (by first | (with_reducible assumption) | assumption)
                                                        have q260 : x13_4 < (t247.length : Int) := of_decide_eq_true (by first | (with_reducible assumption) | assumption)
                                                        (try (obtain ⟨Aq260, cq260, eq260⟩ := Kd.R_slice HO_10.out; subst eq260))
                                                        obtain ⟨ad260, e260, hx260_0, hx260_1, hx260_2⟩ := at_T24 (Kd.R_reads' HO_10.out).2.2 x13_4 p260 q260
                                                        (try rw [← Nbq61.out] at hx260_0)
                                                        (try rw [← Nbq72.out] at hx260_0)
                                                        (try rw [← Nbq74.out] at hx260_0)
                                                        (try rw [← Nbq61.out] at hx260_2)
                                                        (try rw [← Nbq72.out] at hx260_2)
                                                        (try rw [← Nbq74.out] at hx260_2)
                                                        cases e260
                                                        replace p260 := eq_true p260
                                                        replace q260 := eq_true q260
                                                        have p261 : 0 ≤ (x13_4 : Int) := of_decide_eq_true (by first | (with_reducible assumption) | assumption)
                                                        have q261 : x13_4 < (t247.length : Int) := of_decide_eq_true (by first | (with_reducible assumption) | assumption)
                                                        (try (obtain ⟨Aq261, cq261, eq261⟩ := Kd.R_slice HO_10.out; subst eq261))
                                                        obtain ⟨ad261, e261, hx261_0, hx261_1, hx261_2⟩ := at_T24 (Kd.R_reads' HO_10.out).2.2 x13_4 p261 q261
                                                        (try rw [← Nbq61.out] at hx261_0)
                                                        (try rw [← Nbq72.out] at hx261_0)
                                                        (try rw [← Nbq74.out] at hx261_0)
                                                        (try rw [← Nbq61.out] at hx261_2)
                                                        (try rw [← Nbq72.out] at hx261_2)
                                                        (try rw [← Nbq74.out] at hx261_2)
                                                        obtain rfl : ad260 = ad261 := (by injection e261)
                                                        replace p261 := eq_true p261
                                                        replace q261 := eq_true q261
                                                        obtain ⟨Ao78, co78, eo78⟩ := Kd.R_slice HO_7.out
                                                        subst eo78
                                                        have p262 : 0 ≤ (x13_4 : Int) := of_decide_eq_true (by first | (with_reducible assumption) | assumption)
                                                        have q262 : x13_4 < (t229.length : Int) := of_decide_eq_true (by first | (with_reducible assumption) | assumption)
                                                        (try (obtain ⟨Aq262, cq262, eq262⟩ := Kd.R_slice HO_7.out; subst eq262))
                                                        obtain ⟨ad262, e262, hx262_0, hx262_1, hx262_2⟩ := at_T24 (Kd.R_reads' HO_7.out).2.2 x13_4 p262 q262
                                                        (try rw [← Nbq61.out] at hx262_0)
                                                        (try rw [← Nbq72.out] at hx262_0)
                                                        (try rw [← Nbq74.out] at hx262_0)
                                                        (try rw [← Nbq61.out] at hx262_2)
                                                        (try rw [← Nbq72.out] at hx262_2)
                                                        (try rw [← Nbq74.out] at hx262_2)
                                                        cases e262
                                                        replace p262 := eq_true p262
                                                        replace q262 := eq_true q262
                                                        obtain ⟨Ao79, co79, eo79⟩ := Kd.R_slice HO_12.out
                                                        subst eo79
                                                        have p263 : 0 ≤ (x13_4 : Int) := of_decide_eq_true (by first | (with_reducible assumption) | assumption)
                                                        have q263 : x13_4 < (t257.length : Int) := of_decide_eq_true (by first | (with_reducible assumption) | assumption)
                                                        (try (obtain ⟨Aq263, cq263, eq263⟩ := Kd.R_slice HO_12.out; subst eq263))
                                                        obtain ⟨ad263, e263, hx263_0, hx263_1, hx263_2⟩ := at_T24 (Kd.R_reads' HO_12.out).2.2 x13_4 p263 q263
                                                        (try rw [← Nbq61.out] at hx263_0)
                                                        (try rw [← Nbq72.out] at hx263_0)
                                                        (try rw [← Nbq74.out] at hx263_0)
                                                        (try rw [← Nbq61.out] at hx263_2)
                                                        (try rw [← Nbq72.out] at hx263_2)
                                                        (try rw [← Nbq74.out] at hx263_2)
                                                        cases e263
                                                        replace p263 := eq_true p263
                                                        replace q263 := eq_true q263
                                                        have p264 : 0 ≤ (x13_4 : Int) := of_decide_eq_true (by first | (with_reducible assumption) | assumption)
                                                        have q264 : x13_4 < (t229.length : Int) := of_decide_eq_true (by first | (with_reducible assumption) | assumption)
                                                        (try (obtain ⟨Aq264, cq264, eq264⟩ := Kd.R_slice HO_7.out; subst eq264))
                                                        obtain ⟨ad264, e264, hx264_0, hx264_1, hx264_2⟩ := at_T24 (Kd.R_reads' HO_7.out).2.2 x13_4 p264 q264
                                                        (try rw [← Nbq61.out] at hx264_0)
                                                        (try rw [← Nbq72.out] at hx264_0)
                                                        (try rw [← Nbq74.out] at hx264_0)
                                                        (try rw [← Nbq61.out] at hx264_2)
                                                        (try rw [← Nbq72.out] at hx264_2)
                                                        (try rw [← Nbq74.out] at hx264_2)
                                                        obtain rfl : ad262 = ad264 := (by injection e264)
                                                        replace p264 := eq_true p264
                                                        replace q264 := eq_true q264
                                                        have p265 : 0 ≤ (x13_4 : Int) := of_decide_eq_true (by first | (with_reducible assumption) | assumption)
                                                        have q265 : x13_4 < (t257.length : Int) := of_decide_eq_true (by first | (with_reducible assumption) | assumption)
                                                        (try (obtain ⟨Aq265, cq265, eq265⟩ := Kd.R_slice HO_12.out; subst eq265))
                                                        obtain ⟨ad265, e265, hx265_0, hx265_1, hx265_2⟩ := at_T24 (Kd.R_reads' HO_12.out).2.2 x13_4 p265 q265
                                                        (try rw [← Nbq61.out] at hx265_0)
                                                        (try rw [← Nbq72.out] at hx265_0)
                                                        (try rw [← Nbq74.out] at hx265_0)
                                                        (try rw [← Nbq61.out] at hx265_2)
                                                        (try rw [← Nbq72.out] at hx265_2)
                                                        (try rw [← Nbq74.out] at hx265_2)
                                                        obtain rfl : ad263 = ad265 := (by injection e265)
                                                        replace p265 := eq_true p265
                                                        replace q265 := eq_true q265
                                                        have p266 : 0 ≤ (x13_4 : Int) := of_decide_eq_true (by first | (with_reducible assumption) | assumption)
                                                        have q266 : x13_4 < (t229.length : Int) := of_decide_eq_true (by first | (with_reducible assumption) | assumption)
                                                        (try (obtain ⟨Aq266, cq266, eq266⟩ := Kd.R_slice HO_7.out; subst eq266))
                                                        obtain ⟨ad266, e266, hx266_0, hx266_1, hx266_2⟩ := at_T24 (Kd.R_reads' HO_7.out).2.2 x13_4 p266 q266
                                                        (try rw [← Nbq61.out] at hx266_0)
                                                        (try rw [← Nbq72.out] at hx266_0)
                                                        (try rw [← Nbq74.out] at hx266_0)
                                                        (try rw [← Nbq61.out] at hx266_2)
                                                        (try rw [← Nbq72.out] at hx266_2)
                                                        (try rw [← Nbq74.out] at hx266_2)
                                                        obtain rfl : ad262 = ad266 := (by injection e266)
                                                        replace p266 := eq_true p266
                                                        replace q266 := eq_true q266
                                                        have p267 : 0 ≤ (x13_4 : Int) := of_decide_eq_true (by first | (with_reducible assumption) | assumption)
                                                        have q267 : x13_4 < (t257.length : Int) := of_decide_eq_true (by first | (with_reducible assumption) | assumption)
                                                        (try (obtain ⟨Aq267, cq267, eq267⟩ := Kd.R_slice HO_12.out; subst eq267))
                                                        obtain ⟨ad267, e267, hx267_0, hx267_1, hx267_2⟩ := at_T24 (Kd.R_reads' HO_12.out).2.2 x13_4 p267 q267
                                                        (try rw [← Nbq61.out] at hx267_0)
                                                        (try rw [← Nbq72.out] at hx267_0)
                                                        (try rw [← Nbq74.out] at hx267_0)
                                                        (try rw [← Nbq61.out] at hx267_2)
                                                        (try rw [← Nbq72.out] at hx267_2)
                                                        (try rw [← Nbq74.out] at hx267_2)
                                                        obtain rfl : ad263 = ad267 := (by injection e267)
                                                        replace p267 := eq_true p267
                                                        replace q267 := eq_true q267
                                                        have p268 : 0 ≤ (x13_4 : Int) := of_decide_eq_true (by first | (with_reducible assumption) | assumption)
                                                        have q268 : x13_4 < (t229.length : Int) := of_decide_eq_true (by first | (with_reducible assumption) | assumption)
                                                        (try (obtain ⟨Aq268, cq268, eq268⟩ := Kd.R_slice HO_7.out; subst eq268))
                                                        obtain ⟨ad268, e268, hx268_0, hx268_1, hx268_2⟩ := at_T24 (Kd.R_reads' HO_7.out).2.2 x13_4 p268 q268
                                                        (try rw [← Nbq61.out] at hx268_0)
                                                        (try rw [← Nbq72.out] at hx268_0)
                                                        (try rw [← Nbq74.out] at hx268_0)
                                                        (try rw [← Nbq61.out] at hx268_2)
                                                        (try rw [← Nbq72.out] at hx268_2)
                                                        (try rw [← Nbq74.out] at hx268_2)
                                                        obtain rfl : ad262 = ad268 := (by injection e268)
                                                        replace p268 := eq_true p268
                                                        replace q268 := eq_true q268
                                                        go_wp2
                                                        repeat (go_quiet (fail); try go_wp2)
                                                        go_roundg k4
                                                        case measure => have := HJ2.out; have := HJ7.out; have := HJ37.out; have := HK4.out; omega
                                                        case rel => exact ⟨(wrap64 (x13_4 + 1)), (by first | rfl | (simp; done) | (simp [*]; done)), H', ⟨by have := HJ2.out; have := HJ7.out; have := HJ37.out; have := HK4.out; omega⟩, ⟨by (with_reducible repeat (first | apply Kd.R_alloc | apply Kd.R_drewN | apply Kd.R_drew)); exact HO_7.out⟩, ⟨by (with_reducible repeat (first | apply Kd.R_alloc | apply Kd.R_drewN | apply Kd.R_drew)); exact HO_10.out⟩, ⟨by (with_reducible repeat (first | apply Kd.R_alloc | apply Kd.R_drewN | apply Kd.R_drew)); exact HO_12.out⟩, ⟨by repeat (first | (with_reducible first | exact HB.out | apply below_alloc | apply pw_below_drewN | apply below_drew1) | exact HB.out)⟩⟩
                                                      · rw [if_neg c76] at H
                                                        have c76b0 : (((rd_T24 t257 x13_4).f1) == ((rd_T24 t229 x13_4).f1)) = false := beq_eq_false_iff_ne.mpr c76
                                                        have c76b1 : (((rd_T24 t257 x13_4).f1) != ((rd_T24 t229 x13_4).f1)) = true := bne_iff_ne.mpr c76
                                                        obtain rfl := Option.some.inj H
                                                        obtain ⟨Ao80, co80, eo80⟩ := Kd.R_slice HO_10.out
                                                        subst eo80
                                                        have p260 : 0 ≤ (x13_4 : Int) := of_decide_eq_true (by first | (with_reducible assumption) | assumption)
                                                        have q260 : x13_4 < (t247.length : Int) := of_decide_eq_true (by first | (with_reducible assumption) | assumption)
                                                        (try (obtain ⟨Aq260, cq260, eq260⟩ := Kd.R_slice HO_10.out; subst eq260))
                                                        obtain ⟨ad260, e260, hx260_0, hx260_1, hx260_2⟩ := at_T24 (Kd.R_reads' HO_10.out).2.2 x13_4 p260 q260
                                                        (try rw [← Nbq61.out] at hx260_0)
                                                        (try rw [← Nbq72.out] at hx260_0)
                                                        (try rw [← Nbq74.out] at hx260_0)
                                                        (try rw [← Nbq61.out] at hx260_2)
                                                        (try rw [← Nbq72.out] at hx260_2)
                                                        (try rw [← Nbq74.out] at hx260_2)
                                                        cases e260
                                                        replace p260 := eq_true p260
                                                        replace q260 := eq_true q260
                                                        have p261 : 0 ≤ (x13_4 : Int) := of_decide_eq_true (by first | (with_reducible assumption) | assumption)
                                                        have q261 : x13_4 < (t247.length : Int) := of_decide_eq_true (by first | (with_reducible assumption) | assumption)
                                                        (try (obtain ⟨Aq261, cq261, eq261⟩ := Kd.R_slice HO_10.out; subst eq261))
                                                        obtain ⟨ad261, e261, hx261_0, hx261_1, hx261_2⟩ := at_T24 (Kd.R_reads' HO_10.out).2.2 x13_4 p261 q261
                                                        (try rw [← Nbq61.out] at hx261_0)
                                                        (try rw [← Nbq72.out] at hx261_0)
                                                        (try rw [← Nbq74.out] at hx261_0)
                                                        (try rw [← Nbq61.out] at hx261_2)
                                                        (try rw [← Nbq72.out] at hx261_2)
                                                        (try rw [← Nbq74.out] at hx261_2)
                                                        obtain rfl : ad260 = ad261 := (by injection e261)
                                                        replace p261 := eq_true p261
                                                        replace q261 := eq_true q261
                                                        obtain ⟨Ao81, co81, eo81⟩ := Kd.R_slice HO_7.out
                                                        subst eo81
                                                        have p262 : 0 ≤ (x13_4 : Int) := of_decide_eq_true (by first | (with_reducible assumption) | assumption)
                                                        have q262 : x13_4 < (t229.length : Int) := of_decide_eq_true (by first | (with_reducible assumption) | assumption)
                                                        (try (obtain ⟨Aq262, cq262, eq262⟩ := Kd.R_slice HO_7.out; subst eq262))
                                                        obtain ⟨ad262, e262, hx262_0, hx262_1, hx262_2⟩ := at_T24 (Kd.R_reads' HO_7.out).2.2 x13_4 p262 q262
                                                        (try rw [← Nbq61.out] at hx262_0)
                                                        (try rw [← Nbq72.out] at hx262_0)
                                                        (try rw [← Nbq74.out] at hx262_0)
                                                        (try rw [← Nbq61.out] at hx262_2)
                                                        (try rw [← Nbq72.out] at hx262_2)
                                                        (try rw [← Nbq74.out] at hx262_2)
                                                        cases e262
                                                        replace p262 := eq_true p262
                                                        replace q262 := eq_true q262
                                                        obtain ⟨Ao82, co82, eo82⟩ := Kd.R_slice HO_12.out
                                                        subst eo82
                                                        have p263 : 0 ≤ (x13_4 : Int) := of_decide_eq_true (by first | (with_reducible assumption) | assumption)
                                                        have q263 : x13_4 < (t257.length : Int) := of_decide_eq_true (by first | (with_reducible assumption) | assumption)
                                                        (try (obtain ⟨Aq263, cq263, eq263⟩ := Kd.R_slice HO_12.out; subst eq263))
                                                        obtain ⟨ad263, e263, hx263_0, hx263_1, hx263_2⟩ := at_T24 (Kd.R_reads' HO_12.out).2.2 x13_4 p263 q263
                                                        (try rw [← Nbq61.out] at hx263_0)
                                                        (try rw [← Nbq72.out] at hx263_0)
                                                        (try rw [← Nbq74.out] at hx263_0)
                                                        (try rw [← Nbq61.out] at hx263_2)
                                                        (try rw [← Nbq72.out] at hx263_2)
                                                        (try rw [← Nbq74.out] at hx263_2)
                                                        cases e263
                                                        replace p263 := eq_true p263
                                                        replace q263 := eq_true q263
                                                        have p264 : 0 ≤ (x13_4 : Int) := of_decide_eq_true (by first | (with_reducible assumption) | assumption)
                                                        have q264 : x13_4 < (t229.length : Int) := of_decide_eq_true (by first | (with_reducible assumption) | assumption)
                                                        (try (obtain ⟨Aq264, cq264, eq264⟩ := Kd.R_slice HO_7.out; subst eq264))
                                                        obtain ⟨ad264, e264, hx264_0, hx264_1, hx264_2⟩ := at_T24 (Kd.R_reads' HO_7.out).2.2 x13_4 p264 q264
                                                        (try rw [← Nbq61.out] at hx264_0)
                                                        (try rw [← Nbq72.out] at hx264_0)
                                                        (try rw [← Nbq74.out] at hx264_0)
                                                        (try rw [← Nbq61.out] at hx264_2)
                                                        (try rw [← Nbq72.out] at hx264_2)
                                                        (try rw [← Nbq74.out] at hx264_2)
                                                        obtain rfl : ad262 = ad264 := (by injection e264)
                                                        replace p264 := eq_true p264
                                                        replace q264 := eq_true q264
                                                        have p265 : 0 ≤ (x13_4 : Int) := of_decide_eq_true (by first | (with_reducible assumption) | assumption)
                                                        have q265 : x13_4 < (t257.length : Int) := of_decide_eq_true (by first | (with_reducible assumption) | assumption)
                                                        (try (obtain ⟨Aq265, cq265, eq265⟩ := Kd.R_slice HO_12.out; subst eq265))
                                                        obtain ⟨ad265, e265, hx265_0, hx265_1, hx265_2⟩ := at_T24 (Kd.R_reads' HO_12.out).2.2 x13_4 p265 q265
                                                        (try rw [← Nbq61.out] at hx265_0)
                                                        (try rw [← Nbq72.out] at hx265_0)
                                                        (try rw [← Nbq74.out] at hx265_0)
                                                        (try rw [← Nbq61.out] at hx265_2)
                                                        (try rw [← Nbq72.out] at hx265_2)
                                                        (try rw [← Nbq74.out] at hx265_2)
                                                        obtain rfl : ad263 = ad265 := (by injection e265)
                                                        replace p265 := eq_true p265
                                                        replace q265 := eq_true q265
                                                        have p266 : 0 ≤ (x13_4 : Int) := of_decide_eq_true (by first | (with_reducible assumption) | assumption)
                                                        have q266 : x13_4 < (t229.length : Int) := of_decide_eq_true (by first | (with_reducible assumption) | assumption)
                                                        (try (obtain ⟨Aq266, cq266, eq266⟩ := Kd.R_slice HO_7.out; subst eq266))
                                                        obtain ⟨ad266, e266, hx266_0, hx266_1, hx266_2⟩ := at_T24 (Kd.R_reads' HO_7.out).2.2 x13_4 p266 q266
                                                        (try rw [← Nbq61.out] at hx266_0)
                                                        (try rw [← Nbq72.out] at hx266_0)
                                                        (try rw [← Nbq74.out] at hx266_0)
                                                        (try rw [← Nbq61.out] at hx266_2)
                                                        (try rw [← Nbq72.out] at hx266_2)
                                                        (try rw [← Nbq74.out] at hx266_2)
                                                        obtain rfl : ad262 = ad266 := (by injection e266)
                                                        replace p266 := eq_true p266
                                                        replace q266 := eq_true q266
                                                        have p267 : 0 ≤ (x13_4 : Int) := of_decide_eq_true (by first | (with_reducible assumption) | assumption)
                                                        have q267 : x13_4 < (t257.length : Int) := of_decide_eq_true (by first | (with_reducible assumption) | assumption)
                                                        (try (obtain ⟨Aq267, cq267, eq267⟩ := Kd.R_slice HO_12.out; subst eq267))
                                                        obtain ⟨ad267, e267, hx267_0, hx267_1, hx267_2⟩ := at_T24 (Kd.R_reads' HO_12.out).2.2 x13_4 p267 q267
                                                        (try rw [← Nbq61.out] at hx267_0)
                                                        (try rw [← Nbq72.out] at hx267_0)
                                                        (try rw [← Nbq74.out] at hx267_0)
                                                        (try rw [← Nbq61.out] at hx267_2)
                                                        (try rw [← Nbq72.out] at hx267_2)
                                                        (try rw [← Nbq74.out] at hx267_2)
                                                        obtain rfl : ad263 = ad267 := (by injection e267)
                                                        replace p267 := eq_true p267
                                                        replace q267 := eq_true q267
                                                        have p268 : 0 ≤ (x13_4 : Int) := of_decide_eq_true (by first | (with_reducible assumption) | assumption)
                                                        have q268 : x13_4 < (t229.length : Int) := of_decide_eq_true (by first | (with_reducible assumption) | assumption)
                                                        (try (obtain ⟨Aq268, cq268, eq268⟩ := Kd.R_slice HO_7.out; subst eq268))
                                                        obtain ⟨ad268, e268, hx268_0, hx268_1, hx268_2⟩ := at_T24 (Kd.R_reads' HO_7.out).2.2 x13_4 p268 q268
                                                        (try rw [← Nbq61.out] at hx268_0)
                                                        (try rw [← Nbq72.out] at hx268_0)
                                                        (try rw [← Nbq74.out] at hx268_0)
                                                        (try rw [← Nbq61.out] at hx268_2)
                                                        (try rw [← Nbq72.out] at hx268_2)
                                                        (try rw [← Nbq74.out] at hx268_2)
                                                        obtain rfl : ad262 = ad268 := (by injection e268)
                                                        replace p268 := eq_true p268
                                                        replace q268 := eq_true q268
                                                        go_wp2
                                                        repeat (go_quiet (fail); try go_wp2)
                                                        go_ret
                                                        exact ⟨by first | rfl | (simp [errW_none, errW_some] <;> rfl) | (simp only [← hji29]; first | rfl | (simp [errW_none, errW_some] <;> rfl)) | (simp [*, errW_none, errW_some] <;> rfl), by repeat (first | (with_reducible first | exact HB.out | apply below_alloc | apply pw_below_drewN | apply below_drew1) | exact HB.out)⟩
                                                    · replace c75 := Bool.eq_false_iff.mpr c75
                                                      subst c75
                                                      (try (have c64b7bq74 := c64b0; simp only [Bool.true_beq, Bool.false_beq, Bool.not_not, ← Nbq74.out, beq_true, beq_false] at c64b7bq74))
                                                      have H1 : (some false) = some r := by rw [if_neg (show ¬ (false = true) by decide)] at H; exact H
                                                      clear H
                                                      have H := H1
                                                      clear H1
                                                      obtain rfl := Option.some.inj H
                                                      obtain ⟨Ao83, co83, eo83⟩ := Kd.R_slice HO_10.out
                                                      subst eo83
                                                      have p260 : 0 ≤ (x13_4 : Int) := of_decide_eq_true (by first | (with_reducible assumption) | assumption)
                                                      have q260 : x13_4 < (t247.length : Int) := of_decide_eq_true (by first | (with_reducible assumption) | assumption)
                                                      (try (obtain ⟨Aq260, cq260, eq260⟩ := Kd.R_slice HO_10.out; subst eq260))
                                                      obtain ⟨ad260, e260, hx260_0, hx260_1, hx260_2⟩ := at_T24 (Kd.R_reads' HO_10.out).2.2 x13_4 p260 q260
                                                      (try rw [← Nbq61.out] at hx260_0)
                                                      (try rw [← Nbq72.out] at hx260_0)
                                                      (try rw [← Nbq74.out] at hx260_0)
                                                      (try rw [← Nbq61.out] at hx260_2)
                                                      (try rw [← Nbq72.out] at hx260_2)
                                                      (try rw [← Nbq74.out] at hx260_2)
                                                      cases e260
                                                      replace p260 := eq_true p260
                                                      replace q260 := eq_true q260
                                                      have p261 : 0 ≤ (x13_4 : Int) := of_decide_eq_true (by first | (with_reducible assumption) | assumption)
                                                      have q261 : x13_4 < (t247.length : Int) := of_decide_eq_true (by first | (with_reducible assumption) | assumption)
                                                      (try (obtain ⟨Aq261, cq261, eq261⟩ := Kd.R_slice HO_10.out; subst eq261))
                                                      obtain ⟨ad261, e261, hx261_0, hx261_1, hx261_2⟩ := at_T24 (Kd.R_reads' HO_10.out).2.2 x13_4 p261 q261
                                                      (try rw [← Nbq61.out] at hx261_0)
                                                      (try rw [← Nbq72.out] at hx261_0)
                                                      (try rw [← Nbq74.out] at hx261_0)
                                                      (try rw [← Nbq61.out] at hx261_2)
                                                      (try rw [← Nbq72.out] at hx261_2)
                                                      (try rw [← Nbq74.out] at hx261_2)
                                                      obtain rfl : ad260 = ad261 := (by injection e261)
                                                      replace p261 := eq_true p261
                                                      replace q261 := eq_true q261
                                                      obtain ⟨Ao84, co84, eo84⟩ := Kd.R_slice HO_7.out
                                                      subst eo84
                                                      have p262 : 0 ≤ (x13_4 : Int) := of_decide_eq_true (by first | (with_reducible assumption) | assumption)
                                                      have q262 : x13_4 < (t229.length : Int) := of_decide_eq_true (by first | (with_reducible assumption) | assumption)
                                                      (try (obtain ⟨Aq262, cq262, eq262⟩ := Kd.R_slice HO_7.out; subst eq262))
                                                      obtain ⟨ad262, e262, hx262_0, hx262_1, hx262_2⟩ := at_T24 (Kd.R_reads' HO_7.out).2.2 x13_4 p262 q262
                                                      (try rw [← Nbq61.out] at hx262_0)
                                                      (try rw [← Nbq72.out] at hx262_0)
                                                      (try rw [← Nbq74.out] at hx262_0)
                                                      (try rw [← Nbq61.out] at hx262_2)
                                                      (try rw [← Nbq72.out] at hx262_2)
                                                      (try rw [← Nbq74.out] at hx262_2)
                                                      cases e262
                                                      replace p262 := eq_true p262
                                                      replace q262 := eq_true q262
                                                      obtain ⟨Ao85, co85, eo85⟩ := Kd.R_slice HO_12.out
                                                      subst eo85
                                                      have p263 : 0 ≤ (x13_4 : Int) := of_decide_eq_true (by first | (with_reducible assumption) | assumption)
                                                      have q263 : x13_4 < (t257.length : Int) := of_decide_eq_true (by first | (with_reducible assumption) | assumption)
                                                      (try (obtain ⟨Aq263, cq263, eq263⟩ := Kd.R_slice HO_12.out; subst eq263))
                                                      obtain ⟨ad263, e263, hx263_0, hx263_1, hx263_2⟩ := at_T24 (Kd.R_reads' HO_12.out).2.2 x13_4 p263 q263
                                                      (try rw [← Nbq61.out] at hx263_0)
                                                      (try rw [← Nbq72.out] at hx263_0)
                                                      (try rw [← Nbq74.out] at hx263_0)
                                                      (try rw [← Nbq61.out] at hx263_2)
                                                      (try rw [← Nbq72.out] at hx263_2)
                                                      (try rw [← Nbq74.out] at hx263_2)
                                                      cases e263
                                                      replace p263 := eq_true p263
                                                      replace q263 := eq_true q263
                                                      have p264 : 0 ≤ (x13_4 : Int) := of_decide_eq_true (by first | (with_reducible assumption) | assumption)
                                                      have q264 : x13_4 < (t229.length : Int) := of_decide_eq_true (by first | (with_reducible assumption) | assumption)
                                                      (try (obtain ⟨Aq264, cq264, eq264⟩ := Kd.R_slice HO_7.out; subst eq264))
                                                      obtain ⟨ad264, e264, hx264_0, hx264_1, hx264_2⟩ := at_T24 (Kd.R_reads' HO_7.out).2.2 x13_4 p264 q264
                                                      (try rw [← Nbq61.out] at hx264_0)
                                                      (try rw [← Nbq72.out] at hx264_0)
                                                      (try rw [← Nbq74.out] at hx264_0)
                                                      (try rw [← Nbq61.out] at hx264_2)
                                                      (try rw [← Nbq72.out] at hx264_2)
                                                      (try rw [← Nbq74.out] at hx264_2)
                                                      obtain rfl : ad262 = ad264 := (by injection e264)
                                                      replace p264 := eq_true p264
                                                      replace q264 := eq_true q264
                                                      have p265 : 0 ≤ (x13_4 : Int) := of_decide_eq_true (by first | (with_reducible assumption) | assumption)
                                                      have q265 : x13_4 < (t257.length : Int) := of_decide_eq_true (by first | (with_reducible assumption) | assumption)
                                                      (try (obtain ⟨Aq265, cq265, eq265⟩ := Kd.R_slice HO_12.out; subst eq265))
                                                      obtain ⟨ad265, e265, hx265_0, hx265_1, hx265_2⟩ := at_T24 (Kd.R_reads' HO_12.out).2.2 x13_4 p265 q265
                                                      (try rw [← Nbq61.out] at hx265_0)
                                                      (try rw [← Nbq72.out] at hx265_0)
                                                      (try rw [← Nbq74.out] at hx265_0)
                                                      (try rw [← Nbq61.out] at hx265_2)
                                                      (try rw [← Nbq72.out] at hx265_2)
                                                      (try rw [← Nbq74.out] at hx265_2)
                                                      obtain rfl : ad263 = ad265 := (by injection e265)
                                                      replace p265 := eq_true p265
                                                      replace q265 := eq_true q265
                                                      have p266 : 0 ≤ (x13_4 : Int) := of_decide_eq_true (by first | (with_reducible assumption) | assumption)
                                                      have q266 : x13_4 < (t229.length : Int) := of_decide_eq_true (by first | (with_reducible assumption) | assumption)
                                                      (try (obtain ⟨Aq266, cq266, eq266⟩ := Kd.R_slice HO_7.out; subst eq266))
                                                      obtain ⟨ad266, e266, hx266_0, hx266_1, hx266_2⟩ := at_T24 (Kd.R_reads' HO_7.out).2.2 x13_4 p266 q266
                                                      (try rw [← Nbq61.out] at hx266_0)
                                                      (try rw [← Nbq72.out] at hx266_0)
                                                      (try rw [← Nbq74.out] at hx266_0)
                                                      (try rw [← Nbq61.out] at hx266_2)
                                                      (try rw [← Nbq72.out] at hx266_2)
                                                      (try rw [← Nbq74.out] at hx266_2)
                                                      obtain rfl : ad262 = ad266 := (by injection e266)
                                                      replace p266 := eq_true p266
                                                      replace q266 := eq_true q266
                                                      go_wp2
                                                      repeat (go_quiet (fail); try go_wp2)
                                                      go_ret
                                                      exact ⟨by first | rfl | (simp [errW_none, errW_some] <;> rfl) | (simp only [← hji29]; first | rfl | (simp [errW_none, errW_some] <;> rfl)) | (simp [*, errW_none, errW_some] <;> rfl), by repeat (first | (with_reducible first | exact HB.out | apply below_alloc | apply pw_below_drewN | apply below_drew1) | exact HB.out)⟩
                                                  · replace c73 := Bool.eq_false_iff.mpr c73
                                                    subst c73
                                                    have H1 : (if ((rd_T24 t257 x13_4).f1) = ((rd_T24 t229 x13_4).f1) then (laws_FnOverLess.l0 k4 t229 t247 t257 (wrap64 (x13_4 + 1))) else (some false)) = some r := by rw [if_neg (show ¬ (false = true) by decide)] at H; exact H
                                                    clear H
                                                    have H := H1
                                                    clear H1
                                                    by_cases c86 : ((rd_T24 t257 x13_4).f1) = ((rd_T24 t229 x13_4).f1)
                                                    · rw [if_pos c86] at H
                                                      have c86b0 : (((rd_T24 t257 x13_4).f1) == ((rd_T24 t229 x13_4).f1)) = true := beq_iff_eq.mpr c86
                                                      have c86b1 : (((rd_T24 t257 x13_4).f1) != ((rd_T24 t229 x13_4).f1)) = false := bne_eq_false_iff_eq.mpr c86
                                                      clear c86
                                                      have H' := Aside0.mk H
                                                      clear H
                                                      obtain ⟨Ao87, co87, eo87⟩ := Kd.R_slice HO_10.out
                                                      subst eo87
                                                      have p260 : 0 ≤ (x13_4 : Int) := of_decide_eq_true (by first | (with_reducible assumption) | assumption)
                                                      have q260 : x13_4 < (t247.length : Int) := of_decide_eq_true (by first | (with_reducible assumption) | assumption)
                                                      (try (obtain ⟨Aq260, cq260, eq260⟩ := Kd.R_slice HO_10.out; subst eq260))
                                                      obtain ⟨ad260, e260, hx260_0, hx260_1, hx260_2⟩ := at_T24 (Kd.R_reads' HO_10.out).2.2 x13_4 p260 q260
                                                      (try rw [← Nbq61.out] at hx260_0)
                                                      (try rw [← Nbq72.out] at hx260_0)
                                                      (try rw [← Nbq61.out] at hx260_2)
                                                      (try rw [← Nbq72.out] at hx260_2)
                                                      cases e260
                                                      replace p260 := eq_true p260
                                                      replace q260 := eq_true q260
                                                      have p261 : 0 ≤ (x13_4 : Int) := of_decide_eq_true (by first | (with_reducible assumption) | assumption)
                                                      have q261 : x13_4 < (t247.length : Int) := of_decide_eq_true (by first | (with_reducible assumption) | assumption)
                                                      (try (obtain ⟨Aq261, cq261, eq261⟩ := Kd.R_slice HO_10.out; subst eq261))
                                                      obtain ⟨ad261, e261, hx261_0, hx261_1, hx261_2⟩ := at_T24 (Kd.R_reads' HO_10.out).2.2 x13_4 p261 q261
                                                      (try rw [← Nbq61.out] at hx261_0)
                                                      (try rw [← Nbq72.out] at hx261_0)
                                                      (try rw [← Nbq61.out] at hx261_2)
                                                      (try rw [← Nbq72.out] at hx261_2)
                                                      obtain rfl : ad260 = ad261 := (by injection e261)
                                                      replace p261 := eq_true p261
                                                      replace q261 := eq_true q261
                                                      obtain ⟨Ao88, co88, eo88⟩ := Kd.R_slice HO_7.out
                                                      subst eo88
                                                      have p262 : 0 ≤ (x13_4 : Int) := of_decide_eq_true (by first | (with_reducible assumption) | assumption)
                                                      have q262 : x13_4 < (t229.length : Int) := of_decide_eq_true (by first | (with_reducible assumption) | assumption)
                                                      (try (obtain ⟨Aq262, cq262, eq262⟩ := Kd.R_slice HO_7.out; subst eq262))
                                                      obtain ⟨ad262, e262, hx262_0, hx262_1, hx262_2⟩ := at_T24 (Kd.R_reads' HO_7.out).2.2 x13_4 p262 q262
                                                      (try rw [← Nbq61.out] at hx262_0)
                                                      (try rw [← Nbq72.out] at hx262_0)
                                                      (try rw [← Nbq61.out] at hx262_2)
                                                      (try rw [← Nbq72.out] at hx262_2)
                                                      cases e262
                                                      replace p262 := eq_true p262
                                                      replace q262 := eq_true q262
                                                      obtain ⟨Ao89, co89, eo89⟩ := Kd.R_slice HO_12.out
                                                      subst eo89
                                                      have p263 : 0 ≤ (x13_4 : Int) := of_decide_eq_true (by first | (with_reducible assumption) | assumption)
                                                      have q263 : x13_4 < (t257.length : Int) := of_decide_eq_true (by first | (with_reducible assumption) | assumption)
                                                      (try (obtain ⟨Aq263, cq263, eq263⟩ := Kd.R_slice HO_12.out; subst eq263))
                                                      obtain ⟨ad263, e263, hx263_0, hx263_1, hx263_2⟩ := at_T24 (Kd.R_reads' HO_12.out).2.2 x13_4 p263 q263
                                                      (try rw [← Nbq61.out] at hx263_0)
                                                      (try rw [← Nbq72.out] at hx263_0)
                                                      (try rw [← Nbq61.out] at hx263_2)
                                                      (try rw [← Nbq72.out] at hx263_2)
                                                      cases e263
                                                      replace p263 := eq_true p263
                                                      replace q263 := eq_true q263
                                                      have p264 : 0 ≤ (x13_4 : Int) := of_decide_eq_true (by first | (with_reducible assumption) | assumption)
                                                      have q264 : x13_4 < (t229.length : Int) := of_decide_eq_true (by first | (with_reducible assumption) | assumption)
                                                      (try (obtain ⟨Aq264, cq264, eq264⟩ := Kd.R_slice HO_7.out; subst eq264))
                                                      obtain ⟨ad264, e264, hx264_0, hx264_1, hx264_2⟩ := at_T24 (Kd.R_reads' HO_7.out).2.2 x13_4 p264 q264
                                                      (try rw [← Nbq61.out] at hx264_0)
                                                      (try rw [← Nbq72.out] at hx264_0)
                                                      (try rw [← Nbq61.out] at hx264_2)
                                                      (try rw [← Nbq72.out] at hx264_2)
                                                      obtain rfl : ad262 = ad264 := (by injection e264)
                                                      replace p264 := eq_true p264
                                                      replace q264 := eq_true q264
                                                      have p265 : 0 ≤ (x13_4 : Int) := of_decide_eq_true (by first | (with_reducible assumption) | assumption)
                                                      have q265 : x13_4 < (t257.length : Int) := of_decide_eq_true (by first | (with_reducible assumption) | assumption)
                                                      (try (obtain ⟨Aq265, cq265, eq265⟩ := Kd.R_slice HO_12.out; subst eq265))
                                                      obtain ⟨ad265, e265, hx265_0, hx265_1, hx265_2⟩ := at_T24 (Kd.R_reads' HO_12.out).2.2 x13_4 p265 q265
                                                      (try rw [← Nbq61.out] at hx265_0)
                                                      (try rw [← Nbq72.out] at hx265_0)
                                                      (try rw [← Nbq61.out] at hx265_2)
                                                      (try rw [← Nbq72.out] at hx265_2)
                                                      obtain rfl : ad263 = ad265 := (by injection e265)
                                                      replace p265 := eq_true p265
                                                      replace q265 := eq_true q265
                                                      have p269 : 0 ≤ (x13_4 : Int) := of_decide_eq_true (by first | (with_reducible assumption) | assumption)
                                                      have q269 : x13_4 < (t257.length : Int) := of_decide_eq_true (by first | (with_reducible assumption) | assumption)
                                                      (try (obtain ⟨Aq269, cq269, eq269⟩ := Kd.R_slice HO_12.out; subst eq269))
                                                      obtain ⟨ad269, e269, hx269_0, hx269_1, hx269_2⟩ := at_T24 (Kd.R_reads' HO_12.out).2.2 x13_4 p269 q269
                                                      (try rw [← Nbq61.out] at hx269_0)
                                                      (try rw [← Nbq72.out] at hx269_0)
                                                      (try rw [← Nbq61.out] at hx269_2)
                                                      (try rw [← Nbq72.out] at hx269_2)
                                                      obtain rfl : ad263 = ad269 := (by injection e269)
                                                      replace p269 := eq_true p269
                                                      replace q269 := eq_true q269
                                                      have p270 : 0 ≤ (x13_4 : Int) := of_decide_eq_true (by first | (with_reducible assumption) | assumption)
                                                      have q270 : x13_4 < (t229.length : Int) := of_decide_eq_true (by first | (with_reducible assumption) | assumption)
                                                      (try (obtain ⟨Aq270, cq270, eq270⟩ := Kd.R_slice HO_7.out; subst eq270))
                                                      obtain ⟨ad270, e270, hx270_0, hx270_1, hx270_2⟩ := at_T24 (Kd.R_reads' HO_7.out).2.2 x13_4 p270 q270
                                                      (try rw [← Nbq61.out] at hx270_0)
                                                      (try rw [← Nbq72.out] at hx270_0)
                                                      (try rw [← Nbq61.out] at hx270_2)
                                                      (try rw [← Nbq72.out] at hx270_2)
                                                      obtain rfl : ad262 = ad270 := (by injection e270)
                                                      replace p270 := eq_true p270
                                                      replace q270 := eq_true q270
                                                      go_wp2
                                                      repeat (go_quiet (fail); try go_wp2)
                                                      go_roundg k4
                                                      case measure => have := HJ2.out; have := HJ7.out; have := HJ37.out; have := HK4.out; omega
                                                      case rel => exact ⟨(wrap64 (x13_4 + 1)), (by first | rfl | (simp; done) | (simp [*]; done)), H', ⟨by have := HJ2.out; have := HJ7.out; have := HJ37.out; have := HK4.out; omega⟩, ⟨by (with_reducible repeat (first | apply Kd.R_alloc | apply Kd.R_drewN | apply Kd.R_drew)); exact HO_7.out⟩, ⟨by (with_reducible repeat (first | apply Kd.R_alloc | apply Kd.R_drewN | apply Kd.R_drew)); exact HO_10.out⟩, ⟨by (with_reducible repeat (first | apply Kd.R_alloc | apply Kd.R_drewN | apply Kd.R_drew)); exact HO_12.out⟩, ⟨by repeat (first | (with_reducible first | exact HB.out | apply below_alloc | apply pw_below_drewN | apply below_drew1) | exact HB.out)⟩⟩
                                                    · rw [if_neg c86] at H
                                                      have c86b0 : (((rd_T24 t257 x13_4).f1) == ((rd_T24 t229 x13_4).f1)) = false := beq_eq_false_iff_ne.mpr c86
                                                      have c86b1 : (((rd_T24 t257 x13_4).f1) != ((rd_T24 t229 x13_4).f1)) = true := bne_iff_ne.mpr c86
                                                      obtain rfl := Option.some.inj H
                                                      obtain ⟨Ao90, co90, eo90⟩ := Kd.R_slice HO_10.out
                                                      subst eo90
                                                      have p260 : 0 ≤ (x13_4 : Int) := of_decide_eq_true (by first | (with_reducible assumption) | assumption)
                                                      have q260 : x13_4 < (t247.length : Int) := of_decide_eq_true (by first | (with_reducible assumption) | assumption)
                                                      (try (obtain ⟨Aq260, cq260, eq260⟩ := Kd.R_slice HO_10.out; subst eq260))
                                                      obtain ⟨ad260, e260, hx260_0, hx260_1, hx260_2⟩ := at_T24 (Kd.R_reads' HO_10.out).2.2 x13_4 p260 q260
                                                      (try rw [← Nbq61.out] at hx260_0)
                                                      (try rw [← Nbq72.out] at hx260_0)
                                                      (try rw [← Nbq61.out] at hx260_2)
                                                      (try rw [← Nbq72.out] at hx260_2)
                                                      cases e260
                                                      replace p260 := eq_true p260
                                                      replace q260 := eq_true q260
                                                      have p261 : 0 ≤ (x13_4 : Int) := of_decide_eq_true (by first | (with_reducible assumption) | assumption)
                                                      have q261 : x13_4 < (t247.length : Int) := of_decide_eq_true (by first | (with_reducible assumption) | assumption)
                                                      (try (obtain ⟨Aq261, cq261, eq261⟩ := Kd.R_slice HO_10.out; subst eq261))
                                                      obtain ⟨ad261, e261, hx261_0, hx261_1, hx261_2⟩ := at_T24 (Kd.R_reads' HO_10.out).2.2 x13_4 p261 q261
                                                      (try rw [← Nbq61.out] at hx261_0)
                                                      (try rw [← Nbq72.out] at hx261_0)
                                                      (try rw [← Nbq61.out] at hx261_2)
                                                      (try rw [← Nbq72.out] at hx261_2)
                                                      obtain rfl : ad260 = ad261 := (by injection e261)
                                                      replace p261 := eq_true p261
                                                      replace q261 := eq_true q261
                                                      obtain ⟨Ao91, co91, eo91⟩ := Kd.R_slice HO_7.out
                                                      subst eo91
                                                      have p262 : 0 ≤ (x13_4 : Int) := of_decide_eq_true (by first | (with_reducible assumption) | assumption)
                                                      have q262 : x13_4 < (t229.length : Int) := of_decide_eq_true (by first | (with_reducible assumption) | assumption)
                                                      (try (obtain ⟨Aq262, cq262, eq262⟩ := Kd.R_slice HO_7.out; subst eq262))
                                                      obtain ⟨ad262, e262, hx262_0, hx262_1, hx262_2⟩ := at_T24 (Kd.R_reads' HO_7.out).2.2 x13_4 p262 q262
                                                      (try rw [← Nbq61.out] at hx262_0)
                                                      (try rw [← Nbq72.out] at hx262_0)
                                                      (try rw [← Nbq61.out] at hx262_2)
                                                      (try rw [← Nbq72.out] at hx262_2)
                                                      cases e262
                                                      replace p262 := eq_true p262
                                                      replace q262 := eq_true q262
                                                      obtain ⟨Ao92, co92, eo92⟩ := Kd.R_slice HO_12.out
                                                      subst eo92
                                                      have p263 : 0 ≤ (x13_4 : Int) := of_decide_eq_true (by first | (with_reducible assumption) | assumption)
                                                      have q263 : x13_4 < (t257.length : Int) := of_decide_eq_true (by first | (with_reducible assumption) | assumption)
                                                      (try (obtain ⟨Aq263, cq263, eq263⟩ := Kd.R_slice HO_12.out; subst eq263))
                                                      obtain ⟨ad263, e263, hx263_0, hx263_1, hx263_2⟩ := at_T24 (Kd.R_reads' HO_12.out).2.2 x13_4 p263 q263
                                                      (try rw [← Nbq61.out] at hx263_0)
                                                      (try rw [← Nbq72.out] at hx263_0)
                                                      (try rw [← Nbq61.out] at hx263_2)
                                                      (try rw [← Nbq72.out] at hx263_2)
                                                      cases e263
                                                      replace p263 := eq_true p263
                                                      replace q263 := eq_true q263
                                                      have p264 : 0 ≤ (x13_4 : Int) := of_decide_eq_true (by first | (with_reducible assumption) | assumption)
                                                      have q264 : x13_4 < (t229.length : Int) := of_decide_eq_true (by first | (with_reducible assumption) | assumption)
                                                      (try (obtain ⟨Aq264, cq264, eq264⟩ := Kd.R_slice HO_7.out; subst eq264))
                                                      obtain ⟨ad264, e264, hx264_0, hx264_1, hx264_2⟩ := at_T24 (Kd.R_reads' HO_7.out).2.2 x13_4 p264 q264
                                                      (try rw [← Nbq61.out] at hx264_0)
                                                      (try rw [← Nbq72.out] at hx264_0)
                                                      (try rw [← Nbq61.out] at hx264_2)
                                                      (try rw [← Nbq72.out] at hx264_2)
                                                      obtain rfl : ad262 = ad264 := (by injection e264)
                                                      replace p264 := eq_true p264
                                                      replace q264 := eq_true q264
                                                      have p265 : 0 ≤ (x13_4 : Int) := of_decide_eq_true (by first | (with_reducible assumption) | assumption)
                                                      have q265 : x13_4 < (t257.length : Int) := of_decide_eq_true (by first | (with_reducible assumption) | assumption)
                                                      (try (obtain ⟨Aq265, cq265, eq265⟩ := Kd.R_slice HO_12.out; subst eq265))
                                                      obtain ⟨ad265, e265, hx265_0, hx265_1, hx265_2⟩ := at_T24 (Kd.R_reads' HO_12.out).2.2 x13_4 p265 q265
                                                      (try rw [← Nbq61.out] at hx265_0)
                                                      (try rw [← Nbq72.out] at hx265_0)
                                                      (try rw [← Nbq61.out] at hx265_2)
                                                      (try rw [← Nbq72.out] at hx265_2)
                                                      obtain rfl : ad263 = ad265 := (by injection e265)
                                                      replace p265 := eq_true p265
                                                      replace q265 := eq_true q265
                                                      have p269 : 0 ≤ (x13_4 : Int) := of_decide_eq_true (by first | (with_reducible assumption) | assumption)
                                                      have q269 : x13_4 < (t257.length : Int) := of_decide_eq_true (by first | (with_reducible assumption) | assumption)
                                                      (try (obtain ⟨Aq269, cq269, eq269⟩ := Kd.R_slice HO_12.out; subst eq269))
                                                      obtain ⟨ad269, e269, hx269_0, hx269_1, hx269_2⟩ := at_T24 (Kd.R_reads' HO_12.out).2.2 x13_4 p269 q269
                                                      (try rw [← Nbq61.out] at hx269_0)
                                                      (try rw [← Nbq72.out] at hx269_0)
                                                      (try rw [← Nbq61.out] at hx269_2)
                                                      (try rw [← Nbq72.out] at hx269_2)
                                                      obtain rfl : ad263 = ad269 := (by injection e269)
                                                      replace p269 := eq_true p269
                                                      replace q269 := eq_true q269
                                                      have p270 : 0 ≤ (x13_4 : Int) := of_decide_eq_true (by first | (with_reducible assumption) | assumption)
                                                      have q270 : x13_4 < (t229.length : Int) := of_decide_eq_true (by first | (with_reducible assumption) | assumption)
                                                      (try (obtain ⟨Aq270, cq270, eq270⟩ := Kd.R_slice HO_7.out; subst eq270))
                                                      obtain ⟨ad270, e270, hx270_0, hx270_1, hx270_2⟩ := at_T24 (Kd.R_reads' HO_7.out).2.2 x13_4 p270 q270
                                                      (try rw [← Nbq61.out] at hx270_0)
                                                      (try rw [← Nbq72.out] at hx270_0)
                                                      (try rw [← Nbq61.out] at hx270_2)
                                                      (try rw [← Nbq72.out] at hx270_2)
                                                      obtain rfl : ad262 = ad270 := (by injection e270)
                                                      replace p270 := eq_true p270
                                                      replace q270 := eq_true q270
                                                      go_wp2
                                                      repeat (go_quiet (fail); try go_wp2)
                                                      go_ret
                                                      exact ⟨by first | rfl | (simp [errW_none, errW_some] <;> rfl) | (simp only [← hji29]; first | rfl | (simp [errW_none, errW_some] <;> rfl)) | (simp [*, errW_none, errW_some] <;> rfl), by repeat (first | (with_reducible first | exact HB.out | apply below_alloc | apply pw_below_drewN | apply below_drew1) | exact HB.out)⟩
                                              · rw [if_neg c67] at H
                                                exact absurd H (by simp)
                                          · rw [if_neg c63] at H
                                            exact absurd H (by simp)
                                        · replace c62 := Bool.eq_false_iff.mpr c62
                                          subst c62
                                          have H1 : (if x13_4 < (t257.length : Int) then (if x13_4 < (t229.length : Int) then (if (((rd_T24 t257 x13_4).f0) != ((rd_T24 t229 x13_4).f0)) = true then (some false) else (if (rd_T24 t257 x13_4).f2 = true then (if ((rd_T24 t229 x13_4).f2 = true) then (if ((rd_T24 t257 x13_4).f1) = ((rd_T24 t229 x13_4).f1) then (laws_FnOverLess.l0 k4 t229 t247 t257 (wrap64 (x13_4 + 1))) else (some false)) else (some false)) else (if ((rd_T24 t257 x13_4).f1) = ((rd_T24 t229 x13_4).f1) then (laws_FnOverLess.l0 k4 t229 t247 t257 (wrap64 (x13_4 + 1))) else (some false)))) else (none)) else (none)) = some r := by rw [if_neg (show ¬ (false = true) by decide)] at H; exact H
                                          clear H
                                          have H := H1
                                          clear H1
                                          by_cases c93 : x13_4 < (t257.length : Int)
                                          · rw [if_pos c93] at H
                                            have c93b0 : decide (x13_4 < (t257.length : Int)) = true := decide_eq_true c93
                                            clear c93
                                            by_cases c94 : x13_4 < (t229.length : Int)
                                            · rw [if_pos c94] at H
                                              have c94b0 : decide (x13_4 < (t229.length : Int)) = true := decide_eq_true c94
                                              clear c94
                                              by_cases c95 : (((rd_T24 t257 x13_4).f0) != ((rd_T24 t229 x13_4).f0)) = true
                                              · rw [if_pos c95] at H
                                                have c95b0 : (((rd_T24 t257 x13_4).f0) != ((rd_T24 t229 x13_4).f0)) = true := c95
                                                (try (have c95b1 : decide (((rd_T24 t257 x13_4).f0) = ((rd_T24 t229 x13_4).f0)) = false := by simpa using c95))
                                                (try (have c95b2 : (((rd_T24 t257 x13_4).f0) == ((rd_T24 t229 x13_4).f0)) = false := by simpa using c95))
                                                (try (have c95b3 : ¬ (((rd_T24 t257 x13_4).f0) = ((rd_T24 t229 x13_4).f0)) := by simpa using c95))
                                                clear c95
                                                obtain rfl := Option.some.inj H
                                                obtain ⟨Ao96, co96, eo96⟩ := Kd.R_slice HO_10.out
                                                subst eo96
                                                have p260 : 0 ≤ (x13_4 : Int) := of_decide_eq_true (by first | (with_reducible assumption) | assumption)
                                                have q260 : x13_4 < (t247.length : Int) := of_decide_eq_true (by first | (with_reducible assumption) | assumption)
                                                (try (obtain ⟨Aq260, cq260, eq260⟩ := Kd.R_slice HO_10.out; subst eq260))
                                                obtain ⟨ad260, e260, hx260_0, hx260_1, hx260_2⟩ := at_T24 (Kd.R_reads' HO_10.out).2.2 x13_4 p260 q260
                                                (try rw [← Nbq61.out] at hx260_0)
                                                (try rw [← Nbq61.out] at hx260_2)
                                                cases e260
                                                replace p260 := eq_true p260
                                                replace q260 := eq_true q260
                                                obtain ⟨Ao97, co97, eo97⟩ := Kd.R_slice HO_12.out
                                                subst eo97
                                                have p271 : 0 ≤ (x13_4 : Int) := of_decide_eq_true (by first | (with_reducible assumption) | assumption)
                                                have q271 : x13_4 < (t257.length : Int) := of_decide_eq_true (by first | (with_reducible assumption) | assumption)
                                                (try (obtain ⟨Aq271, cq271, eq271⟩ := Kd.R_slice HO_12.out; subst eq271))
                                                obtain ⟨ad271, e271, hx271_0, hx271_1, hx271_2⟩ := at_T24 (Kd.R_reads' HO_12.out).2.2 x13_4 p271 q271
                                                (try rw [← Nbq61.out] at hx271_0)
                                                (try rw [← Nbq61.out] at hx271_2)
                                                cases e271
                                                replace p271 := eq_true p271
                                                replace q271 := eq_true q271
                                                obtain ⟨Ao98, co98, eo98⟩ := Kd.R_slice HO_7.out
                                                subst eo98
                                                have p272 : 0 ≤ (x13_4 : Int) := of_decide_eq_true (by first | (with_reducible assumption) | assumption)
                                                have q272 : x13_4 < (t229.length : Int) := of_decide_eq_true (by first | (with_reducible assumption) | assumption)
                                                (try (obtain ⟨Aq272, cq272, eq272⟩ := Kd.R_slice HO_7.out; subst eq272))
                                                obtain ⟨ad272, e272, hx272_0, hx272_1, hx272_2⟩ := at_T24 (Kd.R_reads' HO_7.out).2.2 x13_4 p272 q272
                                                (try rw [← Nbq61.out] at hx272_0)
                                                (try rw [← Nbq61.out] at hx272_2)
                                                cases e272
                                                replace p272 := eq_true p272
                                                replace q272 := eq_true q272
                                                go_wp2
                                                repeat (go_quiet (fail); try go_wp2)
                                                go_ret
                                                exact ⟨by first | rfl | (simp [errW_none, errW_some] <;> rfl) | (simp only [← hji29]; first | rfl | (simp [errW_none, errW_some] <;> rfl)) | (simp [*, errW_none, errW_some] <;> rfl), by repeat (first | (with_reducible first | exact HB.out | apply below_alloc | apply pw_below_drewN | apply below_drew1) | exact HB.out)⟩
                                              · rw [if_neg c95] at H
                                                have c95b0 : (((rd_T24 t257 x13_4).f0) != ((rd_T24 t229 x13_4).f0)) = false := by simpa using c95
                                                (try (have c95b1 : decide (((rd_T24 t257 x13_4).f0) = ((rd_T24 t229 x13_4).f0)) = true := by simpa using c95))
                                                (try (have c95b2 : (((rd_T24 t257 x13_4).f0) == ((rd_T24 t229 x13_4).f0)) = true := by simpa using c95))
                                                clear c95
                                                obtain ⟨bq99, hbq99⟩ : ∃ b_ : Bool, b_ = ((rd_T24 t257 x13_4).f2) := ⟨_, rfl⟩
                                                replace H : (if bq99 = true then (if ((rd_T24 t229 x13_4).f2 = true) then (if ((rd_T24 t257 x13_4).f1) = ((rd_T24 t229 x13_4).f1) then (laws_FnOverLess.l0 k4 t229 t247 t257 (wrap64 (x13_4 + 1))) else (some false)) else (some false)) else (if ((rd_T24 t257 x13_4).f1) = ((rd_T24 t229 x13_4).f1) then (laws_FnOverLess.l0 k4 t229 t247 t257 (wrap64 (x13_4 + 1))) else (some false))) = some r := by rw [← hbq99] at H; exact H
                                                have Nbq99 := Aside0.mk hbq99
                                                clear hbq99
                                                by_cases c100 : bq99 = true
                                                · subst c100
                                                  have H1 : (if ((rd_T24 t229 x13_4).f2 = true) then (if ((rd_T24 t257 x13_4).f1) = ((rd_T24 t229 x13_4).f1) then (laws_FnOverLess.l0 k4 t229 t247 t257 (wrap64 (x13_4 + 1))) else (some false)) else (some false)) = some r := by rw [if_pos rfl] at H; exact H
                                                  clear H
                                                  have H := H1
                                                  clear H1
                                                  obtain ⟨bq101, hbq101⟩ : ∃ b_ : Bool, b_ = ((rd_T24 t229 x13_4).f2) := ⟨_, rfl⟩
                                                  replace H : (if (bq101 = true) then (if ((rd_T24 t257 x13_4).f1) = ((rd_T24 t229 x13_4).f1) then (laws_FnOverLess.l0 k4 t229 t247 t257 (wrap64 (x13_4 + 1))) else (some false)) else (some false)) = some r := by rw [← hbq101] at H; exact H
                                                  have Nbq101 := Aside0.mk hbq101
                                                  clear hbq101
                                                  by_cases c102 : (bq101 = true)
                                                  · subst c102
                                                    (try (have c64b7bq101 := c64b0; simp only [Bool.true_beq, Bool.false_beq, Bool.not_not, ← Nbq101.out, beq_true, beq_false] at c64b7bq101))
                                                    have H1 : (if ((rd_T24 t257 x13_4).f1) = ((rd_T24 t229 x13_4).f1) then (laws_FnOverLess.l0 k4 t229 t247 t257 (wrap64 (x13_4 + 1))) else (some false)) = some r := by rw [if_pos rfl] at H; exact H
                                                    clear H
                                                    have H := H1
                                                    clear H1
                                                    by_cases c103 : ((rd_T24 t257 x13_4).f1) = ((rd_T24 t229 x13_4).f1)
                                                    · rw [if_pos c103] at H
                                                      have c103b0 : (((rd_T24 t257 x13_4).f1) == ((rd_T24 t229 x13_4).f1)) = true := beq_iff_eq.mpr c103
                                                      have c103b1 : (((rd_T24 t257 x13_4).f1) != ((rd_T24 t229 x13_4).f1)) = false := bne_eq_false_iff_eq.mpr c103
                                                      clear c103
                                                      have H' := Aside0.mk H
                                                      clear H
                                                      obtain ⟨Ao104, co104, eo104⟩ := Kd.R_slice HO_10.out
                                                      subst eo104
                                                      have p260 : 0 ≤ (x13_4 : Int) := of_decide_eq_true (by first | (with_reducible assumption) | assumption)
                                                      have q260 : x13_4 < (t247.length : Int) := of_decide_eq_true (by first | (with_reducible assumption) | assumption)
                                                      (try (obtain ⟨Aq260, cq260, eq260⟩ := Kd.R_slice HO_10.out; subst eq260))
                                                      obtain ⟨ad260, e260, hx260_0, hx260_1, hx260_2⟩ := at_T24 (Kd.R_reads' HO_10.out).2.2 x13_4 p260 q260
                                                      (try rw [← Nbq61.out] at hx260_0)
                                                      (try rw [← Nbq99.out] at hx260_0)
                                                      (try rw [← Nbq101.out] at hx260_0)
                                                      (try rw [← Nbq61.out] at hx260_2)
                                                      (try rw [← Nbq99.out] at hx260_2)
                                                      (try rw [← Nbq101.out] at hx260_2)
                                                      cases e260
                                                      replace p260 := eq_true p260
                                                      replace q260 := eq_true q260
                                                      obtain ⟨Ao105, co105, eo105⟩ := Kd.R_slice HO_12.out
                                                      subst eo105
                                                      have p271 : 0 ≤ (x13_4 : Int) := of_decide_eq_true (by first | (with_reducible assumption) | assumption)
                                                      have q271 : x13_4 < (t257.length : Int) := of_decide_eq_true (by first | (with_reducible assumption) | assumption)
                                                      (try (obtain ⟨Aq271, cq271, eq271⟩ := Kd.R_slice HO_12.out; subst eq271))
                                                      obtain ⟨ad271, e271, hx271_0, hx271_1, hx271_2⟩ := at_T24 (Kd.R_reads' HO_12.out).2.2 x13_4 p271 q271
                                                      (try rw [← Nbq61.out] at hx271_0)
                                                      (try rw [← Nbq99.out] at hx271_0)
                                                      (try rw [← Nbq101.out] at hx271_0)
                                                      (try rw [← Nbq61.out] at hx271_2)
                                                      (try rw [← Nbq99.out] at hx271_2)
                                                      (try rw [← Nbq101.out] at hx271_2)
                                                      cases e271
                                                      replace p271 := eq_true p271
                                                      replace q271 := eq_true q271
                                                      obtain ⟨Ao106, co106, eo106⟩ := Kd.R_slice HO_7.out
                                                      subst eo106
                                                      have p272 : 0 ≤ (x13_4 : Int) := of_decide_eq_true (by first | (with_reducible assumption) | assumption)
                                                      have q272 : x13_4 < (t229.length : Int) := of_decide_eq_true (by first | (with_reducible assumption) | assumption)
                                                      (try (obtain ⟨Aq272, cq272, eq272⟩ := Kd.R_slice HO_7.out; subst eq272))
                                                      obtain ⟨ad272, e272, hx272_0, hx272_1, hx272_2⟩ := at_T24 (Kd.R_reads' HO_7.out).2.2 x13_4 p272 q272
                                                      (try rw [← Nbq61.out] at hx272_0)
                                                      (try rw [← Nbq99.out] at hx272_0)
                                                      (try rw [← Nbq101.out] at hx272_0)
                                                      (try rw [← Nbq61.out] at hx272_2)
                                                      (try rw [← Nbq99.out] at hx272_2)
                                                      (try rw [← Nbq101.out] at hx272_2)
                                                      cases e272
                                                      replace p272 := eq_true p272
                                                      replace q272 := eq_true q272
                                                      have p273 : 0 ≤ (x13_4 : Int) := of_decide_eq_true (by first | (with_reducible assumption) | assumption)
                                                      have q273 : x13_4 < (t257.length : Int) := of_decide_eq_true (by first | (with_reducible assumption) | assumption)
                                                      (try (obtain ⟨Aq273, cq273, eq273⟩ := Kd.R_slice HO_12.out; subst eq273))
                                                      obtain ⟨ad273, e273, hx273_0, hx273_1, hx273_2⟩ := at_T24 (Kd.R_reads' HO_12.out).2.2 x13_4 p273 q273
                                                      (try rw [← Nbq61.out] at hx273_0)
                                                      (try rw [← Nbq99.out] at hx273_0)
                                                      (try rw [← Nbq101.out] at hx273_0)
                                                      (try rw [← Nbq61.out] at hx273_2)
                                                      (try rw [← Nbq99.out] at hx273_2)
                                                      (try rw [← Nbq101.out] at hx273_2)
                                                      obtain rfl : ad271 = ad273 := (by injection e273)
                                                      replace p273 := eq_true p273
                                                      replace q273 := eq_true q273
                                                      have p274 : 0 ≤ (x13_4 : Int) := of_decide_eq_true (by first | (with_reducible assumption) | assumption)
                                                      have q274 : x13_4 < (t229.length : Int) := of_decide_eq_true (by first | (with_reducible assumption) | assumption)
                                                      (try (obtain ⟨Aq274, cq274, eq274⟩ := Kd.R_slice HO_7.out; subst eq274))
                                                      obtain ⟨ad274, e274, hx274_0, hx274_1, hx274_2⟩ := at_T24 (Kd.R_reads' HO_7.out).2.2 x13_4 p274 q274
                                                      (try rw [← Nbq61.out] at hx274_0)
                                                      (try rw [← Nbq99.out] at hx274_0)
                                                      (try rw [← Nbq101.out] at hx274_0)
                                                      (try rw [← Nbq61.out] at hx274_2)
                                                      (try rw [← Nbq99.out] at hx274_2)
                                                      (try rw [← Nbq101.out] at hx274_2)
                                                      obtain rfl : ad272 = ad274 := (by injection e274)
                                                      replace p274 := eq_true p274
                                                      replace q274 := eq_true q274
                                                      have p275 : 0 ≤ (x13_4 : Int) := of_decide_eq_true (by first | (with_reducible assumption) | assumption)
                                                      have q275 : x13_4 < (t257.length : Int) := of_decide_eq_true (by first | (with_reducible assumption) | assumption)
                                                      (try (obtain ⟨Aq275, cq275, eq275⟩ := Kd.R_slice HO_12.out; subst eq275))
                                                      obtain ⟨ad275, e275, hx275_0, hx275_1, hx275_2⟩ := at_T24 (Kd.R_reads' HO_12.out).2.2 x13_4 p275 q275
                                                      (try rw [← Nbq61.out] at hx275_0)
                                                      (try rw [← Nbq99.out] at hx275_0)
                                                      (try rw [← Nbq101.out] at hx275_0)
                                                      (try rw [← Nbq61.out] at hx275_2)
                                                      (try rw [← Nbq99.out] at hx275_2)
                                                      (try rw [← Nbq101.out] at hx275_2)
                                                      obtain rfl : ad271 = ad275 := (by injection e275)
                                                      replace p275 := eq_true p275
                                                      replace q275 := eq_true q275
                                                      have p276 : 0 ≤ (x13_4 : Int) := of_decide_eq_true (by first | (with_reducible assumption) | assumption)
                                                      have q276 : x13_4 < (t229.length : Int) := of_decide_eq_true (by first | (with_reducible assumption) | assumption)
                                                      (try (obtain ⟨Aq276, cq276, eq276⟩ := Kd.R_slice HO_7.out; subst eq276))
                                                      obtain ⟨ad276, e276, hx276_0, hx276_1, hx276_2⟩ := at_T24 (Kd.R_reads' HO_7.out).2.2 x13_4 p276 q276
                                                      (try rw [← Nbq61.out] at hx276_0)
                                                      (try rw [← Nbq99.out] at hx276_0)
                                                      (try rw [← Nbq101.out] at hx276_0)
                                                      (try rw [← Nbq61.out] at hx276_2)
                                                      (try rw [← Nbq99.out] at hx276_2)
                                                      (try rw [← Nbq101.out] at hx276_2)
                                                      obtain rfl : ad272 = ad276 := (by injection e276)
                                                      replace p276 := eq_true p276
                                                      replace q276 := eq_true q276
                                                      go_wp2
                                                      repeat (go_quiet (fail); try go_wp2)
                                                      go_roundg k4
                                                      case measure => have := HJ2.out; have := HJ7.out; have := HJ37.out; have := HK4.out; omega
                                                      case rel => exact ⟨(wrap64 (x13_4 + 1)), (by first | rfl | (simp; done) | (simp [*]; done)), H', ⟨by have := HJ2.out; have := HJ7.out; have := HJ37.out; have := HK4.out; omega⟩, ⟨by (with_reducible repeat (first | apply Kd.R_alloc | apply Kd.R_drewN | apply Kd.R_drew)); exact HO_7.out⟩, ⟨by (with_reducible repeat (first | apply Kd.R_alloc | apply Kd.R_drewN | apply Kd.R_drew)); exact HO_10.out⟩, ⟨by (with_reducible repeat (first | apply Kd.R_alloc | apply Kd.R_drewN | apply Kd.R_drew)); exact HO_12.out⟩, ⟨by repeat (first | (with_reducible first | exact HB.out | apply below_alloc | apply pw_below_drewN | apply below_drew1) | exact HB.out)⟩⟩
                                                    · rw [if_neg c103] at H
                                                      have c103b0 : (((rd_T24 t257 x13_4).f1) == ((rd_T24 t229 x13_4).f1)) = false := beq_eq_false_iff_ne.mpr c103
                                                      have c103b1 : (((rd_T24 t257 x13_4).f1) != ((rd_T24 t229 x13_4).f1)) = true := bne_iff_ne.mpr c103
                                                      obtain rfl := Option.some.inj H
                                                      obtain ⟨Ao107, co107, eo107⟩ := Kd.R_slice HO_10.out
                                                      subst eo107
                                                      have p260 : 0 ≤ (x13_4 : Int) := of_decide_eq_true (by first | (with_reducible assumption) | assumption)
                                                      have q260 : x13_4 < (t247.length : Int) := of_decide_eq_true (by first | (with_reducible assumption) | assumption)
                                                      (try (obtain ⟨Aq260, cq260, eq260⟩ := Kd.R_slice HO_10.out; subst eq260))
                                                      obtain ⟨ad260, e260, hx260_0, hx260_1, hx260_2⟩ := at_T24 (Kd.R_reads' HO_10.out).2.2 x13_4 p260 q260
                                                      (try rw [← Nbq61.out] at hx260_0)
                                                      (try rw [← Nbq99.out] at hx260_0)
                                                      (try rw [← Nbq101.out] at hx260_0)
                                                      (try rw [← Nbq61.out] at hx260_2)
                                                      (try rw [← Nbq99.out] at hx260_2)
                                                      (try rw [← Nbq101.out] at hx260_2)
                                                      cases e260
                                                      replace p260 := eq_true p260
                                                      replace q260 := eq_true q260
                                                      obtain ⟨Ao108, co108, eo108⟩ := Kd.R_slice HO_12.out
                                                      subst eo108
                                                      have p271 : 0 ≤ (x13_4 : Int) := of_decide_eq_true (by first | (with_reducible assumption) | assumption)
                                                      have q271 : x13_4 < (t257.length : Int) := of_decide_eq_true (by first | (with_reducible assumption) | assumption)
                                                      (try (obtain ⟨Aq271, cq271, eq271⟩ := Kd.R_slice HO_12.out; subst eq271))
                                                      obtain ⟨ad271, e271, hx271_0, hx271_1, hx271_2⟩ := at_T24 (Kd.R_reads' HO_12.out).2.2 x13_4 p271 q271
                                                      (try rw [← Nbq61.out] at hx271_0)
                                                      (try rw [← Nbq99.out] at hx271_0)
                                                      (try rw [← Nbq101.out] at hx271_0)
                                                      (try rw [← Nbq61.out] at hx271_2)
                                                      (try rw [← Nbq99.out] at hx271_2)
                                                      (try rw [← Nbq101.out] at hx271_2)
                                                      cases e271
                                                      replace p271 := eq_true p271
                                                      replace q271 := eq_true q271
                                                      obtain ⟨Ao109, co109, eo109⟩ := Kd.R_slice HO_7.out
                                                      subst eo109
                                                      have p272 : 0 ≤ (x13_4 : Int) := of_decide_eq_true (by first | (with_reducible assumption) | assumption)
                                                      have q272 : x13_4 < (t229.length : Int) := of_decide_eq_true (by first | (with_reducible assumption) | assumption)
                                                      (try (obtain ⟨Aq272, cq272, eq272⟩ := Kd.R_slice HO_7.out; subst eq272))
                                                      obtain ⟨ad272, e272, hx272_0, hx272_1, hx272_2⟩ := at_T24 (Kd.R_reads' HO_7.out).2.2 x13_4 p272 q272
                                                      (try rw [← Nbq61.out] at hx272_0)
                                                      (try rw [← Nbq99.out] at hx272_0)
                                                      (try rw [← Nbq101.out] at hx272_0)
                                                      (try rw [← Nbq61.out] at hx272_2)
                                                      (try rw [← Nbq99.out] at hx272_2)
                                                      (try rw [← Nbq101.out] at hx272_2)
                                                      cases e272
                                                      replace p272 := eq_true p272
                                                      replace q272 := eq_true q272
                                                      have p273 : 0 ≤ (x13_4 : Int) := of_decide_eq_true (by first | (with_reducible assumption) | assumption)
                                                      have q273 : x13_4 < (t257.length : Int) := of_decide_eq_true (by first | (with_reducible assumption) | assumption)
                                                      (try (obtain ⟨Aq273, cq273, eq273⟩ := Kd.R_slice HO_12.out; subst eq273))
                                                      obtain ⟨ad273, e273, hx273_0, hx273_1, hx273_2⟩ := at_T24 (Kd.R_reads' HO_12.out).2.2 x13_4 p273 q273
                                                      (try rw [← Nbq61.out] at hx273_0)
                                                      (try rw [← Nbq99.out] at hx273_0)
                                                      (try rw [← Nbq101.out] at hx273_0)
                                                      (try rw [← Nbq61.out] at hx273_2)
                                                      (try rw [← Nbq99.out] at hx273_2)
                                                      (try rw [← Nbq101.out] at hx273_2)
                                                      obtain rfl : ad271 = ad273 := (by injection e273)
                                                      replace p273 := eq_true p273
                                                      replace q273 := eq_true q273
                                                      have p274 : 0 ≤ (x13_4 : Int) := of_decide_eq_true (by first | (with_reducible assumption) | assumption)
                                                      have q274 : x13_4 < (t229.length : Int) := of_decide_eq_true (by first | (with_reducible assumption) | assumption)
                                                      (try (obtain ⟨Aq274, cq274, eq274⟩ := Kd.R_slice HO_7.out; subst eq274))
                                                      obtain ⟨ad274, e274, hx274_0, hx274_1, hx274_2⟩ := at_T24 (Kd.R_reads' HO_7.out).2.2 x13_4 p274 q274
                                                      (try rw [← Nbq61.out] at hx274_0)
                                                      (try rw [← Nbq99.out] at hx274_0)
                                                      (try rw [← Nbq101.out] at hx274_0)
                                                      (try rw [← Nbq61.out] at hx274_2)
                                                      (try rw [← Nbq99.out] at hx274_2)
                                                      (try rw [← Nbq101.out] at hx274_2)
                                                      obtain rfl : ad272 = ad274 := (by injection e274)
                                                      replace p274 := eq_true p274
                                                      replace q274 := eq_true q274
                                                      have p275 : 0 ≤ (x13_4 : Int) := of_decide_eq_true (by first | (with_reducible assumption) | assumption)
                                                      have q275 : x13_4 < (t257.length : Int) := of_decide_eq_true (by first | (with_reducible assumption) | assumption)
                                                      (try (obtain ⟨Aq275, cq275, eq275⟩ := Kd.R_slice HO_12.out; subst eq275))
                                                      obtain ⟨ad275, e275, hx275_0, hx275_1, hx275_2⟩ := at_T24 (Kd.R_reads' HO_12.out).2.2 x13_4 p275 q275
                                                      (try rw [← Nbq61.out] at hx275_0)
                                                      (try rw [← Nbq99.out] at hx275_0)
                                                      (try rw [← Nbq101.out] at hx275_0)
                                                      (try rw [← Nbq61.out] at hx275_2)
                                                      (try rw [← Nbq99.out] at hx275_2)
                                                      (try rw [← Nbq101.out] at hx275_2)
                                                      obtain rfl : ad271 = ad275 := (by injection e275)
                                                      replace p275 := eq_true p275
                                                      replace q275 := eq_true q275
                                                      have p276 : 0 ≤ (x13_4 : Int) := of_decide_eq_true (by first | (with_reducible assumption) | assumption)
                                                      have q276 : x13_4 < (t229.length : Int) := of_decide_eq_true (by first | (with_reducible assumption) | assumption)
                                                      (try (obtain ⟨Aq276, cq276, eq276⟩ := Kd.R_slice HO_7.out; subst eq276))
                                                      obtain ⟨ad276, e276, hx276_0, hx276_1, hx276_2⟩ := at_T24 (Kd.R_reads' HO_7.out).2.2 x13_4 p276 q276
                                                      (try rw [← Nbq61.out] at hx276_0)
                                                      (try rw [← Nbq99.out] at hx276_0)
                                                      (try rw [← Nbq101.out] at hx276_0)
                                                      (try rw [← Nbq61.out] at hx276_2)
                                                      (try rw [← Nbq99.out] at hx276_2)
                                                      (try rw [← Nbq101.out] at hx276_2)
                                                      obtain rfl : ad272 = ad276 := (by injection e276)
                                                      replace p276 := eq_true p276
                                                      replace q276 := eq_true q276
                                                      go_wp2
                                                      repeat (go_quiet (fail); try go_wp2)
                                                      go_ret
                                                      exact ⟨by first | rfl | (simp [errW_none, errW_some] <;> rfl) | (simp only [← hji29]; first | rfl | (simp [errW_none, errW_some] <;> rfl)) | (simp [*, errW_none, errW_some] <;> rfl), by repeat (first | (with_reducible first | exact HB.out | apply below_alloc | apply pw_below_drewN | apply below_drew1) | exact HB.out)⟩
                                                  · replace c102 := Bool.eq_false_iff.mpr c102
                                                    subst c102
                                                    (try (have c64b7bq101 := c64b0; simp only [Bool.true_beq, Bool.false_beq, Bool.not_not, ← Nbq101.out, beq_true, beq_false] at c64b7bq101))
                                                    have H1 : (some false) = some r := by rw [if_neg (show ¬ (false = true) by decide)] at H; exact H
                                                    clear H
                                                    have H := H1
                                                    clear H1
                                                    obtain rfl := Option.some.inj H
                                                    obtain ⟨Ao110, co110, eo110⟩ := Kd.R_slice HO_10.out
                                                    subst eo110
                                                    have p260 : 0 ≤ (x13_4 : Int) := of_decide_eq_true (by first | (with_reducible assumption) | assumption)
                                                    have q260 : x13_4 < (t247.length : Int) := of_decide_eq_true (by first | (with_reducible assumption) | assumption)
                                                    (try (obtain ⟨Aq260, cq260, eq260⟩ := Kd.R_slice HO_10.out; subst eq260))
                                                    obtain ⟨ad260, e260, hx260_0, hx260_1, hx260_2⟩ := at_T24 (Kd.R_reads' HO_10.out).2.2 x13_4 p260 q260
                                                    (try rw [← Nbq61.out] at hx260_0)
                                                    (try rw [← Nbq99.out] at hx260_0)
                                                    (try rw [← Nbq101.out] at hx260_0)
                                                    (try rw [← Nbq61.out] at hx260_2)
                                                    (try rw [← Nbq99.out] at hx260_2)
                                                    (try rw [← Nbq101.out] at hx260_2)
                                                    cases e260
                                                    replace p260 := eq_true p260
                                                    replace q260 := eq_true q260
                                                    obtain ⟨Ao111, co111, eo111⟩ := Kd.R_slice HO_12.out
                                                    subst eo111
                                                    have p271 : 0 ≤ (x13_4 : Int) := of_decide_eq_true (by first | (with_reducible assumption) | assumption)
                                                    have q271 : x13_4 < (t257.length : Int) := of_decide_eq_true (by first | (with_reducible assumption) | assumption)
                                                    (try (obtain ⟨Aq271, cq271, eq271⟩ := Kd.R_slice HO_12.out; subst eq271))
                                                    obtain ⟨ad271, e271, hx271_0, hx271_1, hx271_2⟩ := at_T24 (Kd.R_reads' HO_12.out).2.2 x13_4 p271 q271
                                                    (try rw [← Nbq61.out] at hx271_0)
                                                    (try rw [← Nbq99.out] at hx271_0)
                                                    (try rw [← Nbq101.out] at hx271_0)
                                                    (try rw [← Nbq61.out] at hx271_2)
                                                    (try rw [← Nbq99.out] at hx271_2)
                                                    (try rw [← Nbq101.out] at hx271_2)
                                                    cases e271
                                                    replace p271 := eq_true p271
                                                    replace q271 := eq_true q271
                                                    obtain ⟨Ao112, co112, eo112⟩ := Kd.R_slice HO_7.out
                                                    subst eo112
                                                    have p272 : 0 ≤ (x13_4 : Int) := of_decide_eq_true (by first | (with_reducible assumption) | assumption)
                                                    have q272 : x13_4 < (t229.length : Int) := of_decide_eq_true (by first | (with_reducible assumption) | assumption)
                                                    (try (obtain ⟨Aq272, cq272, eq272⟩ := Kd.R_slice HO_7.out; subst eq272))
                                                    obtain ⟨ad272, e272, hx272_0, hx272_1, hx272_2⟩ := at_T24 (Kd.R_reads' HO_7.out).2.2 x13_4 p272 q272
                                                    (try rw [← Nbq61.out] at hx272_0)
                                                    (try rw [← Nbq99.out] at hx272_0)
                                                    (try rw [← Nbq101.out] at hx272_0)
                                                    (try rw [← Nbq61.out] at hx272_2)
                                                    (try rw [← Nbq99.out] at hx272_2)
                                                    (try rw [← Nbq101.out] at hx272_2)
                                                    cases e272
                                                    replace p272 := eq_true p272
                                                    replace q272 := eq_true q272
                                                    have p273 : 0 ≤ (x13_4 : Int) := of_decide_eq_true (by first | (with_reducible assumption) | assumption)
                                                    have q273 : x13_4 < (t257.length : Int) := of_decide_eq_true (by first | (with_reducible assumption) | assumption)
                                                    (try (obtain ⟨Aq273, cq273, eq273⟩ := Kd.R_slice HO_12.out; subst eq273))
                                                    obtain ⟨ad273, e273, hx273_0, hx273_1, hx273_2⟩ := at_T24 (Kd.R_reads' HO_12.out).2.2 x13_4 p273 q273
                                                    (try rw [← Nbq61.out] at hx273_0)
                                                    (try rw [← Nbq99.out] at hx273_0)
                                                    (try rw [← Nbq101.out] at hx273_0)
                                                    (try rw [← Nbq61.out] at hx273_2)
                                                    (try rw [← Nbq99.out] at hx273_2)
                                                    (try rw [← Nbq101.out] at hx273_2)
                                                    obtain rfl : ad271 = ad273 := (by injection e273)
                                                    replace p273 := eq_true p273
                                                    replace q273 := eq_true q273
                                                    have p274 : 0 ≤ (x13_4 : Int) := of_decide_eq_true (by first | (with_reducible assumption) | assumption)
                                                    have q274 : x13_4 < (t229.length : Int) := of_decide_eq_true (by first | (with_reducible assumption) | assumption)
                                                    (try (obtain ⟨Aq274, cq274, eq274⟩ := Kd.R_slice HO_7.out; subst eq274))
                                                    obtain ⟨ad274, e274, hx274_0, hx274_1, hx274_2⟩ := at_T24 (Kd.R_reads' HO_7.out).2.2 x13_4 p274 q274
                                                    (try rw [← Nbq61.out] at hx274_0)
                                                    (try rw [← Nbq99.out] at hx274_0)
                                                    (try rw [← Nbq101.out] at hx274_0)
                                                    (try rw [← Nbq61.out] at hx274_2)
                                                    (try rw [← Nbq99.out] at hx274_2)
                                                    (try rw [← Nbq101.out] at hx274_2)
                                                    obtain rfl : ad272 = ad274 := (by injection e274)
                                                    replace p274 := eq_true p274
                                                    replace q274 := eq_true q274
                                                    go_wp2
                                                    repeat (go_quiet (fail); try go_wp2)
                                                    go_ret
                                                    exact ⟨by first | rfl | (simp [errW_none, errW_some] <;> rfl) | (simp only [← hji29]; first | rfl | (simp [errW_none, errW_some] <;> rfl)) | (simp [*, errW_none, errW_some] <;> rfl), by repeat (first | (with_reducible first | exact HB.out | apply below_alloc | apply pw_below_drewN | apply below_drew1) | exact HB.out)⟩
                                                · replace c100 := Bool.eq_false_iff.mpr c100
                                                  subst c100
                                                  have H1 : (if ((rd_T24 t257 x13_4).f1) = ((rd_T24 t229 x13_4).f1) then (laws_FnOverLess.l0 k4 t229 t247 t257 (wrap64 (x13_4 + 1))) else (some false)) = some r := by rw [if_neg (show ¬ (false = true) by decide)] at H; exact H
                                                  clear H
                                                  have H := H1
                                                  clear H1
                                                  by_cases c113 : ((rd_T24 t257 x13_4).f1) = ((rd_T24 t229 x13_4).f1)
                                                  · rw [if_pos c113] at H
                                                    have c113b0 : (((rd_T24 t257 x13_4).f1) == ((rd_T24 t229 x13_4).f1)) = true := beq_iff_eq.mpr c113
                                                    have c113b1 : (((rd_T24 t257 x13_4).f1) != ((rd_T24 t229 x13_4).f1)) = false := bne_eq_false_iff_eq.mpr c113
                                                    clear c113
                                                    have H' := Aside0.mk H
                                                    clear H
                                                    obtain ⟨Ao114, co114, eo114⟩ := Kd.R_slice HO_10.out
                                                    subst eo114
                                                    have p260 : 0 ≤ (x13_4 : Int) := of_decide_eq_true (by first | (with_reducible assumption) | assumption)
                                                    have q260 : x13_4 < (t247.length : Int) := of_decide_eq_true (by first | (with_reducible assumption) | assumption)
                                                    (try (obtain ⟨Aq260, cq260, eq260⟩ := Kd.R_slice HO_10.out; subst eq260))
                                                    obtain ⟨ad260, e260, hx260_0, hx260_1, hx260_2⟩ := at_T24 (Kd.R_reads' HO_10.out).2.2 x13_4 p260 q260
                                                    (try rw [← Nbq61.out] at hx260_0)
                                                    (try rw [← Nbq99.out] at hx260_0)
                                                    (try rw [← Nbq61.out] at hx260_2)
                                                    (try rw [← Nbq99.out] at hx260_2)
                                                    cases e260
                                                    replace p260 := eq_true p260
                                                    replace q260 := eq_true q260
                                                    obtain ⟨Ao115, co115, eo115⟩ := Kd.R_slice HO_12.out
                                                    subst eo115
                                                    have p271 : 0 ≤ (x13_4 : Int) := of_decide_eq_true (by first | (with_reducible assumption) | assumption)
                                                    have q271 : x13_4 < (t257.length : Int) := of_decide_eq_true (by first | (with_reducible assumption) | assumption)
                                                    (try (obtain ⟨Aq271, cq271, eq271⟩ := Kd.R_slice HO_12.out; subst eq271))
                                                    obtain ⟨ad271, e271, hx271_0, hx271_1, hx271_2⟩ := at_T24 (Kd.R_reads' HO_12.out).2.2 x13_4 p271 q271
                                                    (try rw [← Nbq61.out] at hx271_0)
                                                    (try rw [← Nbq99.out] at hx271_0)
                                                    (try rw [← Nbq61.out] at hx271_2)
                                                    (try rw [← Nbq99.out] at hx271_2)
                                                    cases e271
                                                    replace p271 := eq_true p271
                                                    replace q271 := eq_true q271
                                                    obtain ⟨Ao116, co116, eo116⟩ := Kd.R_slice HO_7.out
                                                    subst eo116
                                                    have p272 : 0 ≤ (x13_4 : Int) := of_decide_eq_true (by first | (with_reducible assumption) | assumption)
                                                    have q272 : x13_4 < (t229.length : Int) := of_decide_eq_true (by first | (with_reducible assumption) | assumption)
                                                    (try (obtain ⟨Aq272, cq272, eq272⟩ := Kd.R_slice HO_7.out; subst eq272))
                                                    obtain ⟨ad272, e272, hx272_0, hx272_1, hx272_2⟩ := at_T24 (Kd.R_reads' HO_7.out).2.2 x13_4 p272 q272
                                                    (try rw [← Nbq61.out] at hx272_0)
                                                    (try rw [← Nbq99.out] at hx272_0)
                                                    (try rw [← Nbq61.out] at hx272_2)
                                                    (try rw [← Nbq99.out] at hx272_2)
                                                    cases e272
                                                    replace p272 := eq_true p272
                                                    replace q272 := eq_true q272
                                                    have p273 : 0 ≤ (x13_4 : Int) := of_decide_eq_true (by first | (with_reducible assumption) | assumption)
                                                    have q273 : x13_4 < (t257.length : Int) := of_decide_eq_true (by first | (with_reducible assumption) | assumption)
                                                    (try (obtain ⟨Aq273, cq273, eq273⟩ := Kd.R_slice HO_12.out; subst eq273))
                                                    obtain ⟨ad273, e273, hx273_0, hx273_1, hx273_2⟩ := at_T24 (Kd.R_reads' HO_12.out).2.2 x13_4 p273 q273
                                                    (try rw [← Nbq61.out] at hx273_0)
                                                    (try rw [← Nbq99.out] at hx273_0)
                                                    (try rw [← Nbq61.out] at hx273_2)
                                                    (try rw [← Nbq99.out] at hx273_2)
                                                    obtain rfl : ad271 = ad273 := (by injection e273)
                                                    replace p273 := eq_true p273
                                                    replace q273 := eq_true q273
                                                    have p277 : 0 ≤ (x13_4 : Int) := of_decide_eq_true (by first | (with_reducible assumption) | assumption)
                                                    have q277 : x13_4 < (t257.length : Int) := of_decide_eq_true (by first | (with_reducible assumption) | assumption)
                                                    (try (obtain ⟨Aq277, cq277, eq277⟩ := Kd.R_slice HO_12.out; subst eq277))
                                                    obtain ⟨ad277, e277, hx277_0, hx277_1, hx277_2⟩ := at_T24 (Kd.R_reads' HO_12.out).2.2 x13_4 p277 q277
                                                    (try rw [← Nbq61.out] at hx277_0)
                                                    (try rw [← Nbq99.out] at hx277_0)
                                                    (try rw [← Nbq61.out] at hx277_2)
                                                    (try rw [← Nbq99.out] at hx277_2)
                                                    obtain rfl : ad271 = ad277 := (by injection e277)
                                                    replace p277 := eq_true p277
                                                    replace q277 := eq_true q277
                                                    have p278 : 0 ≤ (x13_4 : Int) := of_decide_eq_true (by first | (with_reducible assumption) | assumption)
                                                    have q278 : x13_4 < (t229.length : Int) := of_decide_eq_true (by first | (with_reducible assumption) | assumption)
                                                    (try (obtain ⟨Aq278, cq278, eq278⟩ := Kd.R_slice HO_7.out; subst eq278))
                                                    obtain ⟨ad278, e278, hx278_0, hx278_1, hx278_2⟩ := at_T24 (Kd.R_reads' HO_7.out).2.2 x13_4 p278 q278
                                                    (try rw [← Nbq61.out] at hx278_0)
                                                    (try rw [← Nbq99.out] at hx278_0)
                                                    (try rw [← Nbq61.out] at hx278_2)
                                                    (try rw [← Nbq99.out] at hx278_2)
                                                    obtain rfl : ad272 = ad278 := (by injection e278)
                                                    replace p278 := eq_true p278
                                                    replace q278 := eq_true q278
                                                    go_wp2
                                                    repeat (go_quiet (fail); try go_wp2)
                                                    go_roundg k4
                                                    case measure => have := HJ2.out; have := HJ7.out; have := HJ37.out; have := HK4.out; omega
                                                    case rel => exact ⟨(wrap64 (x13_4 + 1)), (by first | rfl | (simp; done) | (simp [*]; done)), H', ⟨by have := HJ2.out; have := HJ7.out; have := HJ37.out; have := HK4.out; omega⟩, ⟨by (with_reducible repeat (first | apply Kd.R_alloc | apply Kd.R_drewN | apply Kd.R_drew)); exact HO_7.out⟩, ⟨by (with_reducible repeat (first | apply Kd.R_alloc | apply Kd.R_drewN | apply Kd.R_drew)); exact HO_10.out⟩, ⟨by (with_reducible repeat (first | apply Kd.R_alloc | apply Kd.R_drewN | apply Kd.R_drew)); exact HO_12.out⟩, ⟨by repeat (first | (with_reducible first | exact HB.out | apply below_alloc | apply pw_below_drewN | apply below_drew1) | exact HB.out)⟩⟩
                                                  · rw [if_neg c113] at H
                                                    have c113b0 : (((rd_T24 t257 x13_4).f1) == ((rd_T24 t229 x13_4).f1)) = false := beq_eq_false_iff_ne.mpr c113
                                                    have c113b1 : (((rd_T24 t257 x13_4).f1) != ((rd_T24 t229 x13_4).f1)) = true := bne_iff_ne.mpr c113
                                                    obtain rfl := Option.some.inj H
                                                    obtain ⟨Ao117, co117, eo117⟩ := Kd.R_slice HO_10.out
                                                    subst eo117
                                                    have p260 : 0 ≤ (x13_4 : Int) := of_decide_eq_true (by first | (with_reducible assumption) | assumption)
                                                    have q260 : x13_4 < (t247.length : Int) := of_decide_eq_true (by first | (with_reducible assumption) | assumption)
                                                    (try (obtain ⟨Aq260, cq260, eq260⟩ := Kd.R_slice HO_10.out; subst eq260))
                                                    obtain ⟨ad260, e260, hx260_0, hx260_1, hx260_2⟩ := at_T24 (Kd.R_reads' HO_10.out).2.2 x13_4 p260 q260
                                                    (try rw [← Nbq61.out] at hx260_0)
                                                    (try rw [← Nbq99.out] at hx260_0)
                                                    (try rw [← Nbq61.out] at hx260_2)
                                                    (try rw [← Nbq99.out] at hx260_2)
                                                    cases e260
                                                    replace p260 := eq_true p260
                                                    replace q260 := eq_true q260
                                                    obtain ⟨Ao118, co118, eo118⟩ := Kd.R_slice HO_12.out
                                                    subst eo118
                                                    have p271 : 0 ≤ (x13_4 : Int) := of_decide_eq_true (by first | (with_reducible assumption) | assumption)
                                                    have q271 : x13_4 < (t257.length : Int) := of_decide_eq_true (by first | (with_reducible assumption) | assumption)
                                                    (try (obtain ⟨Aq271, cq271, eq271⟩ := Kd.R_slice HO_12.out; subst eq271))
                                                    obtain ⟨ad271, e271, hx271_0, hx271_1, hx271_2⟩ := at_T24 (Kd.R_reads' HO_12.out).2.2 x13_4 p271 q271
                                                    (try rw [← Nbq61.out] at hx271_0)
                                                    (try rw [← Nbq99.out] at hx271_0)
                                                    (try rw [← Nbq61.out] at hx271_2)
                                                    (try rw [← Nbq99.out] at hx271_2)
                                                    cases e271
                                                    replace p271 := eq_true p271
                                                    replace q271 := eq_true q271
                                                    obtain ⟨Ao119, co119, eo119⟩ := Kd.R_slice HO_7.out
                                                    subst eo119
                                                    have p272 : 0 ≤ (x13_4 : Int) := of_decide_eq_true (by first | (with_reducible assumption) | assumption)
                                                    have q272 : x13_4 < (t229.length : Int) := of_decide_eq_true (by first | (with_reducible assumption) | assumption)
                                                    (try (obtain ⟨Aq272, cq272, eq272⟩ := Kd.R_slice HO_7.out; subst eq272))
                                                    obtain ⟨ad272, e272, hx272_0, hx272_1, hx272_2⟩ := at_T24 (Kd.R_reads' HO_7.out).2.2 x13_4 p272 q272
                                                    (try rw [← Nbq61.out] at hx272_0)
                                                    (try rw [← Nbq99.out] at hx272_0)
                                                    (try rw [← Nbq61.out] at hx272_2)
                                                    (try rw [← Nbq99.out] at hx272_2)
                                                    cases e272
                                                    replace p272 := eq_true p272
                                                    replace q272 := eq_true q272
                                                    have p273 : 0 ≤ (x13_4 : Int) := of_decide_eq_true (by first | (with_reducible assumption) | assumption)
                                                    have q273 : x13_4 < (t257.length : Int) := of_decide_eq_true (by first | (with_reducible assumption) | assumption)
                                                    (try (obtain ⟨Aq273, cq273, eq273⟩ := Kd.R_slice HO_12.out; subst eq273))
                                                    obtain ⟨ad273, e273, hx273_0, hx273_1, hx273_2⟩ := at_T24 (Kd.R_reads' HO_12.out).2.2 x13_4 p273 q273
                                                    (try rw [← Nbq61.out] at hx273_0)
                                                    (try rw [← Nbq99.out] at hx273_0)
                                                    (try rw [← Nbq61.out] at hx273_2)
                                                    (try rw [← Nbq99.out] at hx273_2)
                                                    obtain rfl : ad271 = ad273 := (by injection e273)
                                                    replace p273 := eq_true p273
                                                    replace q273 := eq_true q273
                                                    have p277 : 0 ≤ (x13_4 : Int) := of_decide_eq_true (by first | (with_reducible assumption) | assumption)
                                                    have q277 : x13_4 < (t257.length : Int) := of_decide_eq_true (by first | (with_reducible assumption) | assumption)
                                                    (try (obtain ⟨Aq277, cq277, eq277⟩ := Kd.R_slice HO_12.out; subst eq277))
                                                    obtain ⟨ad277, e277, hx277_0, hx277_1, hx277_2⟩ := at_T24 (Kd.R_reads' HO_12.out).2.2 x13_4 p277 q277
                                                    (try rw [← Nbq61.out] at hx277_0)
                                                    (try rw [← Nbq99.out] at hx277_0)
                                                    (try rw [← Nbq61.out] at hx277_2)
                                                    (try rw [← Nbq99.out] at hx277_2)
                                                    obtain rfl : ad271 = ad277 := (by injection e277)
                                                    replace p277 := eq_true p277
                                                    replace q277 := eq_true q277
                                                    have p278 : 0 ≤ (x13_4 : Int) := of_decide_eq_true (by first | (with_reducible assumption) | assumption)
                                                    have q278 : x13_4 < (t229.length : Int) := of_decide_eq_true (by first | (with_reducible assumption) | assumption)
                                                    (try (obtain ⟨Aq278, cq278, eq278⟩ := Kd.R_slice HO_7.out; subst eq278))
                                                    obtain ⟨ad278, e278, hx278_0, hx278_1, hx278_2⟩ := at_T24 (Kd.R_reads' HO_7.out).2.2 x13_4 p278 q278
                                                    (try rw [← Nbq61.out] at hx278_0)
                                                    (try rw [← Nbq99.out] at hx278_0)
                                                    (try rw [← Nbq61.out] at hx278_2)
                                                    (try rw [← Nbq99.out] at hx278_2)
                                                    obtain rfl : ad272 = ad278 := (by injection e278)
                                                    replace p278 := eq_true p278
                                                    replace q278 := eq_true q278
                                                    go_wp2
                                                    repeat (go_quiet (fail); try go_wp2)
                                                    go_ret
                                                    exact ⟨by first | rfl | (simp [errW_none, errW_some] <;> rfl) | (simp only [← hji29]; first | rfl | (simp [errW_none, errW_some] <;> rfl)) | (simp [*, errW_none, errW_some] <;> rfl), by repeat (first | (with_reducible first | exact HB.out | apply below_alloc | apply pw_below_drewN | apply below_drew1) | exact HB.out)⟩
                                            · rw [if_neg c94] at H
                                              exact absurd H (by simp)
                                          · rw [if_neg c93] at H
                                            exact absurd H (by simp)
                                      · rw [if_neg c60] at H
                                        exact absurd H (by simp)
                                    · rw [if_neg c59] at H
                                      exact absurd H (by simp)
                                  · rw [if_neg c58] at H
                                    have c58b0 : decide (x13_4 < 6) = false := decide_eq_false c58
                                    clear c58
                                    obtain rfl := Option.some.inj H
                                    go_wp2
                                    repeat (go_quiet (fail); try go_wp2)
                                    go_ret
                                    exact ⟨by first | rfl | (simp [errW_none, errW_some] <;> rfl) | (simp only [← hji29]; first | rfl | (simp [errW_none, errW_some] <;> rfl)) | (simp [*, errW_none, errW_some] <;> rfl), by repeat (first | (with_reducible first | exact HB.out | apply below_alloc | apply pw_below_drewN | apply below_drew1) | exact HB.out)⟩
                      · rw [if_neg c35] at H
                        exact absurd H (by simp)
                    · rw [if_neg c34] at H
                      exact absurd H (by simp)
                  · rw [if_neg c31] at H
                    exact absurd H (by simp)
                · rw [if_neg c30] at H
                  exact absurd H (by simp)
              · rw [if_neg c28] at H
                exact absurd H (by simp)

/-- THE ONE PURE STATEMENT of laws_FnOverLess: yours. -/
def laws_FnOverLess.Pure : Prop := ∀ (l0 : List Int) (l1 : List Int), l0.length ≤ maxLen → l0.length * 1 ≤ 140737488351232 → (∀ x ∈ l0, (Lit.int .u8 x).wf = true) → l1.length ≤ maxLen → l1.length * 1 ≤ 140737488351232 → (∀ x ∈ l1, (Lit.int .u8 x).wf = true) → ∃ k, laws_FnOverLess.f k l0 l1 = some true
theorem laws_FnOverLess.walk (P : laws_FnOverLess.Pure) (a0 : Option Addr) (len0 cap0 : Nat) (z0 : List Int) (a1 : Option Addr) (len1 cap1 : Nat) (z1 : List Int) (w : World) (w0 : (a0 = none ∧ len0 = 0 ∧ cap0 = 0 ∧ z0 = []) ∨ ∃ x, a0 = some x ∧ len0 ≤ cap0 ∧ cap0 ≤ maxLen ∧ z0.length = cap0 ∧ (∀ i, i < z0.length → w.cell? (x.add i) = some (.int .u8 (z0.getD i 0))) ∧ ∀ n ∈ z0, (Lit.int .u8 n).wf = true) (y0 : len0 * 1 ≤ 140737488351232) (w1 : (a1 = none ∧ len1 = 0 ∧ cap1 = 0 ∧ z1 = []) ∨ ∃ x, a1 = some x ∧ len1 ≤ cap1 ∧ cap1 ≤ maxLen ∧ z1.length = cap1 ∧ (∀ i, i < z1.length → w.cell? (x.add i) = some (.int .u8 (z1.getD i 0))) ∧ ∀ n ∈ z1, (Lit.int .u8 n).wf = true) (y1 : len1 * 1 ≤ 140737488351232) :
    Calls Try.prog 9 #[.slice a0 len0 cap0, .slice a1 len1 cap1] w fun e w' => e = .returned (.bool true) ∧ Below w.heap.size w w' := by
  obtain ⟨l0, rfl, hr0, hm0, hw0, hc0⟩ := ReadsInt.ofRowC w0
  obtain ⟨l1, rfl, hr1, hm1, hw1, hc1⟩ := ReadsInt.ofRowC w1
  obtain ⟨k, h⟩ := P l0 l1 hm0 y0 hw0 hm1 y1 hw1
  refine (laws_FnOverLess.calls k _ _ l0 _ _ l1 true w (Kd.C_of_reads (d := (0 : Int)) (h1 := fun _ => rfl) hr0) hc0 (Kd.C_of_reads (d := (0 : Int)) (h1 := fun _ => rfl) hr1) hc1 h).mono ?_
  rintro e w' ⟨rfl, hd⟩
  exact ⟨rfl, hd⟩

end Go.Proofs.Ytbphhgahedahdaa.QFnOverLess
