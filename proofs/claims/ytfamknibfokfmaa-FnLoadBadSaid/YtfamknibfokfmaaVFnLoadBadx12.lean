/- Walks of this claim: each Go function that the law reaches comes to what the Lean function beside it says. Conditions: none beyond those that each theorem names. -/
import Derived.Test.YtfamknibfokfmaaVFnLoadBadx0
import Derived.Test.YtfamknibfokfmaaVFnLoadBadx1
import Derived.Test.YtfamknibfokfmaaVFnLoadBadx2
import Derived.Test.YtfamknibfokfmaaVFnLoadBadx11
namespace Go.Proofs.Ytfamknibfokfmaa.QFnLoadBad
open Go.RowKit Go.Proofs.YtfamknibfokfmaaW.PrintWords Go.Proofs.YtfamknibfokfmaaW.PrintLast Go.Proofs.YtfamknibfokfmaaW.PrintMore
attribute [local go_sem] max2_int min2_int max_two min_two max_three min_three max_four min_four   -- for this text's walks alone
set_option linter.unusedVariables false
set_option linter.unusedSimpArgs false

attribute [local go_sem high] eqA87 eqA90
/-! ### laws_lkGuest: function 63 -/
mutual
def laws_lkGuest.j0 : Nat → Bool → List (S87) → List (List Int) → List (S90) → List (S87) → List (List Int) → List (S90) → Option (Bool)
 | 0, _, _, _, _, _, _, _ => none
 | k + 1, x30, x295000, x295001, x295002, x296000, x296001, x296002 => if x30 = true then (some false) else (laws_lkGuest.l0 k 0 x295000 x295001 x295002 x296000 x296001 x296002)
def laws_lkGuest.l0 : Nat → Int → List (S87) → List (List Int) → List (S90) → List (S87) → List (List Int) → List (S90) → Option (Bool)
 | 0, _, _, _, _, _, _, _ => none
 | k + 1, x5, x295000, x295001, x295002, x296000, x296001, x296002 => if x5 < (x295000.length : Int) then (if 0 ≤ x5 then (if x5 < (x296000.length : Int) then (if (!(((rd_T87 x295000 x5).f0) == ((rd_T87 x296000 x5).f0)) || (!(((rd_T87 x295000 x5).f1) == ((rd_T87 x296000 x5).f1)) || (!(((rd_T87 x295000 x5).f2) == ((rd_T87 x296000 x5).f2))))) = true then (some false) else (laws_lkGuest.l0 k (wrap64 (x5 + 1)) x295000 x295001 x295002 x296000 x296001 x296002)) else (none)) else (none)) else (laws_lkGuest.l1 k 0 x295000 x295001 x295002 x296000 x296001 x296002)
def laws_lkGuest.l1 : Nat → Int → List (S87) → List (List Int) → List (S90) → List (S87) → List (List Int) → List (S90) → Option (Bool)
 | 0, _, _, _, _, _, _, _ => none
 | k + 1, x6, x295000, x295001, x295002, x296000, x296001, x296002 => if x6 < (x295002.length : Int) then (if 0 ≤ x6 then (if x6 < (x296002.length : Int) then (if (!(((rd_T90 x295002 x6).f0) == ((rd_T90 x296002 x6).f0)) || (!(((rd_T90 x295002 x6).f1) == ((rd_T90 x296002 x6).f1)) || (!(((rd_T90 x295002 x6).f2) == ((rd_T90 x296002 x6).f2)) || (!(((rd_T90 x295002 x6).f3) == ((rd_T90 x296002 x6).f3)))))) = true then (some false) else (laws_lkGuest.l1 k (wrap64 (x6 + 1)) x295000 x295001 x295002 x296000 x296001 x296002)) else (none)) else (none)) else (some true)
end
def laws_lkGuest.f (k : Nat) (l0_0 : List (S87)) (l0_1 : List (List Int)) (l0_2 : List (S90)) (l1_0 : List (S87)) (l1_1 : List (List Int)) (l1_2 : List (S90)) : Option (Bool) := (laws_lkMem.f k l0_1 l1_1).bind fun t296 => (if t296 = true then (if (l0_0.length : Int) = (l1_0.length : Int) then (laws_lkGuest.j0 k ((l0_2.length : Int) != (l1_2.length : Int)) l0_0 l0_1 l0_2 l1_0 l1_1 l1_2) else (laws_lkGuest.j0 k true l0_0 l0_1 l0_2 l1_0 l1_1 l1_2)) else (laws_lkGuest.j0 k true l0_0 l0_1 l0_2 l1_0 l1_1 l1_2))
set_option maxHeartbeats 8000000 in
set_option maxRecDepth 100000 in
theorem laws_lkGuest.calls (k : Nat) (A0_0 : Option Addr) (c0_0 : Nat) (l0_0 : List (S87)) (A0_1 : Option Addr) (c0_1 : Nat) (l0_1 : List (List Int)) (A0_2 : Option Addr) (c0_2 : Nat) (l0_2 : List (S90)) (A1_0 : Option Addr) (c1_0 : Nat) (l1_0 : List (S87)) (A1_1 : Option Addr) (c1_1 : Nat) (l1_1 : List (List Int)) (A1_2 : Option Addr) (c1_2 : Nat) (l1_2 : List (S90)) (r : Bool) (w : World) (hr0_0 : Kd.C k87 w A0_0 l0_0.length l0_0) (hc0_0 : l0_0.length ≤ c0_0) (hr0_1 : Kd.C (Kd.slice 3 (Kd.int .i64)) w A0_1 l0_1.length l0_1) (hc0_1 : l0_1.length ≤ c0_1) (hr0_2 : Kd.C k90 w A0_2 l0_2.length l0_2) (hc0_2 : l0_2.length ≤ c0_2) (hr1_0 : Kd.C k87 w A1_0 l1_0.length l1_0) (hc1_0 : l1_0.length ≤ c1_0) (hr1_1 : Kd.C (Kd.slice 3 (Kd.int .i64)) w A1_1 l1_1.length l1_1) (hc1_1 : l1_1.length ≤ c1_1) (hr1_2 : Kd.C k90 w A1_2 l1_2.length l1_2) (hc1_2 : l1_2.length ≤ c1_2) (h : laws_lkGuest.f k l0_0 l0_1 l0_2 l1_0 l1_1 l1_2 = some r) :
  Calls Try.prog 63 #[.agg #[.slice A0_0 l0_0.length c0_0, .slice A0_1 l0_1.length c0_1, .slice A0_2 l0_2.length c0_2], .agg #[.slice A1_0 l1_0.length c1_0, .slice A1_1 l1_1.length c1_1, .slice A1_2 l1_2.length c1_2]] w fun e w' => e = .returned (.bool r) ∧ Below w.heap.size w w' := by
 have hu74 := Try.underlying74
 have hu87 := Try.underlying87
 have hu90 := Try.underlying90
 have HR0_0 := Az.mk hr0_0
 have HC0_0 := Az.mk hc0_0
 clear hr0_0 hc0_0
 have HR0_1 := Az.mk hr0_1
 have HC0_1 := Az.mk hc0_1
 clear hr0_1 hc0_1
 have HR0_2 := Az.mk hr0_2
 have HC0_2 := Az.mk hc0_2
 clear hr0_2 hc0_2
 have HR1_0 := Az.mk hr1_0
 have HC1_0 := Az.mk hc1_0
 clear hr1_0 hc1_0
 have HR1_1 := Az.mk hr1_1
 have HC1_1 := Az.mk hc1_1
 clear hr1_1 hc1_1
 have HR1_2 := Az.mk hr1_2
 have HC1_2 := Az.mk hc1_2
 clear hr1_2 hc1_2
 have HB := Az.mk (Below.refl w.heap.size w)
 have H : ((laws_lkMem.f k l0_1 l1_1).bind fun t296 => (if t296 = true then (if (l0_0.length : Int) = (l1_0.length : Int) then (laws_lkGuest.j0 k ((l0_2.length : Int) != (l1_2.length : Int)) l0_0 l0_1 l0_2 l1_0 l1_1 l1_2) else (laws_lkGuest.j0 k true l0_0 l0_1 l0_2 l1_0 l1_1 l1_2)) else (laws_lkGuest.j0 k true l0_0 l0_1 l0_2 l1_0 l1_1 l1_2))) = some r := h
 clear h
 have HC3 := Az.mk H
 clear H
 go_enter Try.func63, Try.ntmps63
 go_upto_region 1 with (first | ((with_reducible refine Yd (N := 2) rfl ?_); (try (refine Ye (by rfl) ?_; dsimp only)); refine Yv ?hg (N := 2) ?hd (cs := #[.slice A0_0 l0_0.length c0_0, .slice A0_1 l0_1.length c0_1, .slice A0_2 l0_2.length c0_2]) (t := 74) ?hr ?_; (case hd => rfl); (case hg => rfl); (case hr => first | (go_simp; done) | (go_simp; rfl)); intro gb294 hg w4 hbox hb; have n0_ := Az.mk (Yt (by repeat (first | (with_reducible first | exact HB.out | apply Ya | apply Yn | apply Yw) | exact HB.out)) hb); have n1_ := Az.mk (hbox); have n2_ := Az.mk ((by rw [hg]; exact (Yz (by repeat (first | (with_reducible first | exact HB.out | apply Ya | apply Yn | apply Yw) | exact HB.out))) : w.heap.size ≤ gb294)); have n3_ := Az.mk ((by rw [hg]; exact (Yz (by repeat (first | (with_reducible first | exact HB.out | apply Ya | apply Yn | apply Yw) | exact HB.out))) : w.heap.size ≤ gb294)); clear HB; have HB := n0_; have BK294 := n1_; have GW294 := n2_; have GE294 := n3_; clear n0_ n1_ n2_ n3_; clear hb hbox hg) | ((with_reducible refine Yd (N := 3) rfl ?_); (try (refine Ye (by rfl) ?_; dsimp only)); refine Yv ?hg (N := 3) ?hd (cs := #[.slice A1_0 l1_0.length c1_0, .slice A1_1 l1_1.length c1_1, .slice A1_2 l1_2.length c1_2]) (t := 74) ?hr ?_; (case hd => rfl); (case hg => rfl); (case hr => first | (go_simp; done) | (go_simp; rfl)); intro gb295 hg w5 hbox hb; have n0_ := Az.mk (Zb (g := gb294) (o := .cells #[.slice A0_0 l0_0.length c0_0, .slice A0_1 l0_1.length c0_1, .slice A0_2 l0_2.length c0_2] 74 (0, 0)) (by (with_reducible repeat (first | refine Zn ?_ _ | refine Zw ?_ | refine Za ?_ _)); exact BK294.out) hb); have n1_ := Az.mk (Yt (by repeat (first | (with_reducible first | exact HB.out | apply Ya | apply Yn | apply Yw | refine Ys ?_ GE294.out) | exact HB.out)) hb); have n2_ := Az.mk (hbox); have n3_ := Az.mk ((by rw [hg]; exact (Yz (by repeat (first | (with_reducible first | exact HB.out | apply Ya | apply Yn | apply Yw | refine Ys ?_ GE294.out) | exact HB.out))) : w.heap.size ≤ gb295)); have n4_ := Az.mk ((by rw [hg]; exact (Yz (by repeat (first | (with_reducible first | exact HB.out | apply Ya | apply Yn | apply Yw | refine Ys ?_ GE294.out) | exact HB.out))) : w.heap.size ≤ gb295)); have n5_ := Az.mk ((by rw [hg]; exact Nat.ne_of_lt (Zl (g := gb294) (o := .cells #[.slice A0_0 l0_0.length c0_0, .slice A0_1 l0_1.length c0_1, .slice A0_2 l0_2.length c0_2] 74 (0, 0)) (by (with_reducible repeat (first | refine Zn ?_ _ | refine Zw ?_ | refine Za ?_ _)); exact BK294.out)) : gb294 ≠ gb295)); have n6_ := Az.mk ((by rw [hg]; exact Nat.ne_of_gt (Zl (g := gb294) (o := .cells #[.slice A0_0 l0_0.length c0_0, .slice A0_1 l0_1.length c0_1, .slice A0_2 l0_2.length c0_2] 74 (0, 0)) (by (with_reducible repeat (first | refine Zn ?_ _ | refine Zw ?_ | refine Za ?_ _)); exact BK294.out)) : gb295 ≠ gb294)); clear BK294; clear HB; have BK294 := n0_; have HB := n1_; have BK295 := n2_; have GW295 := n3_; have GE295 := n4_; have NB294_295 := n5_; have NB295_294 := n6_; clear n0_ n1_ n2_ n3_ n4_ n5_ n6_; clear hb hbox hg))
 repeat (go_quiet (first | ((with_reducible refine Yd (N := 2) rfl ?_); (try (refine Ye (by rfl) ?_; dsimp only)); refine Yv ?hg (N := 2) ?hd (cs := #[.slice A0_0 l0_0.length c0_0, .slice A0_1 l0_1.length c0_1, .slice A0_2 l0_2.length c0_2]) (t := 74) ?hr ?_; (case hd => rfl); (case hg => rfl); (case hr => first | (go_simp; done) | (go_simp; rfl)); intro gb294 hg w4 hbox hb; have n0_ := Az.mk (Yt (by repeat (first | (with_reducible first | exact HB.out | apply Ya | apply Yn | apply Yw) | exact HB.out)) hb); have n1_ := Az.mk (hbox); have n2_ := Az.mk ((by rw [hg]; exact (Yz (by repeat (first | (with_reducible first | exact HB.out | apply Ya | apply Yn | apply Yw) | exact HB.out))) : w.heap.size ≤ gb294)); have n3_ := Az.mk ((by rw [hg]; exact (Yz (by repeat (first | (with_reducible first | exact HB.out | apply Ya | apply Yn | apply Yw) | exact HB.out))) : w.heap.size ≤ gb294)); clear HB; have HB := n0_; have BK294 := n1_; have GW294 := n2_; have GE294 := n3_; clear n0_ n1_ n2_ n3_; clear hb hbox hg) | ((with_reducible refine Yd (N := 3) rfl ?_); (try (refine Ye (by rfl) ?_; dsimp only)); refine Yv ?hg (N := 3) ?hd (cs := #[.slice A1_0 l1_0.length c1_0, .slice A1_1 l1_1.length c1_1, .slice A1_2 l1_2.length c1_2]) (t := 74) ?hr ?_; (case hd => rfl); (case hg => rfl); (case hr => first | (go_simp; done) | (go_simp; rfl)); intro gb295 hg w5 hbox hb; have n0_ := Az.mk (Zb (g := gb294) (o := .cells #[.slice A0_0 l0_0.length c0_0, .slice A0_1 l0_1.length c0_1, .slice A0_2 l0_2.length c0_2] 74 (0, 0)) (by (with_reducible repeat (first | refine Zn ?_ _ | refine Zw ?_ | refine Za ?_ _)); exact BK294.out) hb); have n1_ := Az.mk (Yt (by repeat (first | (with_reducible first | exact HB.out | apply Ya | apply Yn | apply Yw | refine Ys ?_ GE294.out) | exact HB.out)) hb); have n2_ := Az.mk (hbox); have n3_ := Az.mk ((by rw [hg]; exact (Yz (by repeat (first | (with_reducible first | exact HB.out | apply Ya | apply Yn | apply Yw | refine Ys ?_ GE294.out) | exact HB.out))) : w.heap.size ≤ gb295)); have n4_ := Az.mk ((by rw [hg]; exact (Yz (by repeat (first | (with_reducible first | exact HB.out | apply Ya | apply Yn | apply Yw | refine Ys ?_ GE294.out) | exact HB.out))) : w.heap.size ≤ gb295)); have n5_ := Az.mk ((by rw [hg]; exact Nat.ne_of_lt (Zl (g := gb294) (o := .cells #[.slice A0_0 l0_0.length c0_0, .slice A0_1 l0_1.length c0_1, .slice A0_2 l0_2.length c0_2] 74 (0, 0)) (by (with_reducible repeat (first | refine Zn ?_ _ | refine Zw ?_ | refine Za ?_ _)); exact BK294.out)) : gb294 ≠ gb295)); have n6_ := Az.mk ((by rw [hg]; exact Nat.ne_of_gt (Zl (g := gb294) (o := .cells #[.slice A0_0 l0_0.length c0_0, .slice A0_1 l0_1.length c0_1, .slice A0_2 l0_2.length c0_2] 74 (0, 0)) (by (with_reducible repeat (first | refine Zn ?_ _ | refine Zw ?_ | refine Za ?_ _)); exact BK294.out)) : gb295 ≠ gb294)); clear BK294; clear HB; have BK294 := n0_; have HB := n1_; have BK295 := n2_; have GW295 := n3_; have GE295 := n4_; have NB294_295 := n5_; have NB295_294 := n6_; clear n0_ n1_ n2_ n3_ n4_ n5_ n6_; clear hb hbox hg)); go_upto_region 1 with (first | ((with_reducible refine Yd (N := 2) rfl ?_); (try (refine Ye (by rfl) ?_; dsimp only)); refine Yv ?hg (N := 2) ?hd (cs := #[.slice A0_0 l0_0.length c0_0, .slice A0_1 l0_1.length c0_1, .slice A0_2 l0_2.length c0_2]) (t := 74) ?hr ?_; (case hd => rfl); (case hg => rfl); (case hr => first | (go_simp; done) | (go_simp; rfl)); intro gb294 hg w4 hbox hb; have n0_ := Az.mk (Yt (by repeat (first | (with_reducible first | exact HB.out | apply Ya | apply Yn | apply Yw) | exact HB.out)) hb); have n1_ := Az.mk (hbox); have n2_ := Az.mk ((by rw [hg]; exact (Yz (by repeat (first | (with_reducible first | exact HB.out | apply Ya | apply Yn | apply Yw) | exact HB.out))) : w.heap.size ≤ gb294)); have n3_ := Az.mk ((by rw [hg]; exact (Yz (by repeat (first | (with_reducible first | exact HB.out | apply Ya | apply Yn | apply Yw) | exact HB.out))) : w.heap.size ≤ gb294)); clear HB; have HB := n0_; have BK294 := n1_; have GW294 := n2_; have GE294 := n3_; clear n0_ n1_ n2_ n3_; clear hb hbox hg) | ((with_reducible refine Yd (N := 3) rfl ?_); (try (refine Ye (by rfl) ?_; dsimp only)); refine Yv ?hg (N := 3) ?hd (cs := #[.slice A1_0 l1_0.length c1_0, .slice A1_1 l1_1.length c1_1, .slice A1_2 l1_2.length c1_2]) (t := 74) ?hr ?_; (case hd => rfl); (case hg => rfl); (case hr => first | (go_simp; done) | (go_simp; rfl)); intro gb295 hg w5 hbox hb; have n0_ := Az.mk (Zb (g := gb294) (o := .cells #[.slice A0_0 l0_0.length c0_0, .slice A0_1 l0_1.length c0_1, .slice A0_2 l0_2.length c0_2] 74 (0, 0)) (by (with_reducible repeat (first | refine Zn ?_ _ | refine Zw ?_ | refine Za ?_ _)); exact BK294.out) hb); have n1_ := Az.mk (Yt (by repeat (first | (with_reducible first | exact HB.out | apply Ya | apply Yn | apply Yw | refine Ys ?_ GE294.out) | exact HB.out)) hb); have n2_ := Az.mk (hbox); have n3_ := Az.mk ((by rw [hg]; exact (Yz (by repeat (first | (with_reducible first | exact HB.out | apply Ya | apply Yn | apply Yw | refine Ys ?_ GE294.out) | exact HB.out))) : w.heap.size ≤ gb295)); have n4_ := Az.mk ((by rw [hg]; exact (Yz (by repeat (first | (with_reducible first | exact HB.out | apply Ya | apply Yn | apply Yw | refine Ys ?_ GE294.out) | exact HB.out))) : w.heap.size ≤ gb295)); have n5_ := Az.mk ((by rw [hg]; exact Nat.ne_of_lt (Zl (g := gb294) (o := .cells #[.slice A0_0 l0_0.length c0_0, .slice A0_1 l0_1.length c0_1, .slice A0_2 l0_2.length c0_2] 74 (0, 0)) (by (with_reducible repeat (first | refine Zn ?_ _ | refine Zw ?_ | refine Za ?_ _)); exact BK294.out)) : gb294 ≠ gb295)); have n6_ := Az.mk ((by rw [hg]; exact Nat.ne_of_gt (Zl (g := gb294) (o := .cells #[.slice A0_0 l0_0.length c0_0, .slice A0_1 l0_1.length c0_1, .slice A0_2 l0_2.length c0_2] 74 (0, 0)) (by (with_reducible repeat (first | refine Zn ?_ _ | refine Zw ?_ | refine Za ?_ _)); exact BK294.out)) : gb295 ≠ gb294)); clear BK294; clear HB; have BK294 := n0_; have HB := n1_; have BK295 := n2_; have GW295 := n3_; have GE295 := n4_; have NB294_295 := n5_; have NB295_294 := n6_; clear n0_ n1_ n2_ n3_ n4_ n5_ n6_; clear hb hbox hg)))
 (try simp only [Act.put, List.setIfInBounds_toArray, List.set_cons_zero, List.set_cons_succ])
 go_cut [30] (fun v30 wc => ∃ (kq : Nat) (x30_2 : Bool), v30 = .bool x30_2 ∧ Az (laws_lkGuest.j0 kq x30_2 l0_0 l0_1 l0_2 l1_0 l1_1 l1_2 = some r) ∧ Az (kq ≤ k) ∧ Az (wc.heap[gb294]? = some (.cells #[(.slice A0_0 l0_0.length c0_0), (.slice A0_1 l0_1.length c0_1), (.slice A0_2 l0_2.length c0_2)] 74 (0, 0))) ∧ Az (wc.heap[gb295]? = some (.cells #[(.slice A1_0 l1_0.length c1_0), (.slice A1_1 l1_1.length c1_1), (.slice A1_2 l1_2.length c1_2)] 74 (0, 0))) ∧ Az (Below w.heap.size w wc))
 case first =>
  have H := HC3.out
  clear HC3
  replace H := Option.bind_eq_some_iff.mp H
  obtain ⟨t296, A60, H⟩ := H
  replace H : (if t296 = true then (if (l0_0.length : Int) = (l1_0.length : Int) then (laws_lkGuest.j0 k ((l0_2.length : Int) != (l1_2.length : Int)) l0_0 l0_1 l0_2 l1_0 l1_1 l1_2) else (laws_lkGuest.j0 k true l0_0 l0_1 l0_2 l1_0 l1_1 l1_2)) else (laws_lkGuest.j0 k true l0_0 l0_1 l0_2 l1_0 l1_1 l1_2)) = some r := H
  have A6 := Az.mk A60
  clear A60
  by_cases c7 : t296 = true
  ·subst c7
   have H1 : (if (l0_0.length : Int) = (l1_0.length : Int) then (laws_lkGuest.j0 k ((l0_2.length : Int) != (l1_2.length : Int)) l0_0 l0_1 l0_2 l1_0 l1_1 l1_2) else (laws_lkGuest.j0 k true l0_0 l0_1 l0_2 l1_0 l1_1 l1_2)) = some r := by rw [if_pos rfl] at H; exact H
   clear H
   have H := H1
   clear H1
   by_cases c8 : (l0_0.length : Int) = (l1_0.length : Int)
   ·rw [if_pos c8] at H
    have c8b0 : ((l0_0.length : Int) == (l1_0.length : Int)) = true := beq_iff_eq.mpr c8
    have c8b1 : ((l0_0.length : Int) != (l1_0.length : Int)) = false := bne_eq_false_iff_eq.mpr c8
    have c8b2 : (l0_0.length == l1_0.length) = true := by first | simpa using c8 | (simp at c8 ⊢; omega)
    clear c8
    (first | rw [c8b0] | (simp only [i64_w, i32_w]; rw [c8b0]) | skip)
    have H' := Az.mk H
    clear H
    have hnb9 := NB294_295.out
    have hnc9 := NB295_294.out
    have hcz10_0 : w5.cell? ⟨gb294, 0, none⟩ = some (.slice A0_0 l0_0.length c0_0) := (Zc BK294.out 0).trans rfl
    have hcz10_1 : w5.cell? ⟨gb294, 1, none⟩ = some (.slice A0_1 l0_1.length c0_1) := (Zc BK294.out 1).trans rfl
    have hcz10_2 : w5.cell? ⟨gb294, 2, none⟩ = some (.slice A0_2 l0_2.length c0_2) := (Zc BK294.out 2).trans rfl
    have hfz10_0 := Zf BK294.out 0
    have hfz10_1 := Zf BK294.out 1
    have hfz10_2 := Zf BK294.out 2
    have hcz11_0 : w5.cell? ⟨gb295, 0, none⟩ = some (.slice A1_0 l1_0.length c1_0) := (Zc BK295.out 0).trans rfl
    have hcz11_1 : w5.cell? ⟨gb295, 1, none⟩ = some (.slice A1_1 l1_1.length c1_1) := (Zc BK295.out 1).trans rfl
    have hcz11_2 : w5.cell? ⟨gb295, 2, none⟩ = some (.slice A1_2 l1_2.length c1_2) := (Zc BK295.out 2).trans rfl
    have hfz11_0 := Zf BK295.out 0
    have hfz11_1 := Zf BK295.out 1
    have hfz11_2 := Zf BK295.out 2
    go_wp2_with (first | (go_at_call 17; (with_reducible refine (laws_lkMem.calls k _ _ l0_1 _ _ l1_1 true _ ?side1 ?side2 ?side3 ?side4 A6.out).mono ?_); (case side1 => repeat (first | exact (Kd.Cb_ HR0_1.out HB.out) | exact HR0_1.out | (with_reducible refine Kd.Ca_ ?_ _) | (with_reducible refine Kd.Cn_ ?_ _) | (with_reducible refine Kd.Cw_ ?_))); (case side2 => exact HC0_1.out); (case side3 => repeat (first | exact (Kd.Cb_ HR1_1.out HB.out) | exact HR1_1.out | (with_reducible refine Kd.Ca_ ?_ _) | (with_reducible refine Kd.Cn_ ?_ _) | (with_reducible refine Kd.Cw_ ?_))); (case side4 => exact HC1_1.out); rintro e w' ⟨rfl, ⟨nd, rfl⟩⟩; (try first | exact ⟨rfl, _, World.drewN_drewN _ _ _⟩ | exact ⟨rfl, _, Eq.trans (World.drewN_drewN _ _ _) (congrArg (World.drewN _) (Nat.add_assoc _ _ _))⟩)))
    repeat (go_quiet (first | (go_at_call 17; (with_reducible refine (laws_lkMem.calls k _ _ l0_1 _ _ l1_1 true _ ?side1 ?side2 ?side3 ?side4 A6.out).mono ?_); (case side1 => repeat (first | exact (Kd.Cb_ HR0_1.out HB.out) | exact HR0_1.out | (with_reducible refine Kd.Ca_ ?_ _) | (with_reducible refine Kd.Cn_ ?_ _) | (with_reducible refine Kd.Cw_ ?_))); (case side2 => exact HC0_1.out); (case side3 => repeat (first | exact (Kd.Cb_ HR1_1.out HB.out) | exact HR1_1.out | (with_reducible refine Kd.Ca_ ?_ _) | (with_reducible refine Kd.Cn_ ?_ _) | (with_reducible refine Kd.Cw_ ?_))); (case side4 => exact HC1_1.out); rintro e w' ⟨rfl, ⟨nd, rfl⟩⟩; (try first | exact ⟨rfl, _, World.drewN_drewN _ _ _⟩ | exact ⟨rfl, _, Eq.trans (World.drewN_drewN _ _ _) (congrArg (World.drewN _) (Nat.add_assoc _ _ _))⟩))); try go_wp2_with (first | (go_at_call 17; (with_reducible refine (laws_lkMem.calls k _ _ l0_1 _ _ l1_1 true _ ?side1 ?side2 ?side3 ?side4 A6.out).mono ?_); (case side1 => repeat (first | exact (Kd.Cb_ HR0_1.out HB.out) | exact HR0_1.out | (with_reducible refine Kd.Ca_ ?_ _) | (with_reducible refine Kd.Cn_ ?_ _) | (with_reducible refine Kd.Cw_ ?_))); (case side2 => exact HC0_1.out); (case side3 => repeat (first | exact (Kd.Cb_ HR1_1.out HB.out) | exact HR1_1.out | (with_reducible refine Kd.Ca_ ?_ _) | (with_reducible refine Kd.Cn_ ?_ _) | (with_reducible refine Kd.Cw_ ?_))); (case side4 => exact HC1_1.out); rintro e w' ⟨rfl, ⟨nd, rfl⟩⟩; (try first | exact ⟨rfl, _, World.drewN_drewN _ _ _⟩ | exact ⟨rfl, _, Eq.trans (World.drewN_drewN _ _ _) (congrArg (World.drewN _) (Nat.add_assoc _ _ _))⟩))))
    go_meet
    case rel => exact ⟨_, (((l0_2.length : Int) != (l1_2.length : Int))), (by first | rfl | (simp; done) | (simp [*]; done)), H', ⟨by first | omega | exact Nat.le_refl _⟩, ⟨by (with_reducible repeat (first | refine Zn ?_ _ | refine Zw ?_ | refine Za ?_ _)); exact BK294.out⟩, ⟨by (with_reducible repeat (first | refine Zn ?_ _ | refine Zw ?_ | refine Za ?_ _)); exact BK295.out⟩, ⟨by repeat (first | (with_reducible first | exact HB.out | apply Ya | apply Yn | apply Yw | refine Ys ?_ GE294.out | refine Ys ?_ GE295.out) | exact HB.out)⟩⟩
   ·rw [if_neg c8] at H
    have c8b0 : ((l0_0.length : Int) == (l1_0.length : Int)) = false := beq_eq_false_iff_ne.mpr c8
    have c8b1 : ((l0_0.length : Int) != (l1_0.length : Int)) = true := bne_iff_ne.mpr c8
    have c8b2 : (l0_0.length == l1_0.length) = false := by first | simpa using c8 | (simp at c8 ⊢; omega)
    (first | rw [c8b0] | (simp only [i64_w, i32_w]; rw [c8b0]) | skip)
    have H' := Az.mk H
    clear H
    have hnb12 := NB294_295.out
    have hnc12 := NB295_294.out
    have hcz13_0 : w5.cell? ⟨gb294, 0, none⟩ = some (.slice A0_0 l0_0.length c0_0) := (Zc BK294.out 0).trans rfl
    have hcz13_1 : w5.cell? ⟨gb294, 1, none⟩ = some (.slice A0_1 l0_1.length c0_1) := (Zc BK294.out 1).trans rfl
    have hcz13_2 : w5.cell? ⟨gb294, 2, none⟩ = some (.slice A0_2 l0_2.length c0_2) := (Zc BK294.out 2).trans rfl
    have hfz13_0 := Zf BK294.out 0
    have hfz13_1 := Zf BK294.out 1
    have hfz13_2 := Zf BK294.out 2
    have hcz14_0 : w5.cell? ⟨gb295, 0, none⟩ = some (.slice A1_0 l1_0.length c1_0) := (Zc BK295.out 0).trans rfl
    have hcz14_1 : w5.cell? ⟨gb295, 1, none⟩ = some (.slice A1_1 l1_1.length c1_1) := (Zc BK295.out 1).trans rfl
    have hcz14_2 : w5.cell? ⟨gb295, 2, none⟩ = some (.slice A1_2 l1_2.length c1_2) := (Zc BK295.out 2).trans rfl
    have hfz14_0 := Zf BK295.out 0
    have hfz14_1 := Zf BK295.out 1
    have hfz14_2 := Zf BK295.out 2
    go_wp2_with (first | (go_at_call 17; (with_reducible refine (laws_lkMem.calls k _ _ l0_1 _ _ l1_1 true _ ?side1 ?side2 ?side3 ?side4 A6.out).mono ?_); (case side1 => repeat (first | exact (Kd.Cb_ HR0_1.out HB.out) | exact HR0_1.out | (with_reducible refine Kd.Ca_ ?_ _) | (with_reducible refine Kd.Cn_ ?_ _) | (with_reducible refine Kd.Cw_ ?_))); (case side2 => exact HC0_1.out); (case side3 => repeat (first | exact (Kd.Cb_ HR1_1.out HB.out) | exact HR1_1.out | (with_reducible refine Kd.Ca_ ?_ _) | (with_reducible refine Kd.Cn_ ?_ _) | (with_reducible refine Kd.Cw_ ?_))); (case side4 => exact HC1_1.out); rintro e w' ⟨rfl, ⟨nd, rfl⟩⟩; (try first | exact ⟨rfl, _, World.drewN_drewN _ _ _⟩ | exact ⟨rfl, _, Eq.trans (World.drewN_drewN _ _ _) (congrArg (World.drewN _) (Nat.add_assoc _ _ _))⟩)))
    repeat (go_quiet (first | (go_at_call 17; (with_reducible refine (laws_lkMem.calls k _ _ l0_1 _ _ l1_1 true _ ?side1 ?side2 ?side3 ?side4 A6.out).mono ?_); (case side1 => repeat (first | exact (Kd.Cb_ HR0_1.out HB.out) | exact HR0_1.out | (with_reducible refine Kd.Ca_ ?_ _) | (with_reducible refine Kd.Cn_ ?_ _) | (with_reducible refine Kd.Cw_ ?_))); (case side2 => exact HC0_1.out); (case side3 => repeat (first | exact (Kd.Cb_ HR1_1.out HB.out) | exact HR1_1.out | (with_reducible refine Kd.Ca_ ?_ _) | (with_reducible refine Kd.Cn_ ?_ _) | (with_reducible refine Kd.Cw_ ?_))); (case side4 => exact HC1_1.out); rintro e w' ⟨rfl, ⟨nd, rfl⟩⟩; (try first | exact ⟨rfl, _, World.drewN_drewN _ _ _⟩ | exact ⟨rfl, _, Eq.trans (World.drewN_drewN _ _ _) (congrArg (World.drewN _) (Nat.add_assoc _ _ _))⟩))); try go_wp2_with (first | (go_at_call 17; (with_reducible refine (laws_lkMem.calls k _ _ l0_1 _ _ l1_1 true _ ?side1 ?side2 ?side3 ?side4 A6.out).mono ?_); (case side1 => repeat (first | exact (Kd.Cb_ HR0_1.out HB.out) | exact HR0_1.out | (with_reducible refine Kd.Ca_ ?_ _) | (with_reducible refine Kd.Cn_ ?_ _) | (with_reducible refine Kd.Cw_ ?_))); (case side2 => exact HC0_1.out); (case side3 => repeat (first | exact (Kd.Cb_ HR1_1.out HB.out) | exact HR1_1.out | (with_reducible refine Kd.Ca_ ?_ _) | (with_reducible refine Kd.Cn_ ?_ _) | (with_reducible refine Kd.Cw_ ?_))); (case side4 => exact HC1_1.out); rintro e w' ⟨rfl, ⟨nd, rfl⟩⟩; (try first | exact ⟨rfl, _, World.drewN_drewN _ _ _⟩ | exact ⟨rfl, _, Eq.trans (World.drewN_drewN _ _ _) (congrArg (World.drewN _) (Nat.add_assoc _ _ _))⟩))))
    go_meet
    case rel => exact ⟨_, (true), (by first | rfl | (simp; done) | (simp [*]; done)), H', ⟨by first | omega | exact Nat.le_refl _⟩, ⟨by (with_reducible repeat (first | refine Zn ?_ _ | refine Zw ?_ | refine Za ?_ _)); exact BK294.out⟩, ⟨by (with_reducible repeat (first | refine Zn ?_ _ | refine Zw ?_ | refine Za ?_ _)); exact BK295.out⟩, ⟨by repeat (first | (with_reducible first | exact HB.out | apply Ya | apply Yn | apply Yw | refine Ys ?_ GE294.out | refine Ys ?_ GE295.out) | exact HB.out)⟩⟩
  ·replace c7 := Bool.eq_false_iff.mpr c7
   subst c7
   have H1 : (laws_lkGuest.j0 k true l0_0 l0_1 l0_2 l1_0 l1_1 l1_2) = some r := by rw [if_neg (show ¬ (false = true) by decide)] at H; exact H
   clear H
   have H := H1
   clear H1
   have H' := Az.mk H
   clear H
   have hnb15 := NB294_295.out
   have hnc15 := NB295_294.out
   have hcz16_0 : w5.cell? ⟨gb294, 0, none⟩ = some (.slice A0_0 l0_0.length c0_0) := (Zc BK294.out 0).trans rfl
   have hcz16_1 : w5.cell? ⟨gb294, 1, none⟩ = some (.slice A0_1 l0_1.length c0_1) := (Zc BK294.out 1).trans rfl
   have hcz16_2 : w5.cell? ⟨gb294, 2, none⟩ = some (.slice A0_2 l0_2.length c0_2) := (Zc BK294.out 2).trans rfl
   have hfz16_0 := Zf BK294.out 0
   have hfz16_1 := Zf BK294.out 1
   have hfz16_2 := Zf BK294.out 2
   have hcz17_0 : w5.cell? ⟨gb295, 0, none⟩ = some (.slice A1_0 l1_0.length c1_0) := (Zc BK295.out 0).trans rfl
   have hcz17_1 : w5.cell? ⟨gb295, 1, none⟩ = some (.slice A1_1 l1_1.length c1_1) := (Zc BK295.out 1).trans rfl
   have hcz17_2 : w5.cell? ⟨gb295, 2, none⟩ = some (.slice A1_2 l1_2.length c1_2) := (Zc BK295.out 2).trans rfl
   have hfz17_0 := Zf BK295.out 0
   have hfz17_1 := Zf BK295.out 1
   have hfz17_2 := Zf BK295.out 2
   go_wp2_with (first | (go_at_call 17; (with_reducible refine (laws_lkMem.calls k _ _ l0_1 _ _ l1_1 false _ ?side1 ?side2 ?side3 ?side4 A6.out).mono ?_); (case side1 => repeat (first | exact (Kd.Cb_ HR0_1.out HB.out) | exact HR0_1.out | (with_reducible refine Kd.Ca_ ?_ _) | (with_reducible refine Kd.Cn_ ?_ _) | (with_reducible refine Kd.Cw_ ?_))); (case side2 => exact HC0_1.out); (case side3 => repeat (first | exact (Kd.Cb_ HR1_1.out HB.out) | exact HR1_1.out | (with_reducible refine Kd.Ca_ ?_ _) | (with_reducible refine Kd.Cn_ ?_ _) | (with_reducible refine Kd.Cw_ ?_))); (case side4 => exact HC1_1.out); rintro e w' ⟨rfl, ⟨nd, rfl⟩⟩; (try first | exact ⟨rfl, _, World.drewN_drewN _ _ _⟩ | exact ⟨rfl, _, Eq.trans (World.drewN_drewN _ _ _) (congrArg (World.drewN _) (Nat.add_assoc _ _ _))⟩)))
   repeat (go_quiet (first | (go_at_call 17; (with_reducible refine (laws_lkMem.calls k _ _ l0_1 _ _ l1_1 false _ ?side1 ?side2 ?side3 ?side4 A6.out).mono ?_); (case side1 => repeat (first | exact (Kd.Cb_ HR0_1.out HB.out) | exact HR0_1.out | (with_reducible refine Kd.Ca_ ?_ _) | (with_reducible refine Kd.Cn_ ?_ _) | (with_reducible refine Kd.Cw_ ?_))); (case side2 => exact HC0_1.out); (case side3 => repeat (first | exact (Kd.Cb_ HR1_1.out HB.out) | exact HR1_1.out | (with_reducible refine Kd.Ca_ ?_ _) | (with_reducible refine Kd.Cn_ ?_ _) | (with_reducible refine Kd.Cw_ ?_))); (case side4 => exact HC1_1.out); rintro e w' ⟨rfl, ⟨nd, rfl⟩⟩; (try first | exact ⟨rfl, _, World.drewN_drewN _ _ _⟩ | exact ⟨rfl, _, Eq.trans (World.drewN_drewN _ _ _) (congrArg (World.drewN _) (Nat.add_assoc _ _ _))⟩))); try go_wp2_with (first | (go_at_call 17; (with_reducible refine (laws_lkMem.calls k _ _ l0_1 _ _ l1_1 false _ ?side1 ?side2 ?side3 ?side4 A6.out).mono ?_); (case side1 => repeat (first | exact (Kd.Cb_ HR0_1.out HB.out) | exact HR0_1.out | (with_reducible refine Kd.Ca_ ?_ _) | (with_reducible refine Kd.Cn_ ?_ _) | (with_reducible refine Kd.Cw_ ?_))); (case side2 => exact HC0_1.out); (case side3 => repeat (first | exact (Kd.Cb_ HR1_1.out HB.out) | exact HR1_1.out | (with_reducible refine Kd.Ca_ ?_ _) | (with_reducible refine Kd.Cn_ ?_ _) | (with_reducible refine Kd.Cw_ ?_))); (case side4 => exact HC1_1.out); rintro e w' ⟨rfl, ⟨nd, rfl⟩⟩; (try first | exact ⟨rfl, _, World.drewN_drewN _ _ _⟩ | exact ⟨rfl, _, Eq.trans (World.drewN_drewN _ _ _) (congrArg (World.drewN _) (Nat.add_assoc _ _ _))⟩))))
   go_meet
   case rel => exact ⟨_, (true), (by first | rfl | (simp; done) | (simp [*]; done)), H', ⟨by first | omega | exact Nat.le_refl _⟩, ⟨by (with_reducible repeat (first | refine Zn ?_ _ | refine Zw ?_ | refine Za ?_ _)); exact BK294.out⟩, ⟨by (with_reducible repeat (first | refine Zn ?_ _ | refine Zw ?_ | refine Za ?_ _)); exact BK295.out⟩, ⟨by repeat (first | (with_reducible first | exact HB.out | apply Ya | apply Yn | apply Yw | refine Ys ?_ GE294.out | refine Ys ?_ GE295.out) | exact HB.out)⟩⟩
 case rest =>
  clear HC3
  try clear c1
  try clear p2
  try clear c6
  try clear c7
  try clear c8
  try clear c8b0
  try clear c8b1
  try clear c8b2
  try clear c9
  try clear c12
  try clear c15
  try clear hcz10_0
  try clear hcz10_1
  try clear hcz10_2
  try clear hcz11_0
  try clear hcz11_1
  try clear hcz11_2
  try clear hcz13_0
  try clear hcz13_1
  try clear hcz13_2
  try clear hcz14_0
  try clear hcz14_1
  try clear hcz14_2
  try clear hcz16_0
  try clear hcz16_1
  try clear hcz16_2
  try clear hcz17_0
  try clear hcz17_1
  try clear hcz17_2
  try clear hfz10_0
  try clear hfz10_1
  try clear hfz10_2
  try clear hfz11_0
  try clear hfz11_1
  try clear hfz11_2
  try clear hfz13_0
  try clear hfz13_1
  try clear hfz13_2
  try clear hfz14_0
  try clear hfz14_1
  try clear hfz14_2
  try clear hfz16_0
  try clear hfz16_1
  try clear hfz16_2
  try clear hfz17_0
  try clear hfz17_1
  try clear hfz17_2
  obtain ⟨kq, x30_2, rfl, HA, HJ2, BK294, BK295, HB⟩ := hcut
  cases kq with
  | zero => exact absurd HA.out (by simp [laws_lkGuest.j0])
  | succ kj2 =>
   have H := HA.out
   clear HA
   simp only [laws_lkGuest.j0] at H
   by_cases c18 : x30_2 = true
   ·subst c18
    have H1 : (some false) = some r := by rw [if_pos rfl] at H; exact H
    clear H
    have H := H1
    clear H1
    obtain rfl := Option.some.inj H
    go_wp2
    repeat (go_quiet (fail); try go_wp2)
    go_ret
    exact ⟨by first | rfl | (simp [errW_none, errW_some] <;> rfl) | (simp [*, errW_none, errW_some] <;> rfl), by repeat (first | (with_reducible first | exact HB.out | apply Ya | apply Yn | apply Yw | refine Ys ?_ GE294.out | refine Ys ?_ GE295.out) | exact HB.out)⟩
   ·replace c18 := Bool.eq_false_iff.mpr c18
    subst c18
    have H1 : (laws_lkGuest.l0 kj2 0 l0_0 l0_1 l0_2 l1_0 l1_1 l1_2) = some r := by rw [if_neg (show ¬ (false = true) by decide)] at H; exact H
    clear H
    have H := H1
    clear H1
    have H' := Az.mk H
    clear H
    go_wp2
    repeat (go_quiet (fail); try go_wp2)
    go_loopg [5] kj2 (fun kq v5 w' => ∃ (x5_2 : Int), v5 = .int .i64 x5_2 ∧ Az (laws_lkGuest.l0 kq x5_2 l0_0 l0_1 l0_2 l1_0 l1_1 l1_2 = some r) ∧ Az (kq ≤ kj2) ∧ Az (w'.heap[gb294]? = some (.cells #[(.slice A0_0 l0_0.length c0_0), (.slice A0_1 l0_1.length c0_1), (.slice A0_2 l0_2.length c0_2)] 74 (0, 0))) ∧ Az (w'.heap[gb295]? = some (.cells #[(.slice A1_0 l1_0.length c1_0), (.slice A1_1 l1_1.length c1_1), (.slice A1_2 l1_2.length c1_2)] 74 (0, 0))) ∧ Az (Below w.heap.size w w'))
    case atStart => exact ⟨(0), (by first | rfl | (simp; done) | (simp [*]; done)), H', ⟨Nat.le_refl _⟩, ⟨by (with_reducible repeat (first | refine Zn ?_ _ | refine Zw ?_ | refine Za ?_ _)); exact BK294.out⟩, ⟨by (with_reducible repeat (first | refine Zn ?_ _ | refine Zw ?_ | refine Za ?_ _)); exact BK295.out⟩, ⟨by repeat (first | (with_reducible first | exact HB.out | apply Ya | apply Yn | apply Yw | refine Ys ?_ GE294.out | refine Ys ?_ GE295.out) | exact HB.out)⟩⟩
    case round =>
     clear H'
     try clear c1
     try clear p2
     try clear c6
     try clear c7
     try clear c8
     try clear c8b0
     try clear c8b1
     try clear c8b2
     try clear c9
     try clear c12
     try clear c15
     try clear c18
     try clear hcz10_0
     try clear hcz10_1
     try clear hcz10_2
     try clear hcz11_0
     try clear hcz11_1
     try clear hcz11_2
     try clear hcz13_0
     try clear hcz13_1
     try clear hcz13_2
     try clear hcz14_0
     try clear hcz14_1
     try clear hcz14_2
     try clear hcz16_0
     try clear hcz16_1
     try clear hcz16_2
     try clear hcz17_0
     try clear hcz17_1
     try clear hcz17_2
     try clear hfz10_0
     try clear hfz10_1
     try clear hfz10_2
     try clear hfz11_0
     try clear hfz11_1
     try clear hfz11_2
     try clear hfz13_0
     try clear hfz13_1
     try clear hfz13_2
     try clear hfz14_0
     try clear hfz14_1
     try clear hfz14_2
     try clear hfz16_0
     try clear hfz16_1
     try clear hfz16_2
     try clear hfz17_0
     try clear hfz17_1
     try clear hfz17_2
     try clear p2
     obtain ⟨x5_2, rfl, HA, HK2, BK294, BK295, HB⟩ := hrel
     cases gk with
     | zero => exact absurd HA.out (by simp [laws_lkGuest.l0])
     | succ k2 =>
      have H := HA.out
      clear HA
      simp only [laws_lkGuest.l0] at H
      by_cases c19 : x5_2 < (l0_0.length : Int)
      ·rw [if_pos c19] at H
       have c19b0 : decide (x5_2 < (l0_0.length : Int)) = true := decide_eq_true c19
       clear c19
       by_cases c20 : 0 ≤ x5_2
       ·rw [if_pos c20] at H
        have c20b0 : decide (0 ≤ x5_2) = true := decide_eq_true c20
        clear c20
        by_cases c21 : x5_2 < (l1_0.length : Int)
        ·rw [if_pos c21] at H
         have c21b0 : decide (x5_2 < (l1_0.length : Int)) = true := decide_eq_true c21
         clear c21
         by_cases c22 : (!(((rd_T87 l0_0 x5_2).f0) == ((rd_T87 l1_0 x5_2).f0)) || (!(((rd_T87 l0_0 x5_2).f1) == ((rd_T87 l1_0 x5_2).f1)) || (!(((rd_T87 l0_0 x5_2).f2) == ((rd_T87 l1_0 x5_2).f2))))) = true
         ·rw [if_pos c22] at H
          have c22b0 : (!(((rd_T87 l0_0 x5_2).f0) == ((rd_T87 l1_0 x5_2).f0)) || (!(((rd_T87 l0_0 x5_2).f1) == ((rd_T87 l1_0 x5_2).f1)) || (!(((rd_T87 l0_0 x5_2).f2) == ((rd_T87 l1_0 x5_2).f2))))) = true := c22
          clear c22
          obtain rfl := Option.some.inj H
          have hnb23 := NB294_295.out
          have hnc23 := NB295_294.out
          have hcz24_0 : wr.cell? ⟨gb294, 0, none⟩ = some (.slice A0_0 l0_0.length c0_0) := (Zc BK294.out 0).trans rfl
          have hcz24_1 : wr.cell? ⟨gb294, 1, none⟩ = some (.slice A0_1 l0_1.length c0_1) := (Zc BK294.out 1).trans rfl
          have hcz24_2 : wr.cell? ⟨gb294, 2, none⟩ = some (.slice A0_2 l0_2.length c0_2) := (Zc BK294.out 2).trans rfl
          have hfz24_0 := Zf BK294.out 0
          have hfz24_1 := Zf BK294.out 1
          have hfz24_2 := Zf BK294.out 2
          have p297 : 0 ≤ (x5_2 : Int) := of_decide_eq_true (by first | (with_reducible assumption) | assumption)
          have q297 : x5_2 < (l0_0.length : Int) := of_decide_eq_true (by first | (with_reducible assumption) | assumption)
          obtain ⟨ad297, e297, hx297_0, hx297_1, hx297_2⟩ := at_T87 HR0_0.out x5_2 p297 q297
          cases e297
          replace hx297_0 := (HB.out.cell (World.block_lt_of_cell? w _ hx297_0)).trans hx297_0
          replace hx297_1 := (HB.out.cell (World.block_lt_of_cell? w _ hx297_1)).trans hx297_1
          replace hx297_2 := (HB.out.cell (World.block_lt_of_cell? w _ hx297_2)).trans hx297_2
          replace p297 := eq_true p297
          replace q297 := eq_true q297
          have hcz25_0 : wr.cell? ⟨gb295, 0, none⟩ = some (.slice A1_0 l1_0.length c1_0) := (Zc BK295.out 0).trans rfl
          have hcz25_1 : wr.cell? ⟨gb295, 1, none⟩ = some (.slice A1_1 l1_1.length c1_1) := (Zc BK295.out 1).trans rfl
          have hcz25_2 : wr.cell? ⟨gb295, 2, none⟩ = some (.slice A1_2 l1_2.length c1_2) := (Zc BK295.out 2).trans rfl
          have hfz25_0 := Zf BK295.out 0
          have hfz25_1 := Zf BK295.out 1
          have hfz25_2 := Zf BK295.out 2
          have p298 : 0 ≤ (x5_2 : Int) := of_decide_eq_true (by first | (with_reducible assumption) | assumption)
          have q298 : x5_2 < (l1_0.length : Int) := of_decide_eq_true (by first | (with_reducible assumption) | assumption)
          obtain ⟨ad298, e298, hx298_0, hx298_1, hx298_2⟩ := at_T87 HR1_0.out x5_2 p298 q298
          cases e298
          replace hx298_0 := (HB.out.cell (World.block_lt_of_cell? w _ hx298_0)).trans hx298_0
          replace hx298_1 := (HB.out.cell (World.block_lt_of_cell? w _ hx298_1)).trans hx298_1
          replace hx298_2 := (HB.out.cell (World.block_lt_of_cell? w _ hx298_2)).trans hx298_2
          replace p298 := eq_true p298
          replace q298 := eq_true q298
          go_wp2
          repeat (go_quiet (fail); try go_wp2)
          go_ret
          exact ⟨by first | rfl | (simp [errW_none, errW_some] <;> rfl) | (simp [*, errW_none, errW_some] <;> rfl), by repeat (first | (with_reducible first | exact HB.out | apply Ya | apply Yn | apply Yw | refine Ys ?_ GE294.out | refine Ys ?_ GE295.out) | exact HB.out)⟩
         ·rw [if_neg c22] at H
          have c22b0 : (!(((rd_T87 l0_0 x5_2).f0) == ((rd_T87 l1_0 x5_2).f0)) || (!(((rd_T87 l0_0 x5_2).f1) == ((rd_T87 l1_0 x5_2).f1)) || (!(((rd_T87 l0_0 x5_2).f2) == ((rd_T87 l1_0 x5_2).f2))))) = false := by simpa using c22
          clear c22
          have H' := Az.mk H
          clear H
          have hnb26 := NB294_295.out
          have hnc26 := NB295_294.out
          have hcz27_0 : wr.cell? ⟨gb294, 0, none⟩ = some (.slice A0_0 l0_0.length c0_0) := (Zc BK294.out 0).trans rfl
          have hcz27_1 : wr.cell? ⟨gb294, 1, none⟩ = some (.slice A0_1 l0_1.length c0_1) := (Zc BK294.out 1).trans rfl
          have hcz27_2 : wr.cell? ⟨gb294, 2, none⟩ = some (.slice A0_2 l0_2.length c0_2) := (Zc BK294.out 2).trans rfl
          have hfz27_0 := Zf BK294.out 0
          have hfz27_1 := Zf BK294.out 1
          have hfz27_2 := Zf BK294.out 2
          have p297 : 0 ≤ (x5_2 : Int) := of_decide_eq_true (by first | (with_reducible assumption) | assumption)
          have q297 : x5_2 < (l0_0.length : Int) := of_decide_eq_true (by first | (with_reducible assumption) | assumption)
          obtain ⟨ad297, e297, hx297_0, hx297_1, hx297_2⟩ := at_T87 HR0_0.out x5_2 p297 q297
          cases e297
          replace hx297_0 := (HB.out.cell (World.block_lt_of_cell? w _ hx297_0)).trans hx297_0
          replace hx297_1 := (HB.out.cell (World.block_lt_of_cell? w _ hx297_1)).trans hx297_1
          replace hx297_2 := (HB.out.cell (World.block_lt_of_cell? w _ hx297_2)).trans hx297_2
          replace p297 := eq_true p297
          replace q297 := eq_true q297
          have hcz28_0 : wr.cell? ⟨gb295, 0, none⟩ = some (.slice A1_0 l1_0.length c1_0) := (Zc BK295.out 0).trans rfl
          have hcz28_1 : wr.cell? ⟨gb295, 1, none⟩ = some (.slice A1_1 l1_1.length c1_1) := (Zc BK295.out 1).trans rfl
          have hcz28_2 : wr.cell? ⟨gb295, 2, none⟩ = some (.slice A1_2 l1_2.length c1_2) := (Zc BK295.out 2).trans rfl
          have hfz28_0 := Zf BK295.out 0
          have hfz28_1 := Zf BK295.out 1
          have hfz28_2 := Zf BK295.out 2
          have p298 : 0 ≤ (x5_2 : Int) := of_decide_eq_true (by first | (with_reducible assumption) | assumption)
          have q298 : x5_2 < (l1_0.length : Int) := of_decide_eq_true (by first | (with_reducible assumption) | assumption)
          obtain ⟨ad298, e298, hx298_0, hx298_1, hx298_2⟩ := at_T87 HR1_0.out x5_2 p298 q298
          cases e298
          replace hx298_0 := (HB.out.cell (World.block_lt_of_cell? w _ hx298_0)).trans hx298_0
          replace hx298_1 := (HB.out.cell (World.block_lt_of_cell? w _ hx298_1)).trans hx298_1
          replace hx298_2 := (HB.out.cell (World.block_lt_of_cell? w _ hx298_2)).trans hx298_2
          replace p298 := eq_true p298
          replace q298 := eq_true q298
          go_wp2
          repeat (go_quiet (fail); try go_wp2)
          go_roundg k2
          case measure => have := HJ2.out; have := HK2.out; omega
          case rel => exact ⟨(wrap64 (x5_2 + 1)), (by first | rfl | (simp; done) | (simp [*]; done)), H', ⟨by have := HJ2.out; have := HK2.out; omega⟩, ⟨by (with_reducible repeat (first | refine Zn ?_ _ | refine Zw ?_ | refine Za ?_ _)); exact BK294.out⟩, ⟨by (with_reducible repeat (first | refine Zn ?_ _ | refine Zw ?_ | refine Za ?_ _)); exact BK295.out⟩, ⟨by repeat (first | (with_reducible first | exact HB.out | apply Ya | apply Yn | apply Yw | refine Ys ?_ GE294.out | refine Ys ?_ GE295.out) | exact HB.out)⟩⟩
        ·rw [if_neg c21] at H
         exact absurd H (by simp)
       ·rw [if_neg c20] at H
        exact absurd H (by simp)
      ·rw [if_neg c19] at H
       have c19b0 : decide (x5_2 < (l0_0.length : Int)) = false := decide_eq_false c19
       clear c19
       have H' := Az.mk H
       clear H
       have hnb29 := NB294_295.out
       have hnc29 := NB295_294.out
       have hcz30_0 : wr.cell? ⟨gb294, 0, none⟩ = some (.slice A0_0 l0_0.length c0_0) := (Zc BK294.out 0).trans rfl
       have hcz30_1 : wr.cell? ⟨gb294, 1, none⟩ = some (.slice A0_1 l0_1.length c0_1) := (Zc BK294.out 1).trans rfl
       have hcz30_2 : wr.cell? ⟨gb294, 2, none⟩ = some (.slice A0_2 l0_2.length c0_2) := (Zc BK294.out 2).trans rfl
       have hfz30_0 := Zf BK294.out 0
       have hfz30_1 := Zf BK294.out 1
       have hfz30_2 := Zf BK294.out 2
       go_wp2
       repeat (go_quiet (fail); try go_wp2)
       go_loopg [6] k2 (fun kq v6 w' => ∃ (x6_3 : Int), v6 = .int .i64 x6_3 ∧ Az (laws_lkGuest.l1 kq x6_3 l0_0 l0_1 l0_2 l1_0 l1_1 l1_2 = some r) ∧ Az (kq ≤ k2) ∧ Az (w'.heap[gb294]? = some (.cells #[(.slice A0_0 l0_0.length c0_0), (.slice A0_1 l0_1.length c0_1), (.slice A0_2 l0_2.length c0_2)] 74 (0, 0))) ∧ Az (w'.heap[gb295]? = some (.cells #[(.slice A1_0 l1_0.length c1_0), (.slice A1_1 l1_1.length c1_1), (.slice A1_2 l1_2.length c1_2)] 74 (0, 0))) ∧ Az (Below w.heap.size w w'))
       case atStart => exact ⟨(0), (by first | rfl | (simp; done) | (simp [*]; done)), H', ⟨Nat.le_refl _⟩, ⟨by (with_reducible repeat (first | refine Zn ?_ _ | refine Zw ?_ | refine Za ?_ _)); exact BK294.out⟩, ⟨by (with_reducible repeat (first | refine Zn ?_ _ | refine Zw ?_ | refine Za ?_ _)); exact BK295.out⟩, ⟨by repeat (first | (with_reducible first | exact HB.out | apply Ya | apply Yn | apply Yw | refine Ys ?_ GE294.out | refine Ys ?_ GE295.out) | exact HB.out)⟩⟩
       case round =>
        clear H'
        try clear c1
        try clear c2
        try clear p2
        try clear q2
        try clear hx2
        try clear c6
        try clear p6
        try clear c7
        try clear c8
        try clear c8b0
        try clear c8b1
        try clear c8b2
        try clear c9
        try clear c12
        try clear c15
        try clear c18
        try clear c19
        try clear c19b0
        try clear c20
        try clear c20b0
        try clear c21
        try clear c21b0
        try clear c22
        try clear c22b0
        try clear c23
        try clear c26
        try clear c29
        try clear p29
        try clear q29
        try clear hx29
        try clear hcz10_0
        try clear hcz10_1
        try clear hcz10_2
        try clear hcz11_0
        try clear hcz11_1
        try clear hcz11_2
        try clear hcz13_0
        try clear hcz13_1
        try clear hcz13_2
        try clear hcz14_0
        try clear hcz14_1
        try clear hcz14_2
        try clear hcz16_0
        try clear hcz16_1
        try clear hcz16_2
        try clear hcz17_0
        try clear hcz17_1
        try clear hcz17_2
        try clear hcz24_0
        try clear hcz24_1
        try clear hcz24_2
        try clear hcz25_0
        try clear hcz25_1
        try clear hcz25_2
        try clear hcz27_0
        try clear hcz27_1
        try clear hcz27_2
        try clear hcz28_0
        try clear hcz28_1
        try clear hcz28_2
        try clear hcz30_0
        try clear hcz30_1
        try clear hcz30_2
        try clear hfz10_0
        try clear hfz10_1
        try clear hfz10_2
        try clear hfz11_0
        try clear hfz11_1
        try clear hfz11_2
        try clear hfz13_0
        try clear hfz13_1
        try clear hfz13_2
        try clear hfz14_0
        try clear hfz14_1
        try clear hfz14_2
        try clear hfz16_0
        try clear hfz16_1
        try clear hfz16_2
        try clear hfz17_0
        try clear hfz17_1
        try clear hfz17_2
        try clear hfz24_0
        try clear hfz24_1
        try clear hfz24_2
        try clear hfz25_0
        try clear hfz25_1
        try clear hfz25_2
        try clear hfz27_0
        try clear hfz27_1
        try clear hfz27_2
        try clear hfz28_0
        try clear hfz28_1
        try clear hfz28_2
        try clear hfz30_0
        try clear hfz30_1
        try clear hfz30_2
        try clear hx297_0
        try clear hx297_1
        try clear hx297_2
        try clear hx298_0
        try clear hx298_1
        try clear hx298_2
        try clear p2
        try clear p297
        try clear p298
        try clear q297
        try clear q298
        obtain ⟨x6_3, rfl, HA, HK3, BK294, BK295, HB⟩ := hrel
        cases gk with
        | zero => exact absurd HA.out (by simp [laws_lkGuest.l1])
        | succ k3 =>
         have H := HA.out
         clear HA
         simp only [laws_lkGuest.l1] at H
         by_cases c31 : x6_3 < (l0_2.length : Int)
         ·rw [if_pos c31] at H
          have c31b0 : decide (x6_3 < (l0_2.length : Int)) = true := decide_eq_true c31
          clear c31
          by_cases c32 : 0 ≤ x6_3
          ·rw [if_pos c32] at H
           have c32b0 : decide (0 ≤ x6_3) = true := decide_eq_true c32
           clear c32
           by_cases c33 : x6_3 < (l1_2.length : Int)
           ·rw [if_pos c33] at H
            have c33b0 : decide (x6_3 < (l1_2.length : Int)) = true := decide_eq_true c33
            clear c33
            by_cases c34 : (!(((rd_T90 l0_2 x6_3).f0) == ((rd_T90 l1_2 x6_3).f0)) || (!(((rd_T90 l0_2 x6_3).f1) == ((rd_T90 l1_2 x6_3).f1)) || (!(((rd_T90 l0_2 x6_3).f2) == ((rd_T90 l1_2 x6_3).f2)) || (!(((rd_T90 l0_2 x6_3).f3) == ((rd_T90 l1_2 x6_3).f3)))))) = true
            ·rw [if_pos c34] at H
             have c34b0 : (!(((rd_T90 l0_2 x6_3).f0) == ((rd_T90 l1_2 x6_3).f0)) || (!(((rd_T90 l0_2 x6_3).f1) == ((rd_T90 l1_2 x6_3).f1)) || (!(((rd_T90 l0_2 x6_3).f2) == ((rd_T90 l1_2 x6_3).f2)) || (!(((rd_T90 l0_2 x6_3).f3) == ((rd_T90 l1_2 x6_3).f3)))))) = true := c34
             clear c34
             obtain rfl := Option.some.inj H
             have hnb35 := NB294_295.out
             have hnc35 := NB295_294.out
             have hcz36_0 : wr.cell? ⟨gb294, 0, none⟩ = some (.slice A0_0 l0_0.length c0_0) := (Zc BK294.out 0).trans rfl
             have hcz36_1 : wr.cell? ⟨gb294, 1, none⟩ = some (.slice A0_1 l0_1.length c0_1) := (Zc BK294.out 1).trans rfl
             have hcz36_2 : wr.cell? ⟨gb294, 2, none⟩ = some (.slice A0_2 l0_2.length c0_2) := (Zc BK294.out 2).trans rfl
             have hfz36_0 := Zf BK294.out 0
             have hfz36_1 := Zf BK294.out 1
             have hfz36_2 := Zf BK294.out 2
             have p299 : 0 ≤ (x6_3 : Int) := of_decide_eq_true (by first | (with_reducible assumption) | assumption)
             have q299 : x6_3 < (l0_2.length : Int) := of_decide_eq_true (by first | (with_reducible assumption) | assumption)
             obtain ⟨ad299, e299, hx299_0, hx299_1, hx299_2, hx299_3⟩ := at_T90 HR0_2.out x6_3 p299 q299
             cases e299
             replace hx299_0 := (HB.out.cell (World.block_lt_of_cell? w _ hx299_0)).trans hx299_0
             replace hx299_1 := (HB.out.cell (World.block_lt_of_cell? w _ hx299_1)).trans hx299_1
             replace hx299_2 := (HB.out.cell (World.block_lt_of_cell? w _ hx299_2)).trans hx299_2
             replace hx299_3 := (HB.out.cell (World.block_lt_of_cell? w _ hx299_3)).trans hx299_3
             replace p299 := eq_true p299
             replace q299 := eq_true q299
             have hcz37_0 : wr.cell? ⟨gb295, 0, none⟩ = some (.slice A1_0 l1_0.length c1_0) := (Zc BK295.out 0).trans rfl
             have hcz37_1 : wr.cell? ⟨gb295, 1, none⟩ = some (.slice A1_1 l1_1.length c1_1) := (Zc BK295.out 1).trans rfl
             have hcz37_2 : wr.cell? ⟨gb295, 2, none⟩ = some (.slice A1_2 l1_2.length c1_2) := (Zc BK295.out 2).trans rfl
             have hfz37_0 := Zf BK295.out 0
             have hfz37_1 := Zf BK295.out 1
             have hfz37_2 := Zf BK295.out 2
             have p300 : 0 ≤ (x6_3 : Int) := of_decide_eq_true (by first | (with_reducible assumption) | assumption)
             have q300 : x6_3 < (l1_2.length : Int) := of_decide_eq_true (by first | (with_reducible assumption) | assumption)
             obtain ⟨ad300, e300, hx300_0, hx300_1, hx300_2, hx300_3⟩ := at_T90 HR1_2.out x6_3 p300 q300
             cases e300
             replace hx300_0 := (HB.out.cell (World.block_lt_of_cell? w _ hx300_0)).trans hx300_0
             replace hx300_1 := (HB.out.cell (World.block_lt_of_cell? w _ hx300_1)).trans hx300_1
             replace hx300_2 := (HB.out.cell (World.block_lt_of_cell? w _ hx300_2)).trans hx300_2
             replace hx300_3 := (HB.out.cell (World.block_lt_of_cell? w _ hx300_3)).trans hx300_3
             replace p300 := eq_true p300
             replace q300 := eq_true q300
             go_wp2
             repeat (go_quiet (fail); try go_wp2)
             go_ret
             exact ⟨by first | rfl | (simp [errW_none, errW_some] <;> rfl) | (simp [*, errW_none, errW_some] <;> rfl), by repeat (first | (with_reducible first | exact HB.out | apply Ya | apply Yn | apply Yw | refine Ys ?_ GE294.out | refine Ys ?_ GE295.out) | exact HB.out)⟩
            ·rw [if_neg c34] at H
             have c34b0 : (!(((rd_T90 l0_2 x6_3).f0) == ((rd_T90 l1_2 x6_3).f0)) || (!(((rd_T90 l0_2 x6_3).f1) == ((rd_T90 l1_2 x6_3).f1)) || (!(((rd_T90 l0_2 x6_3).f2) == ((rd_T90 l1_2 x6_3).f2)) || (!(((rd_T90 l0_2 x6_3).f3) == ((rd_T90 l1_2 x6_3).f3)))))) = false := by simpa using c34
             clear c34
             have H' := Az.mk H
             clear H
             have hnb38 := NB294_295.out
             have hnc38 := NB295_294.out
             have hcz39_0 : wr.cell? ⟨gb294, 0, none⟩ = some (.slice A0_0 l0_0.length c0_0) := (Zc BK294.out 0).trans rfl
             have hcz39_1 : wr.cell? ⟨gb294, 1, none⟩ = some (.slice A0_1 l0_1.length c0_1) := (Zc BK294.out 1).trans rfl
             have hcz39_2 : wr.cell? ⟨gb294, 2, none⟩ = some (.slice A0_2 l0_2.length c0_2) := (Zc BK294.out 2).trans rfl
             have hfz39_0 := Zf BK294.out 0
             have hfz39_1 := Zf BK294.out 1
             have hfz39_2 := Zf BK294.out 2
             have p299 : 0 ≤ (x6_3 : Int) := of_decide_eq_true (by first | (with_reducible assumption) | assumption)
             have q299 : x6_3 < (l0_2.length : Int) := of_decide_eq_true (by first | (with_reducible assumption) | assumption)
             obtain ⟨ad299, e299, hx299_0, hx299_1, hx299_2, hx299_3⟩ := at_T90 HR0_2.out x6_3 p299 q299
             cases e299
             replace hx299_0 := (HB.out.cell (World.block_lt_of_cell? w _ hx299_0)).trans hx299_0
             replace hx299_1 := (HB.out.cell (World.block_lt_of_cell? w _ hx299_1)).trans hx299_1
             replace hx299_2 := (HB.out.cell (World.block_lt_of_cell? w _ hx299_2)).trans hx299_2
             replace hx299_3 := (HB.out.cell (World.block_lt_of_cell? w _ hx299_3)).trans hx299_3
             replace p299 := eq_true p299
             replace q299 := eq_true q299
             have hcz40_0 : wr.cell? ⟨gb295, 0, none⟩ = some (.slice A1_0 l1_0.length c1_0) := (Zc BK295.out 0).trans rfl
             have hcz40_1 : wr.cell? ⟨gb295, 1, none⟩ = some (.slice A1_1 l1_1.length c1_1) := (Zc BK295.out 1).trans rfl
             have hcz40_2 : wr.cell? ⟨gb295, 2, none⟩ = some (.slice A1_2 l1_2.length c1_2) := (Zc BK295.out 2).trans rfl
             have hfz40_0 := Zf BK295.out 0
             have hfz40_1 := Zf BK295.out 1
             have hfz40_2 := Zf BK295.out 2
             have p300 : 0 ≤ (x6_3 : Int) := of_decide_eq_true (by first | (with_reducible assumption) | assumption)
             have q300 : x6_3 < (l1_2.length : Int) := of_decide_eq_true (by first | (with_reducible assumption) | assumption)
             obtain ⟨ad300, e300, hx300_0, hx300_1, hx300_2, hx300_3⟩ := at_T90 HR1_2.out x6_3 p300 q300
             cases e300
             replace hx300_0 := (HB.out.cell (World.block_lt_of_cell? w _ hx300_0)).trans hx300_0
             replace hx300_1 := (HB.out.cell (World.block_lt_of_cell? w _ hx300_1)).trans hx300_1
             replace hx300_2 := (HB.out.cell (World.block_lt_of_cell? w _ hx300_2)).trans hx300_2
             replace hx300_3 := (HB.out.cell (World.block_lt_of_cell? w _ hx300_3)).trans hx300_3
             replace p300 := eq_true p300
             replace q300 := eq_true q300
             go_wp2
             repeat (go_quiet (fail); try go_wp2)
             go_roundg k3
             case measure => have := HJ2.out; have := HK2.out; have := HK3.out; omega
             case rel => exact ⟨(wrap64 (x6_3 + 1)), (by first | rfl | (simp; done) | (simp [*]; done)), H', ⟨by have := HJ2.out; have := HK2.out; have := HK3.out; omega⟩, ⟨by (with_reducible repeat (first | refine Zn ?_ _ | refine Zw ?_ | refine Za ?_ _)); exact BK294.out⟩, ⟨by (with_reducible repeat (first | refine Zn ?_ _ | refine Zw ?_ | refine Za ?_ _)); exact BK295.out⟩, ⟨by repeat (first | (with_reducible first | exact HB.out | apply Ya | apply Yn | apply Yw | refine Ys ?_ GE294.out | refine Ys ?_ GE295.out) | exact HB.out)⟩⟩
           ·rw [if_neg c33] at H
            exact absurd H (by simp)
          ·rw [if_neg c32] at H
           exact absurd H (by simp)
         ·rw [if_neg c31] at H
          have c31b0 : decide (x6_3 < (l0_2.length : Int)) = false := decide_eq_false c31
          clear c31
          obtain rfl := Option.some.inj H
          have hnb41 := NB294_295.out
          have hnc41 := NB295_294.out
          have hcz42_0 : wr.cell? ⟨gb294, 0, none⟩ = some (.slice A0_0 l0_0.length c0_0) := (Zc BK294.out 0).trans rfl
          have hcz42_1 : wr.cell? ⟨gb294, 1, none⟩ = some (.slice A0_1 l0_1.length c0_1) := (Zc BK294.out 1).trans rfl
          have hcz42_2 : wr.cell? ⟨gb294, 2, none⟩ = some (.slice A0_2 l0_2.length c0_2) := (Zc BK294.out 2).trans rfl
          have hfz42_0 := Zf BK294.out 0
          have hfz42_1 := Zf BK294.out 1
          have hfz42_2 := Zf BK294.out 2
          go_wp2
          repeat (go_quiet (fail); try go_wp2)
          go_ret
          exact ⟨by first | rfl | (simp [errW_none, errW_some] <;> rfl) | (simp [*, errW_none, errW_some] <;> rfl), by repeat (first | (with_reducible first | exact HB.out | apply Ya | apply Yn | apply Yw | refine Ys ?_ GE294.out | refine Ys ?_ GE295.out) | exact HB.out)⟩

end Go.Proofs.Ytfamknibfokfmaa.QFnLoadBad
