/- Walks of this claim: each Go function that the law reaches comes to what the Lean function beside it says. Conditions: none beyond those that each theorem names. -/
import Derived.Test.YtfamknibfokfmaaVFnLoadBadx0
import Derived.Test.YtfamknibfokfmaaVFnLoadBadx11
import Derived.Test.YtfamknibfokfmaaVFnLoadBadx12
namespace Go.Proofs.Ytfamknibfokfmaa.QFnLoadBad
open Go.RowKit Go.Proofs.YtfamknibfokfmaaW.PrintWords Go.Proofs.YtfamknibfokfmaaW.PrintLast Go.Proofs.YtfamknibfokfmaaW.PrintMore
attribute [local go_sem] max2_int min2_int max_two min_two max_three min_three max_four min_four   -- for this text's walks alone
set_option linter.unusedVariables false
set_option linter.unusedSimpArgs false

/-! ### laws_lkHost: function 21 -/
mutual
def laws_lkHost.j0 : Nat → Bool → List (List Int) → List (S74) → Int → List (List Int) → List (S74) → Int → Option (Bool)
 | 0, _, _, _, _, _, _, _ => none
 | k + 1, x27, x302000, x302001, x302002, x303000, x303001, x303002 => if x27 = true then (some false) else (laws_lkHost.l0 k 0 x302000 x302001 x302002 x303000 x303001 x303002)
def laws_lkHost.l0 : Nat → Int → List (List Int) → List (S74) → Int → List (List Int) → List (S74) → Int → Option (Bool)
 | 0, _, _, _, _, _, _, _ => none
 | k + 1, x5, x302000, x302001, x302002, x303000, x303001, x303002 => if x5 < (x302001.length : Int) then (if 0 ≤ x5 then (if x5 < (x303001.length : Int) then ((laws_lkGuest.f k ((rd_T74 x302001 x5).f0) ((rd_T74 x302001 x5).f1) ((rd_T74 x302001 x5).f2) ((rd_T74 x303001 x5).f0) ((rd_T74 x303001 x5).f1) ((rd_T74 x303001 x5).f2)).bind fun t306 => (if t306 = true then (laws_lkHost.l0 k (wrap64 (x5 + 1)) x302000 x302001 x302002 x303000 x303001 x303002) else (some false))) else (none)) else (none)) else (some true)
end
def laws_lkHost.f (k : Nat) (l0_0 : List (List Int)) (l0_1 : List (S74)) (a0_2 : Int) (l1_0 : List (List Int)) (l1_1 : List (S74)) (a1_2 : Int) : Option (Bool) := (laws_lkMem.f k l0_0 l1_0).bind fun t303 => (if t303 = true then (if a0_2 = a1_2 then (laws_lkHost.j0 k ((l0_1.length : Int) != (l1_1.length : Int)) l0_0 l0_1 a0_2 l1_0 l1_1 a1_2) else (laws_lkHost.j0 k true l0_0 l0_1 a0_2 l1_0 l1_1 a1_2)) else (laws_lkHost.j0 k true l0_0 l0_1 a0_2 l1_0 l1_1 a1_2))
def laws_lkHost.T6 : Bool × List (List Nat × List Nat) := (true, [([], []), ([0], [0]), ([], []), ([1, 2], [1, 2]), ([3], [3]), ([], []), ([5], [5]), ([], []), ([6, 7], [6, 7]), ([8], [8]), ([4, 9], [4, 9]), ([10], [10])])
def laws_lkHost.B6 : List Nat := [0, 1, 0, 7, 15, 0, 32, 0, 224, 480, 1023, 2047]
theorem laws_lkHost.tab6 : rtab .any (opsOf Try.f21 6) = laws_lkHost.T6 := by kernel_rfl
theorem laws_lkHost.bits6 : waitsOk laws_lkHost.T6.2 laws_lkHost.B6 = true := by kernel_rfl
set_option maxHeartbeats 8000000 in
set_option maxRecDepth 100000 in
theorem laws_lkHost.calls (k : Nat) (A0_0 : Option Addr) (c0_0 : Nat) (l0_0 : List (List Int)) (A0_1 : Option Addr) (c0_1 : Nat) (l0_1 : List (S74)) (a0_2 : Int) (A1_0 : Option Addr) (c1_0 : Nat) (l1_0 : List (List Int)) (A1_1 : Option Addr) (c1_1 : Nat) (l1_1 : List (S74)) (a1_2 : Int) (r : Bool) (w : World) (hr0_0 : Kd.C (Kd.slice 3 (Kd.int .i64)) w A0_0 l0_0.length l0_0) (hc0_0 : l0_0.length ≤ c0_0) (hr0_1 : Kd.C k74 w A0_1 l0_1.length l0_1) (hc0_1 : l0_1.length ≤ c0_1) (hr1_0 : Kd.C (Kd.slice 3 (Kd.int .i64)) w A1_0 l1_0.length l1_0) (hc1_0 : l1_0.length ≤ c1_0) (hr1_1 : Kd.C k74 w A1_1 l1_1.length l1_1) (hc1_1 : l1_1.length ≤ c1_1) (h : laws_lkHost.f k l0_0 l0_1 a0_2 l1_0 l1_1 a1_2 = some r) :
  Calls Try.prog 21 #[.agg #[.slice A0_0 l0_0.length c0_0, .slice A0_1 l0_1.length c0_1, .int .i64 a0_2], .agg #[.slice A1_0 l1_0.length c1_0, .slice A1_1 l1_1.length c1_1, .int .i64 a1_2]] w fun e w' => e = .returned (.bool r) ∧ Below w.heap.size w w' := by
 have hu35 := Try.underlying35
 have hu74 := Try.underlying74
 have HR0_0 := Az.mk hr0_0
 have HC0_0 := Az.mk hc0_0
 clear hr0_0 hc0_0
 have HR0_1 := Az.mk hr0_1
 have HC0_1 := Az.mk hc0_1
 clear hr0_1 hc0_1
 have HR1_0 := Az.mk hr1_0
 have HC1_0 := Az.mk hc1_0
 clear hr1_0 hc1_0
 have HR1_1 := Az.mk hr1_1
 have HC1_1 := Az.mk hc1_1
 clear hr1_1 hc1_1
 have HB := Az.mk (Below.refl w.heap.size w)
 have H : ((laws_lkMem.f k l0_0 l1_0).bind fun t303 => (if t303 = true then (if a0_2 = a1_2 then (laws_lkHost.j0 k ((l0_1.length : Int) != (l1_1.length : Int)) l0_0 l0_1 a0_2 l1_0 l1_1 a1_2) else (laws_lkHost.j0 k true l0_0 l0_1 a0_2 l1_0 l1_1 a1_2)) else (laws_lkHost.j0 k true l0_0 l0_1 a0_2 l1_0 l1_1 a1_2))) = some r := h
 clear h
 have HC3 := Az.mk H
 clear H
 go_enter Try.func21, Try.ntmps21
 go_upto_region 1 with (first | ((with_reducible refine Yd (N := 2) rfl ?_); (try (refine Ye (by rfl) ?_; dsimp only)); refine Yv ?hg (N := 2) ?hd (cs := #[.slice A0_0 l0_0.length c0_0, .slice A0_1 l0_1.length c0_1, .int .i64 a0_2]) (t := 35) ?hr ?_; (case hd => rfl); (case hg => rfl); (case hr => first | (go_simp; done) | (go_simp; rfl)); intro gb301 hg w4 hbox hb; have n0_ := Az.mk (Yt (by repeat (first | (with_reducible first | exact HB.out | apply Ya | apply Yn | apply Yw) | exact HB.out)) hb); have n1_ := Az.mk (hbox); have n2_ := Az.mk ((by rw [hg]; exact (Yz (by repeat (first | (with_reducible first | exact HB.out | apply Ya | apply Yn | apply Yw) | exact HB.out))) : w.heap.size ≤ gb301)); have n3_ := Az.mk ((by rw [hg]; exact (Yz (by repeat (first | (with_reducible first | exact HB.out | apply Ya | apply Yn | apply Yw) | exact HB.out))) : w.heap.size ≤ gb301)); clear HB; have HB := n0_; have BK301 := n1_; have GW301 := n2_; have GE301 := n3_; clear n0_ n1_ n2_ n3_; clear hb hbox hg) | ((with_reducible refine Yd (N := 3) rfl ?_); (try (refine Ye (by rfl) ?_; dsimp only)); refine Yv ?hg (N := 3) ?hd (cs := #[.slice A1_0 l1_0.length c1_0, .slice A1_1 l1_1.length c1_1, .int .i64 a1_2]) (t := 35) ?hr ?_; (case hd => rfl); (case hg => rfl); (case hr => first | (go_simp; done) | (go_simp; rfl)); intro gb302 hg w5 hbox hb; have n0_ := Az.mk (Zb (g := gb301) (o := .cells #[.slice A0_0 l0_0.length c0_0, .slice A0_1 l0_1.length c0_1, .int .i64 a0_2] 35 (0, 0)) (by (with_reducible repeat (first | refine Zn ?_ _ | refine Zw ?_ | refine Za ?_ _)); exact BK301.out) hb); have n1_ := Az.mk (Yt (by repeat (first | (with_reducible first | exact HB.out | apply Ya | apply Yn | apply Yw | refine Ys ?_ GE301.out) | exact HB.out)) hb); have n2_ := Az.mk (hbox); have n3_ := Az.mk ((by rw [hg]; exact (Yz (by repeat (first | (with_reducible first | exact HB.out | apply Ya | apply Yn | apply Yw | refine Ys ?_ GE301.out) | exact HB.out))) : w.heap.size ≤ gb302)); have n4_ := Az.mk ((by rw [hg]; exact (Yz (by repeat (first | (with_reducible first | exact HB.out | apply Ya | apply Yn | apply Yw | refine Ys ?_ GE301.out) | exact HB.out))) : w.heap.size ≤ gb302)); have n5_ := Az.mk ((by rw [hg]; exact Nat.ne_of_lt (Zl (g := gb301) (o := .cells #[.slice A0_0 l0_0.length c0_0, .slice A0_1 l0_1.length c0_1, .int .i64 a0_2] 35 (0, 0)) (by (with_reducible repeat (first | refine Zn ?_ _ | refine Zw ?_ | refine Za ?_ _)); exact BK301.out)) : gb301 ≠ gb302)); have n6_ := Az.mk ((by rw [hg]; exact Nat.ne_of_gt (Zl (g := gb301) (o := .cells #[.slice A0_0 l0_0.length c0_0, .slice A0_1 l0_1.length c0_1, .int .i64 a0_2] 35 (0, 0)) (by (with_reducible repeat (first | refine Zn ?_ _ | refine Zw ?_ | refine Za ?_ _)); exact BK301.out)) : gb302 ≠ gb301)); clear BK301; clear HB; have BK301 := n0_; have HB := n1_; have BK302 := n2_; have GW302 := n3_; have GE302 := n4_; have NB301_302 := n5_; have NB302_301 := n6_; clear n0_ n1_ n2_ n3_ n4_ n5_ n6_; clear hb hbox hg))
 (try simp only [Act.put, List.setIfInBounds_toArray, List.set_cons_zero, List.set_cons_succ])
 go_cut [27] (fun v27 wc => ∃ (kq : Nat) (x27_2 : Bool), v27 = .bool x27_2 ∧ Az (laws_lkHost.j0 kq x27_2 l0_0 l0_1 a0_2 l1_0 l1_1 a1_2 = some r) ∧ Az (kq ≤ k) ∧ Az (wc.heap[gb301]? = some (.cells #[(.slice A0_0 l0_0.length c0_0), (.slice A0_1 l0_1.length c0_1), .int .i64 a0_2] 35 (0, 0))) ∧ Az (wc.heap[gb302]? = some (.cells #[(.slice A1_0 l1_0.length c1_0), (.slice A1_1 l1_1.length c1_1), .int .i64 a1_2] 35 (0, 0))) ∧ Az (Below w.heap.size w wc))
 case first =>
  have H := HC3.out
  clear HC3
  replace H := Option.bind_eq_some_iff.mp H
  obtain ⟨t303, A60, H⟩ := H
  replace H : (if t303 = true then (if a0_2 = a1_2 then (laws_lkHost.j0 k ((l0_1.length : Int) != (l1_1.length : Int)) l0_0 l0_1 a0_2 l1_0 l1_1 a1_2) else (laws_lkHost.j0 k true l0_0 l0_1 a0_2 l1_0 l1_1 a1_2)) else (laws_lkHost.j0 k true l0_0 l0_1 a0_2 l1_0 l1_1 a1_2)) = some r := H
  have A6 := Az.mk A60
  clear A60
  by_cases c7 : t303 = true
  ·subst c7
   have H1 : (if a0_2 = a1_2 then (laws_lkHost.j0 k ((l0_1.length : Int) != (l1_1.length : Int)) l0_0 l0_1 a0_2 l1_0 l1_1 a1_2) else (laws_lkHost.j0 k true l0_0 l0_1 a0_2 l1_0 l1_1 a1_2)) = some r := by rw [if_pos rfl] at H; exact H
   clear H
   have H := H1
   clear H1
   by_cases c8 : a0_2 = a1_2
   ·rw [if_pos c8] at H
    have c8b0 : (a0_2 == a1_2) = true := beq_iff_eq.mpr c8
    have c8b1 : (a0_2 != a1_2) = false := bne_eq_false_iff_eq.mpr c8
    clear c8
    (first | rw [c8b0] | (simp only [i64_w, i32_w]; rw [c8b0]) | skip)
    have H' := Az.mk H
    clear H
    have hnb9 := NB301_302.out
    have hnc9 := NB302_301.out
    have hcz10_0 : w5.cell? ⟨gb301, 0, none⟩ = some (.slice A0_0 l0_0.length c0_0) := (Zc BK301.out 0).trans rfl
    have hcz10_1 : w5.cell? ⟨gb301, 1, none⟩ = some (.slice A0_1 l0_1.length c0_1) := (Zc BK301.out 1).trans rfl
    have hcz10_2 : w5.cell? ⟨gb301, 2, none⟩ = some (.int .i64 a0_2) := (Zc BK301.out 2).trans rfl
    have hfz10_0 := Zf BK301.out 0
    have hfz10_1 := Zf BK301.out 1
    have hfz10_2 := Zf BK301.out 2
    have hcz11_0 : w5.cell? ⟨gb302, 0, none⟩ = some (.slice A1_0 l1_0.length c1_0) := (Zc BK302.out 0).trans rfl
    have hcz11_1 : w5.cell? ⟨gb302, 1, none⟩ = some (.slice A1_1 l1_1.length c1_1) := (Zc BK302.out 1).trans rfl
    have hcz11_2 : w5.cell? ⟨gb302, 2, none⟩ = some (.int .i64 a1_2) := (Zc BK302.out 2).trans rfl
    have hfz11_0 := Zf BK302.out 0
    have hfz11_1 := Zf BK302.out 1
    have hfz11_2 := Zf BK302.out 2
    go_wp2_with (first | ((with_reducible refine Yc (f := 17) rfl ?_); refine Yg (some 10) rfl rfl Try.func17 (by kernel_rfl) rfl #[.slice A0_0 l0_0.length c0_0, .slice A1_0 l1_0.length c1_0] rfl (by (try simp only [List.map_toArray, List.map_cons, List.map_nil]); first | done | rfl | (simp only [List.length_drop, List.length_take]; rfl)) ?_; (with_reducible refine (laws_lkMem.calls k _ _ l0_0 _ _ l1_0 true _ ?side1 ?side2 ?side3 ?side4 A6.out).mono ?_); (case side1 => repeat (first | exact (Kd.Cb_ HR0_0.out HB.out) | exact HR0_0.out | (with_reducible refine Kd.Ca_ ?_ _) | (with_reducible refine Kd.Cn_ ?_ _) | (with_reducible refine Kd.Cw_ ?_))); (case side2 => exact HC0_0.out); (case side3 => repeat (first | exact (Kd.Cb_ HR1_0.out HB.out) | exact HR1_0.out | (with_reducible refine Kd.Ca_ ?_ _) | (with_reducible refine Kd.Cn_ ?_ _) | (with_reducible refine Kd.Cw_ ?_))); (case side4 => exact HC1_0.out); rintro e w' ⟨rfl, ⟨nd, rfl⟩⟩; refine ⟨_, rfl, ?_⟩))
    go_meet
    case rel => exact ⟨_, (((l0_1.length : Int) != (l1_1.length : Int))), (by first | rfl | (simp; done) | (simp [*]; done)), H', ⟨by first | omega | exact Nat.le_refl _⟩, ⟨by (with_reducible repeat (first | refine Zn ?_ _ | refine Zw ?_ | refine Za ?_ _)); exact BK301.out⟩, ⟨by (with_reducible repeat (first | refine Zn ?_ _ | refine Zw ?_ | refine Za ?_ _)); exact BK302.out⟩, ⟨by repeat (first | (with_reducible first | exact HB.out | apply Ya | apply Yn | apply Yw | refine Ys ?_ GE301.out | refine Ys ?_ GE302.out) | exact HB.out)⟩⟩
   ·rw [if_neg c8] at H
    have c8b0 : (a0_2 == a1_2) = false := beq_eq_false_iff_ne.mpr c8
    have c8b1 : (a0_2 != a1_2) = true := bne_iff_ne.mpr c8
    (first | rw [c8b0] | (simp only [i64_w, i32_w]; rw [c8b0]) | skip)
    have H' := Az.mk H
    clear H
    have hnb12 := NB301_302.out
    have hnc12 := NB302_301.out
    have hcz13_0 : w5.cell? ⟨gb301, 0, none⟩ = some (.slice A0_0 l0_0.length c0_0) := (Zc BK301.out 0).trans rfl
    have hcz13_1 : w5.cell? ⟨gb301, 1, none⟩ = some (.slice A0_1 l0_1.length c0_1) := (Zc BK301.out 1).trans rfl
    have hcz13_2 : w5.cell? ⟨gb301, 2, none⟩ = some (.int .i64 a0_2) := (Zc BK301.out 2).trans rfl
    have hfz13_0 := Zf BK301.out 0
    have hfz13_1 := Zf BK301.out 1
    have hfz13_2 := Zf BK301.out 2
    have hcz14_0 : w5.cell? ⟨gb302, 0, none⟩ = some (.slice A1_0 l1_0.length c1_0) := (Zc BK302.out 0).trans rfl
    have hcz14_1 : w5.cell? ⟨gb302, 1, none⟩ = some (.slice A1_1 l1_1.length c1_1) := (Zc BK302.out 1).trans rfl
    have hcz14_2 : w5.cell? ⟨gb302, 2, none⟩ = some (.int .i64 a1_2) := (Zc BK302.out 2).trans rfl
    have hfz14_0 := Zf BK302.out 0
    have hfz14_1 := Zf BK302.out 1
    have hfz14_2 := Zf BK302.out 2
    go_wp2_with (first | ((with_reducible refine Yc (f := 17) rfl ?_); refine Yg (some 10) rfl rfl Try.func17 (by kernel_rfl) rfl #[.slice A0_0 l0_0.length c0_0, .slice A1_0 l1_0.length c1_0] rfl (by (try simp only [List.map_toArray, List.map_cons, List.map_nil]); first | done | rfl | (simp only [List.length_drop, List.length_take]; rfl)) ?_; (with_reducible refine (laws_lkMem.calls k _ _ l0_0 _ _ l1_0 true _ ?side1 ?side2 ?side3 ?side4 A6.out).mono ?_); (case side1 => repeat (first | exact (Kd.Cb_ HR0_0.out HB.out) | exact HR0_0.out | (with_reducible refine Kd.Ca_ ?_ _) | (with_reducible refine Kd.Cn_ ?_ _) | (with_reducible refine Kd.Cw_ ?_))); (case side2 => exact HC0_0.out); (case side3 => repeat (first | exact (Kd.Cb_ HR1_0.out HB.out) | exact HR1_0.out | (with_reducible refine Kd.Ca_ ?_ _) | (with_reducible refine Kd.Cn_ ?_ _) | (with_reducible refine Kd.Cw_ ?_))); (case side4 => exact HC1_0.out); rintro e w' ⟨rfl, ⟨nd, rfl⟩⟩; refine ⟨_, rfl, ?_⟩))
    go_meet
    case rel => exact ⟨_, (true), (by first | rfl | (simp; done) | (simp [*]; done)), H', ⟨by first | omega | exact Nat.le_refl _⟩, ⟨by (with_reducible repeat (first | refine Zn ?_ _ | refine Zw ?_ | refine Za ?_ _)); exact BK301.out⟩, ⟨by (with_reducible repeat (first | refine Zn ?_ _ | refine Zw ?_ | refine Za ?_ _)); exact BK302.out⟩, ⟨by repeat (first | (with_reducible first | exact HB.out | apply Ya | apply Yn | apply Yw | refine Ys ?_ GE301.out | refine Ys ?_ GE302.out) | exact HB.out)⟩⟩
  ·replace c7 := Bool.eq_false_iff.mpr c7
   subst c7
   have H1 : (laws_lkHost.j0 k true l0_0 l0_1 a0_2 l1_0 l1_1 a1_2) = some r := by rw [if_neg (show ¬ (false = true) by decide)] at H; exact H
   clear H
   have H := H1
   clear H1
   have H' := Az.mk H
   clear H
   have hnb15 := NB301_302.out
   have hnc15 := NB302_301.out
   have hcz16_0 : w5.cell? ⟨gb301, 0, none⟩ = some (.slice A0_0 l0_0.length c0_0) := (Zc BK301.out 0).trans rfl
   have hcz16_1 : w5.cell? ⟨gb301, 1, none⟩ = some (.slice A0_1 l0_1.length c0_1) := (Zc BK301.out 1).trans rfl
   have hcz16_2 : w5.cell? ⟨gb301, 2, none⟩ = some (.int .i64 a0_2) := (Zc BK301.out 2).trans rfl
   have hfz16_0 := Zf BK301.out 0
   have hfz16_1 := Zf BK301.out 1
   have hfz16_2 := Zf BK301.out 2
   have hcz17_0 : w5.cell? ⟨gb302, 0, none⟩ = some (.slice A1_0 l1_0.length c1_0) := (Zc BK302.out 0).trans rfl
   have hcz17_1 : w5.cell? ⟨gb302, 1, none⟩ = some (.slice A1_1 l1_1.length c1_1) := (Zc BK302.out 1).trans rfl
   have hcz17_2 : w5.cell? ⟨gb302, 2, none⟩ = some (.int .i64 a1_2) := (Zc BK302.out 2).trans rfl
   have hfz17_0 := Zf BK302.out 0
   have hfz17_1 := Zf BK302.out 1
   have hfz17_2 := Zf BK302.out 2
   go_wp2_with (first | ((with_reducible refine Yc (f := 17) rfl ?_); refine Yg (some 10) rfl rfl Try.func17 (by kernel_rfl) rfl #[.slice A0_0 l0_0.length c0_0, .slice A1_0 l1_0.length c1_0] rfl (by (try simp only [List.map_toArray, List.map_cons, List.map_nil]); first | done | rfl | (simp only [List.length_drop, List.length_take]; rfl)) ?_; (with_reducible refine (laws_lkMem.calls k _ _ l0_0 _ _ l1_0 false _ ?side1 ?side2 ?side3 ?side4 A6.out).mono ?_); (case side1 => repeat (first | exact (Kd.Cb_ HR0_0.out HB.out) | exact HR0_0.out | (with_reducible refine Kd.Ca_ ?_ _) | (with_reducible refine Kd.Cn_ ?_ _) | (with_reducible refine Kd.Cw_ ?_))); (case side2 => exact HC0_0.out); (case side3 => repeat (first | exact (Kd.Cb_ HR1_0.out HB.out) | exact HR1_0.out | (with_reducible refine Kd.Ca_ ?_ _) | (with_reducible refine Kd.Cn_ ?_ _) | (with_reducible refine Kd.Cw_ ?_))); (case side4 => exact HC1_0.out); rintro e w' ⟨rfl, ⟨nd, rfl⟩⟩; refine ⟨_, rfl, ?_⟩))
   go_meet
   case rel => exact ⟨_, (true), (by first | rfl | (simp; done) | (simp [*]; done)), H', ⟨by first | omega | exact Nat.le_refl _⟩, ⟨by (with_reducible repeat (first | refine Zn ?_ _ | refine Zw ?_ | refine Za ?_ _)); exact BK301.out⟩, ⟨by (with_reducible repeat (first | refine Zn ?_ _ | refine Zw ?_ | refine Za ?_ _)); exact BK302.out⟩, ⟨by repeat (first | (with_reducible first | exact HB.out | apply Ya | apply Yn | apply Yw | refine Ys ?_ GE301.out | refine Ys ?_ GE302.out) | exact HB.out)⟩⟩
 case rest =>
  clear HC3
  try clear c1
  try clear c2
  try clear p2
  try clear c7
  try clear c8
  try clear c8b0
  try clear c8b1
  try clear c9
  try clear c12
  try clear c15
  try clear c17
  try clear hcz10_0
  try clear hcz10_1
  try clear hcz10_2
  try clear hcz11_0
  try clear hcz11_1
  try clear hcz11_2
  try clear hcz13_0
  try clear hcz13_1
  try clear hcz13_2
  try clear hcz14_0
  try clear hcz14_1
  try clear hcz14_2
  try clear hcz16_0
  try clear hcz16_1
  try clear hcz16_2
  try clear hcz17_0
  try clear hcz17_1
  try clear hcz17_2
  try clear hfz10_0
  try clear hfz10_1
  try clear hfz10_2
  try clear hfz11_0
  try clear hfz11_1
  try clear hfz11_2
  try clear hfz13_0
  try clear hfz13_1
  try clear hfz13_2
  try clear hfz14_0
  try clear hfz14_1
  try clear hfz14_2
  try clear hfz16_0
  try clear hfz16_1
  try clear hfz16_2
  try clear hfz17_0
  try clear hfz17_1
  try clear hfz17_2
  obtain ⟨kq, x27_2, rfl, HA, HJ2, BK301, BK302, HB⟩ := hcut
  cases kq with
  | zero => exact absurd HA.out (by simp [laws_lkHost.j0])
  | succ kj2 =>
   have H := HA.out
   clear HA
   simp only [laws_lkHost.j0] at H
   by_cases c18 : x27_2 = true
   ·subst c18
    have H1 : (some false) = some r := by rw [if_pos rfl] at H; exact H
    clear H
    have H := H1
    clear H1
    obtain rfl := Option.some.inj H
    go_wp2
    go_ret
    exact ⟨by first | rfl | (simp [errW_none, errW_some] <;> rfl) | (simp [*, errW_none, errW_some] <;> rfl), by repeat (first | (with_reducible first | exact HB.out | apply Ya | apply Yn | apply Yw | refine Ys ?_ GE301.out | refine Ys ?_ GE302.out) | exact HB.out)⟩
   ·replace c18 := Bool.eq_false_iff.mpr c18
    subst c18
    have H1 : (laws_lkHost.l0 kj2 0 l0_0 l0_1 a0_2 l1_0 l1_1 a1_2) = some r := by rw [if_neg (show ¬ (false = true) by decide)] at H; exact H
    clear H
    have H := H1
    clear H1
    have H' := Az.mk H
    clear H
    go_wp2
    go_loopg [5] kj2 (fun kq v5 w' => ∃ (x5_2 : Int), v5 = .int .i64 x5_2 ∧ Az (laws_lkHost.l0 kq x5_2 l0_0 l0_1 a0_2 l1_0 l1_1 a1_2 = some r) ∧ Az (kq ≤ kj2) ∧ Az (w'.heap[gb301]? = some (.cells #[(.slice A0_0 l0_0.length c0_0), (.slice A0_1 l0_1.length c0_1), .int .i64 a0_2] 35 (0, 0))) ∧ Az (w'.heap[gb302]? = some (.cells #[(.slice A1_0 l1_0.length c1_0), (.slice A1_1 l1_1.length c1_1), .int .i64 a1_2] 35 (0, 0))) ∧ Az (Below w.heap.size w w'))
    case atStart => exact ⟨(0), (by first | rfl | (simp; done) | (simp [*]; done)), H', ⟨Nat.le_refl _⟩, ⟨by (with_reducible repeat (first | refine Zn ?_ _ | refine Zw ?_ | refine Za ?_ _)); exact BK301.out⟩, ⟨by (with_reducible repeat (first | refine Zn ?_ _ | refine Zw ?_ | refine Za ?_ _)); exact BK302.out⟩, ⟨by repeat (first | (with_reducible first | exact HB.out | apply Ya | apply Yn | apply Yw | refine Ys ?_ GE301.out | refine Ys ?_ GE302.out) | exact HB.out)⟩⟩
    case round =>
     clear H'
     try clear c1
     try clear c2
     try clear p2
     try clear c7
     try clear c8
     try clear c8b0
     try clear c8b1
     try clear c9
     try clear c12
     try clear c15
     try clear c17
     try clear c18
     try clear hcz10_0
     try clear hcz10_1
     try clear hcz10_2
     try clear hcz11_0
     try clear hcz11_1
     try clear hcz11_2
     try clear hcz13_0
     try clear hcz13_1
     try clear hcz13_2
     try clear hcz14_0
     try clear hcz14_1
     try clear hcz14_2
     try clear hcz16_0
     try clear hcz16_1
     try clear hcz16_2
     try clear hcz17_0
     try clear hcz17_1
     try clear hcz17_2
     try clear hfz10_0
     try clear hfz10_1
     try clear hfz10_2
     try clear hfz11_0
     try clear hfz11_1
     try clear hfz11_2
     try clear hfz13_0
     try clear hfz13_1
     try clear hfz13_2
     try clear hfz14_0
     try clear hfz14_1
     try clear hfz14_2
     try clear hfz16_0
     try clear hfz16_1
     try clear hfz16_2
     try clear hfz17_0
     try clear hfz17_1
     try clear hfz17_2
     try clear p2
     obtain ⟨x5_2, rfl, HA, HK2, BK301, BK302, HB⟩ := hrel
     cases gk with
     | zero => exact absurd HA.out (by simp [laws_lkHost.l0])
     | succ k2 =>
      have H := HA.out
      clear HA
      simp only [laws_lkHost.l0] at H
      by_cases c19 : x5_2 < (l0_1.length : Int)
      ·rw [if_pos c19] at H
       have c19b0 : decide (x5_2 < (l0_1.length : Int)) = true := decide_eq_true c19
       clear c19
       by_cases c20 : 0 ≤ x5_2
       ·rw [if_pos c20] at H
        have c20b0 : decide (0 ≤ x5_2) = true := decide_eq_true c20
        clear c20
        by_cases c21 : x5_2 < (l1_1.length : Int)
        ·rw [if_pos c21] at H
         have c21b0 : decide (x5_2 < (l1_1.length : Int)) = true := decide_eq_true c21
         clear c21
         replace H := Option.bind_eq_some_iff.mp H
         obtain ⟨t306, A220, H⟩ := H
         replace H : (if t306 = true then (laws_lkHost.l0 k2 (wrap64 (x5_2 + 1)) l0_0 l0_1 a0_2 l1_0 l1_1 a1_2) else (some false)) = some r := H
         have A22 := Az.mk A220
         clear A220
         by_cases c23 : t306 = true
         ·subst c23
          have H1 : (laws_lkHost.l0 k2 (wrap64 (x5_2 + 1)) l0_0 l0_1 a0_2 l1_0 l1_1 a1_2) = some r := by rw [if_pos rfl] at H; exact H
          clear H
          have H := H1
          clear H1
          have H' := Az.mk H
          clear H
          have hnb24 := NB301_302.out
          have hnc24 := NB302_301.out
          have hcz25_0 : wr.cell? ⟨gb301, 0, none⟩ = some (.slice A0_0 l0_0.length c0_0) := (Zc BK301.out 0).trans rfl
          have hcz25_1 : wr.cell? ⟨gb301, 1, none⟩ = some (.slice A0_1 l0_1.length c0_1) := (Zc BK301.out 1).trans rfl
          have hcz25_2 : wr.cell? ⟨gb301, 2, none⟩ = some (.int .i64 a0_2) := (Zc BK301.out 2).trans rfl
          have hfz25_0 := Zf BK301.out 0
          have hfz25_1 := Zf BK301.out 1
          have hfz25_2 := Zf BK301.out 2
          try go_wp2
          have n0_ := Az.mk (Zw BK301.out)
          have n1_ := Az.mk (Zw BK302.out)
          have n2_ := Az.mk (Yw HB.out)
          clear BK301
          clear BK302
          clear HB
          have BK301 := n0_
          have BK302 := n1_
          have HB := n2_
          clear n0_ n1_ n2_
          have p304 : 0 ≤ (x5_2 : Int) := of_decide_eq_true (by first | (with_reducible assumption) | assumption)
          have q304 : x5_2 < (l0_1.length : Int) := of_decide_eq_true (by first | (with_reducible assumption) | assumption)
          obtain ⟨ad304, A304_0, c304_0, A304_1, c304_1, A304_2, c304_2, e304, hx304_0, hx304_1, hx304_2, hl304_0, hi304_0, hl304_1, hi304_1, hl304_2, hi304_2⟩ := at_T74 HR0_1.out x5_2 p304 q304
          have hw304_2 := hx304_2
          have hw304_1 := hx304_1
          have hw304_0 := hx304_0
          cases e304
          replace hx304_0 := (HB.out.cell (World.block_lt_of_cell? w _ hx304_0)).trans hx304_0
          replace hx304_1 := (HB.out.cell (World.block_lt_of_cell? w _ hx304_1)).trans hx304_1
          replace hx304_2 := (HB.out.cell (World.block_lt_of_cell? w _ hx304_2)).trans hx304_2
          have HR304_0 := Az.mk hi304_0
          have HC304_0 := Az.mk hl304_0
          clear hi304_0 hl304_0
          have HR304_1 := Az.mk hi304_1
          have HC304_1 := Az.mk hl304_1
          clear hi304_1 hl304_1
          have HR304_2 := Az.mk hi304_2
          have HC304_2 := Az.mk hl304_2
          clear hi304_2 hl304_2
          replace p304 := eq_true p304
          replace q304 := eq_true q304
          have p305 : 0 ≤ (x5_2 : Int) := of_decide_eq_true (by first | (with_reducible assumption) | assumption)
          have q305 : x5_2 < (l1_1.length : Int) := of_decide_eq_true (by first | (with_reducible assumption) | assumption)
          obtain ⟨ad305, A305_0, c305_0, A305_1, c305_1, A305_2, c305_2, e305, hx305_0, hx305_1, hx305_2, hl305_0, hi305_0, hl305_1, hi305_1, hl305_2, hi305_2⟩ := at_T74 HR1_1.out x5_2 p305 q305
          have hw305_2 := hx305_2
          have hw305_1 := hx305_1
          have hw305_0 := hx305_0
          cases e305
          replace hx305_0 := (HB.out.cell (World.block_lt_of_cell? w _ hx305_0)).trans hx305_0
          replace hx305_1 := (HB.out.cell (World.block_lt_of_cell? w _ hx305_1)).trans hx305_1
          replace hx305_2 := (HB.out.cell (World.block_lt_of_cell? w _ hx305_2)).trans hx305_2
          have HR305_0 := Az.mk hi305_0
          have HC305_0 := Az.mk hl305_0
          clear hi305_0 hl305_0
          have HR305_1 := Az.mk hi305_1
          have HC305_1 := Az.mk hl305_1
          clear hi305_1 hl305_1
          have HR305_2 := Az.mk hi305_2
          have HC305_2 := Az.mk hl305_2
          clear hi305_2 hl305_2
          replace p305 := eq_true p305
          replace q305 := eq_true q305
          refine start_ (n := 12) (S := fun w' => w'.cell? ⟨gb301, 0, none⟩ = some (.slice A0_0 l0_0.length c0_0) ∧ w'.cell? ⟨gb301, 1, none⟩ = some (.slice (some ad304) l0_1.length c0_1) ∧ w'.cell? ⟨gb301, 2, none⟩ = some (.int .i64 a0_2) ∧ w'.cell? ⟨gb302, 0, none⟩ = some (.slice A1_0 l1_0.length c1_0) ∧ w'.cell? ⟨gb302, 1, none⟩ = some (.slice (some ad305) l1_1.length c1_1) ∧ w'.cell? ⟨gb302, 2, none⟩ = some (.int .i64 a1_2) ∧ w'.cell? (ad304.add ((x5_2).toNat * 3)) = some (.slice A304_0 ((rd_T74 l0_1 x5_2).f0).length c304_0) ∧ w'.cell? ⟨(ad304.add ((x5_2).toNat * 3)).block, (ad304.add ((x5_2).toNat * 3)).off + 1, none⟩ = some (.slice A304_1 ((rd_T74 l0_1 x5_2).f1).length c304_1) ∧ w'.cell? ⟨(ad304.add ((x5_2).toNat * 3)).block, (ad304.add ((x5_2).toNat * 3)).off + 2, none⟩ = some (.slice A304_2 ((rd_T74 l0_1 x5_2).f2).length c304_2) ∧ w'.cell? (ad305.add ((x5_2).toNat * 3)) = some (.slice A305_0 ((rd_T74 l1_1 x5_2).f0).length c305_0) ∧ w'.cell? ⟨(ad305.add ((x5_2).toNat * 3)).block, (ad305.add ((x5_2).toNat * 3)).off + 1, none⟩ = some (.slice A305_1 ((rd_T74 l1_1 x5_2).f1).length c305_1) ∧ w'.cell? ⟨(ad305.add ((x5_2).toNat * 3)).block, (ad305.add ((x5_2).toNat * 3)).off + 2, none⟩ = some (.slice A305_2 ((rd_T74 l1_1 x5_2).f2).length c305_2)) (ds := []) #[false, false, false, false, false, false, false, false, false, false, false, false] (by kernel_rfl) rfl rfl ⟨(Zc BK301.out 0).trans rfl, (Zc BK301.out 1).trans rfl, (Zc BK301.out 2).trans rfl, (Zc BK302.out 0).trans rfl, (Zc BK302.out 1).trans rfl, (Zc BK302.out 2).trans rfl, (by first | exact ((HB.out.cell (World.block_lt_of_cell? w _ hw304_0)).trans hw304_0) | exact hx304_0), (by first | exact ((HB.out.cell (World.block_lt_of_cell? w _ hw304_1)).trans hw304_1) | exact hx304_1), (by first | exact ((HB.out.cell (World.block_lt_of_cell? w _ hw304_2)).trans hw304_2) | exact hx304_2), (by first | exact ((HB.out.cell (World.block_lt_of_cell? w _ hw305_0)).trans hw305_0) | exact hx305_0), (by first | exact ((HB.out.cell (World.block_lt_of_cell? w _ hw305_1)).trans hw305_1) | exact hx305_1), (by first | exact ((HB.out.cell (World.block_lt_of_cell? w _ hw305_2)).trans hw305_2) | exact hx305_2)⟩ (fun hHeld => ?_); refine with_tabW laws_lkHost.tab6 laws_lkHost.bits6 (fun HT_ HW_ => ?_)
          generalize wr.drew = w26 at BK301 BK302 HB HR304_0 HR304_1 HR304_2 HR305_0 HR305_1 HR305_2 hx304_0 hx304_1 hx304_2 hx305_0 hx305_1 hx305_2 hHeld ⊢
          refine pure_ (i := 0) (N := some 35) (v := ?_) (a' := ?_) #[true, false, false, false, false, false, false, false, false, false, false, false] rfl rfl (any_of HT_.out (by kernel_rfl)) (fun _ _ _ h => h) (Or.inl ⟨by rfl, ?_⟩) ?_ ?_
          rotate_left
          ·intro w'
           go_simp
           with_reducible rfl
          rotate_left
          ·simp only [Act.put, List.setIfInBounds_toArray, List.set_cons_zero, List.set_cons_succ, i64_w, i32_w]
           rfl
          refine pure_ (i := 2) (N := some 37) (v := ?_) (a' := ?_) #[true, false, true, false, false, false, false, false, false, false, false, false] rfl rfl (any_of HT_.out (by kernel_rfl)) (fun _ _ _ h => h) (Or.inl ⟨by rfl, ?_⟩) ?_ ?_
          rotate_left
          ·intro w'
           go_simp
           with_reducible rfl
          rotate_left
          ·simp only [Act.put, List.setIfInBounds_toArray, List.set_cons_zero, List.set_cons_succ, i64_w, i32_w]
           rfl
          refine pure_ (i := 5) (N := some 40) (v := ?_) (a' := ?_) #[true, false, true, false, false, true, false, false, false, false, false, false] rfl rfl (any_of HT_.out (by kernel_rfl)) (fun _ _ _ h => h) (Or.inl ⟨by rfl, ?_⟩) ?_ ?_
          rotate_left
          ·intro w'
           go_simp
           with_reducible rfl
          rotate_left
          ·simp only [Act.put, List.setIfInBounds_toArray, List.set_cons_zero, List.set_cons_succ, i64_w, i32_w]
           rfl
          refine pure_ (i := 7) (N := some 42) (v := ?_) (a' := ?_) #[true, false, true, false, false, true, false, true, false, false, false, false] rfl rfl (any_of HT_.out (by kernel_rfl)) (fun _ _ _ h => h) (Or.inl ⟨by rfl, ?_⟩) ?_ ?_
          rotate_left
          ·intro w'
           go_simp
           with_reducible rfl
          rotate_left
          ·simp only [Act.put, List.setIfInBounds_toArray, List.set_cons_zero, List.set_cons_succ, i64_w, i32_w]
           rfl
          refine take_ (i := 1) (N := some 36) (v := ?_) (a' := ?_) #[true, true, true, false, false, true, false, true, false, false, false, false] rfl rfl (take_ofW HT_.out HW_.out (by kernel_rfl)) (fun _ _ _ h => h) (Or.inl ⟨by rfl, ?_⟩) hHeld ?_ ?_
          rotate_left
          ·rintro w' ⟨s0, s1, s2, s3, s4, s5, s6, s7, s8, s9, s10, s11⟩
           go_simp
           with_reducible rfl
          rotate_left
          ·simp only [Act.put, List.setIfInBounds_toArray, List.set_cons_zero, List.set_cons_succ, i64_w, i32_w]
           rfl
          refine pure_ (i := 3) (N := some 38) (v := ?_) (a' := ?_) #[true, true, true, true, false, true, false, true, false, false, false, false] rfl rfl (any_of HT_.out (by kernel_rfl)) (fun _ _ _ h => h) (Or.inl ⟨by rfl, ?_⟩) ?_ ?_
          rotate_left
          ·intro w'
           go_simp
           with_reducible rfl
          rotate_left
          ·simp only [Act.put, List.setIfInBounds_toArray, List.set_cons_zero, List.set_cons_succ, i64_w, i32_w]
           rfl
          refine take_ (i := 4) (N := some 39) (v := ?_) (a' := ?_) #[true, true, true, true, true, true, false, true, false, false, false, false] rfl rfl (take_ofW HT_.out HW_.out (by kernel_rfl)) (fun _ _ _ h => h) (Or.inl ⟨by rfl, ?_⟩) hHeld ?_ ?_
          rotate_left
          ·rintro w' ⟨s0, s1, s2, s3, s4, s5, s6, s7, s8, s9, s10, s11⟩
           go_simp
           with_reducible rfl
          rotate_left
          ·simp only [Act.put, List.setIfInBounds_toArray, List.set_cons_zero, List.set_cons_succ, i64_w, i32_w]
           rfl
          refine take_ (i := 6) (N := some 41) (v := ?_) (a' := ?_) #[true, true, true, true, true, true, true, true, false, false, false, false] rfl rfl (take_ofW HT_.out HW_.out (by kernel_rfl)) (fun _ _ _ h => h) (Or.inl ⟨by rfl, ?_⟩) hHeld ?_ ?_
          rotate_left
          ·rintro w' ⟨s0, s1, s2, s3, s4, s5, s6, s7, s8, s9, s10, s11⟩
           go_simp
           with_reducible rfl
          rotate_left
          ·simp only [Act.put, List.setIfInBounds_toArray, List.set_cons_zero, List.set_cons_succ, i64_w, i32_w]
           rfl
          refine pure_ (i := 8) (N := some 43) (v := ?_) (a' := ?_) #[true, true, true, true, true, true, true, true, true, false, false, false] rfl rfl (any_of HT_.out (by kernel_rfl)) (fun _ _ _ h => h) (Or.inl ⟨by rfl, ?_⟩) ?_ ?_
          rotate_left
          ·intro w'
           go_simp
           with_reducible rfl
          rotate_left
          ·simp only [Act.put, List.setIfInBounds_toArray, List.set_cons_zero, List.set_cons_succ, i64_w, i32_w]
           rfl
          refine take_ (i := 9) (N := some 44) (v := ?_) (a' := ?_) #[true, true, true, true, true, true, true, true, true, true, false, false] rfl rfl (take_ofW HT_.out HW_.out (by kernel_rfl)) (fun _ _ _ h => h) (Or.inl ⟨by rfl, ?_⟩) hHeld ?_ ?_
          rotate_left
          ·rintro w' ⟨s0, s1, s2, s3, s4, s5, s6, s7, s8, s9, s10, s11⟩
           go_simp
           with_reducible rfl
          rotate_left
          ·simp only [Act.put, List.setIfInBounds_toArray, List.set_cons_zero, List.set_cons_succ, i64_w, i32_w]
           rfl
          refine one_ (i := 10) (N := some 45) #[true, true, true, true, true, true, true, true, true, true, true, false] rfl rfl (one_of HT_.out (by kernel_rfl)) (by decide) (fun K hK => ?_)
          refine goes_ Try.func63 (by kernel_rfl) rfl #[.agg #[.slice A304_0 ((rd_T74 l0_1 x5_2).f0).length c304_0, .slice A304_1 ((rd_T74 l0_1 x5_2).f1).length c304_1, .slice A304_2 ((rd_T74 l0_1 x5_2).f2).length c304_2], .agg #[.slice A305_0 ((rd_T74 l1_1 x5_2).f0).length c305_0, .slice A305_1 ((rd_T74 l1_1 x5_2).f1).length c305_1, .slice A305_2 ((rd_T74 l1_1 x5_2).f2).length c305_2]] (by rfl) rfl rfl (by (try simp only [List.map_toArray, List.map_cons, List.map_nil]); first | done | rfl | (simp only [List.length_drop, List.length_take]; rfl)) ?_
          with_reducible refine (laws_lkGuest.calls k2 _ _ ((rd_T74 l0_1 x5_2).f0) _ _ ((rd_T74 l0_1 x5_2).f1) _ _ ((rd_T74 l0_1 x5_2).f2) _ _ ((rd_T74 l1_1 x5_2).f0) _ _ ((rd_T74 l1_1 x5_2).f1) _ _ ((rd_T74 l1_1 x5_2).f2) true _ ?side1 ?side2 ?side3 ?side4 ?side5 ?side6 ?side7 ?side8 ?side9 ?side10 ?side11 ?side12 A22.out).mono ?_
          (case side1 => repeat (first | exact (Kd.Cb_ HR304_0.out HB.out) | exact HR304_0.out | (with_reducible refine Kd.Ca_ ?_ _) | (with_reducible refine Kd.Cn_ ?_ _) | (with_reducible refine Kd.Cw_ ?_)))
          (case side2 => exact HC304_0.out)
          (case side3 => repeat (first | exact (Kd.Cb_ HR304_1.out HB.out) | exact HR304_1.out | (with_reducible refine Kd.Ca_ ?_ _) | (with_reducible refine Kd.Cn_ ?_ _) | (with_reducible refine Kd.Cw_ ?_)))
          (case side4 => exact HC304_1.out)
          (case side5 => repeat (first | exact (Kd.Cb_ HR304_2.out HB.out) | exact HR304_2.out | (with_reducible refine Kd.Ca_ ?_ _) | (with_reducible refine Kd.Cn_ ?_ _) | (with_reducible refine Kd.Cw_ ?_)))
          (case side6 => exact HC304_2.out)
          (case side7 => repeat (first | exact (Kd.Cb_ HR305_0.out HB.out) | exact HR305_0.out | (with_reducible refine Kd.Ca_ ?_ _) | (with_reducible refine Kd.Cn_ ?_ _) | (with_reducible refine Kd.Cw_ ?_)))
          (case side8 => exact HC305_0.out)
          (case side9 => repeat (first | exact (Kd.Cb_ HR305_1.out HB.out) | exact HR305_1.out | (with_reducible refine Kd.Ca_ ?_ _) | (with_reducible refine Kd.Cn_ ?_ _) | (with_reducible refine Kd.Cw_ ?_)))
          (case side10 => exact HC305_1.out)
          (case side11 => repeat (first | exact (Kd.Cb_ HR305_2.out HB.out) | exact HR305_2.out | (with_reducible refine Kd.Ca_ ?_ _) | (with_reducible refine Kd.Cn_ ?_ _) | (with_reducible refine Kd.Cw_ ?_)))
          (case side12 => exact HC305_2.out)
          rintro e w27 ⟨rfl, hb⟩
          refine ⟨_, rfl, ?_⟩
          have n0_ := Az.mk (Zb (g := gb301) (o := .cells #[.slice A0_0 l0_0.length c0_0, .slice (some ad304) l0_1.length c0_1, .int .i64 a0_2] 35 (0, 0)) (by (with_reducible repeat (first | refine Zn ?_ _ | refine Zw ?_ | refine Za ?_ _)); exact BK301.out) hb)
          have n1_ := Az.mk (Zb (g := gb302) (o := .cells #[.slice A1_0 l1_0.length c1_0, .slice (some ad305) l1_1.length c1_1, .int .i64 a1_2] 35 (0, 0)) (by (with_reducible repeat (first | refine Zn ?_ _ | refine Zw ?_ | refine Za ?_ _)); exact BK302.out) hb)
          have n2_ := Az.mk (Yt (by repeat (first | (with_reducible first | exact HB.out | apply Ya | apply Yn | apply Yw | refine Ys ?_ GE301.out | refine Ys ?_ GE302.out) | exact HB.out)) hb)
          clear BK301
          clear BK302
          clear HB
          have BK301 := n0_
          have BK302 := n1_
          have HB := n2_
          clear n0_ n1_ n2_
          (try clear hb)
          (try clear hb2)
          (try clear hk)
          (try clear hi)
          refine hK.out _ _ ⟨(Zc BK301.out 0).trans rfl, (Zc BK301.out 1).trans rfl, (Zc BK301.out 2).trans rfl, (Zc BK302.out 0).trans rfl, (Zc BK302.out 1).trans rfl, (Zc BK302.out 2).trans rfl, (by first | exact ((HB.out.cell (World.block_lt_of_cell? w _ hw304_0)).trans hw304_0) | exact hx304_0), (by first | exact ((HB.out.cell (World.block_lt_of_cell? w _ hw304_1)).trans hw304_1) | exact hx304_1), (by first | exact ((HB.out.cell (World.block_lt_of_cell? w _ hw304_2)).trans hw304_2) | exact hx304_2), (by first | exact ((HB.out.cell (World.block_lt_of_cell? w _ hw305_0)).trans hw305_0) | exact hx305_0), (by first | exact ((HB.out.cell (World.block_lt_of_cell? w _ hw305_1)).trans hw305_1) | exact hx305_1), (by first | exact ((HB.out.cell (World.block_lt_of_cell? w _ hw305_2)).trans hw305_2) | exact hx305_2)⟩ (fun hHeld => ?_)
          clear hK K
          refine norm_ (a' := ?_) ?_ ?_
          rotate_left
          ·show Act.put _ (some 45) _ = _
           simp only [Act.put, List.setIfInBounds_toArray, List.set_cons_zero, List.set_cons_succ, i64_w, i32_w]
           rfl
          refine pure_ (i := 11) (N := some 46) (v := ?_) (a' := ?_) #[true, true, true, true, true, true, true, true, true, true, true, true] rfl rfl (any_of HT_.out (by kernel_rfl)) (fun _ _ _ h => h) (Or.inl ⟨by rfl, ?_⟩) ?_ ?_
          rotate_left
          ·intro w'
           go_simp
           with_reducible rfl
          rotate_left
          ·simp only [Act.put, List.setIfInBounds_toArray, List.set_cons_zero, List.set_cons_succ, i64_w, i32_w]
           rfl
          refine done_ (done_of HT_.out (by kernel_rfl)) ?_
          try go_wp2
          go_roundg k2
          case measure => have := HJ2.out; have := HK2.out; omega
          case rel => exact ⟨(wrap64 (x5_2 + 1)), (by first | rfl | (simp; done) | (simp [*]; done)), H', ⟨by have := HJ2.out; have := HK2.out; omega⟩, ⟨by (with_reducible repeat (first | refine Zn ?_ _ | refine Zw ?_ | refine Za ?_ _)); exact BK301.out⟩, ⟨by (with_reducible repeat (first | refine Zn ?_ _ | refine Zw ?_ | refine Za ?_ _)); exact BK302.out⟩, ⟨by repeat (first | (with_reducible first | exact HB.out | apply Ya | apply Yn | apply Yw | refine Ys ?_ GE301.out | refine Ys ?_ GE302.out) | exact HB.out)⟩⟩
         ·replace c23 := Bool.eq_false_iff.mpr c23
          subst c23
          have H1 : (some false) = some r := by rw [if_neg (show ¬ (false = true) by decide)] at H; exact H
          clear H
          have H := H1
          clear H1
          obtain rfl := Option.some.inj H
          have hnb28 := NB301_302.out
          have hnc28 := NB302_301.out
          have hcz29_0 : wr.cell? ⟨gb301, 0, none⟩ = some (.slice A0_0 l0_0.length c0_0) := (Zc BK301.out 0).trans rfl
          have hcz29_1 : wr.cell? ⟨gb301, 1, none⟩ = some (.slice A0_1 l0_1.length c0_1) := (Zc BK301.out 1).trans rfl
          have hcz29_2 : wr.cell? ⟨gb301, 2, none⟩ = some (.int .i64 a0_2) := (Zc BK301.out 2).trans rfl
          have hfz29_0 := Zf BK301.out 0
          have hfz29_1 := Zf BK301.out 1
          have hfz29_2 := Zf BK301.out 2
          try go_wp2
          have n0_ := Az.mk (Zw BK301.out)
          have n1_ := Az.mk (Zw BK302.out)
          have n2_ := Az.mk (Yw HB.out)
          clear BK301
          clear BK302
          clear HB
          have BK301 := n0_
          have BK302 := n1_
          have HB := n2_
          clear n0_ n1_ n2_
          have p304 : 0 ≤ (x5_2 : Int) := of_decide_eq_true (by first | (with_reducible assumption) | assumption)
          have q304 : x5_2 < (l0_1.length : Int) := of_decide_eq_true (by first | (with_reducible assumption) | assumption)
          obtain ⟨ad304, A304_0, c304_0, A304_1, c304_1, A304_2, c304_2, e304, hx304_0, hx304_1, hx304_2, hl304_0, hi304_0, hl304_1, hi304_1, hl304_2, hi304_2⟩ := at_T74 HR0_1.out x5_2 p304 q304
          have hw304_2 := hx304_2
          have hw304_1 := hx304_1
          have hw304_0 := hx304_0
          cases e304
          replace hx304_0 := (HB.out.cell (World.block_lt_of_cell? w _ hx304_0)).trans hx304_0
          replace hx304_1 := (HB.out.cell (World.block_lt_of_cell? w _ hx304_1)).trans hx304_1
          replace hx304_2 := (HB.out.cell (World.block_lt_of_cell? w _ hx304_2)).trans hx304_2
          have HR304_0 := Az.mk hi304_0
          have HC304_0 := Az.mk hl304_0
          clear hi304_0 hl304_0
          have HR304_1 := Az.mk hi304_1
          have HC304_1 := Az.mk hl304_1
          clear hi304_1 hl304_1
          have HR304_2 := Az.mk hi304_2
          have HC304_2 := Az.mk hl304_2
          clear hi304_2 hl304_2
          replace p304 := eq_true p304
          replace q304 := eq_true q304
          have p305 : 0 ≤ (x5_2 : Int) := of_decide_eq_true (by first | (with_reducible assumption) | assumption)
          have q305 : x5_2 < (l1_1.length : Int) := of_decide_eq_true (by first | (with_reducible assumption) | assumption)
          obtain ⟨ad305, A305_0, c305_0, A305_1, c305_1, A305_2, c305_2, e305, hx305_0, hx305_1, hx305_2, hl305_0, hi305_0, hl305_1, hi305_1, hl305_2, hi305_2⟩ := at_T74 HR1_1.out x5_2 p305 q305
          have hw305_2 := hx305_2
          have hw305_1 := hx305_1
          have hw305_0 := hx305_0
          cases e305
          replace hx305_0 := (HB.out.cell (World.block_lt_of_cell? w _ hx305_0)).trans hx305_0
          replace hx305_1 := (HB.out.cell (World.block_lt_of_cell? w _ hx305_1)).trans hx305_1
          replace hx305_2 := (HB.out.cell (World.block_lt_of_cell? w _ hx305_2)).trans hx305_2
          have HR305_0 := Az.mk hi305_0
          have HC305_0 := Az.mk hl305_0
          clear hi305_0 hl305_0
          have HR305_1 := Az.mk hi305_1
          have HC305_1 := Az.mk hl305_1
          clear hi305_1 hl305_1
          have HR305_2 := Az.mk hi305_2
          have HC305_2 := Az.mk hl305_2
          clear hi305_2 hl305_2
          replace p305 := eq_true p305
          replace q305 := eq_true q305
          refine start_ (n := 12) (S := fun w' => w'.cell? ⟨gb301, 0, none⟩ = some (.slice A0_0 l0_0.length c0_0) ∧ w'.cell? ⟨gb301, 1, none⟩ = some (.slice (some ad304) l0_1.length c0_1) ∧ w'.cell? ⟨gb301, 2, none⟩ = some (.int .i64 a0_2) ∧ w'.cell? ⟨gb302, 0, none⟩ = some (.slice A1_0 l1_0.length c1_0) ∧ w'.cell? ⟨gb302, 1, none⟩ = some (.slice (some ad305) l1_1.length c1_1) ∧ w'.cell? ⟨gb302, 2, none⟩ = some (.int .i64 a1_2) ∧ w'.cell? (ad304.add ((x5_2).toNat * 3)) = some (.slice A304_0 ((rd_T74 l0_1 x5_2).f0).length c304_0) ∧ w'.cell? ⟨(ad304.add ((x5_2).toNat * 3)).block, (ad304.add ((x5_2).toNat * 3)).off + 1, none⟩ = some (.slice A304_1 ((rd_T74 l0_1 x5_2).f1).length c304_1) ∧ w'.cell? ⟨(ad304.add ((x5_2).toNat * 3)).block, (ad304.add ((x5_2).toNat * 3)).off + 2, none⟩ = some (.slice A304_2 ((rd_T74 l0_1 x5_2).f2).length c304_2) ∧ w'.cell? (ad305.add ((x5_2).toNat * 3)) = some (.slice A305_0 ((rd_T74 l1_1 x5_2).f0).length c305_0) ∧ w'.cell? ⟨(ad305.add ((x5_2).toNat * 3)).block, (ad305.add ((x5_2).toNat * 3)).off + 1, none⟩ = some (.slice A305_1 ((rd_T74 l1_1 x5_2).f1).length c305_1) ∧ w'.cell? ⟨(ad305.add ((x5_2).toNat * 3)).block, (ad305.add ((x5_2).toNat * 3)).off + 2, none⟩ = some (.slice A305_2 ((rd_T74 l1_1 x5_2).f2).length c305_2)) (ds := []) #[false, false, false, false, false, false, false, false, false, false, false, false] (by kernel_rfl) rfl rfl ⟨(Zc BK301.out 0).trans rfl, (Zc BK301.out 1).trans rfl, (Zc BK301.out 2).trans rfl, (Zc BK302.out 0).trans rfl, (Zc BK302.out 1).trans rfl, (Zc BK302.out 2).trans rfl, (by first | exact ((HB.out.cell (World.block_lt_of_cell? w _ hw304_0)).trans hw304_0) | exact hx304_0), (by first | exact ((HB.out.cell (World.block_lt_of_cell? w _ hw304_1)).trans hw304_1) | exact hx304_1), (by first | exact ((HB.out.cell (World.block_lt_of_cell? w _ hw304_2)).trans hw304_2) | exact hx304_2), (by first | exact ((HB.out.cell (World.block_lt_of_cell? w _ hw305_0)).trans hw305_0) | exact hx305_0), (by first | exact ((HB.out.cell (World.block_lt_of_cell? w _ hw305_1)).trans hw305_1) | exact hx305_1), (by first | exact ((HB.out.cell (World.block_lt_of_cell? w _ hw305_2)).trans hw305_2) | exact hx305_2)⟩ (fun hHeld => ?_); refine with_tabW laws_lkHost.tab6 laws_lkHost.bits6 (fun HT_ HW_ => ?_)
          generalize wr.drew = w30 at BK301 BK302 HB HR304_0 HR304_1 HR304_2 HR305_0 HR305_1 HR305_2 hx304_0 hx304_1 hx304_2 hx305_0 hx305_1 hx305_2 hHeld ⊢
          refine pure_ (i := 0) (N := some 35) (v := ?_) (a' := ?_) #[true, false, false, false, false, false, false, false, false, false, false, false] rfl rfl (any_of HT_.out (by kernel_rfl)) (fun _ _ _ h => h) (Or.inl ⟨by rfl, ?_⟩) ?_ ?_
          rotate_left
          ·intro w'
           go_simp
           with_reducible rfl
          rotate_left
          ·simp only [Act.put, List.setIfInBounds_toArray, List.set_cons_zero, List.set_cons_succ, i64_w, i32_w]
           rfl
          refine pure_ (i := 2) (N := some 37) (v := ?_) (a' := ?_) #[true, false, true, false, false, false, false, false, false, false, false, false] rfl rfl (any_of HT_.out (by kernel_rfl)) (fun _ _ _ h => h) (Or.inl ⟨by rfl, ?_⟩) ?_ ?_
          rotate_left
          ·intro w'
           go_simp
           with_reducible rfl
          rotate_left
          ·simp only [Act.put, List.setIfInBounds_toArray, List.set_cons_zero, List.set_cons_succ, i64_w, i32_w]
           rfl
          refine pure_ (i := 5) (N := some 40) (v := ?_) (a' := ?_) #[true, false, true, false, false, true, false, false, false, false, false, false] rfl rfl (any_of HT_.out (by kernel_rfl)) (fun _ _ _ h => h) (Or.inl ⟨by rfl, ?_⟩) ?_ ?_
          rotate_left
          ·intro w'
           go_simp
           with_reducible rfl
          rotate_left
          ·simp only [Act.put, List.setIfInBounds_toArray, List.set_cons_zero, List.set_cons_succ, i64_w, i32_w]
           rfl
          refine pure_ (i := 7) (N := some 42) (v := ?_) (a' := ?_) #[true, false, true, false, false, true, false, true, false, false, false, false] rfl rfl (any_of HT_.out (by kernel_rfl)) (fun _ _ _ h => h) (Or.inl ⟨by rfl, ?_⟩) ?_ ?_
          rotate_left
          ·intro w'
           go_simp
           with_reducible rfl
          rotate_left
          ·simp only [Act.put, List.setIfInBounds_toArray, List.set_cons_zero, List.set_cons_succ, i64_w, i32_w]
           rfl
          refine take_ (i := 1) (N := some 36) (v := ?_) (a' := ?_) #[true, true, true, false, false, true, false, true, false, false, false, false] rfl rfl (take_ofW HT_.out HW_.out (by kernel_rfl)) (fun _ _ _ h => h) (Or.inl ⟨by rfl, ?_⟩) hHeld ?_ ?_
          rotate_left
          ·rintro w' ⟨s0, s1, s2, s3, s4, s5, s6, s7, s8, s9, s10, s11⟩
           go_simp
           with_reducible rfl
          rotate_left
          ·simp only [Act.put, List.setIfInBounds_toArray, List.set_cons_zero, List.set_cons_succ, i64_w, i32_w]
           rfl
          refine pure_ (i := 3) (N := some 38) (v := ?_) (a' := ?_) #[true, true, true, true, false, true, false, true, false, false, false, false] rfl rfl (any_of HT_.out (by kernel_rfl)) (fun _ _ _ h => h) (Or.inl ⟨by rfl, ?_⟩) ?_ ?_
          rotate_left
          ·intro w'
           go_simp
           with_reducible rfl
          rotate_left
          ·simp only [Act.put, List.setIfInBounds_toArray, List.set_cons_zero, List.set_cons_succ, i64_w, i32_w]
           rfl
          refine take_ (i := 4) (N := some 39) (v := ?_) (a' := ?_) #[true, true, true, true, true, true, false, true, false, false, false, false] rfl rfl (take_ofW HT_.out HW_.out (by kernel_rfl)) (fun _ _ _ h => h) (Or.inl ⟨by rfl, ?_⟩) hHeld ?_ ?_
          rotate_left
          ·rintro w' ⟨s0, s1, s2, s3, s4, s5, s6, s7, s8, s9, s10, s11⟩
           go_simp
           with_reducible rfl
          rotate_left
          ·simp only [Act.put, List.setIfInBounds_toArray, List.set_cons_zero, List.set_cons_succ, i64_w, i32_w]
           rfl
          refine take_ (i := 6) (N := some 41) (v := ?_) (a' := ?_) #[true, true, true, true, true, true, true, true, false, false, false, false] rfl rfl (take_ofW HT_.out HW_.out (by kernel_rfl)) (fun _ _ _ h => h) (Or.inl ⟨by rfl, ?_⟩) hHeld ?_ ?_
          rotate_left
          ·rintro w' ⟨s0, s1, s2, s3, s4, s5, s6, s7, s8, s9, s10, s11⟩
           go_simp
           with_reducible rfl
          rotate_left
          ·simp only [Act.put, List.setIfInBounds_toArray, List.set_cons_zero, List.set_cons_succ, i64_w, i32_w]
           rfl
          refine pure_ (i := 8) (N := some 43) (v := ?_) (a' := ?_) #[true, true, true, true, true, true, true, true, true, false, false, false] rfl rfl (any_of HT_.out (by kernel_rfl)) (fun _ _ _ h => h) (Or.inl ⟨by rfl, ?_⟩) ?_ ?_
          rotate_left
          ·intro w'
           go_simp
           with_reducible rfl
          rotate_left
          ·simp only [Act.put, List.setIfInBounds_toArray, List.set_cons_zero, List.set_cons_succ, i64_w, i32_w]
           rfl
          refine take_ (i := 9) (N := some 44) (v := ?_) (a' := ?_) #[true, true, true, true, true, true, true, true, true, true, false, false] rfl rfl (take_ofW HT_.out HW_.out (by kernel_rfl)) (fun _ _ _ h => h) (Or.inl ⟨by rfl, ?_⟩) hHeld ?_ ?_
          rotate_left
          ·rintro w' ⟨s0, s1, s2, s3, s4, s5, s6, s7, s8, s9, s10, s11⟩
           go_simp
           with_reducible rfl
          rotate_left
          ·simp only [Act.put, List.setIfInBounds_toArray, List.set_cons_zero, List.set_cons_succ, i64_w, i32_w]
           rfl
          refine one_ (i := 10) (N := some 45) #[true, true, true, true, true, true, true, true, true, true, true, false] rfl rfl (one_of HT_.out (by kernel_rfl)) (by decide) (fun K hK => ?_)
          refine goes_ Try.func63 (by kernel_rfl) rfl #[.agg #[.slice A304_0 ((rd_T74 l0_1 x5_2).f0).length c304_0, .slice A304_1 ((rd_T74 l0_1 x5_2).f1).length c304_1, .slice A304_2 ((rd_T74 l0_1 x5_2).f2).length c304_2], .agg #[.slice A305_0 ((rd_T74 l1_1 x5_2).f0).length c305_0, .slice A305_1 ((rd_T74 l1_1 x5_2).f1).length c305_1, .slice A305_2 ((rd_T74 l1_1 x5_2).f2).length c305_2]] (by rfl) rfl rfl (by (try simp only [List.map_toArray, List.map_cons, List.map_nil]); first | done | rfl | (simp only [List.length_drop, List.length_take]; rfl)) ?_
          with_reducible refine (laws_lkGuest.calls k2 _ _ ((rd_T74 l0_1 x5_2).f0) _ _ ((rd_T74 l0_1 x5_2).f1) _ _ ((rd_T74 l0_1 x5_2).f2) _ _ ((rd_T74 l1_1 x5_2).f0) _ _ ((rd_T74 l1_1 x5_2).f1) _ _ ((rd_T74 l1_1 x5_2).f2) false _ ?side1 ?side2 ?side3 ?side4 ?side5 ?side6 ?side7 ?side8 ?side9 ?side10 ?side11 ?side12 A22.out).mono ?_
          (case side1 => repeat (first | exact (Kd.Cb_ HR304_0.out HB.out) | exact HR304_0.out | (with_reducible refine Kd.Ca_ ?_ _) | (with_reducible refine Kd.Cn_ ?_ _) | (with_reducible refine Kd.Cw_ ?_)))
          (case side2 => exact HC304_0.out)
          (case side3 => repeat (first | exact (Kd.Cb_ HR304_1.out HB.out) | exact HR304_1.out | (with_reducible refine Kd.Ca_ ?_ _) | (with_reducible refine Kd.Cn_ ?_ _) | (with_reducible refine Kd.Cw_ ?_)))
          (case side4 => exact HC304_1.out)
          (case side5 => repeat (first | exact (Kd.Cb_ HR304_2.out HB.out) | exact HR304_2.out | (with_reducible refine Kd.Ca_ ?_ _) | (with_reducible refine Kd.Cn_ ?_ _) | (with_reducible refine Kd.Cw_ ?_)))
          (case side6 => exact HC304_2.out)
          (case side7 => repeat (first | exact (Kd.Cb_ HR305_0.out HB.out) | exact HR305_0.out | (with_reducible refine Kd.Ca_ ?_ _) | (with_reducible refine Kd.Cn_ ?_ _) | (with_reducible refine Kd.Cw_ ?_)))
          (case side8 => exact HC305_0.out)
          (case side9 => repeat (first | exact (Kd.Cb_ HR305_1.out HB.out) | exact HR305_1.out | (with_reducible refine Kd.Ca_ ?_ _) | (with_reducible refine Kd.Cn_ ?_ _) | (with_reducible refine Kd.Cw_ ?_)))
          (case side10 => exact HC305_1.out)
          (case side11 => repeat (first | exact (Kd.Cb_ HR305_2.out HB.out) | exact HR305_2.out | (with_reducible refine Kd.Ca_ ?_ _) | (with_reducible refine Kd.Cn_ ?_ _) | (with_reducible refine Kd.Cw_ ?_)))
          (case side12 => exact HC305_2.out)
          rintro e w31 ⟨rfl, hb⟩
          refine ⟨_, rfl, ?_⟩
          have n0_ := Az.mk (Zb (g := gb301) (o := .cells #[.slice A0_0 l0_0.length c0_0, .slice (some ad304) l0_1.length c0_1, .int .i64 a0_2] 35 (0, 0)) (by (with_reducible repeat (first | refine Zn ?_ _ | refine Zw ?_ | refine Za ?_ _)); exact BK301.out) hb)
          have n1_ := Az.mk (Zb (g := gb302) (o := .cells #[.slice A1_0 l1_0.length c1_0, .slice (some ad305) l1_1.length c1_1, .int .i64 a1_2] 35 (0, 0)) (by (with_reducible repeat (first | refine Zn ?_ _ | refine Zw ?_ | refine Za ?_ _)); exact BK302.out) hb)
          have n2_ := Az.mk (Yt (by repeat (first | (with_reducible first | exact HB.out | apply Ya | apply Yn | apply Yw | refine Ys ?_ GE301.out | refine Ys ?_ GE302.out) | exact HB.out)) hb)
          clear BK301
          clear BK302
          clear HB
          have BK301 := n0_
          have BK302 := n1_
          have HB := n2_
          clear n0_ n1_ n2_
          (try clear hb)
          (try clear hb2)
          (try clear hk)
          (try clear hi)
          refine hK.out _ _ ⟨(Zc BK301.out 0).trans rfl, (Zc BK301.out 1).trans rfl, (Zc BK301.out 2).trans rfl, (Zc BK302.out 0).trans rfl, (Zc BK302.out 1).trans rfl, (Zc BK302.out 2).trans rfl, (by first | exact ((HB.out.cell (World.block_lt_of_cell? w _ hw304_0)).trans hw304_0) | exact hx304_0), (by first | exact ((HB.out.cell (World.block_lt_of_cell? w _ hw304_1)).trans hw304_1) | exact hx304_1), (by first | exact ((HB.out.cell (World.block_lt_of_cell? w _ hw304_2)).trans hw304_2) | exact hx304_2), (by first | exact ((HB.out.cell (World.block_lt_of_cell? w _ hw305_0)).trans hw305_0) | exact hx305_0), (by first | exact ((HB.out.cell (World.block_lt_of_cell? w _ hw305_1)).trans hw305_1) | exact hx305_1), (by first | exact ((HB.out.cell (World.block_lt_of_cell? w _ hw305_2)).trans hw305_2) | exact hx305_2)⟩ (fun hHeld => ?_)
          clear hK K
          refine norm_ (a' := ?_) ?_ ?_
          rotate_left
          ·show Act.put _ (some 45) _ = _
           simp only [Act.put, List.setIfInBounds_toArray, List.set_cons_zero, List.set_cons_succ, i64_w, i32_w]
           rfl
          refine pure_ (i := 11) (N := some 46) (v := ?_) (a' := ?_) #[true, true, true, true, true, true, true, true, true, true, true, true] rfl rfl (any_of HT_.out (by kernel_rfl)) (fun _ _ _ h => h) (Or.inl ⟨by rfl, ?_⟩) ?_ ?_
          rotate_left
          ·intro w'
           go_simp
           with_reducible rfl
          rotate_left
          ·simp only [Act.put, List.setIfInBounds_toArray, List.set_cons_zero, List.set_cons_succ, i64_w, i32_w]
           rfl
          refine done_ (done_of HT_.out (by kernel_rfl)) ?_
          try go_wp2
          go_ret
          exact ⟨by first | rfl | (simp [errW_none, errW_some] <;> rfl) | (simp [*, errW_none, errW_some] <;> rfl), by repeat (first | (with_reducible first | exact HB.out | apply Ya | apply Yn | apply Yw | refine Ys ?_ GE301.out | refine Ys ?_ GE302.out) | exact HB.out)⟩
        ·rw [if_neg c21] at H
         exact absurd H (by simp)
       ·rw [if_neg c20] at H
        exact absurd H (by simp)
      ·rw [if_neg c19] at H
       have c19b0 : decide (x5_2 < (l0_1.length : Int)) = false := decide_eq_false c19
       clear c19
       obtain rfl := Option.some.inj H
       have hnb32 := NB301_302.out
       have hnc32 := NB302_301.out
       have hcz33_0 : wr.cell? ⟨gb301, 0, none⟩ = some (.slice A0_0 l0_0.length c0_0) := (Zc BK301.out 0).trans rfl
       have hcz33_1 : wr.cell? ⟨gb301, 1, none⟩ = some (.slice A0_1 l0_1.length c0_1) := (Zc BK301.out 1).trans rfl
       have hcz33_2 : wr.cell? ⟨gb301, 2, none⟩ = some (.int .i64 a0_2) := (Zc BK301.out 2).trans rfl
       have hfz33_0 := Zf BK301.out 0
       have hfz33_1 := Zf BK301.out 1
       have hfz33_2 := Zf BK301.out 2
       go_wp2
       go_ret
       exact ⟨by first | rfl | (simp [errW_none, errW_some] <;> rfl) | (simp [*, errW_none, errW_some] <;> rfl), by repeat (first | (with_reducible first | exact HB.out | apply Ya | apply Yn | apply Yw | refine Ys ?_ GE301.out | refine Ys ?_ GE302.out) | exact HB.out)⟩

end Go.Proofs.Ytfamknibfokfmaa.QFnLoadBad
