/- Walks of this claim: each Go function that the law reaches comes to what the Lean function beside it says. Conditions: none beyond those that each theorem names. -/
import Derived.Test.YtfamknibfokfmaaVFnLoadBadx0
import Derived.Test.YtfamknibfokfmaaVFnLoadBadx3
import Derived.Test.YtfamknibfokfmaaVFnLoadBadx6
import Derived.Test.YtfamknibfokfmaaVFnLoadBadx7
namespace Go.Proofs.Ytfamknibfokfmaa.QFnLoadBad
open Go.RowKit Go.Proofs.YtfamknibfokfmaaW.PrintWords Go.Proofs.YtfamknibfokfmaaW.PrintLast Go.Proofs.YtfamknibfokfmaaW.PrintMore
attribute [local go_sem] max2_int min2_int max_two min_two max_three min_three max_four min_four   -- for this text's walks alone
set_option linter.unusedVariables false
set_option linter.unusedSimpArgs false

/-! ### spec_HostLoad: function 19 -/
mutual
def spec_HostLoad.j0 : Nat → List (List Int) → Int → Bool → Option ((List (List Int)) × (List (S74)) × Int × Bool)
 | 0, _, _, _ => none
 | k + 1, x0, x4, x23 => if x23 = true then (some (([] : List (List Int)), ([] : List (S74)), 0, false)) else ((spec_l12New.f k).bind fun bt216 => (spec_HostLoad.l0 k x0 x4 0 bt216.1 bt216.2.1 bt216.2.2))
def spec_HostLoad.l0 : Nat → List (List Int) → Int → Int → List (List Int) → List (S74) → Int → Option ((List (List Int)) × (List (S74)) × Int × Bool)
 | 0, _, _, _, _, _, _ => none
 | k + 1, x0, x4, x6, x224000, x224001, x224002 => if x6 < x4 then (if 0 ≤ (wrap64 (x6 * 6)) then (if (wrap64 (x6 * 6)) ≤ (wrap64 ((wrap64 (x6 + 1)) * 6)) then (if (wrap64 ((wrap64 (x6 + 1)) * 6)) ≤ (x0.length : Int) then ((spec_l12Guest.f k ((x0.take ((wrap64 ((wrap64 (x6 + 1)) * 6)) : Int).toNat).drop ((wrap64 (x6 * 6)) : Int).toNat)).bind fun bt228 => (if x224001.length < 1954687338268 then (spec_HostLoad.l0 k x0 x4 (wrap64 (x6 + 1)) x224000 (x224001 ++ [(⟨bt228.1, bt228.2.1, bt228.2.2⟩ : S74)]) x224002) else (none))) else (none)) else (none)) else (none)) else (some (x224000, x224001, x224002, true))
end
def spec_HostLoad.f (k : Nat) (l0 : List (List Int)) : Option ((List (List Int)) × (List (S74)) × Int × Bool) := (spec_MemOk.f k l0).bind fun t214 => (if t214 = true then (if ((l0.length : Int) % 6) = 0 then ((spec_l6In.f (wrap64 ((l0.length : Int) / 6)) 1 2).bind fun t215 => (spec_HostLoad.j0 k l0 (wrap64 ((l0.length : Int) / 6)) (!t215))) else (spec_HostLoad.j0 k l0 (wrap64 ((l0.length : Int) / 6)) true)) else (spec_HostLoad.j0 k l0 (wrap64 ((l0.length : Int) / 6)) true))
def spec_HostLoad.T8 : Bool × List (List Nat × List Nat) := (true, [([], []), ([0], [0]), ([], []), ([], []), ([3], [3]), ([], []), ([5], [5]), ([6], [6]), ([2, 4, 7], [2, 4, 7]), ([8], [8]), ([9], [9]), ([1, 10, 9], [1, 10]), ([0, 1, 2, 3, 4, 5, 6, 7, 8, 9, 10, 11], []), ([12, 11, 11, 0, 1, 2, 3, 4, 5, 6, 7, 8, 9, 10, 11], [11, 12])])
def spec_HostLoad.B8 : List Nat := [0, 1, 0, 0, 8, 0, 32, 96, 252, 508, 1020, 2047, 4095, 8191]
theorem spec_HostLoad.tab8 : rtab .any (opsOf Try.f19 8) = spec_HostLoad.T8 := by kernel_rfl
theorem spec_HostLoad.bits8 : waitsOk spec_HostLoad.T8.2 spec_HostLoad.B8 = true := by kernel_rfl
set_option maxHeartbeats 8000000 in
set_option maxRecDepth 100000 in
theorem spec_HostLoad.calls (k : Nat) (A0 : Option Addr) (c0 : Nat) (l0 : List (List Int)) (r1 : List (List Int)) (r2 : List (S74)) (r3 : Int) (r4 : Bool) (w : World) (hr0 : Kd.C (Kd.slice 3 (Kd.int .i64)) w A0 l0.length l0) (hc0 : l0.length ≤ c0) (h : spec_HostLoad.f k l0 = some (r1, r2, r3, r4)) :
  Calls Try.prog 19 #[.slice A0 l0.length c0] w fun e w' => ∃ v0_ v1_ : Value, e = .returned (.tuple #[.agg #[v0_, v1_, .int .i64 r3], .bool r4]) ∧ Kd.S (Kd.slice 3 (Kd.int .i64)) 45 w' w.heap.size (fun _ => True) v0_ r1 ∧ Kd.R k74 74 w' w.heap.size (fun k_ => some k_ ≠ (v0_ : Value).ownBlock) v1_ r2 ∧ Below w.heap.size w w' := by
 have hu35 := Try.underlying35
 have HR0 := Az.mk hr0
 have HC0 := Az.mk hc0
 clear hr0 hc0
 have HB := Az.mk (Below.refl w.heap.size w)
 have H : ((spec_MemOk.f k l0).bind fun t214 => (if t214 = true then (if ((l0.length : Int) % 6) = 0 then ((spec_l6In.f (wrap64 ((l0.length : Int) / 6)) 1 2).bind fun t215 => (spec_HostLoad.j0 k l0 (wrap64 ((l0.length : Int) / 6)) (!t215))) else (spec_HostLoad.j0 k l0 (wrap64 ((l0.length : Int) / 6)) true)) else (spec_HostLoad.j0 k l0 (wrap64 ((l0.length : Int) / 6)) true))) = some (r1, r2, r3, r4) := h
 clear h
 have HC2 := Az.mk H
 clear H
 go_enter Try.func19, Try.ntmps19
 go_upto_region 2 with (first | ((with_reducible refine Yd (N := 2) rfl ?_); (try (refine Ye (by rfl) ?_; dsimp only)); refine Yv ?hg (N := 2) ?hd (cs := #[.slice none 0 0, .slice none 0 0, .int .i64 0]) (t := 35) ?hr ?_; (case hd => rfl); (case hg => rfl); (case hr => first | (go_simp; done) | (go_simp; rfl)); intro gb213 hg w3 hbox hb; have n0_ := Az.mk (Yt (by repeat (first | (with_reducible first | exact HB.out | apply Ya | apply Yn | apply Yw) | exact HB.out)) hb); have n1_ := Az.mk (hbox); have n2_ := Az.mk ((by rw [hg]; exact (Yz (by repeat (first | (with_reducible first | exact HB.out | apply Ya | apply Yn | apply Yw) | exact HB.out))) : w.heap.size ≤ gb213)); have n3_ := Az.mk ((by rw [hg]; exact (Yz (by repeat (first | (with_reducible first | exact HB.out | apply Ya | apply Yn | apply Yw) | exact HB.out))) : w.heap.size ≤ gb213)); clear HB; have HB := n0_; have BK213 := n1_; have GW213 := n2_; have GE213 := n3_; clear n0_ n1_ n2_ n3_; clear hb hbox hg))
 (try simp only [Act.put, List.setIfInBounds_toArray, List.set_cons_zero, List.set_cons_succ])
 go_cut [23] (fun v23 wc => ∃ (kq : Nat) (x23_1 : Bool), v23 = .bool x23_1 ∧ Az (spec_HostLoad.j0 kq l0 (wrap64 ((l0.length : Int) / 6)) x23_1 = some (r1, r2, r3, r4)) ∧ Az (kq ≤ k) ∧ Az (wc.heap[gb213]? = some (.cells #[(.slice none 0 0), (.slice none 0 0), .int .i64 0] 35 (0, 0))) ∧ Az (Below w.heap.size w wc))
 case first =>
  have H := HC2.out
  clear HC2
  replace H := Option.bind_eq_some_iff.mp H
  obtain ⟨t214, A40, H⟩ := H
  replace H : (if t214 = true then (if ((l0.length : Int) % 6) = 0 then ((spec_l6In.f (wrap64 ((l0.length : Int) / 6)) 1 2).bind fun t215 => (spec_HostLoad.j0 k l0 (wrap64 ((l0.length : Int) / 6)) (!t215))) else (spec_HostLoad.j0 k l0 (wrap64 ((l0.length : Int) / 6)) true)) else (spec_HostLoad.j0 k l0 (wrap64 ((l0.length : Int) / 6)) true)) = some (r1, r2, r3, r4) := H
  have A4 := Az.mk A40
  clear A40
  by_cases c5 : t214 = true
  ·subst c5
   have H1 : (if ((l0.length : Int) % 6) = 0 then ((spec_l6In.f (wrap64 ((l0.length : Int) / 6)) 1 2).bind fun t215 => (spec_HostLoad.j0 k l0 (wrap64 ((l0.length : Int) / 6)) (!t215))) else (spec_HostLoad.j0 k l0 (wrap64 ((l0.length : Int) / 6)) true)) = some (r1, r2, r3, r4) := by rw [if_pos rfl] at H; exact H
   clear H
   have H := H1
   clear H1
   by_cases c6 : ((l0.length : Int) % 6) = 0
   ·rw [if_pos c6] at H
    have c6b0 : (((l0.length : Int) % 6) == 0) = true := beq_iff_eq.mpr c6
    have c6b1 : (((l0.length : Int) % 6) != 0) = false := bne_eq_false_iff_eq.mpr c6
    clear c6
    (first | rw [c6b0] | (simp only [i64_w, i32_w]; rw [c6b0]) | skip)
    replace H := Option.bind_eq_some_iff.mp H
    obtain ⟨t215, A70, H⟩ := H
    replace H : (spec_HostLoad.j0 k l0 (wrap64 ((l0.length : Int) / 6)) (!t215)) = some (r1, r2, r3, r4) := H
    have A7 := Az.mk A70
    clear A70
    have H' := Az.mk H
    clear H
    go_wp2_with (first | ((with_reducible refine Yc (f := 15) rfl ?_); refine Yg (some 11) rfl rfl Try.func15 (by kernel_rfl) rfl #[.slice A0 l0.length c0] rfl (by (try simp only [List.map_toArray, List.map_cons, List.map_nil]); first | done | rfl | (simp only [List.length_drop, List.length_take]; rfl)) ?_; (with_reducible refine (spec_MemOk.calls k _ _ l0 true _ ?side1 ?side2 A4.out).mono ?_); (case side1 => repeat (first | exact (Kd.Cb_ HR0.out HB.out) | exact HR0.out | (with_reducible refine Kd.Ca_ ?_ _) | (with_reducible refine Kd.Cn_ ?_ _) | (with_reducible refine Kd.Cw_ ?_))); (case side2 => exact HC0.out); rintro e w' ⟨rfl, ⟨nd, rfl⟩⟩; refine ⟨_, rfl, ?_⟩) | (go_at_call 59; (with_reducible refine (spec_l6In.calls (wrap64 ((l0.length : Int) / 6)) 1 2 t215 _ A7.out).mono ?_); rintro e w' ⟨rfl, ⟨nd, rfl⟩⟩))
    go_meet
    case rel => exact ⟨_, (!t215), (by first | rfl | (simp; done) | (simp [*]; done)), H', ⟨by first | omega | exact Nat.le_refl _⟩, ⟨by (with_reducible repeat (first | refine Zn ?_ _ | refine Zw ?_ | refine Za ?_ _)); exact BK213.out⟩, ⟨by repeat (first | (with_reducible first | exact HB.out | apply Ya | apply Yn | apply Yw | refine Ys ?_ GE213.out) | exact HB.out)⟩⟩
   ·rw [if_neg c6] at H
    have c6b0 : (((l0.length : Int) % 6) == 0) = false := beq_eq_false_iff_ne.mpr c6
    have c6b1 : (((l0.length : Int) % 6) != 0) = true := bne_iff_ne.mpr c6
    (first | rw [c6b0] | (simp only [i64_w, i32_w]; rw [c6b0]) | skip)
    have H' := Az.mk H
    clear H
    go_wp2_with (first | ((with_reducible refine Yc (f := 15) rfl ?_); refine Yg (some 11) rfl rfl Try.func15 (by kernel_rfl) rfl #[.slice A0 l0.length c0] rfl (by (try simp only [List.map_toArray, List.map_cons, List.map_nil]); first | done | rfl | (simp only [List.length_drop, List.length_take]; rfl)) ?_; (with_reducible refine (spec_MemOk.calls k _ _ l0 true _ ?side1 ?side2 A4.out).mono ?_); (case side1 => repeat (first | exact (Kd.Cb_ HR0.out HB.out) | exact HR0.out | (with_reducible refine Kd.Ca_ ?_ _) | (with_reducible refine Kd.Cn_ ?_ _) | (with_reducible refine Kd.Cw_ ?_))); (case side2 => exact HC0.out); rintro e w' ⟨rfl, ⟨nd, rfl⟩⟩; refine ⟨_, rfl, ?_⟩))
    go_meet
    case rel => exact ⟨_, (true), (by first | rfl | (simp; done) | (simp [*]; done)), H', ⟨by first | omega | exact Nat.le_refl _⟩, ⟨by (with_reducible repeat (first | refine Zn ?_ _ | refine Zw ?_ | refine Za ?_ _)); exact BK213.out⟩, ⟨by repeat (first | (with_reducible first | exact HB.out | apply Ya | apply Yn | apply Yw | refine Ys ?_ GE213.out) | exact HB.out)⟩⟩
  ·replace c5 := Bool.eq_false_iff.mpr c5
   subst c5
   have H1 : (spec_HostLoad.j0 k l0 (wrap64 ((l0.length : Int) / 6)) true) = some (r1, r2, r3, r4) := by rw [if_neg (show ¬ (false = true) by decide)] at H; exact H
   clear H
   have H := H1
   clear H1
   have H' := Az.mk H
   clear H
   go_wp2_with (first | ((with_reducible refine Yc (f := 15) rfl ?_); refine Yg (some 11) rfl rfl Try.func15 (by kernel_rfl) rfl #[.slice A0 l0.length c0] rfl (by (try simp only [List.map_toArray, List.map_cons, List.map_nil]); first | done | rfl | (simp only [List.length_drop, List.length_take]; rfl)) ?_; (with_reducible refine (spec_MemOk.calls k _ _ l0 false _ ?side1 ?side2 A4.out).mono ?_); (case side1 => repeat (first | exact (Kd.Cb_ HR0.out HB.out) | exact HR0.out | (with_reducible refine Kd.Ca_ ?_ _) | (with_reducible refine Kd.Cn_ ?_ _) | (with_reducible refine Kd.Cw_ ?_))); (case side2 => exact HC0.out); rintro e w' ⟨rfl, ⟨nd, rfl⟩⟩; refine ⟨_, rfl, ?_⟩))
   go_meet
   case rel => exact ⟨_, (true), (by first | rfl | (simp; done) | (simp [*]; done)), H', ⟨by first | omega | exact Nat.le_refl _⟩, ⟨by (with_reducible repeat (first | refine Zn ?_ _ | refine Zw ?_ | refine Za ?_ _)); exact BK213.out⟩, ⟨by repeat (first | (with_reducible first | exact HB.out | apply Ya | apply Yn | apply Yw | refine Ys ?_ GE213.out) | exact HB.out)⟩⟩
 case rest =>
  clear HC2
  try clear c1
  try clear p2
  try clear c5
  try clear c6
  try clear c6b0
  try clear c6b1
  try clear p6
  obtain ⟨kq, x23_1, rfl, HA, HJ1, BK213, HB⟩ := hcut
  cases kq with
  | zero => exact absurd HA.out (by simp [spec_HostLoad.j0])
  | succ kj1 =>
   have H := HA.out
   clear HA
   simp only [spec_HostLoad.j0] at H
   by_cases c8 : x23_1 = true
   ·subst c8
    have H1 : (some (([] : List (List Int)), ([] : List (S74)), 0, false)) = some (r1, r2, r3, r4) := by rw [if_pos rfl] at H; exact H
    clear H
    have H := H1
    clear H1
    simp only [Option.some.injEq, Prod.mk.injEq] at H
    obtain ⟨rfl, rfl, rfl, rfl⟩ := H
    have hcz9_0 : wc.cell? ⟨gb213, 0, none⟩ = some (.slice none 0 0) := (Zc BK213.out 0).trans rfl
    have hcz9_1 : wc.cell? ⟨gb213, 1, none⟩ = some (.slice none 0 0) := (Zc BK213.out 1).trans rfl
    have hcz9_2 : wc.cell? ⟨gb213, 2, none⟩ = some (.int .i64 0) := (Zc BK213.out 2).trans rfl
    have hfz9_0 := Zf BK213.out 0
    have hfz9_1 := Zf BK213.out 1
    have hfz9_2 := Zf BK213.out 2
    go_wp2
    refine bodyPost_ret (results_ct rfl _ _ gb213 35 #[.slice none 0 0, .slice none 0 0, .int .i64 0] (0, 0) _ rfl (by (with_reducible repeat (first | refine Zn ?_ _ | refine Zw ?_ | refine Za ?_ _)); refine Zp (cs := #[.slice none 0 0, .slice none 0 0, .int .i64 0]) ?_ 2 _ rfl; (with_reducible repeat (first | refine Zn ?_ _ | refine Zw ?_ | refine Za ?_ _)); refine Zp (cs := #[.slice none 0 0, .slice none 0 0, .int .i64 0]) ?_ 1 _ rfl; (with_reducible repeat (first | refine Zn ?_ _ | refine Zw ?_ | refine Za ?_ _)); refine Zp (cs := #[.slice none 0 0, .slice none 0 0, .int .i64 0]) ?_ 0 _ rfl; (with_reducible repeat (first | refine Zn ?_ _ | refine Zw ?_ | refine Za ?_ _)); exact BK213.out) Try.underlying35 rfl (by kernel_rfl)) rfl ?_
    exact ⟨_, _, by first | rfl | (simp [errW_none, errW_some] <;> rfl) | (simp [*, errW_none, errW_some] <;> rfl), by first | exact Kd.S_nil _ _ _ _ _ | exact Kd.N_nil _ _ _ _ _ | exact Kd.V_nil _ _ _ _ _ | exact Kd.Q_nil _ _ _ _ _ | exact Kd.R_nil _ _ _ _ _, by first | exact Kd.R_nil _ _ _ _ _ | exact Kd.N_nil _ _ _ _ _ | exact Kd.V_nil _ _ _ _ _ | exact Kd.Q_nil _ _ _ _ _ | exact Kd.S_nil _ _ _ _ _, by repeat (first | (with_reducible first | exact HB.out | apply Ya | apply Yn | apply Yw | refine Ys ?_ GE213.out) | exact HB.out)⟩
   ·replace c8 := Bool.eq_false_iff.mpr c8
    subst c8
    have H1 : ((spec_l12New.f kj1).bind fun bt216 => (spec_HostLoad.l0 kj1 l0 (wrap64 ((l0.length : Int) / 6)) 0 bt216.1 bt216.2.1 bt216.2.2)) = some (r1, r2, r3, r4) := by rw [if_neg (show ¬ (false = true) by decide)] at H; exact H
    clear H
    have H := H1
    clear H1
    replace H := Option.bind_eq_some_iff.mp H
    obtain ⟨⟨t216, t219, t222⟩, A100, H⟩ := H
    replace H : (spec_HostLoad.l0 kj1 l0 (wrap64 ((l0.length : Int) / 6)) 0 t216 t219 t222) = some (r1, r2, r3, r4) := H
    have A10 := Az.mk A100
    clear A100
    have H' := Az.mk H
    clear H
    go_wp2_with (first | ((with_reducible refine Yc (f := 60) rfl ?_); refine Yg (some 25) rfl rfl Try.func60 (by kernel_rfl) rfl #[] rfl (by (try simp only [List.map_toArray, List.map_cons, List.map_nil]); first | done | rfl | (simp only [List.length_drop, List.length_take]; rfl)) ?_; (with_reducible refine (spec_l12New.calls kj1  t216 t219 t222 _ A10.out).mono ?_); rintro e w11 ⟨v217, v220, rfl, ho0, ho1, hb⟩; refine ⟨_, rfl, ?_⟩; have n0_ := Az.mk (Kd.Sl_ ho0 (Yz (by repeat (first | (with_reducible first | exact HB.out | apply Ya | apply Yn | apply Yw | refine Ys ?_ GE213.out) | exact HB.out)))); have n1_ := Az.mk (Kd.Rl_ ho1 (Yz (by repeat (first | (with_reducible first | exact HB.out | apply Ya | apply Yn | apply Yw | refine Ys ?_ GE213.out) | exact HB.out)))); have n2_ := Az.mk (Zb (g := gb213) (o := .cells #[.slice none 0 0, .slice none 0 0, .int .i64 0] 35 (0, 0)) (by (with_reducible repeat (first | refine Zn ?_ _ | refine Zw ?_ | refine Za ?_ _)); exact BK213.out) hb); have n3_ := Az.mk (Yt (by repeat (first | (with_reducible first | exact HB.out | apply Ya | apply Yn | apply Yw | refine Ys ?_ GE213.out) | exact HB.out)) hb); clear BK213; clear HB; have HO218 := n0_; have HO221 := n1_; have BK213 := n2_; have HB := n3_; clear n0_ n1_ n2_ n3_; (try clear hb); (try clear hb2); (try clear hk); (try clear hi); (try clear ho0); (try clear ho1)) | ((with_reducible refine Yd (N := 5) rfl ?_); (try (refine Ye (by rfl) ?_; dsimp only)); refine Yv ?hg (N := 5) ?hd (cs := #[.slice none 0 0, .slice none 0 0, .int .i64 0]) (t := 35) ?hr ?_; (case hd => rfl); (case hg => rfl); (case hr => first | (go_simp; done) | (go_simp; rfl)); intro gb223 hg w12 hbox hb; have n0_ := Az.mk (Kd.Sb_ (by (with_reducible repeat (first | apply Kd.Sa_ | apply Kd.Sn_ | apply Kd.Sw_)); exact HO218.out) hb); have n1_ := Az.mk (Kd.Rb_ (by (with_reducible repeat (first | apply Kd.Ra_ | apply Kd.Rn_ | apply Kd.Rw_)); exact HO221.out) hb); have n2_ := Az.mk (Zb (g := gb213) (o := .cells #[.slice none 0 0, .slice none 0 0, .int .i64 0] 35 (0, 0)) (by (with_reducible repeat (first | refine Zn ?_ _ | refine Zw ?_ | refine Za ?_ _)); exact BK213.out) hb); have n3_ := Az.mk (Yt (by repeat (first | (with_reducible first | exact HB.out | apply Ya | apply Yn | apply Yw | refine Ys ?_ GE213.out) | exact HB.out)) hb); have n4_ := Az.mk (hbox); have n5_ := Az.mk ((by rw [hg]; exact (Yz (by repeat (first | (with_reducible first | exact HB.out | apply Ya | apply Yn | apply Yw | refine Ys ?_ GE213.out) | exact HB.out))) : w.heap.size ≤ gb223)); have n6_ := Az.mk ((by rw [hg]; exact (Yz (by repeat (first | (with_reducible first | exact HB.out | apply Ya | apply Yn | apply Yw | refine Ys ?_ GE213.out) | exact HB.out))) : w.heap.size ≤ gb223)); have n7_ := Az.mk ((by rw [hg]; exact Nat.ne_of_lt (Zl (g := gb213) (o := .cells #[.slice none 0 0, .slice none 0 0, .int .i64 0] 35 (0, 0)) (by (with_reducible repeat (first | refine Zn ?_ _ | refine Zw ?_ | refine Za ?_ _)); exact BK213.out)) : gb213 ≠ gb223)); have n8_ := Az.mk ((by rw [hg]; exact Nat.ne_of_gt (Zl (g := gb213) (o := .cells #[.slice none 0 0, .slice none 0 0, .int .i64 0] 35 (0, 0)) (by (with_reducible repeat (first | refine Zn ?_ _ | refine Zw ?_ | refine Za ?_ _)); exact BK213.out)) : gb223 ≠ gb213)); clear HO218; clear HO221; clear BK213; clear HB; have HO218 := n0_; have HO221 := n1_; have BK213 := n2_; have HB := n3_; have BK223 := n4_; have GW223 := n5_; have GE223 := n6_; have NB213_223 := n7_; have NB223_213 := n8_; clear n0_ n1_ n2_ n3_ n4_ n5_ n6_ n7_ n8_; clear hb hbox hg; obtain ⟨Ao13, co13, eo13⟩ := Kd.Ss_ HO218.out; subst eo13; have hnb14 := NB223_213.out; have hnc14 := NB213_223.out; have hcz15_0 : w12.cell? ⟨gb223, 0, none⟩ = some (.slice none 0 0) := (Zc BK223.out 0).trans rfl; have hcz15_1 : w12.cell? ⟨gb223, 1, none⟩ = some (.slice none 0 0) := (Zc BK223.out 1).trans rfl; have hcz15_2 : w12.cell? ⟨gb223, 2, none⟩ = some (.int .i64 0) := (Zc BK223.out 2).trans rfl; have hfz15_0 := Zf BK223.out 0; have hfz15_1 := Zf BK223.out 1; have hfz15_2 := Zf BK223.out 2; obtain ⟨Ao16, co16, eo16⟩ := Kd.Rs_ HO221.out; subst eo16))
    go_loopg [6] kj1 (fun kq v6 w' => ∃ (x6_2 : Int) (x224001_2 : List (S74)) (u224001 : Value), v6 = .int .i64 x6_2 ∧ Az (spec_HostLoad.l0 kq l0 (wrap64 ((l0.length : Int) / 6)) x6_2 t216 x224001_2 t222 = some (r1, r2, r3, r4)) ∧ Az (kq ≤ kj1) ∧ Az (Kd.S (Kd.slice 3 (Kd.int .i64)) 45 w' w.heap.size (fun _ => True) (.slice Ao13 t216.length co13) t216) ∧ Az (Kd.R k74 74 w' w.heap.size (fun k_ => some k_ ≠ ((.slice Ao13 t216.length co13) : Value).ownBlock) u224001 x224001_2) ∧ Az (w'.heap[gb213]? = some (.cells #[(.slice none 0 0), (.slice none 0 0), .int .i64 0] 35 (0, 0))) ∧ Az (w'.heap[gb223]? = some (.cells #[(.slice Ao13 t216.length co13), u224001, .int .i64 t222] 35 (0, 0))) ∧ Az (Below w.heap.size w w'))
    case atStart => exact ⟨(0), (t219), (.slice Ao16 t219.length co16), (by first | rfl | (simp; done) | (simp [*]; done)), H', ⟨Nat.le_refl _⟩, ⟨by (with_reducible repeat (first | apply Kd.Sa_ | apply Kd.Sn_ | apply Kd.Sw_)); exact Kd.Sm_ (Kd.Sf_ (p := ⟨gb223, 2, none⟩) (Kd.Sf_ (p := ⟨gb223, 1, none⟩) (Kd.Sf_ (p := ⟨gb223, 0, none⟩) (Kd.S_types HO218.out BK223.out (by decide)) (fun _ hk => hk.2) (.slice Ao13 t216.length co13)) (fun _ hk => hk.2) (.slice Ao16 t219.length co16)) (fun _ hk => hk.2) (.int .i64 t222)) (fun _ hk => trivial)⟩, ⟨by (with_reducible repeat (first | apply Kd.Ra_ | apply Kd.Rn_ | apply Kd.Rw_)); exact Kd.Rm_ (Kd.Rf_ (p := ⟨gb223, 2, none⟩) (Kd.Rf_ (p := ⟨gb223, 1, none⟩) (Kd.Rf_ (p := ⟨gb223, 0, none⟩) (Kd.R_types HO221.out BK223.out (by decide)) (fun _ hk => hk.2) (.slice Ao13 t216.length co13)) (fun _ hk => hk.2) (.slice Ao16 t219.length co16)) (fun _ hk => hk.2) (.int .i64 t222)) (fun _ hk => hk.1)⟩, ⟨by (with_reducible repeat (first | refine Zn ?_ _ | refine Zw ?_ | refine Za ?_ _)); refine blk_far ?_ NB213_223.out _; (with_reducible repeat (first | refine Zn ?_ _ | refine Zw ?_ | refine Za ?_ _)); refine blk_far ?_ NB213_223.out _; (with_reducible repeat (first | refine Zn ?_ _ | refine Zw ?_ | refine Za ?_ _)); refine blk_far ?_ NB213_223.out _; (with_reducible repeat (first | refine Zn ?_ _ | refine Zw ?_ | refine Za ?_ _)); exact BK213.out⟩, ⟨by (with_reducible repeat (first | refine Zn ?_ _ | refine Zw ?_ | refine Za ?_ _)); refine Zp (cs := #[.slice Ao13 t216.length co13, .slice Ao16 t219.length co16, .int .i64 0]) ?_ 2 _ rfl; (with_reducible repeat (first | refine Zn ?_ _ | refine Zw ?_ | refine Za ?_ _)); refine Zp (cs := #[.slice Ao13 t216.length co13, .slice none 0 0, .int .i64 0]) ?_ 1 _ rfl; (with_reducible repeat (first | refine Zn ?_ _ | refine Zw ?_ | refine Za ?_ _)); refine Zp (cs := #[.slice none 0 0, .slice none 0 0, .int .i64 0]) ?_ 0 _ rfl; (with_reducible repeat (first | refine Zn ?_ _ | refine Zw ?_ | refine Za ?_ _)); exact BK223.out⟩, ⟨by repeat (first | (with_reducible first | exact HB.out | apply Ya | apply Yn | apply Yw | refine Ys ?_ GE213.out | refine Ys ?_ GE223.out) | exact HB.out)⟩⟩
    case round =>
     clear H'
     try clear c1
     try clear p2
     try clear c5
     try clear c6
     try clear c6b0
     try clear c6b1
     try clear p6
     try clear c8
     try clear c14
     try clear c15
     try clear hcz15_0
     try clear hcz15_1
     try clear hcz15_2
     try clear hcz9_0
     try clear hcz9_1
     try clear hcz9_2
     try clear hfz15_0
     try clear hfz15_1
     try clear hfz15_2
     try clear hfz9_0
     try clear hfz9_1
     try clear hfz9_2
     try clear p2
     try clear p6
     obtain ⟨x6_2, x224001_2, u224001, rfl, HA, HK2, HO_224000, HO_224001, BK213, BK223, HB⟩ := hrel
     cases gk with
     | zero => exact absurd HA.out (by simp [spec_HostLoad.l0])
     | succ k2 =>
      have H := HA.out
      clear HA
      simp only [spec_HostLoad.l0] at H
      by_cases c17 : x6_2 < (wrap64 ((l0.length : Int) / 6))
      ·rw [if_pos c17] at H
       have c17b0 : decide (x6_2 < (wrap64 ((l0.length : Int) / 6))) = true := decide_eq_true c17
       clear c17
       obtain ⟨ji18, hji18⟩ : ∃ j_ : Int, (wrap64 (x6_2 * 6)) = j_ := ⟨_, rfl⟩
       replace H : (if 0 ≤ (ji18) then (if (ji18) ≤ (wrap64 ((wrap64 (x6_2 + 1)) * 6)) then (if (wrap64 ((wrap64 (x6_2 + 1)) * 6)) ≤ (l0.length : Int) then ((spec_l12Guest.f k2 ((l0.take ((wrap64 ((wrap64 (x6_2 + 1)) * 6)) : Int).toNat).drop ((ji18) : Int).toNat)).bind fun bt228 => (if x224001_2.length < 1954687338268 then (spec_HostLoad.l0 k2 l0 (wrap64 ((l0.length : Int) / 6)) (wrap64 (x6_2 + 1)) t216 (x224001_2 ++ [(⟨bt228.1, bt228.2.1, bt228.2.2⟩ : S74)]) t222) else (none))) else (none)) else (none)) else (none)) = some (r1, r2, r3, r4) := by first | (rw [hji18] at H; exact H) | (simp only [hji18] at H ⊢; exact H)
       have hji18w : (IntKind.i64.wrap (x6_2 * 6)) = ji18 := (i64_w _).trans hji18
       by_cases c19 : 0 ≤ (ji18)
       ·rw [if_pos c19] at H
        have c19b0 := eq_true c19
        have c19b1 : decide (0 ≤ (ji18)) = true := decide_eq_true c19
        clear c19
        by_cases c20 : (ji18) ≤ (wrap64 ((wrap64 (x6_2 + 1)) * 6))
        ·rw [if_pos c20] at H
         have c20b0 := eq_true c20
         have c20b1 : decide ((ji18) ≤ (wrap64 ((wrap64 (x6_2 + 1)) * 6))) = true := decide_eq_true c20
         by_cases c21 : (wrap64 ((wrap64 (x6_2 + 1)) * 6)) ≤ (l0.length : Int)
         ·rw [if_pos c21] at H
          have c21b0 := eq_true c21
          have c21b1 : decide ((wrap64 ((wrap64 (x6_2 + 1)) * 6)) ≤ (l0.length : Int)) = true := decide_eq_true c21
          obtain ⟨y224, hy224⟩ : ∃ y_ : List (List Int), y_ = ((l0.take ((wrap64 ((wrap64 (x6_2 + 1)) * 6)) : Int).toNat).drop ((ji18) : Int).toNat) := ⟨_, rfl⟩
          replace H : ((spec_l12Guest.f k2 y224).bind fun bt228 => (if x224001_2.length < 1954687338268 then (spec_HostLoad.l0 k2 l0 (wrap64 ((l0.length : Int) / 6)) (wrap64 (x6_2 + 1)) t216 (x224001_2 ++ [(⟨bt228.1, bt228.2.1, bt228.2.2⟩ : S74)]) t222) else (none))) = some (r1, r2, r3, r4) := by first | (rw [hy224]; with_reducible exact H) | (have H2_ := (Option.bind_some _ _).symm.trans H; rw [hy224]; with_reducible exact H2_) | (have H2_ := (Option.bind_some _ _).symm.trans H; with_reducible exact H2_) | with_reducible exact H | (rw [hy224]; exact H) | exact H
          have Ny224 := Az.mk hy224
          clear hy224
          replace H := Option.bind_eq_some_iff.mp H
          obtain ⟨⟨t228, t231, t234⟩, A220, H⟩ := H
          replace H : (if x224001_2.length < 1954687338268 then (spec_HostLoad.l0 k2 l0 (wrap64 ((l0.length : Int) / 6)) (wrap64 (x6_2 + 1)) t216 (x224001_2 ++ [(⟨t228, t231, t234⟩ : S74)]) t222) else (none)) = some (r1, r2, r3, r4) := H
          have A22 := Az.mk A220
          clear A220
          by_cases c23 : x224001_2.length < 1954687338268
          ·rw [if_pos c23] at H
           have LMc23 := Az.mk c23
           clear c23
           obtain ⟨y237, hy237⟩ : ∃ y_ : List (S74), y_ = (x224001_2 ++ [(⟨t228, t231, t234⟩ : S74)]) := ⟨_, rfl⟩
           replace H : (spec_HostLoad.l0 k2 l0 (wrap64 ((l0.length : Int) / 6)) (wrap64 (x6_2 + 1)) t216 y237 t222) = some (r1, r2, r3, r4) := by first | (rw [hy237]; with_reducible exact H) | (have H2_ := (Option.bind_some _ _).symm.trans H; rw [hy237]; with_reducible exact H2_) | (have H2_ := (Option.bind_some _ _).symm.trans H; with_reducible exact H2_) | with_reducible exact H | (rw [hy237]; exact H) | exact H
           have Ny237 := Az.mk hy237
           clear hy237
           have H' := Az.mk H
           clear H
           try go_wp2
           have n0_ := Az.mk (Kd.Sw_ HO_224000.out)
           have n1_ := Az.mk (Kd.Rw_ HO_224001.out)
           have n2_ := Az.mk (Zw BK213.out)
           have n3_ := Az.mk (Zw BK223.out)
           have n4_ := Az.mk (Yw HB.out)
           clear HO_224000
           clear HO_224001
           clear BK213
           clear BK223
           clear HB
           have HO_224000 := n0_
           have HO_224001 := n1_
           have BK213 := n2_
           have BK223 := n3_
           have HB := n4_
           clear n0_ n1_ n2_ n3_ n4_
           have q25 : ((wrap64 ((wrap64 (x6_2 + 1)) * 6)) : Int) ≤ ((l0.length : Int) : Int) := of_decide_eq_true (by first | (with_reducible assumption) | assumption)
           obtain ⟨i025, hi025, _, hsz25, _⟩ := info_parts info45
           have hroom25 : l0.length ≤ c0 := HC0.out
           have hC25 : Kd.C (Kd.slice 3 (Kd.int .i64)) _ A0 l0.length l0 := HR0.out
           have ql25 : ((ji18) : Int) ≤ ((wrap64 ((wrap64 (x6_2 + 1)) * 6)) : Int) := of_decide_eq_true (by first | (with_reducible assumption) | assumption)
           have q025 : (0 : Int) ≤ ((ji18) : Int) := of_decide_eq_true (by first | (with_reducible assumption) | assumption)
           have hcut25 := cut_mid (P := Try.prog) 23 45 .i64 .i64 Try.underlying23 hi025 1 hsz25 A0 l0.length c0 (ji18) (wrap64 ((wrap64 (x6_2 + 1)) * 6)) q025 ql25 q25 hroom25
           have hr25 := Kd.C_mid (lo := ((ji18) : Int).toNat) (hi := ((wrap64 ((wrap64 (x6_2 + 1)) * 6)) : Int).toNat) (c := c0) hC25 (by omega) (by omega) hroom25
           obtain ⟨A25, hA25⟩ : ∃ A1, A1 = (if c0 = ((ji18) : Int).toNat then A0 else (A0 : Option Addr).map (·.add (((ji18) : Int).toNat * 1))) := ⟨_, rfl⟩
           obtain ⟨c25, hc25⟩ : ∃ c1, c1 = c0 - ((ji18) : Int).toNat := ⟨_, rfl⟩
           have hy25 : y224.length = ((wrap64 ((wrap64 (x6_2 + 1)) * 6)) : Int).toNat - ((ji18) : Int).toNat := (by rw [Ny224.out, List.length_drop, List.length_take] <;> omega)
           rw [show ((l0).take ((wrap64 ((wrap64 (x6_2 + 1)) * 6)) : Int).toNat).drop ((ji18) : Int).toNat = y224 from Ny224.out.symm] at hr25
           replace hr25 : Kd.C (Kd.slice 3 (Kd.int .i64)) _ A25 y224.length y224 := (by rw [hA25]; exact hr25)
           rw [← hy25, ← hA25, ← hc25] at hcut25
           have HR227 := Az.mk hr25
           have HC227 := Az.mk (show y224.length ≤ c25 from by rw [hy25, hc25]; exact Nat.sub_le_sub_right (Nat.le_trans (by omega) hroom25) _)
           clear hr25 hC25 hroom25 hi025 hsz25 hc25
           have KY25 := Az.mk hy25
           have KA25 := Az.mk hA25
           clear hy25 hA25
           replace q25 := eq_true q25
           refine start_ (n := 14) (S := fun w' => w'.cell? ⟨gb223, 0, none⟩ = some (.slice Ao13 t216.length co13) ∧ w'.cell? ⟨gb223, 1, none⟩ = some (u224001) ∧ w'.cell? ⟨gb223, 2, none⟩ = some (.int .i64 t222)) (ds := [13]) #[false, false, false, false, false, false, false, false, false, false, false, false, false, false] (by kernel_rfl) rfl rfl ⟨(Zc BK223.out 0).trans rfl, (Zc BK223.out 1).trans rfl, (Zc BK223.out 2).trans rfl⟩ (fun hHeld => ?_); refine with_tabW spec_HostLoad.tab8 spec_HostLoad.bits8 (fun HT_ HW_ => ?_)
           generalize wr.drew = w24 at HO_224000 HO_224001 BK213 BK223 HB HR227 hHeld ⊢
           refine pure_ (i := 0) (N := some 31) (v := ?_) (a' := ?_) #[true, false, false, false, false, false, false, false, false, false, false, false, false, false] rfl rfl (any_of HT_.out (by kernel_rfl)) (fun _ _ _ h => h) (Or.inl ⟨by rfl, ?_⟩) ?_ ?_
           rotate_left
           ·intro w'
            go_simp
            with_reducible rfl
           rotate_left
           ·simp only [Act.put, List.setIfInBounds_toArray, List.set_cons_zero, List.set_cons_succ, i64_w, i32_w]
            rfl
           refine pure_ (i := 2) (N := some 33) (v := ?_) (a' := ?_) #[true, false, true, false, false, false, false, false, false, false, false, false, false, false] rfl rfl (any_of HT_.out (by kernel_rfl)) (fun _ _ _ h => h) (Or.inl ⟨by rfl, ?_⟩) ?_ ?_
           rotate_left
           ·intro w'
            go_simp
            with_reducible rfl
           rotate_left
           ·simp only [Act.put, List.setIfInBounds_toArray, List.set_cons_zero, List.set_cons_succ, i64_w, i32_w]
            rfl
           refine pure_ (i := 3) (N := some 34) (v := ?_) (a' := ?_) #[true, false, true, true, false, false, false, false, false, false, false, false, false, false] rfl rfl (any_of HT_.out (by kernel_rfl)) (fun _ _ _ h => h) (Or.inl ⟨by rfl, ?_⟩) ?_ ?_
           rotate_left
           ·intro w'
            go_simp
            with_reducible rfl
           rotate_left
           ·simp only [Act.put, List.setIfInBounds_toArray, List.set_cons_zero, List.set_cons_succ, i64_w, i32_w]
            rfl
           refine pure_ (i := 4) (N := some 35) (v := ?_) (a' := ?_) #[true, false, true, true, true, false, false, false, false, false, false, false, false, false] rfl rfl (any_of HT_.out (by kernel_rfl)) (fun _ _ _ h => h) (Or.inl ⟨by rfl, ?_⟩) ?_ ?_
           rotate_left
           ·intro w'
            go_simp
            with_reducible rfl
           rotate_left
           ·simp only [Act.put, List.setIfInBounds_toArray, List.set_cons_zero, List.set_cons_succ, i64_w, i32_w]
            rfl
           refine pure_ (i := 5) (N := some 36) (v := ?_) (a' := ?_) #[true, false, true, true, true, true, false, false, false, false, false, false, false, false] rfl rfl (any_of HT_.out (by kernel_rfl)) (fun _ _ _ h => h) (Or.inl ⟨by rfl, ?_⟩) ?_ ?_
           rotate_left
           ·intro w'
            go_simp
            with_reducible rfl
           rotate_left
           ·simp only [Act.put, List.setIfInBounds_toArray, List.set_cons_zero, List.set_cons_succ, i64_w, i32_w]
            rfl
           refine pure_ (i := 6) (N := some 37) (v := ?_) (a' := ?_) #[true, false, true, true, true, true, true, false, false, false, false, false, false, false] rfl rfl (any_of HT_.out (by kernel_rfl)) (fun _ _ _ h => h) (Or.inl ⟨by rfl, ?_⟩) ?_ ?_
           rotate_left
           ·intro w'
            go_simp
            with_reducible rfl
           rotate_left
           ·simp only [Act.put, List.setIfInBounds_toArray, List.set_cons_zero, List.set_cons_succ, i64_w, i32_w]
            rfl
           refine pure_ (i := 7) (N := some 38) (v := ?_) (a' := ?_) #[true, false, true, true, true, true, true, true, false, false, false, false, false, false] rfl rfl (any_of HT_.out (by kernel_rfl)) (fun _ _ _ h => h) (Or.inl ⟨by rfl, ?_⟩) ?_ ?_
           rotate_left
           ·intro w'
            go_simp
            with_reducible rfl
           rotate_left
           ·simp only [Act.put, List.setIfInBounds_toArray, List.set_cons_zero, List.set_cons_succ, i64_w, i32_w]
            rfl
           refine pure_ (i := 8) (N := some 39) (v := ?_) (a' := ?_) #[true, false, true, true, true, true, true, true, true, false, false, false, false, false] rfl rfl (any_of HT_.out (by kernel_rfl)) (fun _ _ _ h => h) (Or.inl ⟨by rfl, ?_⟩) ?_ ?_
           rotate_left
           ·intro w'
            go_simp
            with_reducible rfl
           rotate_left
           ·simp only [Act.put, List.setIfInBounds_toArray, List.set_cons_zero, List.set_cons_succ, i64_w, i32_w]
            rfl
           refine take_ (i := 1) (N := some 32) (v := ?_) (a' := ?_) #[true, true, true, true, true, true, true, true, true, false, false, false, false, false] rfl rfl (take_ofW HT_.out HW_.out (by kernel_rfl)) (fun _ _ _ h => h) (Or.inl ⟨by rfl, ?_⟩) hHeld ?_ ?_
           rotate_left
           ·rintro w' ⟨s0, s1, s2⟩
            go_simp
            with_reducible rfl
           rotate_left
           ·simp only [Act.put, List.setIfInBounds_toArray, List.set_cons_zero, List.set_cons_succ, i64_w, i32_w]
            rfl
           refine one_ (i := 9) (N := some 40) #[true, true, true, true, true, true, true, true, true, true, false, false, false, false] rfl rfl (one_of HT_.out (by kernel_rfl)) (by decide) (fun K hK => ?_)
           refine goes_ Try.func61 (by kernel_rfl) rfl #[.slice A25 y224.length c25] (by rfl) rfl rfl (by (try simp only [List.map_toArray, List.map_cons, List.map_nil]); first | done | rfl | (simp only [List.length_drop, List.length_take]; rfl)) ?_
           with_reducible refine (spec_l12Guest.calls k2 _ _ y224 t228 t231 t234 _ ?side1 ?side2 A22.out).mono ?_
           (case side1 => repeat (first | exact (Kd.Cb_ HR227.out HB.out) | exact HR227.out | (with_reducible refine Kd.Ca_ ?_ _) | (with_reducible refine Kd.Cn_ ?_ _) | (with_reducible refine Kd.Cw_ ?_)))
           (case side2 => exact HC227.out)
           rintro e w26 ⟨v229, v232, v235, rfl, ho0, ho1, ho2, hb⟩
           refine ⟨_, rfl, ?_⟩
           have n0_ := Az.mk (Kd.SE_ (by (with_reducible repeat (first | apply Kd.Sa_ | apply Kd.Sn_ | apply Kd.Sw_)); exact HO_224000.out) (Kd.S_base ho1) hb)
           have n1_ := Az.mk (Kd.Rm_ (Kd.Rt_ (Kd.Rt_ (Kd.Rt_ (Kd.R_old (by (with_reducible repeat (first | apply Kd.Ra_ | apply Kd.Rn_ | apply Kd.Rw_)); exact HO_224001.out) hb) (Kd.R_base ho0)) (Kd.S_base ho1)) (Kd.R_base ho2)) (fun _ h_ => h_.1))
           have n2_ := Az.mk (Kd.Rl_ ho0 (Yz (by repeat (first | (with_reducible first | exact HB.out | apply Ya | apply Yn | apply Yw | refine Ys ?_ GE213.out | refine Ys ?_ GE223.out) | exact HB.out))))
           have n3_ := Az.mk (Kd.Sl_ (Kd.S_new' ho1 (Kd.S_lt (by (with_reducible repeat (first | apply Kd.Sa_ | apply Kd.Sn_ | apply Kd.Sw_)); exact HO_224000.out))) (Yz (by repeat (first | (with_reducible first | exact HB.out | apply Ya | apply Yn | apply Yw | refine Ys ?_ GE213.out | refine Ys ?_ GE223.out) | exact HB.out))))
           have n4_ := Az.mk (Kd.Rl_ ho2 (Yz (by repeat (first | (with_reducible first | exact HB.out | apply Ya | apply Yn | apply Yw | refine Ys ?_ GE213.out | refine Ys ?_ GE223.out) | exact HB.out))))
           have n5_ := Az.mk (Zb (g := gb213) (o := .cells #[.slice none 0 0, .slice none 0 0, .int .i64 0] 35 (0, 0)) (by (with_reducible repeat (first | refine Zn ?_ _ | refine Zw ?_ | refine Za ?_ _)); exact BK213.out) hb)
           have n6_ := Az.mk (Zb (g := gb223) (o := .cells #[.slice Ao13 t216.length co13, u224001, .int .i64 t222] 35 (0, 0)) (by (with_reducible repeat (first | refine Zn ?_ _ | refine Zw ?_ | refine Za ?_ _)); exact BK223.out) hb)
           have n7_ := Az.mk (Yt (by repeat (first | (with_reducible first | exact HB.out | apply Ya | apply Yn | apply Yw | refine Ys ?_ GE213.out | refine Ys ?_ GE223.out) | exact HB.out)) hb)
           clear HO_224000
           clear HO_224001
           clear BK213
           clear BK223
           clear HB
           have HO_224000 := n0_
           have HO_224001 := n1_
           have HO230 := n2_
           have HO233 := n3_
           have HO236 := n4_
           have BK213 := n5_
           have BK223 := n6_
           have HB := n7_
           clear n0_ n1_ n2_ n3_ n4_ n5_ n6_ n7_
           (try clear hb)
           (try clear hb2)
           (try clear hk)
           (try clear hi)
           (try clear ho0)
           (try clear ho1)
           (try clear ho2)
           obtain ⟨Ao28, co28, eo28⟩ := Kd.Rs_ HO230.out
           (first | subst eo28 | (injection eo28 with f1_ f2_ f3_; have f4_ := f1_.symm; have f5_ := f3_.symm; clear f1_ f2_ f3_; subst f4_; subst f5_))
           obtain ⟨Ao29, co29, eo29⟩ := Kd.Ss_ HO233.out
           (first | subst eo29 | (injection eo29 with f1_ f2_ f3_; have f4_ := f1_.symm; have f5_ := f3_.symm; clear f1_ f2_ f3_; subst f4_; subst f5_))
           obtain ⟨Ao30, co30, eo30⟩ := Kd.Rs_ HO236.out
           (first | subst eo30 | (injection eo30 with f1_ f2_ f3_; have f4_ := f1_.symm; have f5_ := f3_.symm; clear f1_ f2_ f3_; subst f4_; subst f5_))
           refine hK.out _ _ ⟨(Zc BK223.out 0).trans rfl, (Zc BK223.out 1).trans rfl, (Zc BK223.out 2).trans rfl⟩ (fun hHeld => ?_)
           clear hK K
           refine norm_ (a' := ?_) ?_ ?_
           rotate_left
           ·show Act.put _ (some 40) _ = _
            simp only [Act.put, List.setIfInBounds_toArray, List.set_cons_zero, List.set_cons_succ, i64_w, i32_w]
            rfl
           refine one_ (i := 10) (N := some 41) #[true, true, true, true, true, true, true, true, true, true, true, false, false, false] rfl rfl (one_of HT_.out (by kernel_rfl)) (by decide) (fun K hK => ?_)
           refine value_ (w1 := ?_) (v := ?_) (by rfl) rfl ?_ ?_
           rotate_left 2
           ·go_simp
            constructor
            ·rfl
            ·rfl
           refine hK.out _ _ ⟨(Zc (Za BK223.out _) 0).trans rfl, (Zc (Za BK223.out _) 1).trans rfl, (Zc (Za BK223.out _) 2).trans rfl⟩ (fun hHeld => ?_)
           clear hK K
           refine norm_ (a' := ?_) ?_ ?_
           rotate_left
           ·show Act.put _ (some 41) _ = _
            simp only [Act.put, List.setIfInBounds_toArray, List.set_cons_zero, List.set_cons_succ, i64_w, i32_w]
            rfl
           refine one_ (i := 11) (N := some 42) #[true, true, true, true, true, true, true, true, true, true, true, true, false, false] rfl rfl (one_of HT_.out (by kernel_rfl)) (by decide) (fun K hK => ?_)
           refine Kd.R_append_step k74 (w0 := w) w.heap.size (by rfl) (.tmp 32) (.tmp 41) 33 74 (.agg #[(.slice none 0 0), (.slice none 0 0), (.slice none 0 0)]) 72 rfl Try.underlying33 info74 rfl (by decide) (by omega) u224001 x224001_2 (⟨t228, t231, t234⟩ : S74) [.slice Ao28 t228.length co28, .slice Ao29 t231.length co29, .slice Ao30 t234.length co30] (fun k_ => some k_ ≠ (.slice Ao13 t216.length co13 : Value).ownBlock) (fun k_ => ((fun k_ => some k_ ≠ (.slice Ao13 t216.length co13 : Value).ownBlock)) k_ ∧ some k_ ≠ (u224001 : Value).ownBlock) rfl rfl ?aP (fun _ hk => hk) ?aF ?aO ?aB ?aS ?aL ?_
           (case aP => exact k74_mkM _ _ _ (⟨t228, t231, t234⟩ : S74) (Kd.Rm_ (Kd.R_apart' (Kd.R_apart' (HO230.out) (Kd.S_typed HO_224000.out) (by decide)) (Kd.R_typed HO_224001.out) (by decide)) (fun k_ hk => ⟨hk.1.2, hk.2⟩)) (Kd.Rm_ (Kd.R_apart' ((Kd.S_R HO233.out)) (Kd.R_typed HO_224001.out) (by decide)) (fun k_ hk => ⟨hk.1.2, hk.2⟩)) (Kd.Rm_ (Kd.R_apart' (Kd.R_apart' (HO236.out) (Kd.S_typed HO_224000.out) (by decide)) (Kd.R_typed HO_224001.out) (by decide)) (fun k_ hk => ⟨hk.1.2, hk.2⟩)))
           (case aB => exact (by repeat (first | (with_reducible first | exact HB.out | apply Ya | apply Yn | apply Yw | refine Ys ?_ GE213.out | refine Ys ?_ GE223.out) | exact HB.out)))
           (case aF => exact (fun k_ hk => Kd.fresh' (Kd.S_lt (by (with_reducible repeat (first | apply Kd.Sa_ | apply Kd.Sn_ | apply Kd.Sw_)); exact HO_224000.out)) k_ hk))
           (case aO => exact (by (with_reducible repeat (first | apply Kd.Ra_ | apply Kd.Rn_ | apply Kd.Rw_)); exact Kd.Rm_ HO_224001.out (fun _ hk => hk.1.1.1)))
           (case aS => exact (Yz (by repeat (first | (with_reducible first | exact HB.out | apply Ya | apply Yn | apply Yw | refine Ys ?_ GE213.out | refine Ys ?_ GE223.out) | exact HB.out))))
           (case aL => have := LMc23.out; omega)
           intro v238 w27 ho hb hg hat
           rw [← Ny237.out] at ho
           have n0_ := Az.mk (Kd.S_over' (by (with_reducible repeat (first | apply Kd.Sa_ | apply Kd.Sn_ | apply Kd.Sw_)); exact HO_224000.out) (Kd.R_typed (by (with_reducible repeat (first | apply Kd.Ra_ | apply Kd.Rn_ | apply Kd.Rw_)); exact HO_224001.out)) (by decide) hg)
           have n1_ := Az.mk (blk_grown (g := gb213) (o := .cells #[.slice none 0 0, .slice none 0 0, .int .i64 0] 35 (0, 0)) (by (with_reducible repeat (first | refine Zn ?_ _ | refine Zw ?_ | refine Za ?_ _)); exact BK213.out) hg (Kd.R_ne HO_224001.out BK213.out (by decide)))
           have n2_ := Az.mk (blk_grown (g := gb223) (o := .cells #[.slice Ao13 t216.length co13, u224001, .int .i64 t222] 35 (0, 0)) (by (with_reducible repeat (first | refine Zn ?_ _ | refine Zw ?_ | refine Za ?_ _)); exact BK223.out) hg (Kd.R_ne HO_224001.out BK223.out (by decide)))
           have n3_ := Az.mk (hb)
           have n4_ := Az.mk (ho)
           clear HO_224000
           clear BK213
           clear BK223
           clear HB
           clear HO_224001
           clear HO230
           clear HO233
           clear HO236
           have HO_224000 := n0_
           have BK213 := n1_
           have BK223 := n2_
           have HB := n3_
           have HO239 := n4_
           clear n0_ n1_ n2_ n3_ n4_
           clear ho hb hg hat
           obtain ⟨Ao31, co31, eo31⟩ := Kd.Rs_ HO239.out
           (first | subst eo31 | (injection eo31 with f1_ f2_ f3_; have f4_ := f1_.symm; have f5_ := f3_.symm; clear f1_ f2_ f3_; subst f4_; subst f5_))
           refine hK.out _ _ ⟨(Zc BK223.out 0).trans rfl, (Zc BK223.out 1).trans rfl, (Zc BK223.out 2).trans rfl⟩ (fun hHeld => ?_)
           clear hK K
           refine norm_ (a' := ?_) ?_ ?_
           rotate_left
           ·show Act.put _ (some 42) _ = _
            simp only [Act.put, List.setIfInBounds_toArray, List.set_cons_zero, List.set_cons_succ, i64_w, i32_w]
            rfl
           refine pure_ (i := 12) (N := some 43) (v := ?_) (a' := ?_) #[true, true, true, true, true, true, true, true, true, true, true, true, true, false] rfl rfl (any_of HT_.out (by kernel_rfl)) (fun _ _ _ h => h) (Or.inl ⟨by rfl, ?_⟩) ?_ ?_
           rotate_left
           ·intro w'
            go_simp
            with_reducible rfl
           rotate_left
           ·simp only [Act.put, List.setIfInBounds_toArray, List.set_cons_zero, List.set_cons_succ, i64_w, i32_w]
            rfl
           refine last_ (i := 13) (N := none) #[true, true, true, true, true, true, true, true, true, true, true, true, true, true] rfl rfl (one_of HT_.out (by kernel_rfl)) (by decide) (fun K hK => ?_)
           have hs32 : w27.cell? ⟨gb223, 1, none⟩ = some (u224001) := (Zc BK223.out 1).trans rfl
           have hfs32 := Zf BK223.out 1
           have hns32_0 := NB213_223.out
           have hms32_0 := NB223_213.out
           refine skip_ (w1 := ?_) (by rfl) rfl ?_ ?_
           rotate_left
           ·go_simp
            rfl
           refine hK.out _ _ ?_
           clear hK K
           refine done_ (done_of HT_.out (by kernel_rfl)) ?_
           try go_wp2
           go_roundg k2
           case measure => have := HJ1.out; have := HK2.out; omega
           case rel => exact ⟨(wrap64 (x6_2 + 1)), (y237), (.slice Ao31 y237.length co31), (by first | rfl | (simp; done) | (simp [*]; done)), H', ⟨by have := HJ1.out; have := HK2.out; omega⟩, ⟨by (with_reducible repeat (first | apply Kd.Sa_ | apply Kd.Sn_ | apply Kd.Sw_)); exact Kd.Sm_ (Kd.Sf_ (p := ⟨gb223, 1, none⟩) (Kd.S_types HO_224000.out BK223.out (by decide)) (fun _ hk => hk.2) (.slice Ao31 y237.length co31)) (fun _ hk => trivial)⟩, ⟨by (with_reducible repeat (first | apply Kd.Ra_ | apply Kd.Rn_ | apply Kd.Rw_)); exact Kd.Rm_ (Kd.Rf_ (p := ⟨gb223, 1, none⟩) (Kd.R_types HO239.out BK223.out (by decide)) (fun _ hk => hk.2) (.slice Ao31 y237.length co31)) (fun _ hk => hk.1)⟩, ⟨by (with_reducible repeat (first | refine Zn ?_ _ | refine Zw ?_ | refine Za ?_ _)); refine blk_far ?_ NB213_223.out _; (with_reducible repeat (first | refine Zn ?_ _ | refine Zw ?_ | refine Za ?_ _)); exact BK213.out⟩, ⟨by (with_reducible repeat (first | refine Zn ?_ _ | refine Zw ?_ | refine Za ?_ _)); refine Zp (cs := #[.slice Ao13 t216.length co13, u224001, .int .i64 t222]) ?_ 1 _ rfl; (with_reducible repeat (first | refine Zn ?_ _ | refine Zw ?_ | refine Za ?_ _)); exact BK223.out⟩, ⟨by repeat (first | (with_reducible first | exact HB.out | apply Ya | apply Yn | apply Yw | refine Ys ?_ GE213.out | refine Ys ?_ GE223.out) | exact HB.out)⟩⟩
          ·rw [if_neg c23] at H
           exact absurd H (by simp)
         ·rw [if_neg c21] at H
          exact absurd H (by simp)
        ·rw [if_neg c20] at H
         exact absurd H (by simp)
       ·rw [if_neg c19] at H
        exact absurd H (by simp)
      ·rw [if_neg c17] at H
       have c17b0 : decide (x6_2 < (wrap64 ((l0.length : Int) / 6))) = false := decide_eq_false c17
       clear c17
       simp only [Option.some.injEq, Prod.mk.injEq] at H
       obtain ⟨rfl, rfl, rfl, rfl⟩ := H
       have hnb33 := NB223_213.out
       have hnc33 := NB213_223.out
       have hcz34_0 : wr.cell? ⟨gb223, 0, none⟩ = some (.slice Ao13 t216.length co13) := (Zc BK223.out 0).trans rfl
       have hcz34_1 : wr.cell? ⟨gb223, 1, none⟩ = some (u224001) := (Zc BK223.out 1).trans rfl
       have hcz34_2 : wr.cell? ⟨gb223, 2, none⟩ = some (.int .i64 t222) := (Zc BK223.out 2).trans rfl
       have hfz34_0 := Zf BK223.out 0
       have hfz34_1 := Zf BK223.out 1
       have hfz34_2 := Zf BK223.out 2
       have hcz35_0 : wr.cell? ⟨gb213, 0, none⟩ = some (.slice none 0 0) := (Zc BK213.out 0).trans rfl
       have hcz35_1 : wr.cell? ⟨gb213, 1, none⟩ = some (.slice none 0 0) := (Zc BK213.out 1).trans rfl
       have hcz35_2 : wr.cell? ⟨gb213, 2, none⟩ = some (.int .i64 0) := (Zc BK213.out 2).trans rfl
       have hfz35_0 := Zf BK213.out 0
       have hfz35_1 := Zf BK213.out 1
       have hfz35_2 := Zf BK213.out 2
       obtain ⟨Ao36, co36, eo36⟩ := Kd.Rs_ HO_224001.out
       subst eo36
       go_wp2
       refine bodyPost_ret (results_ct rfl _ _ gb213 35 #[.slice Ao13 t216.length co13, .slice Ao36 x224001_2.length co36, .int .i64 t222] (0, 0) _ rfl (by (with_reducible repeat (first | refine Zn ?_ _ | refine Zw ?_ | refine Za ?_ _)); refine Zp (cs := #[.slice Ao13 t216.length co13, .slice Ao36 x224001_2.length co36, .int .i64 0]) ?_ 2 _ rfl; (with_reducible repeat (first | refine Zn ?_ _ | refine Zw ?_ | refine Za ?_ _)); refine Zp (cs := #[.slice Ao13 t216.length co13, .slice none 0 0, .int .i64 0]) ?_ 1 _ rfl; (with_reducible repeat (first | refine Zn ?_ _ | refine Zw ?_ | refine Za ?_ _)); refine Zp (cs := #[.slice none 0 0, .slice none 0 0, .int .i64 0]) ?_ 0 _ rfl; (with_reducible repeat (first | refine Zn ?_ _ | refine Zw ?_ | refine Za ?_ _)); exact BK213.out) Try.underlying35 rfl (by kernel_rfl)) rfl ?_
       exact ⟨_, _, by first | rfl | (simp [errW_none, errW_some] <;> rfl) | (simp [*, errW_none, errW_some] <;> rfl), by (with_reducible repeat (first | apply Kd.Sa_ | apply Kd.Sn_ | apply Kd.Sw_)); exact Kd.Sm_ (Kd.Sf_ (p := ⟨gb213, 2, none⟩) (Kd.Sf_ (p := ⟨gb213, 1, none⟩) (Kd.Sf_ (p := ⟨gb213, 0, none⟩) (Kd.S_types HO_224000.out BK213.out (by decide)) (fun _ hk => hk.2) (.slice Ao13 t216.length co13)) (fun _ hk => hk.2) (.slice Ao36 x224001_2.length co36)) (fun _ hk => hk.2) (.int .i64 t222)) (fun _ hk => trivial), by (with_reducible repeat (first | apply Kd.Ra_ | apply Kd.Rn_ | apply Kd.Rw_)); exact Kd.Rm_ (Kd.Rf_ (p := ⟨gb213, 2, none⟩) (Kd.Rf_ (p := ⟨gb213, 1, none⟩) (Kd.Rf_ (p := ⟨gb213, 0, none⟩) (Kd.R_types HO_224001.out BK213.out (by decide)) (fun _ hk => hk.2) (.slice Ao13 t216.length co13)) (fun _ hk => hk.2) (.slice Ao36 x224001_2.length co36)) (fun _ hk => hk.2) (.int .i64 t222)) (fun _ hk => hk.1), by repeat (first | (with_reducible first | exact HB.out | apply Ya | apply Yn | apply Yw | refine Ys ?_ GE213.out | refine Ys ?_ GE223.out) | exact HB.out)⟩

/-! ### impl_within: function 53 -/
def impl_within.f (a0 : Int) (a1 : Int) (a2 : Int) : Option (Bool) := if a0 ≥ a1 then (some (decide (a0 ≤ a2))) else (some false)
set_option maxHeartbeats 8000000 in
set_option maxRecDepth 100000 in
theorem impl_within.calls (a0 : Int) (a1 : Int) (a2 : Int) (r : Bool) (w : World) (h : impl_within.f a0 a1 a2 = some r) :
  Calls Try.prog 53 #[.int .i64 a0, .int .i64 a1, .int .i64 a2] w fun e w' => e = .returned (.bool r) ∧ Drawn0 w w' := by
 have H : (if a0 ≥ a1 then (some (decide (a0 ≤ a2))) else (some false)) = some r := h
 clear h
 by_cases c4 : a0 ≥ a1
 ·rw [if_pos c4] at H
  have c4b0 : decide (a1 ≤ a0) = true := decide_eq_true c4
  clear c4
  obtain rfl := Option.some.inj H
  go_enter Try.func53, Try.ntmps53
  go_wp2
  go_ret
  exact ⟨by first | rfl | (simp; done) | (simp [*]; done), by repeat (first | exact Drawn0.refl _ | apply Drawn0.step)⟩
 ·rw [if_neg c4] at H
  have c4b0 : decide (a1 ≤ a0) = false := decide_eq_false c4
  clear c4
  obtain rfl := Option.some.inj H
  go_enter Try.func53, Try.ntmps53
  go_wp2
  go_ret
  exact ⟨by first | rfl | (simp; done) | (simp [*]; done), by repeat (first | exact Drawn0.refl _ | apply Drawn0.step)⟩

/-! ### impl_pageOk: function 83 -/
def impl_pageOk.l0 : Nat → List Int → List Int → Int → Int → Option (Bool)
 | 0, _, _, _, _ => none
 | k + 1, x0, x5, x6, x7 => if x7 < x6 then (if 0 ≤ x7 then (if x7 < (x5.length : Int) then ((impl_within.f (rd x5 x7) 0 63).bind fun t241 => (if t241 = true then (impl_pageOk.l0 k x0 x5 x6 (wrap64 (x7 + 1))) else (some false))) else (none)) else (none)) else (some ((x0.length : Int) == 4))
def impl_pageOk.f (k : Nat) (l0 : List Int) : Option (Bool) := impl_pageOk.l0 k l0 l0 (l0.length : Int) 0
set_option maxHeartbeats 8000000 in
set_option maxRecDepth 100000 in
theorem impl_pageOk.calls (k : Nat) (A0 : Option Addr) (c0 : Nat) (l0 : List Int) (r : Bool) (w : World) (hr0 : Kd.C (Kd.int .i64) w A0 l0.length l0) (hc0 : l0.length ≤ c0) (h : impl_pageOk.f k l0 = some r) :
  Calls Try.prog 83 #[.slice A0 l0.length c0] w fun e w' => e = .returned (.bool r) ∧ Drawn0 w w' := by
 have HR0 := Az.mk hr0
 have HC0 := Az.mk hc0
 clear hr0 hc0
 have H : (impl_pageOk.l0 k l0 l0 (l0.length : Int) 0) = some r := h
 clear h
 have H' := Az.mk H
 clear H
 go_enter Try.func83, Try.ntmps83
 go_wp2
 go_loopg [7] k (fun kq v7 w' => ∃ (x7_1 : Int), v7 = .int .i64 x7_1 ∧ Az (impl_pageOk.l0 kq l0 l0 (l0.length : Int) x7_1 = some r) ∧ Az (kq ≤ k) ∧ Drawn0 w w')
 case atStart => exact ⟨(0), (by first | rfl | (simp; done) | (simp [*]; done)), H', ⟨Nat.le_refl _⟩, by repeat (first | exact Drawn0.refl _ | apply Drawn0.step)⟩
 case round =>
  clear H'
  obtain ⟨x7_1, rfl, HA, HK1, ⟨m1, rfl⟩⟩ := hrel
  cases gk with
  | zero => exact absurd HA.out (by simp [impl_pageOk.l0])
  | succ k1 =>
   have H := HA.out
   clear HA
   simp only [impl_pageOk.l0] at H
   by_cases c2 : x7_1 < (l0.length : Int)
   ·rw [if_pos c2] at H
    have c2b0 : decide (x7_1 < (l0.length : Int)) = true := decide_eq_true c2
    clear c2
    by_cases c3 : 0 ≤ x7_1
    ·rw [if_pos c3] at H
     have c3b0 : decide (0 ≤ x7_1) = true := decide_eq_true c3
     clear c3
     by_cases c4 : x7_1 < (l0.length : Int)
     ·rw [if_pos c4] at H
      have c4b0 : decide (x7_1 < (l0.length : Int)) = true := decide_eq_true c4
      clear c4
      replace H := Option.bind_eq_some_iff.mp H
      obtain ⟨t241, A50, H⟩ := H
      replace H : (if t241 = true then (impl_pageOk.l0 k1 l0 l0 (l0.length : Int) (wrap64 (x7_1 + 1))) else (some false)) = some r := H
      have A5 := Az.mk A50
      clear A50
      by_cases c6 : t241 = true
      ·subst c6
       have H1 : (impl_pageOk.l0 k1 l0 l0 (l0.length : Int) (wrap64 (x7_1 + 1))) = some r := by rw [if_pos rfl] at H; exact H
       clear H
       have H := H1
       clear H1
       have H' := Az.mk H
       clear H
       have p240 : 0 ≤ (x7_1 : Int) := of_decide_eq_true (by first | (with_reducible assumption) | assumption)
       have q240 : x7_1 < (l0.length : Int) := of_decide_eq_true (by first | (with_reducible assumption) | assumption)
       obtain ⟨ad240, e240, hx240_0⟩ := Kd.at_int HR0.out x7_1 p240 q240
       cases e240
       replace p240 := eq_true p240
       replace q240 := eq_true q240
       go_wp2_with (first | ((with_reducible refine Yc (f := 53) rfl ?_); refine Yg (some 12) rfl rfl Try.func53 (by kernel_rfl) rfl #[.int .i64 (rd l0 x7_1), .int .i64 0, .int .i64 63] rfl (by (try simp only [List.map_toArray, List.map_cons, List.map_nil]); first | done | rfl | (simp only [List.length_drop, List.length_take]; rfl)) ?_; (with_reducible refine (impl_within.calls (rd l0 x7_1) 0 63 true _ A5.out).mono ?_); rintro e w' ⟨rfl, ⟨nd, rfl⟩⟩; refine ⟨_, rfl, ?_⟩))
       go_roundg k1
       case measure => have := HK1.out; omega
       case rel => exact ⟨(wrap64 (x7_1 + 1)), (by first | rfl | (simp; done) | (simp [*]; done)), H', ⟨by have := HK1.out; omega⟩, by repeat (first | exact Drawn0.refl _ | apply Drawn0.step)⟩
      ·replace c6 := Bool.eq_false_iff.mpr c6
       subst c6
       have H1 : (some false) = some r := by rw [if_neg (show ¬ (false = true) by decide)] at H; exact H
       clear H
       have H := H1
       clear H1
       obtain rfl := Option.some.inj H
       have p240 : 0 ≤ (x7_1 : Int) := of_decide_eq_true (by first | (with_reducible assumption) | assumption)
       have q240 : x7_1 < (l0.length : Int) := of_decide_eq_true (by first | (with_reducible assumption) | assumption)
       obtain ⟨ad240, e240, hx240_0⟩ := Kd.at_int HR0.out x7_1 p240 q240
       cases e240
       replace p240 := eq_true p240
       replace q240 := eq_true q240
       go_wp2_with (first | ((with_reducible refine Yc (f := 53) rfl ?_); refine Yg (some 12) rfl rfl Try.func53 (by kernel_rfl) rfl #[.int .i64 (rd l0 x7_1), .int .i64 0, .int .i64 63] rfl (by (try simp only [List.map_toArray, List.map_cons, List.map_nil]); first | done | rfl | (simp only [List.length_drop, List.length_take]; rfl)) ?_; (with_reducible refine (impl_within.calls (rd l0 x7_1) 0 63 false _ A5.out).mono ?_); rintro e w' ⟨rfl, ⟨nd, rfl⟩⟩; refine ⟨_, rfl, ?_⟩))
       go_ret
       exact ⟨by first | rfl | (simp; done) | (simp [*]; done), by repeat (first | exact Drawn0.refl _ | apply Drawn0.step)⟩
     ·rw [if_neg c4] at H
      exact absurd H (by simp)
    ·rw [if_neg c3] at H
     exact absurd H (by simp)
   ·rw [if_neg c2] at H
    have c2b0 : decide (x7_1 < (l0.length : Int)) = false := decide_eq_false c2
    clear c2
    obtain rfl := Option.some.inj H
    go_wp2
    go_ret
    exact ⟨by first | rfl | (simp; done) | (simp [*]; done), by repeat (first | exact Drawn0.refl _ | apply Drawn0.step)⟩

/-! ### impl_MemOk: function 52 -/
def impl_MemOk.l0 : Nat → List (List Int) → Int → Int → Option (Bool)
 | 0, _, _, _ => none
 | k + 1, x5, x6, x7 => if x7 < x6 then (if 0 ≤ x7 then (if x7 < (x5.length : Int) then ((impl_pageOk.f k (rd_L1 x5 x7)).bind fun t243 => (if t243 = true then (impl_MemOk.l0 k x5 x6 (wrap64 (x7 + 1))) else (some false))) else (none)) else (none)) else (some true)
def impl_MemOk.f (k : Nat) (l0 : List (List Int)) : Option (Bool) := impl_MemOk.l0 k l0 (l0.length : Int) 0
set_option maxHeartbeats 8000000 in
set_option maxRecDepth 100000 in
theorem impl_MemOk.calls (k : Nat) (A0 : Option Addr) (c0 : Nat) (l0 : List (List Int)) (r : Bool) (w : World) (hr0 : Kd.C (Kd.slice 3 (Kd.int .i64)) w A0 l0.length l0) (hc0 : l0.length ≤ c0) (h : impl_MemOk.f k l0 = some r) :
  Calls Try.prog 52 #[.slice A0 l0.length c0] w fun e w' => e = .returned (.bool r) ∧ Drawn0 w w' := by
 have HR0 := Az.mk hr0
 have HC0 := Az.mk hc0
 clear hr0 hc0
 have H : (impl_MemOk.l0 k l0 (l0.length : Int) 0) = some r := h
 clear h
 have H' := Az.mk H
 clear H
 go_enter Try.func52, Try.ntmps52
 go_wp2
 go_loopg [7] k (fun kq v7 w' => ∃ (x7_1 : Int), v7 = .int .i64 x7_1 ∧ Az (impl_MemOk.l0 kq l0 (l0.length : Int) x7_1 = some r) ∧ Az (kq ≤ k) ∧ Drawn0 w w')
 case atStart => exact ⟨(0), (by first | rfl | (simp; done) | (simp [*]; done)), H', ⟨Nat.le_refl _⟩, by repeat (first | exact Drawn0.refl _ | apply Drawn0.step)⟩
 case round =>
  clear H'
  obtain ⟨x7_1, rfl, HA, HK1, ⟨m1, rfl⟩⟩ := hrel
  cases gk with
  | zero => exact absurd HA.out (by simp [impl_MemOk.l0])
  | succ k1 =>
   have H := HA.out
   clear HA
   simp only [impl_MemOk.l0] at H
   by_cases c2 : x7_1 < (l0.length : Int)
   ·rw [if_pos c2] at H
    have c2b0 : decide (x7_1 < (l0.length : Int)) = true := decide_eq_true c2
    clear c2
    by_cases c3 : 0 ≤ x7_1
    ·rw [if_pos c3] at H
     have c3b0 : decide (0 ≤ x7_1) = true := decide_eq_true c3
     clear c3
     by_cases c4 : x7_1 < (l0.length : Int)
     ·rw [if_pos c4] at H
      have c4b0 : decide (x7_1 < (l0.length : Int)) = true := decide_eq_true c4
      clear c4
      replace H := Option.bind_eq_some_iff.mp H
      obtain ⟨t243, A50, H⟩ := H
      replace H : (if t243 = true then (impl_MemOk.l0 k1 l0 (l0.length : Int) (wrap64 (x7_1 + 1))) else (some false)) = some r := H
      have A5 := Az.mk A50
      clear A50
      by_cases c6 : t243 = true
      ·subst c6
       have H1 : (impl_MemOk.l0 k1 l0 (l0.length : Int) (wrap64 (x7_1 + 1))) = some r := by rw [if_pos rfl] at H; exact H
       clear H
       have H := H1
       clear H1
       have H' := Az.mk H
       clear H
       have p242 : 0 ≤ (x7_1 : Int) := of_decide_eq_true (by first | (with_reducible assumption) | assumption)
       have q242 : x7_1 < (l0.length : Int) := of_decide_eq_true (by first | (with_reducible assumption) | assumption)
       obtain ⟨ad242, A242_0, c242_0, e242, hx242_0, hl242_0, hi242_0⟩ := at_L1 HR0.out x7_1 p242 q242
       cases e242
       have HR242_0 := Az.mk hi242_0
       have HC242_0 := Az.mk hl242_0
       clear hi242_0 hl242_0
       replace p242 := eq_true p242
       replace q242 := eq_true q242
       go_wp2_with (first | ((with_reducible refine Yc (f := 83) rfl ?_); refine Yg (some 12) rfl rfl Try.func83 (by kernel_rfl) rfl #[.slice A242_0 (rd_L1 l0 x7_1).length c242_0] rfl (by (try simp only [List.map_toArray, List.map_cons, List.map_nil]); first | done | rfl | (simp only [List.length_drop, List.length_take]; rfl)) ?_; (with_reducible refine (impl_pageOk.calls k1 _ _ (rd_L1 l0 x7_1) true _ ?side1 ?side2 A5.out).mono ?_); (case side1 => repeat (first | exact HR242_0.out | (with_reducible refine Kd.Ca_ ?_ _) | (with_reducible refine Kd.Cn_ ?_ _) | (with_reducible refine Kd.Cw_ ?_))); (case side2 => exact HC242_0.out); rintro e w' ⟨rfl, ⟨nd, rfl⟩⟩; refine ⟨_, rfl, ?_⟩))
       go_roundg k1
       case measure => have := HK1.out; omega
       case rel => exact ⟨(wrap64 (x7_1 + 1)), (by first | rfl | (simp; done) | (simp [*]; done)), H', ⟨by have := HK1.out; omega⟩, by repeat (first | exact Drawn0.refl _ | apply Drawn0.step)⟩
      ·replace c6 := Bool.eq_false_iff.mpr c6
       subst c6
       have H1 : (some false) = some r := by rw [if_neg (show ¬ (false = true) by decide)] at H; exact H
       clear H
       have H := H1
       clear H1
       obtain rfl := Option.some.inj H
       have p242 : 0 ≤ (x7_1 : Int) := of_decide_eq_true (by first | (with_reducible assumption) | assumption)
       have q242 : x7_1 < (l0.length : Int) := of_decide_eq_true (by first | (with_reducible assumption) | assumption)
       obtain ⟨ad242, A242_0, c242_0, e242, hx242_0, hl242_0, hi242_0⟩ := at_L1 HR0.out x7_1 p242 q242
       cases e242
       have HR242_0 := Az.mk hi242_0
       have HC242_0 := Az.mk hl242_0
       clear hi242_0 hl242_0
       replace p242 := eq_true p242
       replace q242 := eq_true q242
       go_wp2_with (first | ((with_reducible refine Yc (f := 83) rfl ?_); refine Yg (some 12) rfl rfl Try.func83 (by kernel_rfl) rfl #[.slice A242_0 (rd_L1 l0 x7_1).length c242_0] rfl (by (try simp only [List.map_toArray, List.map_cons, List.map_nil]); first | done | rfl | (simp only [List.length_drop, List.length_take]; rfl)) ?_; (with_reducible refine (impl_pageOk.calls k1 _ _ (rd_L1 l0 x7_1) false _ ?side1 ?side2 A5.out).mono ?_); (case side1 => repeat (first | exact HR242_0.out | (with_reducible refine Kd.Ca_ ?_ _) | (with_reducible refine Kd.Cn_ ?_ _) | (with_reducible refine Kd.Cw_ ?_))); (case side2 => exact HC242_0.out); rintro e w' ⟨rfl, ⟨nd, rfl⟩⟩; refine ⟨_, rfl, ?_⟩))
       go_ret
       exact ⟨by first | rfl | (simp; done) | (simp [*]; done), by repeat (first | exact Drawn0.refl _ | apply Drawn0.step)⟩
     ·rw [if_neg c4] at H
      exact absurd H (by simp)
    ·rw [if_neg c3] at H
     exact absurd H (by simp)
   ·rw [if_neg c2] at H
    have c2b0 : decide (x7_1 < (l0.length : Int)) = false := decide_eq_false c2
    clear c2
    obtain rfl := Option.some.inj H
    go_wp2
    go_ret
    exact ⟨by first | rfl | (simp; done) | (simp [*]; done), by repeat (first | exact Drawn0.refl _ | apply Drawn0.step)⟩

end Go.Proofs.Ytfamknibfokfmaa.QFnLoadBad
