/- Walks of this claim: each Go function that the law reaches comes to what the Lean function beside it says. Conditions: none beyond those that each theorem names. -/
import Derived.Test.YtfamknibfokfmaaVFnExactHostOkx0
import Derived.Test.YtfamknibfokfmaaVFnExactHostOkx8
import Derived.Test.YtfamknibfokfmaaVFnExactHostOkx9
namespace Go.Proofs.Ytfamknibfokfmaa.QFnExactHostOk
open Go.RowKit Go.Proofs.YtfamknibfokfmaaW.PrintWords Go.Proofs.YtfamknibfokfmaaW.PrintLast Go.Proofs.YtfamknibfokfmaaW.PrintMore
attribute [local go_sem] max2_int min2_int max_two min_two max_three min_three max_four min_four   -- for this text's walks alone
set_option linter.unusedVariables false
set_option linter.unusedSimpArgs false

/-! ### spec_HostOk: function 40 -/
mutual
def spec_HostOk.j0 : Nat → Bool → List (List Int) → List (S74) → Int → Option (Bool)
 | 0, _, _, _, _ => none
 | k + 1, x30, x193000, x193001, x193002 => if x30 = true then (some false) else (spec_HostOk.l0 k 0 x193000 x193001 x193002)
def spec_HostOk.l0 : Nat → Int → List (List Int) → List (S74) → Int → Option (Bool)
 | 0, _, _, _, _ => none
 | k + 1, x3, x193000, x193001, x193002 => if x3 < (x193001.length : Int) then (if 0 ≤ x3 then (if (((rd_T74 x193001 x3).f0).length : Int) = 6 then (if (((rd_T74 x193001 x3).f2).length : Int) = 6 then ((spec_l11Guest.f k ((rd_T74 x193001 x3).f1)).bind fun t198 => (if t198 = true then (spec_HostOk.l0 k (wrap64 (x3 + 1)) x193000 x193001 x193002) else (some false))) else (some false)) else (some false)) else (none)) else (spec_HostOk.l1 k 0 x193000 x193001 x193002)
def spec_HostOk.l1 : Nat → Int → List (List Int) → List (S74) → Int → Option (Bool)
 | 0, _, _, _, _ => none
 | k + 1, x5, x193000, x193001, x193002 => if x5 < (x193001.length : Int) then (if 0 ≤ x5 then (spec_HostOk.l2 k x5 0 x193000 x193001 x193002 ((rd_T74 x193001 x5).f0) ((rd_T74 x193001 x5).f1) ((rd_T74 x193001 x5).f2)) else (none)) else (some true)
def spec_HostOk.l2 : Nat → Int → Int → List (List Int) → List (S74) → Int → List (S87) → List (List Int) → List (S90) → Option (Bool)
 | 0, _, _, _, _, _, _, _, _ => none
 | k + 1, x5, x7, x193000, x193001, x193002, x201000, x201001, x201002 => if x7 < 6 then (if 0 ≤ x7 then (if x7 < (x201000.length : Int) then (if x7 < (x201001.length : Int) then ((spec_l12MapOk.f k x193000 x193001 x193002 ((rd_T87 x201000 x7).f0) ((rd_T87 x201000 x7).f1) ((rd_T87 x201000 x7).f2) (rd_L1 x201001 x7)).bind fun t203 => (if t203 = true then (if x7 < (x201002.length : Int) then ((spec_l12ShadeOk.f x201000 x201001 x201002 ((rd_T90 x201002 x7).f0) ((rd_T90 x201002 x7).f1) ((rd_T90 x201002 x7).f2) ((rd_T90 x201002 x7).f3)).bind fun t205 => (if t205 = true then (spec_HostOk.l2 k x5 (wrap64 (x7 + 1)) x193000 x193001 x193002 x201000 x201001 x201002) else (some false))) else (none)) else (some false))) else (none)) else (none)) else (none)) else (spec_HostOk.l1 k (wrap64 (x5 + 1)) x193000 x193001 x193002)
end
def spec_HostOk.f (k : Nat) (l0_0 : List (List Int)) (l0_1 : List (S74)) (a0_2 : Int) : Option (Bool) := (spec_MemOk.f k l0_0).bind fun t193 => (if t193 = true then (if (l0_0.length : Int) = 8 then ((spec_l6In.f (l0_1.length : Int) 1 2).bind fun t194 => (if t194 = true then ((spec_l6In.f a0_2 0 7).bind fun t195 => (spec_HostOk.j0 k (!t195) l0_0 l0_1 a0_2)) else (spec_HostOk.j0 k true l0_0 l0_1 a0_2))) else (spec_HostOk.j0 k true l0_0 l0_1 a0_2)) else (spec_HostOk.j0 k true l0_0 l0_1 a0_2))
def spec_HostOk.T16 : Bool × List (List Nat × List Nat) := (true, [([], []), ([], []), ([1], [1]), ([], []), ([2, 3], [2, 3]), ([4], [4]), ([], []), ([6], [6]), ([], []), ([7, 8], [7, 8]), ([9], [9]), ([0, 5, 10], [0, 5, 10]), ([11], [11]), ([12, 11], [12]), ([13], [13]), ([13], [13]), ([15, 13], [13, 15]), ([13], [13]), ([16, 17, 13], [13, 16, 17]), ([18, 13], [13, 18]), ([14, 19, 13, 13], [13, 14, 19]), ([20, 13], [13, 20]), ([13, 21], [13, 21])])
def spec_HostOk.B16 : List Nat := [0, 0, 2, 0, 14, 30, 0, 64, 0, 448, 960, 2047, 4095, 8191, 16383, 16383, 49151, 16383, 245759, 507903, 1048575, 2097151, 4194303]
theorem spec_HostOk.tab16 : rtab .any (opsOf Try.f40 16) = spec_HostOk.T16 := by kernel_rfl
theorem spec_HostOk.bits16 : waitsOk spec_HostOk.T16.2 spec_HostOk.B16 = true := by kernel_rfl
set_option maxHeartbeats 8000000 in
set_option maxRecDepth 100000 in
theorem spec_HostOk.calls (k : Nat) (A0_0 : Option Addr) (c0_0 : Nat) (l0_0 : List (List Int)) (A0_1 : Option Addr) (c0_1 : Nat) (l0_1 : List (S74)) (a0_2 : Int) (r : Bool) (w : World) (hr0_0 : Kd.C (Kd.slice 3 (Kd.int .i64)) w A0_0 l0_0.length l0_0) (hc0_0 : l0_0.length ≤ c0_0) (hr0_1 : Kd.C k74 w A0_1 l0_1.length l0_1) (hc0_1 : l0_1.length ≤ c0_1) (h : spec_HostOk.f k l0_0 l0_1 a0_2 = some r) :
  Calls Try.prog 40 #[.agg #[.slice A0_0 l0_0.length c0_0, .slice A0_1 l0_1.length c0_1, .int .i64 a0_2]] w fun e w' => e = .returned (.bool r) ∧ Below w.heap.size w w' := by
 have hu35 := Try.underlying35
 have hu74 := Try.underlying74
 have hu87 := Try.underlying87
 have hu90 := Try.underlying90
 have HR0_0 := Az.mk hr0_0
 have HC0_0 := Az.mk hc0_0
 clear hr0_0 hc0_0
 have HR0_1 := Az.mk hr0_1
 have HC0_1 := Az.mk hc0_1
 clear hr0_1 hc0_1
 have HB := Az.mk (Below.refl w.heap.size w)
 have H : ((spec_MemOk.f k l0_0).bind fun t193 => (if t193 = true then (if (l0_0.length : Int) = 8 then ((spec_l6In.f (l0_1.length : Int) 1 2).bind fun t194 => (if t194 = true then ((spec_l6In.f a0_2 0 7).bind fun t195 => (spec_HostOk.j0 k (!t195) l0_0 l0_1 a0_2)) else (spec_HostOk.j0 k true l0_0 l0_1 a0_2))) else (spec_HostOk.j0 k true l0_0 l0_1 a0_2)) else (spec_HostOk.j0 k true l0_0 l0_1 a0_2))) = some r := h
 clear h
 have HC2 := Az.mk H
 clear H
 go_enter Try.func40, Try.ntmps40
 go_upto_region 1 with (first | ((with_reducible refine Yd (N := 1) rfl ?_); (try (refine Ye (by rfl) ?_; dsimp only)); refine Yv ?hg (N := 1) ?hd (cs := #[.slice A0_0 l0_0.length c0_0, .slice A0_1 l0_1.length c0_1, .int .i64 a0_2]) (t := 35) ?hr ?_; (case hd => rfl); (case hg => rfl); (case hr => first | (go_simp; done) | (go_simp; rfl)); intro gb192 hg w3 hbox hb; have n0_ := Az.mk (Yt (by repeat (first | (with_reducible first | exact HB.out | apply Ya | apply Yn | apply Yw) | exact HB.out)) hb); have n1_ := Az.mk (hbox); have n2_ := Az.mk ((by rw [hg]; exact (Yz (by repeat (first | (with_reducible first | exact HB.out | apply Ya | apply Yn | apply Yw) | exact HB.out))) : w.heap.size ≤ gb192)); have n3_ := Az.mk ((by rw [hg]; exact (Yz (by repeat (first | (with_reducible first | exact HB.out | apply Ya | apply Yn | apply Yw) | exact HB.out))) : w.heap.size ≤ gb192)); clear HB; have HB := n0_; have BK192 := n1_; have GW192 := n2_; have GE192 := n3_; clear n0_ n1_ n2_ n3_; clear hb hbox hg))
 (try simp only [Act.put, List.setIfInBounds_toArray, List.set_cons_zero, List.set_cons_succ])
 go_cut [30] (fun v30 wc => ∃ (kq : Nat) (x30_1 : Bool), v30 = .bool x30_1 ∧ Az (spec_HostOk.j0 kq x30_1 l0_0 l0_1 a0_2 = some r) ∧ Az (kq ≤ k) ∧ Az (wc.heap[gb192]? = some (.cells #[(.slice A0_0 l0_0.length c0_0), (.slice A0_1 l0_1.length c0_1), .int .i64 a0_2] 35 (0, 0))) ∧ Az (Below w.heap.size w wc))
 case first =>
  have H := HC2.out
  clear HC2
  replace H := Option.bind_eq_some_iff.mp H
  obtain ⟨t193, A40, H⟩ := H
  replace H : (if t193 = true then (if (l0_0.length : Int) = 8 then ((spec_l6In.f (l0_1.length : Int) 1 2).bind fun t194 => (if t194 = true then ((spec_l6In.f a0_2 0 7).bind fun t195 => (spec_HostOk.j0 k (!t195) l0_0 l0_1 a0_2)) else (spec_HostOk.j0 k true l0_0 l0_1 a0_2))) else (spec_HostOk.j0 k true l0_0 l0_1 a0_2)) else (spec_HostOk.j0 k true l0_0 l0_1 a0_2)) = some r := H
  have A4 := Az.mk A40
  clear A40
  by_cases c5 : t193 = true
  ·subst c5
   have H1 : (if (l0_0.length : Int) = 8 then ((spec_l6In.f (l0_1.length : Int) 1 2).bind fun t194 => (if t194 = true then ((spec_l6In.f a0_2 0 7).bind fun t195 => (spec_HostOk.j0 k (!t195) l0_0 l0_1 a0_2)) else (spec_HostOk.j0 k true l0_0 l0_1 a0_2))) else (spec_HostOk.j0 k true l0_0 l0_1 a0_2)) = some r := by rw [if_pos rfl] at H; exact H
   clear H
   have H := H1
   clear H1
   by_cases c6 : (l0_0.length : Int) = 8
   ·rw [if_pos c6] at H
    have c6b0 : ((l0_0.length : Int) == 8) = true := beq_iff_eq.mpr c6
    have c6b1 : ((l0_0.length : Int) != 8) = false := bne_eq_false_iff_eq.mpr c6
    clear c6
    (first | rw [c6b0] | (simp only [i64_w, i32_w]; rw [c6b0]) | skip)
    replace H := Option.bind_eq_some_iff.mp H
    obtain ⟨t194, A70, H⟩ := H
    replace H : (if t194 = true then ((spec_l6In.f a0_2 0 7).bind fun t195 => (spec_HostOk.j0 k (!t195) l0_0 l0_1 a0_2)) else (spec_HostOk.j0 k true l0_0 l0_1 a0_2)) = some r := H
    have A7 := Az.mk A70
    clear A70
    by_cases c8 : t194 = true
    ·subst c8
     have H1 : ((spec_l6In.f a0_2 0 7).bind fun t195 => (spec_HostOk.j0 k (!t195) l0_0 l0_1 a0_2)) = some r := by rw [if_pos rfl] at H; exact H
     clear H
     have H := H1
     clear H1
     replace H := Option.bind_eq_some_iff.mp H
     obtain ⟨t195, A90, H⟩ := H
     replace H : (spec_HostOk.j0 k (!t195) l0_0 l0_1 a0_2) = some r := H
     have A9 := Az.mk A90
     clear A90
     have H' := Az.mk H
     clear H
     have hcz10_0 : w3.cell? ⟨gb192, 0, none⟩ = some (.slice A0_0 l0_0.length c0_0) := (Zc BK192.out 0).trans rfl
     have hcz10_1 : w3.cell? ⟨gb192, 1, none⟩ = some (.slice A0_1 l0_1.length c0_1) := (Zc BK192.out 1).trans rfl
     have hcz10_2 : w3.cell? ⟨gb192, 2, none⟩ = some (.int .i64 a0_2) := (Zc BK192.out 2).trans rfl
     have hfz10_0 := Zf BK192.out 0
     have hfz10_1 := Zf BK192.out 1
     have hfz10_2 := Zf BK192.out 2
     go_wp2_with (first | ((with_reducible refine Yc (f := 15) rfl ?_); refine Yg (some 10) rfl rfl Try.func15 (by kernel_rfl) rfl #[.slice A0_0 l0_0.length c0_0] rfl (by (try simp only [List.map_toArray, List.map_cons, List.map_nil]); first | done | rfl | (simp only [List.length_drop, List.length_take]; rfl)) ?_; (with_reducible refine (spec_MemOk.calls k _ _ l0_0 true _ ?side1 ?side2 A4.out).mono ?_); (case side1 => repeat (first | exact (Kd.Cb_ HR0_0.out HB.out) | exact HR0_0.out | (with_reducible refine Kd.Ca_ ?_ _) | (with_reducible refine Kd.Cn_ ?_ _) | (with_reducible refine Kd.Cw_ ?_))); (case side2 => exact HC0_0.out); rintro e w' ⟨rfl, ⟨nd, rfl⟩⟩; refine ⟨_, rfl, ?_⟩) | (go_at_call 59; (with_reducible refine (spec_l6In.calls (l0_1.length : Int) 1 2 true _ A7.out).mono ?_); rintro e w' ⟨rfl, ⟨nd, rfl⟩⟩) | (go_at_call 59; (with_reducible refine (spec_l6In.calls a0_2 0 7 t195 _ A9.out).mono ?_); rintro e w' ⟨rfl, ⟨nd, rfl⟩⟩))
     go_meet
     case rel => exact ⟨_, (!t195), (by first | rfl | (simp; done) | (simp [*]; done)), H', ⟨by first | omega | exact Nat.le_refl _⟩, ⟨by (with_reducible repeat (first | refine Zn ?_ _ | refine Zw ?_ | refine Za ?_ _)); exact BK192.out⟩, ⟨by repeat (first | (with_reducible first | exact HB.out | apply Ya | apply Yn | apply Yw | refine Ys ?_ GE192.out) | exact HB.out)⟩⟩
    ·replace c8 := Bool.eq_false_iff.mpr c8
     subst c8
     have H1 : (spec_HostOk.j0 k true l0_0 l0_1 a0_2) = some r := by rw [if_neg (show ¬ (false = true) by decide)] at H; exact H
     clear H
     have H := H1
     clear H1
     have H' := Az.mk H
     clear H
     have hcz11_0 : w3.cell? ⟨gb192, 0, none⟩ = some (.slice A0_0 l0_0.length c0_0) := (Zc BK192.out 0).trans rfl
     have hcz11_1 : w3.cell? ⟨gb192, 1, none⟩ = some (.slice A0_1 l0_1.length c0_1) := (Zc BK192.out 1).trans rfl
     have hcz11_2 : w3.cell? ⟨gb192, 2, none⟩ = some (.int .i64 a0_2) := (Zc BK192.out 2).trans rfl
     have hfz11_0 := Zf BK192.out 0
     have hfz11_1 := Zf BK192.out 1
     have hfz11_2 := Zf BK192.out 2
     go_wp2_with (first | ((with_reducible refine Yc (f := 15) rfl ?_); refine Yg (some 10) rfl rfl Try.func15 (by kernel_rfl) rfl #[.slice A0_0 l0_0.length c0_0] rfl (by (try simp only [List.map_toArray, List.map_cons, List.map_nil]); first | done | rfl | (simp only [List.length_drop, List.length_take]; rfl)) ?_; (with_reducible refine (spec_MemOk.calls k _ _ l0_0 true _ ?side1 ?side2 A4.out).mono ?_); (case side1 => repeat (first | exact (Kd.Cb_ HR0_0.out HB.out) | exact HR0_0.out | (with_reducible refine Kd.Ca_ ?_ _) | (with_reducible refine Kd.Cn_ ?_ _) | (with_reducible refine Kd.Cw_ ?_))); (case side2 => exact HC0_0.out); rintro e w' ⟨rfl, ⟨nd, rfl⟩⟩; refine ⟨_, rfl, ?_⟩) | (go_at_call 59; (with_reducible refine (spec_l6In.calls (l0_1.length : Int) 1 2 false _ A7.out).mono ?_); rintro e w' ⟨rfl, ⟨nd, rfl⟩⟩))
     go_meet
     case rel => exact ⟨_, (true), (by first | rfl | (simp; done) | (simp [*]; done)), H', ⟨by first | omega | exact Nat.le_refl _⟩, ⟨by (with_reducible repeat (first | refine Zn ?_ _ | refine Zw ?_ | refine Za ?_ _)); exact BK192.out⟩, ⟨by repeat (first | (with_reducible first | exact HB.out | apply Ya | apply Yn | apply Yw | refine Ys ?_ GE192.out) | exact HB.out)⟩⟩
   ·rw [if_neg c6] at H
    have c6b0 : ((l0_0.length : Int) == 8) = false := beq_eq_false_iff_ne.mpr c6
    have c6b1 : ((l0_0.length : Int) != 8) = true := bne_iff_ne.mpr c6
    (first | rw [c6b0] | (simp only [i64_w, i32_w]; rw [c6b0]) | skip)
    have H' := Az.mk H
    clear H
    have hcz12_0 : w3.cell? ⟨gb192, 0, none⟩ = some (.slice A0_0 l0_0.length c0_0) := (Zc BK192.out 0).trans rfl
    have hcz12_1 : w3.cell? ⟨gb192, 1, none⟩ = some (.slice A0_1 l0_1.length c0_1) := (Zc BK192.out 1).trans rfl
    have hcz12_2 : w3.cell? ⟨gb192, 2, none⟩ = some (.int .i64 a0_2) := (Zc BK192.out 2).trans rfl
    have hfz12_0 := Zf BK192.out 0
    have hfz12_1 := Zf BK192.out 1
    have hfz12_2 := Zf BK192.out 2
    go_wp2_with (first | ((with_reducible refine Yc (f := 15) rfl ?_); refine Yg (some 10) rfl rfl Try.func15 (by kernel_rfl) rfl #[.slice A0_0 l0_0.length c0_0] rfl (by (try simp only [List.map_toArray, List.map_cons, List.map_nil]); first | done | rfl | (simp only [List.length_drop, List.length_take]; rfl)) ?_; (with_reducible refine (spec_MemOk.calls k _ _ l0_0 true _ ?side1 ?side2 A4.out).mono ?_); (case side1 => repeat (first | exact (Kd.Cb_ HR0_0.out HB.out) | exact HR0_0.out | (with_reducible refine Kd.Ca_ ?_ _) | (with_reducible refine Kd.Cn_ ?_ _) | (with_reducible refine Kd.Cw_ ?_))); (case side2 => exact HC0_0.out); rintro e w' ⟨rfl, ⟨nd, rfl⟩⟩; refine ⟨_, rfl, ?_⟩))
    go_meet
    case rel => exact ⟨_, (true), (by first | rfl | (simp; done) | (simp [*]; done)), H', ⟨by first | omega | exact Nat.le_refl _⟩, ⟨by (with_reducible repeat (first | refine Zn ?_ _ | refine Zw ?_ | refine Za ?_ _)); exact BK192.out⟩, ⟨by repeat (first | (with_reducible first | exact HB.out | apply Ya | apply Yn | apply Yw | refine Ys ?_ GE192.out) | exact HB.out)⟩⟩
  ·replace c5 := Bool.eq_false_iff.mpr c5
   subst c5
   have H1 : (spec_HostOk.j0 k true l0_0 l0_1 a0_2) = some r := by rw [if_neg (show ¬ (false = true) by decide)] at H; exact H
   clear H
   have H := H1
   clear H1
   have H' := Az.mk H
   clear H
   have hcz13_0 : w3.cell? ⟨gb192, 0, none⟩ = some (.slice A0_0 l0_0.length c0_0) := (Zc BK192.out 0).trans rfl
   have hcz13_1 : w3.cell? ⟨gb192, 1, none⟩ = some (.slice A0_1 l0_1.length c0_1) := (Zc BK192.out 1).trans rfl
   have hcz13_2 : w3.cell? ⟨gb192, 2, none⟩ = some (.int .i64 a0_2) := (Zc BK192.out 2).trans rfl
   have hfz13_0 := Zf BK192.out 0
   have hfz13_1 := Zf BK192.out 1
   have hfz13_2 := Zf BK192.out 2
   go_wp2_with (first | ((with_reducible refine Yc (f := 15) rfl ?_); refine Yg (some 10) rfl rfl Try.func15 (by kernel_rfl) rfl #[.slice A0_0 l0_0.length c0_0] rfl (by (try simp only [List.map_toArray, List.map_cons, List.map_nil]); first | done | rfl | (simp only [List.length_drop, List.length_take]; rfl)) ?_; (with_reducible refine (spec_MemOk.calls k _ _ l0_0 false _ ?side1 ?side2 A4.out).mono ?_); (case side1 => repeat (first | exact (Kd.Cb_ HR0_0.out HB.out) | exact HR0_0.out | (with_reducible refine Kd.Ca_ ?_ _) | (with_reducible refine Kd.Cn_ ?_ _) | (with_reducible refine Kd.Cw_ ?_))); (case side2 => exact HC0_0.out); rintro e w' ⟨rfl, ⟨nd, rfl⟩⟩; refine ⟨_, rfl, ?_⟩))
   go_meet
   case rel => exact ⟨_, (true), (by first | rfl | (simp; done) | (simp [*]; done)), H', ⟨by first | omega | exact Nat.le_refl _⟩, ⟨by (with_reducible repeat (first | refine Zn ?_ _ | refine Zw ?_ | refine Za ?_ _)); exact BK192.out⟩, ⟨by repeat (first | (with_reducible first | exact HB.out | apply Ya | apply Yn | apply Yw | refine Ys ?_ GE192.out) | exact HB.out)⟩⟩
 case rest =>
  clear HC2
  try clear c1
  try clear p2
  try clear c4
  try clear c5
  try clear c6
  try clear c6b0
  try clear c6b1
  try clear c8
  try clear hcz10_0
  try clear hcz10_1
  try clear hcz10_2
  try clear hcz11_0
  try clear hcz11_1
  try clear hcz11_2
  try clear hcz12_0
  try clear hcz12_1
  try clear hcz12_2
  try clear hcz13_0
  try clear hcz13_1
  try clear hcz13_2
  try clear hfz10_0
  try clear hfz10_1
  try clear hfz10_2
  try clear hfz11_0
  try clear hfz11_1
  try clear hfz11_2
  try clear hfz12_0
  try clear hfz12_1
  try clear hfz12_2
  try clear hfz13_0
  try clear hfz13_1
  try clear hfz13_2
  obtain ⟨kq, x30_1, rfl, HA, HJ1, BK192, HB⟩ := hcut
  cases kq with
  | zero => exact absurd HA.out (by simp [spec_HostOk.j0])
  | succ kj1 =>
   have H := HA.out
   clear HA
   simp only [spec_HostOk.j0] at H
   by_cases c14 : x30_1 = true
   ·subst c14
    have H1 : (some false) = some r := by rw [if_pos rfl] at H; exact H
    clear H
    have H := H1
    clear H1
    obtain rfl := Option.some.inj H
    go_wp2
    go_ret
    exact ⟨by first | rfl | (simp [errW_none, errW_some] <;> rfl) | (simp [*, errW_none, errW_some] <;> rfl), by repeat (first | (with_reducible first | exact HB.out | apply Ya | apply Yn | apply Yw | refine Ys ?_ GE192.out) | exact HB.out)⟩
   ·replace c14 := Bool.eq_false_iff.mpr c14
    subst c14
    have H1 : (spec_HostOk.l0 kj1 0 l0_0 l0_1 a0_2) = some r := by rw [if_neg (show ¬ (false = true) by decide)] at H; exact H
    clear H
    have H := H1
    clear H1
    have H' := Az.mk H
    clear H
    go_wp2
    go_loopg [3] kj1 (fun kq v3 w' => ∃ (x3_2 : Int), v3 = .int .i64 x3_2 ∧ Az (spec_HostOk.l0 kq x3_2 l0_0 l0_1 a0_2 = some r) ∧ Az (kq ≤ kj1) ∧ Az (w'.heap[gb192]? = some (.cells #[(.slice A0_0 l0_0.length c0_0), (.slice A0_1 l0_1.length c0_1), .int .i64 a0_2] 35 (0, 0))) ∧ Az (Below w.heap.size w w'))
    case atStart => exact ⟨(0), (by first | rfl | (simp; done) | (simp [*]; done)), H', ⟨Nat.le_refl _⟩, ⟨by (with_reducible repeat (first | refine Zn ?_ _ | refine Zw ?_ | refine Za ?_ _)); exact BK192.out⟩, ⟨by repeat (first | (with_reducible first | exact HB.out | apply Ya | apply Yn | apply Yw | refine Ys ?_ GE192.out) | exact HB.out)⟩⟩
    case round =>
     clear H'
     try clear c1
     try clear p2
     try clear c4
     try clear c5
     try clear c6
     try clear c6b0
     try clear c6b1
     try clear c8
     try clear c14
     try clear hcz10_0
     try clear hcz10_1
     try clear hcz10_2
     try clear hcz11_0
     try clear hcz11_1
     try clear hcz11_2
     try clear hcz12_0
     try clear hcz12_1
     try clear hcz12_2
     try clear hcz13_0
     try clear hcz13_1
     try clear hcz13_2
     try clear hfz10_0
     try clear hfz10_1
     try clear hfz10_2
     try clear hfz11_0
     try clear hfz11_1
     try clear hfz11_2
     try clear hfz12_0
     try clear hfz12_1
     try clear hfz12_2
     try clear hfz13_0
     try clear hfz13_1
     try clear hfz13_2
     try clear p2
     obtain ⟨x3_2, rfl, HA, HK2, BK192, HB⟩ := hrel
     cases gk with
     | zero => exact absurd HA.out (by simp [spec_HostOk.l0])
     | succ k2 =>
      have H := HA.out
      clear HA
      simp only [spec_HostOk.l0] at H
      by_cases c15 : x3_2 < (l0_1.length : Int)
      ·rw [if_pos c15] at H
       have c15b0 : decide (x3_2 < (l0_1.length : Int)) = true := decide_eq_true c15
       clear c15
       by_cases c16 : 0 ≤ x3_2
       ·rw [if_pos c16] at H
        have c16b0 : decide (0 ≤ x3_2) = true := decide_eq_true c16
        clear c16
        by_cases c17 : (((rd_T74 l0_1 x3_2).f0).length : Int) = 6
        ·rw [if_pos c17] at H
         have c17b0 : ((((rd_T74 l0_1 x3_2).f0).length : Int) == 6) = true := beq_iff_eq.mpr c17
         have c17b1 : ((((rd_T74 l0_1 x3_2).f0).length : Int) != 6) = false := bne_eq_false_iff_eq.mpr c17
         clear c17
         by_cases c18 : (((rd_T74 l0_1 x3_2).f2).length : Int) = 6
         ·rw [if_pos c18] at H
          have c18b0 : ((((rd_T74 l0_1 x3_2).f2).length : Int) == 6) = true := beq_iff_eq.mpr c18
          have c18b1 : ((((rd_T74 l0_1 x3_2).f2).length : Int) != 6) = false := bne_eq_false_iff_eq.mpr c18
          clear c18
          replace H := Option.bind_eq_some_iff.mp H
          obtain ⟨t198, A190, H⟩ := H
          replace H : (if t198 = true then (spec_HostOk.l0 k2 (wrap64 (x3_2 + 1)) l0_0 l0_1 a0_2) else (some false)) = some r := H
          have A19 := Az.mk A190
          clear A190
          by_cases c20 : t198 = true
          ·subst c20
           have H1 : (spec_HostOk.l0 k2 (wrap64 (x3_2 + 1)) l0_0 l0_1 a0_2) = some r := by rw [if_pos rfl] at H; exact H
           clear H
           have H := H1
           clear H1
           have H' := Az.mk H
           clear H
           have hcz21_0 : wr.cell? ⟨gb192, 0, none⟩ = some (.slice A0_0 l0_0.length c0_0) := (Zc BK192.out 0).trans rfl
           have hcz21_1 : wr.cell? ⟨gb192, 1, none⟩ = some (.slice A0_1 l0_1.length c0_1) := (Zc BK192.out 1).trans rfl
           have hcz21_2 : wr.cell? ⟨gb192, 2, none⟩ = some (.int .i64 a0_2) := (Zc BK192.out 2).trans rfl
           have hfz21_0 := Zf BK192.out 0
           have hfz21_1 := Zf BK192.out 1
           have hfz21_2 := Zf BK192.out 2
           have p196 : 0 ≤ (x3_2 : Int) := of_decide_eq_true (by first | (with_reducible assumption) | assumption)
           have q196 : x3_2 < (l0_1.length : Int) := of_decide_eq_true (by first | (with_reducible assumption) | assumption)
           obtain ⟨ad196, A196_0, c196_0, A196_1, c196_1, A196_2, c196_2, e196, hx196_0, hx196_1, hx196_2, hl196_0, hi196_0, hl196_1, hi196_1, hl196_2, hi196_2⟩ := at_T74 HR0_1.out x3_2 p196 q196
           cases e196
           replace hx196_0 := (HB.out.cell (World.block_lt_of_cell? w _ hx196_0)).trans hx196_0
           replace hx196_1 := (HB.out.cell (World.block_lt_of_cell? w _ hx196_1)).trans hx196_1
           replace hx196_2 := (HB.out.cell (World.block_lt_of_cell? w _ hx196_2)).trans hx196_2
           have HR196_0 := Az.mk hi196_0
           have HC196_0 := Az.mk hl196_0
           clear hi196_0 hl196_0
           have HR196_1 := Az.mk hi196_1
           have HC196_1 := Az.mk hl196_1
           clear hi196_1 hl196_1
           have HR196_2 := Az.mk hi196_2
           have HC196_2 := Az.mk hl196_2
           clear hi196_2 hl196_2
           replace p196 := eq_true p196
           replace q196 := eq_true q196
           go_wp2_with (first | ((with_reducible refine Yd (N := 4) rfl ?_); (try (refine Ye (by rfl) ?_; dsimp only)); refine Yv ?hg (N := 4) ?hd (cs := #[.slice none 0 0, .slice none 0 0, .slice none 0 0]) (t := 74) ?hr ?_; (case hd => rfl); (case hg => rfl); (case hr => first | (go_simp; done) | (go_simp; rfl)); intro gb197 hg w22 hbox hb; have n0_ := Az.mk (Zb (g := gb192) (o := .cells #[.slice A0_0 l0_0.length c0_0, .slice (some ad196) l0_1.length c0_1, .int .i64 a0_2] 35 (0, 0)) (by (with_reducible repeat (first | refine Zn ?_ _ | refine Zw ?_ | refine Za ?_ _)); exact BK192.out) hb); have n1_ := Az.mk (Yt (by repeat (first | (with_reducible first | exact HB.out | apply Ya | apply Yn | apply Yw | refine Ys ?_ GE192.out) | exact HB.out)) hb); have n2_ := Az.mk (hbox); have n3_ := Az.mk ((by rw [hg]; exact (Yz (by repeat (first | (with_reducible first | exact HB.out | apply Ya | apply Yn | apply Yw | refine Ys ?_ GE192.out) | exact HB.out))) : w.heap.size ≤ gb197)); have n4_ := Az.mk ((by rw [hg]; exact (Yz (by repeat (first | (with_reducible first | exact HB.out | apply Ya | apply Yn | apply Yw | refine Ys ?_ GE192.out) | exact HB.out))) : w.heap.size ≤ gb197)); have n5_ := Az.mk ((by rw [hg]; exact Nat.ne_of_lt (Zl (g := gb192) (o := .cells #[.slice A0_0 l0_0.length c0_0, .slice (some ad196) l0_1.length c0_1, .int .i64 a0_2] 35 (0, 0)) (by (with_reducible repeat (first | refine Zn ?_ _ | refine Zw ?_ | refine Za ?_ _)); exact BK192.out)) : gb192 ≠ gb197)); have n6_ := Az.mk ((by rw [hg]; exact Nat.ne_of_gt (Zl (g := gb192) (o := .cells #[.slice A0_0 l0_0.length c0_0, .slice (some ad196) l0_1.length c0_1, .int .i64 a0_2] 35 (0, 0)) (by (with_reducible repeat (first | refine Zn ?_ _ | refine Zw ?_ | refine Za ?_ _)); exact BK192.out)) : gb197 ≠ gb192)); clear BK192; clear HB; have BK192 := n0_; have HB := n1_; have BK197 := n2_; have GW197 := n3_; have GE197 := n4_; have NB192_197 := n5_; have NB197_192 := n6_; clear n0_ n1_ n2_ n3_ n4_ n5_ n6_; clear hb hbox hg; have hnb23 := NB197_192.out; have hnc23 := NB192_197.out; have hcz24_0 : w22.cell? ⟨gb197, 0, none⟩ = some (.slice none 0 0) := (Zc BK197.out 0).trans rfl; have hcz24_1 : w22.cell? ⟨gb197, 1, none⟩ = some (.slice none 0 0) := (Zc BK197.out 1).trans rfl; have hcz24_2 : w22.cell? ⟨gb197, 2, none⟩ = some (.slice none 0 0) := (Zc BK197.out 2).trans rfl; have hfz24_0 := Zf BK197.out 0; have hfz24_1 := Zf BK197.out 1; have hfz24_2 := Zf BK197.out 2) | (go_at_call 50; (with_reducible refine (spec_l11Guest.calls k2 _ _ ((rd_T74 l0_1 x3_2).f1) true _ ?side1 ?side2 A19.out).mono ?_); (case side1 => exact Kd.Cb_ HR196_1.out (by repeat (first | (with_reducible first | exact HB.out | apply Ya | apply Yn | apply Yw | refine Ys ?_ GE192.out | refine Ys ?_ GE197.out) | exact HB.out))); (case side2 => exact HC196_1.out); rintro e w' ⟨rfl, ⟨nd, rfl⟩⟩))
           go_roundg k2
           case measure => have := HJ1.out; have := HK2.out; omega
           case rel => exact ⟨(wrap64 (x3_2 + 1)), (by first | rfl | (simp; done) | (simp [*]; done)), H', ⟨by have := HJ1.out; have := HK2.out; omega⟩, ⟨by (with_reducible repeat (first | refine Zn ?_ _ | refine Zw ?_ | refine Za ?_ _)); refine blk_far ?_ NB192_197.out _; (with_reducible repeat (first | refine Zn ?_ _ | refine Zw ?_ | refine Za ?_ _)); refine blk_far ?_ NB192_197.out _; (with_reducible repeat (first | refine Zn ?_ _ | refine Zw ?_ | refine Za ?_ _)); refine blk_far ?_ NB192_197.out _; (with_reducible repeat (first | refine Zn ?_ _ | refine Zw ?_ | refine Za ?_ _)); exact BK192.out⟩, ⟨by repeat (first | (with_reducible first | exact HB.out | apply Ya | apply Yn | apply Yw | refine Ys ?_ GE192.out | refine Ys ?_ GE197.out) | exact HB.out)⟩⟩
          ·replace c20 := Bool.eq_false_iff.mpr c20
           subst c20
           have H1 : (some false) = some r := by rw [if_neg (show ¬ (false = true) by decide)] at H; exact H
           clear H
           have H := H1
           clear H1
           obtain rfl := Option.some.inj H
           have hcz25_0 : wr.cell? ⟨gb192, 0, none⟩ = some (.slice A0_0 l0_0.length c0_0) := (Zc BK192.out 0).trans rfl
           have hcz25_1 : wr.cell? ⟨gb192, 1, none⟩ = some (.slice A0_1 l0_1.length c0_1) := (Zc BK192.out 1).trans rfl
           have hcz25_2 : wr.cell? ⟨gb192, 2, none⟩ = some (.int .i64 a0_2) := (Zc BK192.out 2).trans rfl
           have hfz25_0 := Zf BK192.out 0
           have hfz25_1 := Zf BK192.out 1
           have hfz25_2 := Zf BK192.out 2
           have p196 : 0 ≤ (x3_2 : Int) := of_decide_eq_true (by first | (with_reducible assumption) | assumption)
           have q196 : x3_2 < (l0_1.length : Int) := of_decide_eq_true (by first | (with_reducible assumption) | assumption)
           obtain ⟨ad196, A196_0, c196_0, A196_1, c196_1, A196_2, c196_2, e196, hx196_0, hx196_1, hx196_2, hl196_0, hi196_0, hl196_1, hi196_1, hl196_2, hi196_2⟩ := at_T74 HR0_1.out x3_2 p196 q196
           cases e196
           replace hx196_0 := (HB.out.cell (World.block_lt_of_cell? w _ hx196_0)).trans hx196_0
           replace hx196_1 := (HB.out.cell (World.block_lt_of_cell? w _ hx196_1)).trans hx196_1
           replace hx196_2 := (HB.out.cell (World.block_lt_of_cell? w _ hx196_2)).trans hx196_2
           have HR196_0 := Az.mk hi196_0
           have HC196_0 := Az.mk hl196_0
           clear hi196_0 hl196_0
           have HR196_1 := Az.mk hi196_1
           have HC196_1 := Az.mk hl196_1
           clear hi196_1 hl196_1
           have HR196_2 := Az.mk hi196_2
           have HC196_2 := Az.mk hl196_2
           clear hi196_2 hl196_2
           replace p196 := eq_true p196
           replace q196 := eq_true q196
           go_wp2_with (first | ((with_reducible refine Yd (N := 4) rfl ?_); (try (refine Ye (by rfl) ?_; dsimp only)); refine Yv ?hg (N := 4) ?hd (cs := #[.slice none 0 0, .slice none 0 0, .slice none 0 0]) (t := 74) ?hr ?_; (case hd => rfl); (case hg => rfl); (case hr => first | (go_simp; done) | (go_simp; rfl)); intro gb197 hg w26 hbox hb; have n0_ := Az.mk (Zb (g := gb192) (o := .cells #[.slice A0_0 l0_0.length c0_0, .slice (some ad196) l0_1.length c0_1, .int .i64 a0_2] 35 (0, 0)) (by (with_reducible repeat (first | refine Zn ?_ _ | refine Zw ?_ | refine Za ?_ _)); exact BK192.out) hb); have n1_ := Az.mk (Yt (by repeat (first | (with_reducible first | exact HB.out | apply Ya | apply Yn | apply Yw | refine Ys ?_ GE192.out) | exact HB.out)) hb); have n2_ := Az.mk (hbox); have n3_ := Az.mk ((by rw [hg]; exact (Yz (by repeat (first | (with_reducible first | exact HB.out | apply Ya | apply Yn | apply Yw | refine Ys ?_ GE192.out) | exact HB.out))) : w.heap.size ≤ gb197)); have n4_ := Az.mk ((by rw [hg]; exact (Yz (by repeat (first | (with_reducible first | exact HB.out | apply Ya | apply Yn | apply Yw | refine Ys ?_ GE192.out) | exact HB.out))) : w.heap.size ≤ gb197)); have n5_ := Az.mk ((by rw [hg]; exact Nat.ne_of_lt (Zl (g := gb192) (o := .cells #[.slice A0_0 l0_0.length c0_0, .slice (some ad196) l0_1.length c0_1, .int .i64 a0_2] 35 (0, 0)) (by (with_reducible repeat (first | refine Zn ?_ _ | refine Zw ?_ | refine Za ?_ _)); exact BK192.out)) : gb192 ≠ gb197)); have n6_ := Az.mk ((by rw [hg]; exact Nat.ne_of_gt (Zl (g := gb192) (o := .cells #[.slice A0_0 l0_0.length c0_0, .slice (some ad196) l0_1.length c0_1, .int .i64 a0_2] 35 (0, 0)) (by (with_reducible repeat (first | refine Zn ?_ _ | refine Zw ?_ | refine Za ?_ _)); exact BK192.out)) : gb197 ≠ gb192)); clear BK192; clear HB; have BK192 := n0_; have HB := n1_; have BK197 := n2_; have GW197 := n3_; have GE197 := n4_; have NB192_197 := n5_; have NB197_192 := n6_; clear n0_ n1_ n2_ n3_ n4_ n5_ n6_; clear hb hbox hg; have hnb27 := NB197_192.out; have hnc27 := NB192_197.out; have hcz28_0 : w26.cell? ⟨gb197, 0, none⟩ = some (.slice none 0 0) := (Zc BK197.out 0).trans rfl; have hcz28_1 : w26.cell? ⟨gb197, 1, none⟩ = some (.slice none 0 0) := (Zc BK197.out 1).trans rfl; have hcz28_2 : w26.cell? ⟨gb197, 2, none⟩ = some (.slice none 0 0) := (Zc BK197.out 2).trans rfl; have hfz28_0 := Zf BK197.out 0; have hfz28_1 := Zf BK197.out 1; have hfz28_2 := Zf BK197.out 2) | (go_at_call 50; (with_reducible refine (spec_l11Guest.calls k2 _ _ ((rd_T74 l0_1 x3_2).f1) false _ ?side1 ?side2 A19.out).mono ?_); (case side1 => exact Kd.Cb_ HR196_1.out (by repeat (first | (with_reducible first | exact HB.out | apply Ya | apply Yn | apply Yw | refine Ys ?_ GE192.out | refine Ys ?_ GE197.out) | exact HB.out))); (case side2 => exact HC196_1.out); rintro e w' ⟨rfl, ⟨nd, rfl⟩⟩))
           go_ret
           exact ⟨by first | rfl | (simp [errW_none, errW_some] <;> rfl) | (simp [*, errW_none, errW_some] <;> rfl), by repeat (first | (with_reducible first | exact HB.out | apply Ya | apply Yn | apply Yw | refine Ys ?_ GE192.out | refine Ys ?_ GE197.out) | exact HB.out)⟩
         ·rw [if_neg c18] at H
          have c18b0 : ((((rd_T74 l0_1 x3_2).f2).length : Int) == 6) = false := beq_eq_false_iff_ne.mpr c18
          have c18b1 : ((((rd_T74 l0_1 x3_2).f2).length : Int) != 6) = true := bne_iff_ne.mpr c18
          obtain rfl := Option.some.inj H
          have hcz29_0 : wr.cell? ⟨gb192, 0, none⟩ = some (.slice A0_0 l0_0.length c0_0) := (Zc BK192.out 0).trans rfl
          have hcz29_1 : wr.cell? ⟨gb192, 1, none⟩ = some (.slice A0_1 l0_1.length c0_1) := (Zc BK192.out 1).trans rfl
          have hcz29_2 : wr.cell? ⟨gb192, 2, none⟩ = some (.int .i64 a0_2) := (Zc BK192.out 2).trans rfl
          have hfz29_0 := Zf BK192.out 0
          have hfz29_1 := Zf BK192.out 1
          have hfz29_2 := Zf BK192.out 2
          have p196 : 0 ≤ (x3_2 : Int) := of_decide_eq_true (by first | (with_reducible assumption) | assumption)
          have q196 : x3_2 < (l0_1.length : Int) := of_decide_eq_true (by first | (with_reducible assumption) | assumption)
          obtain ⟨ad196, A196_0, c196_0, A196_1, c196_1, A196_2, c196_2, e196, hx196_0, hx196_1, hx196_2, hl196_0, hi196_0, hl196_1, hi196_1, hl196_2, hi196_2⟩ := at_T74 HR0_1.out x3_2 p196 q196
          cases e196
          replace hx196_0 := (HB.out.cell (World.block_lt_of_cell? w _ hx196_0)).trans hx196_0
          replace hx196_1 := (HB.out.cell (World.block_lt_of_cell? w _ hx196_1)).trans hx196_1
          replace hx196_2 := (HB.out.cell (World.block_lt_of_cell? w _ hx196_2)).trans hx196_2
          have HR196_0 := Az.mk hi196_0
          have HC196_0 := Az.mk hl196_0
          clear hi196_0 hl196_0
          have HR196_1 := Az.mk hi196_1
          have HC196_1 := Az.mk hl196_1
          clear hi196_1 hl196_1
          have HR196_2 := Az.mk hi196_2
          have HC196_2 := Az.mk hl196_2
          clear hi196_2 hl196_2
          replace p196 := eq_true p196
          replace q196 := eq_true q196
          go_wp2_with (first | ((with_reducible refine Yd (N := 4) rfl ?_); (try (refine Ye (by rfl) ?_; dsimp only)); refine Yv ?hg (N := 4) ?hd (cs := #[.slice none 0 0, .slice none 0 0, .slice none 0 0]) (t := 74) ?hr ?_; (case hd => rfl); (case hg => rfl); (case hr => first | (go_simp; done) | (go_simp; rfl)); intro gb197 hg w30 hbox hb; have n0_ := Az.mk (Zb (g := gb192) (o := .cells #[.slice A0_0 l0_0.length c0_0, .slice (some ad196) l0_1.length c0_1, .int .i64 a0_2] 35 (0, 0)) (by (with_reducible repeat (first | refine Zn ?_ _ | refine Zw ?_ | refine Za ?_ _)); exact BK192.out) hb); have n1_ := Az.mk (Yt (by repeat (first | (with_reducible first | exact HB.out | apply Ya | apply Yn | apply Yw | refine Ys ?_ GE192.out) | exact HB.out)) hb); have n2_ := Az.mk (hbox); have n3_ := Az.mk ((by rw [hg]; exact (Yz (by repeat (first | (with_reducible first | exact HB.out | apply Ya | apply Yn | apply Yw | refine Ys ?_ GE192.out) | exact HB.out))) : w.heap.size ≤ gb197)); have n4_ := Az.mk ((by rw [hg]; exact (Yz (by repeat (first | (with_reducible first | exact HB.out | apply Ya | apply Yn | apply Yw | refine Ys ?_ GE192.out) | exact HB.out))) : w.heap.size ≤ gb197)); have n5_ := Az.mk ((by rw [hg]; exact Nat.ne_of_lt (Zl (g := gb192) (o := .cells #[.slice A0_0 l0_0.length c0_0, .slice (some ad196) l0_1.length c0_1, .int .i64 a0_2] 35 (0, 0)) (by (with_reducible repeat (first | refine Zn ?_ _ | refine Zw ?_ | refine Za ?_ _)); exact BK192.out)) : gb192 ≠ gb197)); have n6_ := Az.mk ((by rw [hg]; exact Nat.ne_of_gt (Zl (g := gb192) (o := .cells #[.slice A0_0 l0_0.length c0_0, .slice (some ad196) l0_1.length c0_1, .int .i64 a0_2] 35 (0, 0)) (by (with_reducible repeat (first | refine Zn ?_ _ | refine Zw ?_ | refine Za ?_ _)); exact BK192.out)) : gb197 ≠ gb192)); clear BK192; clear HB; have BK192 := n0_; have HB := n1_; have BK197 := n2_; have GW197 := n3_; have GE197 := n4_; have NB192_197 := n5_; have NB197_192 := n6_; clear n0_ n1_ n2_ n3_ n4_ n5_ n6_; clear hb hbox hg; have hnb31 := NB197_192.out; have hnc31 := NB192_197.out; have hcz32_0 : w30.cell? ⟨gb197, 0, none⟩ = some (.slice none 0 0) := (Zc BK197.out 0).trans rfl; have hcz32_1 : w30.cell? ⟨gb197, 1, none⟩ = some (.slice none 0 0) := (Zc BK197.out 1).trans rfl; have hcz32_2 : w30.cell? ⟨gb197, 2, none⟩ = some (.slice none 0 0) := (Zc BK197.out 2).trans rfl; have hfz32_0 := Zf BK197.out 0; have hfz32_1 := Zf BK197.out 1; have hfz32_2 := Zf BK197.out 2))
          go_ret
          exact ⟨by first | rfl | (simp [errW_none, errW_some] <;> rfl) | (simp [*, errW_none, errW_some] <;> rfl), by repeat (first | (with_reducible first | exact HB.out | apply Ya | apply Yn | apply Yw | refine Ys ?_ GE192.out | refine Ys ?_ GE197.out) | exact HB.out)⟩
        ·rw [if_neg c17] at H
         have c17b0 : ((((rd_T74 l0_1 x3_2).f0).length : Int) == 6) = false := beq_eq_false_iff_ne.mpr c17
         have c17b1 : ((((rd_T74 l0_1 x3_2).f0).length : Int) != 6) = true := bne_iff_ne.mpr c17
         obtain rfl := Option.some.inj H
         have hcz33_0 : wr.cell? ⟨gb192, 0, none⟩ = some (.slice A0_0 l0_0.length c0_0) := (Zc BK192.out 0).trans rfl
         have hcz33_1 : wr.cell? ⟨gb192, 1, none⟩ = some (.slice A0_1 l0_1.length c0_1) := (Zc BK192.out 1).trans rfl
         have hcz33_2 : wr.cell? ⟨gb192, 2, none⟩ = some (.int .i64 a0_2) := (Zc BK192.out 2).trans rfl
         have hfz33_0 := Zf BK192.out 0
         have hfz33_1 := Zf BK192.out 1
         have hfz33_2 := Zf BK192.out 2
         have p196 : 0 ≤ (x3_2 : Int) := of_decide_eq_true (by first | (with_reducible assumption) | assumption)
         have q196 : x3_2 < (l0_1.length : Int) := of_decide_eq_true (by first | (with_reducible assumption) | assumption)
         obtain ⟨ad196, A196_0, c196_0, A196_1, c196_1, A196_2, c196_2, e196, hx196_0, hx196_1, hx196_2, hl196_0, hi196_0, hl196_1, hi196_1, hl196_2, hi196_2⟩ := at_T74 HR0_1.out x3_2 p196 q196
         cases e196
         replace hx196_0 := (HB.out.cell (World.block_lt_of_cell? w _ hx196_0)).trans hx196_0
         replace hx196_1 := (HB.out.cell (World.block_lt_of_cell? w _ hx196_1)).trans hx196_1
         replace hx196_2 := (HB.out.cell (World.block_lt_of_cell? w _ hx196_2)).trans hx196_2
         have HR196_0 := Az.mk hi196_0
         have HC196_0 := Az.mk hl196_0
         clear hi196_0 hl196_0
         have HR196_1 := Az.mk hi196_1
         have HC196_1 := Az.mk hl196_1
         clear hi196_1 hl196_1
         have HR196_2 := Az.mk hi196_2
         have HC196_2 := Az.mk hl196_2
         clear hi196_2 hl196_2
         replace p196 := eq_true p196
         replace q196 := eq_true q196
         go_wp2_with (first | ((with_reducible refine Yd (N := 4) rfl ?_); (try (refine Ye (by rfl) ?_; dsimp only)); refine Yv ?hg (N := 4) ?hd (cs := #[.slice none 0 0, .slice none 0 0, .slice none 0 0]) (t := 74) ?hr ?_; (case hd => rfl); (case hg => rfl); (case hr => first | (go_simp; done) | (go_simp; rfl)); intro gb197 hg w34 hbox hb; have n0_ := Az.mk (Zb (g := gb192) (o := .cells #[.slice A0_0 l0_0.length c0_0, .slice (some ad196) l0_1.length c0_1, .int .i64 a0_2] 35 (0, 0)) (by (with_reducible repeat (first | refine Zn ?_ _ | refine Zw ?_ | refine Za ?_ _)); exact BK192.out) hb); have n1_ := Az.mk (Yt (by repeat (first | (with_reducible first | exact HB.out | apply Ya | apply Yn | apply Yw | refine Ys ?_ GE192.out) | exact HB.out)) hb); have n2_ := Az.mk (hbox); have n3_ := Az.mk ((by rw [hg]; exact (Yz (by repeat (first | (with_reducible first | exact HB.out | apply Ya | apply Yn | apply Yw | refine Ys ?_ GE192.out) | exact HB.out))) : w.heap.size ≤ gb197)); have n4_ := Az.mk ((by rw [hg]; exact (Yz (by repeat (first | (with_reducible first | exact HB.out | apply Ya | apply Yn | apply Yw | refine Ys ?_ GE192.out) | exact HB.out))) : w.heap.size ≤ gb197)); have n5_ := Az.mk ((by rw [hg]; exact Nat.ne_of_lt (Zl (g := gb192) (o := .cells #[.slice A0_0 l0_0.length c0_0, .slice (some ad196) l0_1.length c0_1, .int .i64 a0_2] 35 (0, 0)) (by (with_reducible repeat (first | refine Zn ?_ _ | refine Zw ?_ | refine Za ?_ _)); exact BK192.out)) : gb192 ≠ gb197)); have n6_ := Az.mk ((by rw [hg]; exact Nat.ne_of_gt (Zl (g := gb192) (o := .cells #[.slice A0_0 l0_0.length c0_0, .slice (some ad196) l0_1.length c0_1, .int .i64 a0_2] 35 (0, 0)) (by (with_reducible repeat (first | refine Zn ?_ _ | refine Zw ?_ | refine Za ?_ _)); exact BK192.out)) : gb197 ≠ gb192)); clear BK192; clear HB; have BK192 := n0_; have HB := n1_; have BK197 := n2_; have GW197 := n3_; have GE197 := n4_; have NB192_197 := n5_; have NB197_192 := n6_; clear n0_ n1_ n2_ n3_ n4_ n5_ n6_; clear hb hbox hg; have hnb35 := NB197_192.out; have hnc35 := NB192_197.out; have hcz36_0 : w34.cell? ⟨gb197, 0, none⟩ = some (.slice none 0 0) := (Zc BK197.out 0).trans rfl; have hcz36_1 : w34.cell? ⟨gb197, 1, none⟩ = some (.slice none 0 0) := (Zc BK197.out 1).trans rfl; have hcz36_2 : w34.cell? ⟨gb197, 2, none⟩ = some (.slice none 0 0) := (Zc BK197.out 2).trans rfl; have hfz36_0 := Zf BK197.out 0; have hfz36_1 := Zf BK197.out 1; have hfz36_2 := Zf BK197.out 2))
         go_ret
         exact ⟨by first | rfl | (simp [errW_none, errW_some] <;> rfl) | (simp [*, errW_none, errW_some] <;> rfl), by repeat (first | (with_reducible first | exact HB.out | apply Ya | apply Yn | apply Yw | refine Ys ?_ GE192.out | refine Ys ?_ GE197.out) | exact HB.out)⟩
       ·rw [if_neg c16] at H
        exact absurd H (by simp)
      ·rw [if_neg c15] at H
       have c15b0 : decide (x3_2 < (l0_1.length : Int)) = false := decide_eq_false c15
       clear c15
       have H' := Az.mk H
       clear H
       have hcz37_0 : wr.cell? ⟨gb192, 0, none⟩ = some (.slice A0_0 l0_0.length c0_0) := (Zc BK192.out 0).trans rfl
       have hcz37_1 : wr.cell? ⟨gb192, 1, none⟩ = some (.slice A0_1 l0_1.length c0_1) := (Zc BK192.out 1).trans rfl
       have hcz37_2 : wr.cell? ⟨gb192, 2, none⟩ = some (.int .i64 a0_2) := (Zc BK192.out 2).trans rfl
       have hfz37_0 := Zf BK192.out 0
       have hfz37_1 := Zf BK192.out 1
       have hfz37_2 := Zf BK192.out 2
       go_wp2
       go_loopg [5] k2 (fun kq v5 w' => ∃ (x5_3 : Int), v5 = .int .i64 x5_3 ∧ Az (spec_HostOk.l1 kq x5_3 l0_0 l0_1 a0_2 = some r) ∧ Az (kq ≤ k2) ∧ Az (w'.heap[gb192]? = some (.cells #[(.slice A0_0 l0_0.length c0_0), (.slice A0_1 l0_1.length c0_1), .int .i64 a0_2] 35 (0, 0))) ∧ Az (Below w.heap.size w w'))
       case atStart => exact ⟨(0), (by first | rfl | (simp; done) | (simp [*]; done)), H', ⟨Nat.le_refl _⟩, ⟨by (with_reducible repeat (first | refine Zn ?_ _ | refine Zw ?_ | refine Za ?_ _)); exact BK192.out⟩, ⟨by repeat (first | (with_reducible first | exact HB.out | apply Ya | apply Yn | apply Yw | refine Ys ?_ GE192.out) | exact HB.out)⟩⟩
       case round =>
        clear H'
        try clear c1
        try clear p1
        try clear q1
        try clear hx1
        try clear c2
        try clear p2
        try clear c3
        try clear c4
        try clear c5
        try clear c6
        try clear c6b0
        try clear c6b1
        try clear p6
        try clear c8
        try clear c14
        try clear c15
        try clear c15b0
        try clear c16
        try clear c16b0
        try clear c17
        try clear c17b0
        try clear c17b1
        try clear c18
        try clear c18b0
        try clear c18b1
        try clear c19
        try clear p19
        try clear q19
        try clear hx19
        try clear c20
        try clear c23
        try clear c27
        try clear c31
        try clear c35
        try clear hcz10_0
        try clear hcz10_1
        try clear hcz10_2
        try clear hcz11_0
        try clear hcz11_1
        try clear hcz11_2
        try clear hcz12_0
        try clear hcz12_1
        try clear hcz12_2
        try clear hcz13_0
        try clear hcz13_1
        try clear hcz13_2
        try clear hcz21_0
        try clear hcz21_1
        try clear hcz21_2
        try clear hcz24_0
        try clear hcz24_1
        try clear hcz24_2
        try clear hcz25_0
        try clear hcz25_1
        try clear hcz25_2
        try clear hcz28_0
        try clear hcz28_1
        try clear hcz28_2
        try clear hcz29_0
        try clear hcz29_1
        try clear hcz29_2
        try clear hcz32_0
        try clear hcz32_1
        try clear hcz32_2
        try clear hcz33_0
        try clear hcz33_1
        try clear hcz33_2
        try clear hcz36_0
        try clear hcz36_1
        try clear hcz36_2
        try clear hcz37_0
        try clear hcz37_1
        try clear hcz37_2
        try clear hfz10_0
        try clear hfz10_1
        try clear hfz10_2
        try clear hfz11_0
        try clear hfz11_1
        try clear hfz11_2
        try clear hfz12_0
        try clear hfz12_1
        try clear hfz12_2
        try clear hfz13_0
        try clear hfz13_1
        try clear hfz13_2
        try clear hfz21_0
        try clear hfz21_1
        try clear hfz21_2
        try clear hfz24_0
        try clear hfz24_1
        try clear hfz24_2
        try clear hfz25_0
        try clear hfz25_1
        try clear hfz25_2
        try clear hfz28_0
        try clear hfz28_1
        try clear hfz28_2
        try clear hfz29_0
        try clear hfz29_1
        try clear hfz29_2
        try clear hfz32_0
        try clear hfz32_1
        try clear hfz32_2
        try clear hfz33_0
        try clear hfz33_1
        try clear hfz33_2
        try clear hfz36_0
        try clear hfz36_1
        try clear hfz36_2
        try clear hfz37_0
        try clear hfz37_1
        try clear hfz37_2
        try clear hx196_0
        try clear hx196_1
        try clear hx196_2
        try clear p196
        try clear p2
        try clear q196
        obtain ⟨x5_3, rfl, HA, HK3, BK192, HB⟩ := hrel
        cases gk with
        | zero => exact absurd HA.out (by simp [spec_HostOk.l1])
        | succ k3 =>
         have H := HA.out
         clear HA
         simp only [spec_HostOk.l1] at H
         by_cases c38 : x5_3 < (l0_1.length : Int)
         ·rw [if_pos c38] at H
          have c38b0 : decide (x5_3 < (l0_1.length : Int)) = true := decide_eq_true c38
          clear c38
          by_cases c39 : 0 ≤ x5_3
          ·rw [if_pos c39] at H
           have c39b0 : decide (0 ≤ x5_3) = true := decide_eq_true c39
           clear c39
           have H' := Az.mk H
           clear H
           have hcz40_0 : wr.cell? ⟨gb192, 0, none⟩ = some (.slice A0_0 l0_0.length c0_0) := (Zc BK192.out 0).trans rfl
           have hcz40_1 : wr.cell? ⟨gb192, 1, none⟩ = some (.slice A0_1 l0_1.length c0_1) := (Zc BK192.out 1).trans rfl
           have hcz40_2 : wr.cell? ⟨gb192, 2, none⟩ = some (.int .i64 a0_2) := (Zc BK192.out 2).trans rfl
           have hfz40_0 := Zf BK192.out 0
           have hfz40_1 := Zf BK192.out 1
           have hfz40_2 := Zf BK192.out 2
           have p199 : 0 ≤ (x5_3 : Int) := of_decide_eq_true (by first | (with_reducible assumption) | assumption)
           have q199 : x5_3 < (l0_1.length : Int) := of_decide_eq_true (by first | (with_reducible assumption) | assumption)
           obtain ⟨ad199, A199_0, c199_0, A199_1, c199_1, A199_2, c199_2, e199, hx199_0, hx199_1, hx199_2, hl199_0, hi199_0, hl199_1, hi199_1, hl199_2, hi199_2⟩ := at_T74 HR0_1.out x5_3 p199 q199
           cases e199
           replace hx199_0 := (HB.out.cell (World.block_lt_of_cell? w _ hx199_0)).trans hx199_0
           replace hx199_1 := (HB.out.cell (World.block_lt_of_cell? w _ hx199_1)).trans hx199_1
           replace hx199_2 := (HB.out.cell (World.block_lt_of_cell? w _ hx199_2)).trans hx199_2
           have HR199_0 := Az.mk hi199_0
           have HC199_0 := Az.mk hl199_0
           clear hi199_0 hl199_0
           have HR199_1 := Az.mk hi199_1
           have HC199_1 := Az.mk hl199_1
           clear hi199_1 hl199_1
           have HR199_2 := Az.mk hi199_2
           have HC199_2 := Az.mk hl199_2
           clear hi199_2 hl199_2
           replace p199 := eq_true p199
           replace q199 := eq_true q199
           go_wp2_with (first | ((with_reducible refine Yd (N := 6) rfl ?_); (try (refine Ye (by rfl) ?_; dsimp only)); refine Yv ?hg (N := 6) ?hd (cs := #[.slice none 0 0, .slice none 0 0, .slice none 0 0]) (t := 74) ?hr ?_; (case hd => rfl); (case hg => rfl); (case hr => first | (go_simp; done) | (go_simp; rfl)); intro gb200 hg w41 hbox hb; have n0_ := Az.mk (Zb (g := gb192) (o := .cells #[.slice A0_0 l0_0.length c0_0, .slice (some ad199) l0_1.length c0_1, .int .i64 a0_2] 35 (0, 0)) (by (with_reducible repeat (first | refine Zn ?_ _ | refine Zw ?_ | refine Za ?_ _)); exact BK192.out) hb); have n1_ := Az.mk (Yt (by repeat (first | (with_reducible first | exact HB.out | apply Ya | apply Yn | apply Yw | refine Ys ?_ GE192.out) | exact HB.out)) hb); have n2_ := Az.mk (hbox); have n3_ := Az.mk ((by rw [hg]; exact (Yz (by repeat (first | (with_reducible first | exact HB.out | apply Ya | apply Yn | apply Yw | refine Ys ?_ GE192.out) | exact HB.out))) : w.heap.size ≤ gb200)); have n4_ := Az.mk ((by rw [hg]; exact (Yz (by repeat (first | (with_reducible first | exact HB.out | apply Ya | apply Yn | apply Yw | refine Ys ?_ GE192.out) | exact HB.out))) : w.heap.size ≤ gb200)); have n5_ := Az.mk ((by rw [hg]; exact Nat.ne_of_lt (Zl (g := gb192) (o := .cells #[.slice A0_0 l0_0.length c0_0, .slice (some ad199) l0_1.length c0_1, .int .i64 a0_2] 35 (0, 0)) (by (with_reducible repeat (first | refine Zn ?_ _ | refine Zw ?_ | refine Za ?_ _)); exact BK192.out)) : gb192 ≠ gb200)); have n6_ := Az.mk ((by rw [hg]; exact Nat.ne_of_gt (Zl (g := gb192) (o := .cells #[.slice A0_0 l0_0.length c0_0, .slice (some ad199) l0_1.length c0_1, .int .i64 a0_2] 35 (0, 0)) (by (with_reducible repeat (first | refine Zn ?_ _ | refine Zw ?_ | refine Za ?_ _)); exact BK192.out)) : gb200 ≠ gb192)); clear BK192; clear HB; have BK192 := n0_; have HB := n1_; have BK200 := n2_; have GW200 := n3_; have GE200 := n4_; have NB192_200 := n5_; have NB200_192 := n6_; clear n0_ n1_ n2_ n3_ n4_ n5_ n6_; clear hb hbox hg; have hnb42 := NB200_192.out; have hnc42 := NB192_200.out; have hcz43_0 : w41.cell? ⟨gb200, 0, none⟩ = some (.slice none 0 0) := (Zc BK200.out 0).trans rfl; have hcz43_1 : w41.cell? ⟨gb200, 1, none⟩ = some (.slice none 0 0) := (Zc BK200.out 1).trans rfl; have hcz43_2 : w41.cell? ⟨gb200, 2, none⟩ = some (.slice none 0 0) := (Zc BK200.out 2).trans rfl; have hfz43_0 := Zf BK200.out 0; have hfz43_1 := Zf BK200.out 1; have hfz43_2 := Zf BK200.out 2))
           go_loopg [7] k3 (fun kq v7 w' => ∃ (x7_4 : Int), v7 = .int .i64 x7_4 ∧ Az (spec_HostOk.l2 kq x5_3 x7_4 l0_0 l0_1 a0_2 ((rd_T74 l0_1 x5_3).f0) ((rd_T74 l0_1 x5_3).f1) ((rd_T74 l0_1 x5_3).f2) = some r) ∧ Az (kq ≤ k3) ∧ Az (w'.heap[gb192]? = some (.cells #[(.slice A0_0 l0_0.length c0_0), (.slice (some ad199) l0_1.length c0_1), .int .i64 a0_2] 35 (0, 0))) ∧ Az (w'.heap[gb200]? = some (.cells #[(.slice A199_0 ((rd_T74 l0_1 x5_3).f0).length c199_0), (.slice A199_1 ((rd_T74 l0_1 x5_3).f1).length c199_1), (.slice A199_2 ((rd_T74 l0_1 x5_3).f2).length c199_2)] 74 (0, 0))) ∧ Az (Below w.heap.size w w'))
           case atStart => exact ⟨(0), (by first | rfl | (simp; done) | (simp [*]; done)), H', ⟨Nat.le_refl _⟩, ⟨by (with_reducible repeat (first | refine Zn ?_ _ | refine Zw ?_ | refine Za ?_ _)); refine blk_far ?_ NB192_200.out _; (with_reducible repeat (first | refine Zn ?_ _ | refine Zw ?_ | refine Za ?_ _)); refine blk_far ?_ NB192_200.out _; (with_reducible repeat (first | refine Zn ?_ _ | refine Zw ?_ | refine Za ?_ _)); refine blk_far ?_ NB192_200.out _; (with_reducible repeat (first | refine Zn ?_ _ | refine Zw ?_ | refine Za ?_ _)); exact BK192.out⟩, ⟨by (with_reducible repeat (first | refine Zn ?_ _ | refine Zw ?_ | refine Za ?_ _)); refine Zp (cs := #[.slice A199_0 ((rd_T74 l0_1 x5_3).f0).length c199_0, .slice A199_1 ((rd_T74 l0_1 x5_3).f1).length c199_1, .slice none 0 0]) ?_ 2 _ rfl; (with_reducible repeat (first | refine Zn ?_ _ | refine Zw ?_ | refine Za ?_ _)); refine Zp (cs := #[.slice A199_0 ((rd_T74 l0_1 x5_3).f0).length c199_0, .slice none 0 0, .slice none 0 0]) ?_ 1 _ rfl; (with_reducible repeat (first | refine Zn ?_ _ | refine Zw ?_ | refine Za ?_ _)); refine Zp (cs := #[.slice none 0 0, .slice none 0 0, .slice none 0 0]) ?_ 0 _ rfl; (with_reducible repeat (first | refine Zn ?_ _ | refine Zw ?_ | refine Za ?_ _)); exact BK200.out⟩, ⟨by repeat (first | (with_reducible first | exact HB.out | apply Ya | apply Yn | apply Yw | refine Ys ?_ GE192.out | refine Ys ?_ GE200.out) | exact HB.out)⟩⟩
           case round =>
            clear H'
            try clear c1
            try clear p1
            try clear q1
            try clear hx1
            try clear c2
            try clear p2
            try clear c3
            try clear c4
            try clear c5
            try clear c6
            try clear c6b0
            try clear c6b1
            try clear p6
            try clear c8
            try clear c14
            try clear c15
            try clear c15b0
            try clear c16
            try clear c16b0
            try clear c17
            try clear c17b0
            try clear c17b1
            try clear c18
            try clear c18b0
            try clear c18b1
            try clear c19
            try clear p19
            try clear q19
            try clear hx19
            try clear c20
            try clear c23
            try clear c27
            try clear c31
            try clear c35
            try clear c38
            try clear c38b0
            try clear c39
            try clear c39b0
            try clear c40
            try clear c42
            try clear hcz10_0
            try clear hcz10_1
            try clear hcz10_2
            try clear hcz11_0
            try clear hcz11_1
            try clear hcz11_2
            try clear hcz12_0
            try clear hcz12_1
            try clear hcz12_2
            try clear hcz13_0
            try clear hcz13_1
            try clear hcz13_2
            try clear hcz21_0
            try clear hcz21_1
            try clear hcz21_2
            try clear hcz24_0
            try clear hcz24_1
            try clear hcz24_2
            try clear hcz25_0
            try clear hcz25_1
            try clear hcz25_2
            try clear hcz28_0
            try clear hcz28_1
            try clear hcz28_2
            try clear hcz29_0
            try clear hcz29_1
            try clear hcz29_2
            try clear hcz32_0
            try clear hcz32_1
            try clear hcz32_2
            try clear hcz33_0
            try clear hcz33_1
            try clear hcz33_2
            try clear hcz36_0
            try clear hcz36_1
            try clear hcz36_2
            try clear hcz37_0
            try clear hcz37_1
            try clear hcz37_2
            try clear hcz40_0
            try clear hcz40_1
            try clear hcz40_2
            try clear hcz43_0
            try clear hcz43_1
            try clear hcz43_2
            try clear hfz10_0
            try clear hfz10_1
            try clear hfz10_2
            try clear hfz11_0
            try clear hfz11_1
            try clear hfz11_2
            try clear hfz12_0
            try clear hfz12_1
            try clear hfz12_2
            try clear hfz13_0
            try clear hfz13_1
            try clear hfz13_2
            try clear hfz21_0
            try clear hfz21_1
            try clear hfz21_2
            try clear hfz24_0
            try clear hfz24_1
            try clear hfz24_2
            try clear hfz25_0
            try clear hfz25_1
            try clear hfz25_2
            try clear hfz28_0
            try clear hfz28_1
            try clear hfz28_2
            try clear hfz29_0
            try clear hfz29_1
            try clear hfz29_2
            try clear hfz32_0
            try clear hfz32_1
            try clear hfz32_2
            try clear hfz33_0
            try clear hfz33_1
            try clear hfz33_2
            try clear hfz36_0
            try clear hfz36_1
            try clear hfz36_2
            try clear hfz37_0
            try clear hfz37_1
            try clear hfz37_2
            try clear hfz40_0
            try clear hfz40_1
            try clear hfz40_2
            try clear hfz43_0
            try clear hfz43_1
            try clear hfz43_2
            try clear hx196_0
            try clear hx196_1
            try clear hx196_2
            try clear hx199_0
            try clear hx199_1
            try clear hx199_2
            try clear p1
            try clear p19
            try clear p196
            try clear p199
            try clear p2
            try clear p6
            try clear q1
            try clear q19
            try clear q196
            try clear q199
            obtain ⟨x7_4, rfl, HA, HK4, BK192, BK200, HB⟩ := hrel
            cases gk with
            | zero => exact absurd HA.out (by simp [spec_HostOk.l2])
            | succ k4 =>
             have H := HA.out
             clear HA
             simp only [spec_HostOk.l2] at H
             by_cases c44 : x7_4 < 6
             ·rw [if_pos c44] at H
              have c44b0 : decide (x7_4 < 6) = true := decide_eq_true c44
              clear c44
              by_cases c45 : 0 ≤ x7_4
              ·rw [if_pos c45] at H
               have c45b0 : decide (0 ≤ x7_4) = true := decide_eq_true c45
               clear c45
               by_cases c46 : x7_4 < (((rd_T74 l0_1 x5_3).f0).length : Int)
               ·rw [if_pos c46] at H
                have c46b0 : decide (x7_4 < (((rd_T74 l0_1 x5_3).f0).length : Int)) = true := decide_eq_true c46
                clear c46
                by_cases c47 : x7_4 < (((rd_T74 l0_1 x5_3).f1).length : Int)
                ·rw [if_pos c47] at H
                 have c47b0 : decide (x7_4 < (((rd_T74 l0_1 x5_3).f1).length : Int)) = true := decide_eq_true c47
                 clear c47
                 replace H := Option.bind_eq_some_iff.mp H
                 obtain ⟨t203, A480, H⟩ := H
                 replace H : (if t203 = true then (if x7_4 < (((rd_T74 l0_1 x5_3).f2).length : Int) then ((spec_l12ShadeOk.f ((rd_T74 l0_1 x5_3).f0) ((rd_T74 l0_1 x5_3).f1) ((rd_T74 l0_1 x5_3).f2) ((rd_T90 ((rd_T74 l0_1 x5_3).f2) x7_4).f0) ((rd_T90 ((rd_T74 l0_1 x5_3).f2) x7_4).f1) ((rd_T90 ((rd_T74 l0_1 x5_3).f2) x7_4).f2) ((rd_T90 ((rd_T74 l0_1 x5_3).f2) x7_4).f3)).bind fun t205 => (if t205 = true then (spec_HostOk.l2 k4 x5_3 (wrap64 (x7_4 + 1)) l0_0 l0_1 a0_2 ((rd_T74 l0_1 x5_3).f0) ((rd_T74 l0_1 x5_3).f1) ((rd_T74 l0_1 x5_3).f2)) else (some false))) else (none)) else (some false)) = some r := H
                 have A48 := Az.mk A480
                 clear A480
                 by_cases c49 : t203 = true
                 ·subst c49
                  have H1 : (if x7_4 < (((rd_T74 l0_1 x5_3).f2).length : Int) then ((spec_l12ShadeOk.f ((rd_T74 l0_1 x5_3).f0) ((rd_T74 l0_1 x5_3).f1) ((rd_T74 l0_1 x5_3).f2) ((rd_T90 ((rd_T74 l0_1 x5_3).f2) x7_4).f0) ((rd_T90 ((rd_T74 l0_1 x5_3).f2) x7_4).f1) ((rd_T90 ((rd_T74 l0_1 x5_3).f2) x7_4).f2) ((rd_T90 ((rd_T74 l0_1 x5_3).f2) x7_4).f3)).bind fun t205 => (if t205 = true then (spec_HostOk.l2 k4 x5_3 (wrap64 (x7_4 + 1)) l0_0 l0_1 a0_2 ((rd_T74 l0_1 x5_3).f0) ((rd_T74 l0_1 x5_3).f1) ((rd_T74 l0_1 x5_3).f2)) else (some false))) else (none)) = some r := by rw [if_pos rfl] at H; exact H
                  clear H
                  have H := H1
                  clear H1
                  by_cases c50 : x7_4 < (((rd_T74 l0_1 x5_3).f2).length : Int)
                  ·rw [if_pos c50] at H
                   have c50b0 : decide (x7_4 < (((rd_T74 l0_1 x5_3).f2).length : Int)) = true := decide_eq_true c50
                   clear c50
                   replace H := Option.bind_eq_some_iff.mp H
                   obtain ⟨t205, A510, H⟩ := H
                   replace H : (if t205 = true then (spec_HostOk.l2 k4 x5_3 (wrap64 (x7_4 + 1)) l0_0 l0_1 a0_2 ((rd_T74 l0_1 x5_3).f0) ((rd_T74 l0_1 x5_3).f1) ((rd_T74 l0_1 x5_3).f2)) else (some false)) = some r := H
                   have A51 := Az.mk A510
                   clear A510
                   by_cases c52 : t205 = true
                   ·subst c52
                    have H1 : (spec_HostOk.l2 k4 x5_3 (wrap64 (x7_4 + 1)) l0_0 l0_1 a0_2 ((rd_T74 l0_1 x5_3).f0) ((rd_T74 l0_1 x5_3).f1) ((rd_T74 l0_1 x5_3).f2)) = some r := by rw [if_pos rfl] at H; exact H
                    clear H
                    have H := H1
                    clear H1
                    have H' := Az.mk H
                    clear H
                    try go_wp2
                    have n0_ := Az.mk (Zw BK192.out)
                    have n1_ := Az.mk (Zw BK200.out)
                    have n2_ := Az.mk (Yw HB.out)
                    clear BK192
                    clear BK200
                    clear HB
                    have BK192 := n0_
                    have BK200 := n1_
                    have HB := n2_
                    clear n0_ n1_ n2_
                    have p201 : 0 ≤ (x7_4 : Int) := of_decide_eq_true (by first | (with_reducible assumption) | assumption)
                    have q201 : x7_4 < (((rd_T74 l0_1 x5_3).f0).length : Int) := of_decide_eq_true (by first | (with_reducible assumption) | assumption)
                    obtain ⟨ad201, e201, hx201_0, hx201_1, hx201_2⟩ := at_T87 HR199_0.out x7_4 p201 q201
                    have hw201_2 := hx201_2
                    have hw201_1 := hx201_1
                    have hw201_0 := hx201_0
                    cases e201
                    replace hx201_0 := (HB.out.cell (World.block_lt_of_cell? w _ hx201_0)).trans hx201_0
                    replace hx201_1 := (HB.out.cell (World.block_lt_of_cell? w _ hx201_1)).trans hx201_1
                    replace hx201_2 := (HB.out.cell (World.block_lt_of_cell? w _ hx201_2)).trans hx201_2
                    replace p201 := eq_true p201
                    replace q201 := eq_true q201
                    have p202 : 0 ≤ (x7_4 : Int) := of_decide_eq_true (by first | (with_reducible assumption) | assumption)
                    have q202 : x7_4 < (((rd_T74 l0_1 x5_3).f1).length : Int) := of_decide_eq_true (by first | (with_reducible assumption) | assumption)
                    obtain ⟨ad202, A202_0, c202_0, e202, hx202_0, hl202_0, hi202_0⟩ := at_L1 HR199_1.out x7_4 p202 q202
                    have hw202_0 := hx202_0
                    cases e202
                    replace hx202_0 := (HB.out.cell (World.block_lt_of_cell? w _ hx202_0)).trans hx202_0
                    have HR202_0 := Az.mk hi202_0
                    have HC202_0 := Az.mk hl202_0
                    clear hi202_0 hl202_0
                    replace p202 := eq_true p202
                    replace q202 := eq_true q202
                    have p204 : 0 ≤ (x7_4 : Int) := of_decide_eq_true (by first | (with_reducible assumption) | assumption)
                    have q204 : x7_4 < (((rd_T74 l0_1 x5_3).f2).length : Int) := of_decide_eq_true (by first | (with_reducible assumption) | assumption)
                    obtain ⟨ad204, e204, hx204_0, hx204_1, hx204_2, hx204_3⟩ := at_T90 HR199_2.out x7_4 p204 q204
                    have hw204_3 := hx204_3
                    have hw204_2 := hx204_2
                    have hw204_1 := hx204_1
                    have hw204_0 := hx204_0
                    cases e204
                    replace hx204_0 := (HB.out.cell (World.block_lt_of_cell? w _ hx204_0)).trans hx204_0
                    replace hx204_1 := (HB.out.cell (World.block_lt_of_cell? w _ hx204_1)).trans hx204_1
                    replace hx204_2 := (HB.out.cell (World.block_lt_of_cell? w _ hx204_2)).trans hx204_2
                    replace hx204_3 := (HB.out.cell (World.block_lt_of_cell? w _ hx204_3)).trans hx204_3
                    replace p204 := eq_true p204
                    replace q204 := eq_true q204
                    refine start_ (n := 23) (S := fun w' => w'.cell? ⟨gb192, 0, none⟩ = some (.slice A0_0 l0_0.length c0_0) ∧ w'.cell? ⟨gb192, 1, none⟩ = some (.slice (some ad199) l0_1.length c0_1) ∧ w'.cell? ⟨gb192, 2, none⟩ = some (.int .i64 a0_2) ∧ w'.cell? ⟨gb200, 0, none⟩ = some (.slice (some ad201) ((rd_T74 l0_1 x5_3).f0).length c199_0) ∧ w'.cell? ⟨gb200, 1, none⟩ = some (.slice (some ad202) ((rd_T74 l0_1 x5_3).f1).length c199_1) ∧ w'.cell? ⟨gb200, 2, none⟩ = some (.slice (some ad204) ((rd_T74 l0_1 x5_3).f2).length c199_2) ∧ w'.cell? (ad201.add ((x7_4).toNat * 3)) = some (.bool ((rd_T87 ((rd_T74 l0_1 x5_3).f0) x7_4).f0)) ∧ w'.cell? ⟨(ad201.add ((x7_4).toNat * 3)).block, (ad201.add ((x7_4).toNat * 3)).off + 1, none⟩ = some (.int .i64 ((rd_T87 ((rd_T74 l0_1 x5_3).f0) x7_4).f1)) ∧ w'.cell? ⟨(ad201.add ((x7_4).toNat * 3)).block, (ad201.add ((x7_4).toNat * 3)).off + 2, none⟩ = some (.bool ((rd_T87 ((rd_T74 l0_1 x5_3).f0) x7_4).f2)) ∧ w'.cell? (ad202.add (x7_4).toNat) = some (.slice A202_0 (rd_L1 ((rd_T74 l0_1 x5_3).f1) x7_4).length c202_0) ∧ w'.cell? (ad204.add ((x7_4).toNat * 4)) = some (.bool ((rd_T90 ((rd_T74 l0_1 x5_3).f2) x7_4).f0)) ∧ w'.cell? ⟨(ad204.add ((x7_4).toNat * 4)).block, (ad204.add ((x7_4).toNat * 4)).off + 1, none⟩ = some (.int .i64 ((rd_T90 ((rd_T74 l0_1 x5_3).f2) x7_4).f1)) ∧ w'.cell? ⟨(ad204.add ((x7_4).toNat * 4)).block, (ad204.add ((x7_4).toNat * 4)).off + 2, none⟩ = some (.int .i64 ((rd_T90 ((rd_T74 l0_1 x5_3).f2) x7_4).f2)) ∧ w'.cell? ⟨(ad204.add ((x7_4).toNat * 4)).block, (ad204.add ((x7_4).toNat * 4)).off + 3, none⟩ = some (.bool ((rd_T90 ((rd_T74 l0_1 x5_3).f2) x7_4).f3))) (ds := []) #[false, false, false, false, false, false, false, false, false, false, false, false, false, false, false, false, false, false, false, false, false, false, false] (by kernel_rfl) rfl rfl ⟨(Zc BK192.out 0).trans rfl, (Zc BK192.out 1).trans rfl, (Zc BK192.out 2).trans rfl, (Zc BK200.out 0).trans rfl, (Zc BK200.out 1).trans rfl, (Zc BK200.out 2).trans rfl, (by first | exact ((HB.out.cell (World.block_lt_of_cell? w _ hw201_0)).trans hw201_0) | exact hx201_0), (by first | exact ((HB.out.cell (World.block_lt_of_cell? w _ hw201_1)).trans hw201_1) | exact hx201_1), (by first | exact ((HB.out.cell (World.block_lt_of_cell? w _ hw201_2)).trans hw201_2) | exact hx201_2), (by first | exact ((HB.out.cell (World.block_lt_of_cell? w _ hw202_0)).trans hw202_0) | exact hx202_0), (by first | exact ((HB.out.cell (World.block_lt_of_cell? w _ hw204_0)).trans hw204_0) | exact hx204_0), (by first | exact ((HB.out.cell (World.block_lt_of_cell? w _ hw204_1)).trans hw204_1) | exact hx204_1), (by first | exact ((HB.out.cell (World.block_lt_of_cell? w _ hw204_2)).trans hw204_2) | exact hx204_2), (by first | exact ((HB.out.cell (World.block_lt_of_cell? w _ hw204_3)).trans hw204_3) | exact hx204_3)⟩ (fun hHeld => ?_); refine with_tabW spec_HostOk.tab16 spec_HostOk.bits16 (fun HT_ HW_ => ?_)
                    generalize wr.drew = w53 at BK192 BK200 HB HR202_0 hx201_0 hx201_1 hx201_2 hx202_0 hx204_0 hx204_1 hx204_2 hx204_3 hHeld ⊢
                    refine pure_ (i := 1) (N := some 76) (v := ?_) (a' := ?_) #[false, true, false, false, false, false, false, false, false, false, false, false, false, false, false, false, false, false, false, false, false, false, false] rfl rfl (any_of HT_.out (by kernel_rfl)) (fun _ _ _ h => h) (Or.inl ⟨by rfl, ?_⟩) ?_ ?_
                    rotate_left
                    ·intro w'
                     go_simp
                     with_reducible rfl
                    rotate_left
                    ·simp only [Act.put, List.setIfInBounds_toArray, List.set_cons_zero, List.set_cons_succ, i64_w, i32_w]
                     rfl
                    refine pure_ (i := 3) (N := some 78) (v := ?_) (a' := ?_) #[false, true, false, true, false, false, false, false, false, false, false, false, false, false, false, false, false, false, false, false, false, false, false] rfl rfl (any_of HT_.out (by kernel_rfl)) (fun _ _ _ h => h) (Or.inl ⟨by rfl, ?_⟩) ?_ ?_
                    rotate_left
                    ·intro w'
                     go_simp
                     with_reducible rfl
                    rotate_left
                    ·simp only [Act.put, List.setIfInBounds_toArray, List.set_cons_zero, List.set_cons_succ, i64_w, i32_w]
                     rfl
                    refine pure_ (i := 6) (N := some 81) (v := ?_) (a' := ?_) #[false, true, false, true, false, false, true, false, false, false, false, false, false, false, false, false, false, false, false, false, false, false, false] rfl rfl (any_of HT_.out (by kernel_rfl)) (fun _ _ _ h => h) (Or.inl ⟨by rfl, ?_⟩) ?_ ?_
                    rotate_left
                    ·intro w'
                     go_simp
                     with_reducible rfl
                    rotate_left
                    ·simp only [Act.put, List.setIfInBounds_toArray, List.set_cons_zero, List.set_cons_succ, i64_w, i32_w]
                     rfl
                    refine pure_ (i := 8) (N := some 83) (v := ?_) (a' := ?_) #[false, true, false, true, false, false, true, false, true, false, false, false, false, false, false, false, false, false, false, false, false, false, false] rfl rfl (any_of HT_.out (by kernel_rfl)) (fun _ _ _ h => h) (Or.inl ⟨by rfl, ?_⟩) ?_ ?_
                    rotate_left
                    ·intro w'
                     go_simp
                     with_reducible rfl
                    rotate_left
                    ·simp only [Act.put, List.setIfInBounds_toArray, List.set_cons_zero, List.set_cons_succ, i64_w, i32_w]
                     rfl
                    refine take_ (i := 0) (N := some 75) (v := ?_) (a' := ?_) #[true, true, false, true, false, false, true, false, true, false, false, false, false, false, false, false, false, false, false, false, false, false, false] rfl rfl (take_ofW HT_.out HW_.out (by kernel_rfl)) (fun _ _ _ h => h) (Or.inl ⟨by rfl, ?_⟩) hHeld ?_ ?_
                    rotate_left
                    ·rintro w' ⟨s0, s1, s2, s3, s4, s5, s6, s7, s8, s9, s10, s11, s12, s13⟩
                     go_simp
                     with_reducible rfl
                    rotate_left
                    ·simp only [Act.put, List.setIfInBounds_toArray, List.set_cons_zero, List.set_cons_succ, i64_w, i32_w]
                     rfl
                    refine take_ (i := 2) (N := some 77) (v := ?_) (a' := ?_) #[true, true, true, true, false, false, true, false, true, false, false, false, false, false, false, false, false, false, false, false, false, false, false] rfl rfl (take_ofW HT_.out HW_.out (by kernel_rfl)) (fun _ _ _ h => h) (Or.inl ⟨by rfl, ?_⟩) hHeld ?_ ?_
                    rotate_left
                    ·rintro w' ⟨s0, s1, s2, s3, s4, s5, s6, s7, s8, s9, s10, s11, s12, s13⟩
                     go_simp
                     with_reducible rfl
                    rotate_left
                    ·simp only [Act.put, List.setIfInBounds_toArray, List.set_cons_zero, List.set_cons_succ, i64_w, i32_w]
                     rfl
                    refine pure_ (i := 4) (N := some 79) (v := ?_) (a' := ?_) #[true, true, true, true, true, false, true, false, true, false, false, false, false, false, false, false, false, false, false, false, false, false, false] rfl rfl (any_of HT_.out (by kernel_rfl)) (fun _ _ _ h => h) (Or.inl ⟨by rfl, ?_⟩) ?_ ?_
                    rotate_left
                    ·intro w'
                     go_simp
                     with_reducible rfl
                    rotate_left
                    ·simp only [Act.put, List.setIfInBounds_toArray, List.set_cons_zero, List.set_cons_succ, i64_w, i32_w]
                     rfl
                    refine take_ (i := 5) (N := some 80) (v := ?_) (a' := ?_) #[true, true, true, true, true, true, true, false, true, false, false, false, false, false, false, false, false, false, false, false, false, false, false] rfl rfl (take_ofW HT_.out HW_.out (by kernel_rfl)) (fun _ _ _ h => h) (Or.inl ⟨by rfl, ?_⟩) hHeld ?_ ?_
                    rotate_left
                    ·rintro w' ⟨s0, s1, s2, s3, s4, s5, s6, s7, s8, s9, s10, s11, s12, s13⟩
                     go_simp
                     with_reducible rfl
                    rotate_left
                    ·simp only [Act.put, List.setIfInBounds_toArray, List.set_cons_zero, List.set_cons_succ, i64_w, i32_w]
                     rfl
                    refine take_ (i := 7) (N := some 82) (v := ?_) (a' := ?_) #[true, true, true, true, true, true, true, true, true, false, false, false, false, false, false, false, false, false, false, false, false, false, false] rfl rfl (take_ofW HT_.out HW_.out (by kernel_rfl)) (fun _ _ _ h => h) (Or.inl ⟨by rfl, ?_⟩) hHeld ?_ ?_
                    rotate_left
                    ·rintro w' ⟨s0, s1, s2, s3, s4, s5, s6, s7, s8, s9, s10, s11, s12, s13⟩
                     go_simp
                     with_reducible rfl
                    rotate_left
                    ·simp only [Act.put, List.setIfInBounds_toArray, List.set_cons_zero, List.set_cons_succ, i64_w, i32_w]
                     rfl
                    refine pure_ (i := 9) (N := some 84) (v := ?_) (a' := ?_) #[true, true, true, true, true, true, true, true, true, true, false, false, false, false, false, false, false, false, false, false, false, false, false] rfl rfl (any_of HT_.out (by kernel_rfl)) (fun _ _ _ h => h) (Or.inl ⟨by rfl, ?_⟩) ?_ ?_
                    rotate_left
                    ·intro w'
                     go_simp
                     with_reducible rfl
                    rotate_left
                    ·simp only [Act.put, List.setIfInBounds_toArray, List.set_cons_zero, List.set_cons_succ, i64_w, i32_w]
                     rfl
                    refine take_ (i := 10) (N := some 85) (v := ?_) (a' := ?_) #[true, true, true, true, true, true, true, true, true, true, true, false, false, false, false, false, false, false, false, false, false, false, false] rfl rfl (take_ofW HT_.out HW_.out (by kernel_rfl)) (fun _ _ _ h => h) (Or.inl ⟨by rfl, ?_⟩) hHeld ?_ ?_
                    rotate_left
                    ·rintro w' ⟨s0, s1, s2, s3, s4, s5, s6, s7, s8, s9, s10, s11, s12, s13⟩
                     go_simp
                     with_reducible rfl
                    rotate_left
                    ·simp only [Act.put, List.setIfInBounds_toArray, List.set_cons_zero, List.set_cons_succ, i64_w, i32_w]
                     rfl
                    refine one_ (i := 11) (N := some 86) #[true, true, true, true, true, true, true, true, true, true, true, true, false, false, false, false, false, false, false, false, false, false, false] rfl rfl (one_of HT_.out (by kernel_rfl)) (by decide) (fun K hK => ?_)
                    refine goes_ Try.func79 (by kernel_rfl) rfl #[.agg #[.slice A0_0 l0_0.length c0_0, .slice (some ad199) l0_1.length c0_1, .int .i64 a0_2], .agg #[.bool ((rd_T87 ((rd_T74 l0_1 x5_3).f0) x7_4).f0), .int .i64 ((rd_T87 ((rd_T74 l0_1 x5_3).f0) x7_4).f1), .bool ((rd_T87 ((rd_T74 l0_1 x5_3).f0) x7_4).f2)], .slice A202_0 (rd_L1 ((rd_T74 l0_1 x5_3).f1) x7_4).length c202_0] (by rfl) rfl rfl (by (try simp only [List.map_toArray, List.map_cons, List.map_nil]); first | done | rfl | (simp only [List.length_drop, List.length_take]; rfl)) ?_
                    with_reducible refine (spec_l12MapOk.calls k4 _ _ l0_0 _ _ l0_1 a0_2 ((rd_T87 ((rd_T74 l0_1 x5_3).f0) x7_4).f0) ((rd_T87 ((rd_T74 l0_1 x5_3).f0) x7_4).f1) ((rd_T87 ((rd_T74 l0_1 x5_3).f0) x7_4).f2) _ _ (rd_L1 ((rd_T74 l0_1 x5_3).f1) x7_4) true _ ?side1 ?side2 ?side3 ?side4 ?side5 ?side6 A48.out).mono ?_
                    (case side1 => repeat (first | exact (Kd.Cb_ HR0_0.out HB.out) | exact HR0_0.out | (with_reducible refine Kd.Ca_ ?_ _) | (with_reducible refine Kd.Cn_ ?_ _) | (with_reducible refine Kd.Cw_ ?_)))
                    (case side2 => exact HC0_0.out)
                    (case side3 => repeat (first | exact (Kd.Cb_ HR0_1.out HB.out) | exact HR0_1.out | (with_reducible refine Kd.Ca_ ?_ _) | (with_reducible refine Kd.Cn_ ?_ _) | (with_reducible refine Kd.Cw_ ?_)))
                    (case side4 => exact HC0_1.out)
                    (case side5 => repeat (first | exact (Kd.Cb_ HR202_0.out HB.out) | exact HR202_0.out | (with_reducible refine Kd.Ca_ ?_ _) | (with_reducible refine Kd.Cn_ ?_ _) | (with_reducible refine Kd.Cw_ ?_)))
                    (case side6 => exact HC202_0.out)
                    rintro e w54 ⟨rfl, hb⟩
                    refine ⟨_, rfl, ?_⟩
                    have n0_ := Az.mk (Zb (g := gb192) (o := .cells #[.slice A0_0 l0_0.length c0_0, .slice (some ad199) l0_1.length c0_1, .int .i64 a0_2] 35 (0, 0)) (by (with_reducible repeat (first | refine Zn ?_ _ | refine Zw ?_ | refine Za ?_ _)); exact BK192.out) hb)
                    have n1_ := Az.mk (Zb (g := gb200) (o := .cells #[.slice (some ad201) ((rd_T74 l0_1 x5_3).f0).length c199_0, .slice (some ad202) ((rd_T74 l0_1 x5_3).f1).length c199_1, .slice (some ad204) ((rd_T74 l0_1 x5_3).f2).length c199_2] 74 (0, 0)) (by (with_reducible repeat (first | refine Zn ?_ _ | refine Zw ?_ | refine Za ?_ _)); exact BK200.out) hb)
                    have n2_ := Az.mk (Yt (by repeat (first | (with_reducible first | exact HB.out | apply Ya | apply Yn | apply Yw | refine Ys ?_ GE192.out | refine Ys ?_ GE200.out) | exact HB.out)) hb)
                    clear BK192
                    clear BK200
                    clear HB
                    have BK192 := n0_
                    have BK200 := n1_
                    have HB := n2_
                    clear n0_ n1_ n2_
                    (try clear hb)
                    (try clear hb2)
                    (try clear hk)
                    (try clear hi)
                    refine hK.out _ _ ⟨(Zc BK192.out 0).trans rfl, (Zc BK192.out 1).trans rfl, (Zc BK192.out 2).trans rfl, (Zc BK200.out 0).trans rfl, (Zc BK200.out 1).trans rfl, (Zc BK200.out 2).trans rfl, (by first | exact ((HB.out.cell (World.block_lt_of_cell? w _ hw201_0)).trans hw201_0) | exact hx201_0), (by first | exact ((HB.out.cell (World.block_lt_of_cell? w _ hw201_1)).trans hw201_1) | exact hx201_1), (by first | exact ((HB.out.cell (World.block_lt_of_cell? w _ hw201_2)).trans hw201_2) | exact hx201_2), (by first | exact ((HB.out.cell (World.block_lt_of_cell? w _ hw202_0)).trans hw202_0) | exact hx202_0), (by first | exact ((HB.out.cell (World.block_lt_of_cell? w _ hw204_0)).trans hw204_0) | exact hx204_0), (by first | exact ((HB.out.cell (World.block_lt_of_cell? w _ hw204_1)).trans hw204_1) | exact hx204_1), (by first | exact ((HB.out.cell (World.block_lt_of_cell? w _ hw204_2)).trans hw204_2) | exact hx204_2), (by first | exact ((HB.out.cell (World.block_lt_of_cell? w _ hw204_3)).trans hw204_3) | exact hx204_3)⟩ (fun hHeld => ?_)
                    clear hK K
                    refine norm_ (a' := ?_) ?_ ?_
                    rotate_left
                    ·show Act.put _ (some 86) _ = _
                     simp only [Act.put, List.setIfInBounds_toArray, List.set_cons_zero, List.set_cons_succ, i64_w, i32_w]
                     rfl
                    refine pure_ (i := 12) (N := some 87) (v := ?_) (a' := ?_) #[true, true, true, true, true, true, true, true, true, true, true, true, true, false, false, false, false, false, false, false, false, false, false] rfl rfl (any_of HT_.out (by kernel_rfl)) (fun _ _ _ h => h) (Or.inl ⟨by rfl, ?_⟩) ?_ ?_
                    rotate_left
                    ·intro w'
                     go_simp
                     with_reducible rfl
                    rotate_left
                    ·simp only [Act.put, List.setIfInBounds_toArray, List.set_cons_zero, List.set_cons_succ, i64_w, i32_w]
                     rfl
                    refine pure_ (i := 13) (N := some 88) (v := ?_) (a' := ?_) #[true, true, true, true, true, true, true, true, true, true, true, true, true, true, false, false, false, false, false, false, false, false, false] rfl rfl (any_of HT_.out (by kernel_rfl)) (fun _ _ _ h => h) (Or.inl ⟨by rfl, ?_⟩) ?_ ?_
                    rotate_left
                    ·intro w'
                     go_simp
                     with_reducible rfl
                    rotate_left
                    ·simp only [Act.put, List.setIfInBounds_toArray, List.set_cons_zero, List.set_cons_succ, i64_w, i32_w]
                     rfl
                    refine pure_ (i := 15) (N := some 90) (v := ?_) (a' := ?_) #[true, true, true, true, true, true, true, true, true, true, true, true, true, true, false, true, false, false, false, false, false, false, false] rfl rfl (any_of HT_.out (by kernel_rfl)) (fun _ _ _ h => h) (Or.inl ⟨by rfl, ?_⟩) ?_ ?_
                    rotate_left
                    ·intro w'
                     go_simp
                     with_reducible rfl
                    rotate_left
                    ·simp only [Act.put, List.setIfInBounds_toArray, List.set_cons_zero, List.set_cons_succ, i64_w, i32_w]
                     rfl
                    refine pure_ (i := 17) (N := some 92) (v := ?_) (a' := ?_) #[true, true, true, true, true, true, true, true, true, true, true, true, true, true, false, true, false, true, false, false, false, false, false] rfl rfl (any_of HT_.out (by kernel_rfl)) (fun _ _ _ h => h) (Or.inl ⟨by rfl, ?_⟩) ?_ ?_
                    rotate_left
                    ·intro w'
                     go_simp
                     with_reducible rfl
                    rotate_left
                    ·simp only [Act.put, List.setIfInBounds_toArray, List.set_cons_zero, List.set_cons_succ, i64_w, i32_w]
                     rfl
                    refine take_ (i := 14) (N := some 89) (v := ?_) (a' := ?_) #[true, true, true, true, true, true, true, true, true, true, true, true, true, true, true, true, false, true, false, false, false, false, false] rfl rfl (take_ofW HT_.out HW_.out (by kernel_rfl)) (fun _ _ _ h => h) (Or.inl ⟨by rfl, ?_⟩) hHeld ?_ ?_
                    rotate_left
                    ·rintro w' ⟨s0, s1, s2, s3, s4, s5, s6, s7, s8, s9, s10, s11, s12, s13⟩
                     go_simp
                     with_reducible rfl
                    rotate_left
                    ·simp only [Act.put, List.setIfInBounds_toArray, List.set_cons_zero, List.set_cons_succ, i64_w, i32_w]
                     rfl
                    refine take_ (i := 16) (N := some 91) (v := ?_) (a' := ?_) #[true, true, true, true, true, true, true, true, true, true, true, true, true, true, true, true, true, true, false, false, false, false, false] rfl rfl (take_ofW HT_.out HW_.out (by kernel_rfl)) (fun _ _ _ h => h) (Or.inl ⟨by rfl, ?_⟩) hHeld ?_ ?_
                    rotate_left
                    ·rintro w' ⟨s0, s1, s2, s3, s4, s5, s6, s7, s8, s9, s10, s11, s12, s13⟩
                     go_simp
                     with_reducible rfl
                    rotate_left
                    ·simp only [Act.put, List.setIfInBounds_toArray, List.set_cons_zero, List.set_cons_succ, i64_w, i32_w]
                     rfl
                    refine pure_ (i := 18) (N := some 93) (v := ?_) (a' := ?_) #[true, true, true, true, true, true, true, true, true, true, true, true, true, true, true, true, true, true, true, false, false, false, false] rfl rfl (any_of HT_.out (by kernel_rfl)) (fun _ _ _ h => h) (Or.inl ⟨by rfl, ?_⟩) ?_ ?_
                    rotate_left
                    ·intro w'
                     go_simp
                     with_reducible rfl
                    rotate_left
                    ·simp only [Act.put, List.setIfInBounds_toArray, List.set_cons_zero, List.set_cons_succ, i64_w, i32_w]
                     rfl
                    refine take_ (i := 19) (N := some 94) (v := ?_) (a' := ?_) #[true, true, true, true, true, true, true, true, true, true, true, true, true, true, true, true, true, true, true, true, false, false, false] rfl rfl (take_ofW HT_.out HW_.out (by kernel_rfl)) (fun _ _ _ h => h) (Or.inl ⟨by rfl, ?_⟩) hHeld ?_ ?_
                    rotate_left
                    ·rintro w' ⟨s0, s1, s2, s3, s4, s5, s6, s7, s8, s9, s10, s11, s12, s13⟩
                     go_simp
                     with_reducible rfl
                    rotate_left
                    ·simp only [Act.put, List.setIfInBounds_toArray, List.set_cons_zero, List.set_cons_succ, i64_w, i32_w]
                     rfl
                    refine one_ (i := 20) (N := some 95) #[true, true, true, true, true, true, true, true, true, true, true, true, true, true, true, true, true, true, true, true, true, false, false] rfl rfl (one_of HT_.out (by kernel_rfl)) (by decide) (fun K hK => ?_)
                    refine goes_ Try.func80 (by kernel_rfl) rfl #[.agg #[.slice (some ad201) ((rd_T74 l0_1 x5_3).f0).length c199_0, .slice (some ad202) ((rd_T74 l0_1 x5_3).f1).length c199_1, .slice (some ad204) ((rd_T74 l0_1 x5_3).f2).length c199_2], .agg #[.bool ((rd_T90 ((rd_T74 l0_1 x5_3).f2) x7_4).f0), .int .i64 ((rd_T90 ((rd_T74 l0_1 x5_3).f2) x7_4).f1), .int .i64 ((rd_T90 ((rd_T74 l0_1 x5_3).f2) x7_4).f2), .bool ((rd_T90 ((rd_T74 l0_1 x5_3).f2) x7_4).f3)]] (by rfl) rfl rfl (by (try simp only [List.map_toArray, List.map_cons, List.map_nil]); first | done | rfl | (simp only [List.length_drop, List.length_take]; rfl)) ?_
                    with_reducible refine (spec_l12ShadeOk.calls _ _ ((rd_T74 l0_1 x5_3).f0) _ _ ((rd_T74 l0_1 x5_3).f1) _ _ ((rd_T74 l0_1 x5_3).f2) ((rd_T90 ((rd_T74 l0_1 x5_3).f2) x7_4).f0) ((rd_T90 ((rd_T74 l0_1 x5_3).f2) x7_4).f1) ((rd_T90 ((rd_T74 l0_1 x5_3).f2) x7_4).f2) ((rd_T90 ((rd_T74 l0_1 x5_3).f2) x7_4).f3) true _ ?side1 ?side2 ?side3 ?side4 ?side5 ?side6 A51.out).mono ?_
                    (case side1 => repeat (first | exact (Kd.Cb_ HR199_0.out HB.out) | exact HR199_0.out | (with_reducible refine Kd.Ca_ ?_ _) | (with_reducible refine Kd.Cn_ ?_ _) | (with_reducible refine Kd.Cw_ ?_)))
                    (case side2 => exact HC199_0.out)
                    (case side3 => repeat (first | exact (Kd.Cb_ HR199_1.out HB.out) | exact HR199_1.out | (with_reducible refine Kd.Ca_ ?_ _) | (with_reducible refine Kd.Cn_ ?_ _) | (with_reducible refine Kd.Cw_ ?_)))
                    (case side4 => exact HC199_1.out)
                    (case side5 => repeat (first | exact (Kd.Cb_ HR199_2.out HB.out) | exact HR199_2.out | (with_reducible refine Kd.Ca_ ?_ _) | (with_reducible refine Kd.Cn_ ?_ _) | (with_reducible refine Kd.Cw_ ?_)))
                    (case side6 => exact HC199_2.out)
                    rintro e w55 ⟨rfl, hb⟩
                    refine ⟨_, rfl, ?_⟩
                    have n0_ := Az.mk (Zb (g := gb192) (o := .cells #[.slice A0_0 l0_0.length c0_0, .slice (some ad199) l0_1.length c0_1, .int .i64 a0_2] 35 (0, 0)) (by (with_reducible repeat (first | refine Zn ?_ _ | refine Zw ?_ | refine Za ?_ _)); exact BK192.out) hb)
                    have n1_ := Az.mk (Zb (g := gb200) (o := .cells #[.slice (some ad201) ((rd_T74 l0_1 x5_3).f0).length c199_0, .slice (some ad202) ((rd_T74 l0_1 x5_3).f1).length c199_1, .slice (some ad204) ((rd_T74 l0_1 x5_3).f2).length c199_2] 74 (0, 0)) (by (with_reducible repeat (first | refine Zn ?_ _ | refine Zw ?_ | refine Za ?_ _)); exact BK200.out) hb)
                    have n2_ := Az.mk (Yt (by repeat (first | (with_reducible first | exact HB.out | apply Ya | apply Yn | apply Yw | refine Ys ?_ GE192.out | refine Ys ?_ GE200.out) | exact HB.out)) hb)
                    clear BK192
                    clear BK200
                    clear HB
                    have BK192 := n0_
                    have BK200 := n1_
                    have HB := n2_
                    clear n0_ n1_ n2_
                    (try clear hb)
                    (try clear hb2)
                    (try clear hk)
                    (try clear hi)
                    refine hK.out _ _ ⟨(Zc BK192.out 0).trans rfl, (Zc BK192.out 1).trans rfl, (Zc BK192.out 2).trans rfl, (Zc BK200.out 0).trans rfl, (Zc BK200.out 1).trans rfl, (Zc BK200.out 2).trans rfl, (by first | exact ((HB.out.cell (World.block_lt_of_cell? w _ hw201_0)).trans hw201_0) | exact hx201_0), (by first | exact ((HB.out.cell (World.block_lt_of_cell? w _ hw201_1)).trans hw201_1) | exact hx201_1), (by first | exact ((HB.out.cell (World.block_lt_of_cell? w _ hw201_2)).trans hw201_2) | exact hx201_2), (by first | exact ((HB.out.cell (World.block_lt_of_cell? w _ hw202_0)).trans hw202_0) | exact hx202_0), (by first | exact ((HB.out.cell (World.block_lt_of_cell? w _ hw204_0)).trans hw204_0) | exact hx204_0), (by first | exact ((HB.out.cell (World.block_lt_of_cell? w _ hw204_1)).trans hw204_1) | exact hx204_1), (by first | exact ((HB.out.cell (World.block_lt_of_cell? w _ hw204_2)).trans hw204_2) | exact hx204_2), (by first | exact ((HB.out.cell (World.block_lt_of_cell? w _ hw204_3)).trans hw204_3) | exact hx204_3)⟩ (fun hHeld => ?_)
                    clear hK K
                    refine norm_ (a' := ?_) ?_ ?_
                    rotate_left
                    ·show Act.put _ (some 95) _ = _
                     simp only [Act.put, List.setIfInBounds_toArray, List.set_cons_zero, List.set_cons_succ, i64_w, i32_w]
                     rfl
                    refine pure_ (i := 21) (N := some 96) (v := ?_) (a' := ?_) #[true, true, true, true, true, true, true, true, true, true, true, true, true, true, true, true, true, true, true, true, true, true, false] rfl rfl (any_of HT_.out (by kernel_rfl)) (fun _ _ _ h => h) (Or.inl ⟨by rfl, ?_⟩) ?_ ?_
                    rotate_left
                    ·intro w'
                     go_simp
                     with_reducible rfl
                    rotate_left
                    ·simp only [Act.put, List.setIfInBounds_toArray, List.set_cons_zero, List.set_cons_succ, i64_w, i32_w]
                     rfl
                    refine pure_ (i := 22) (N := some 97) (v := ?_) (a' := ?_) #[true, true, true, true, true, true, true, true, true, true, true, true, true, true, true, true, true, true, true, true, true, true, true] rfl rfl (any_of HT_.out (by kernel_rfl)) (fun _ _ _ h => h) (Or.inl ⟨by rfl, ?_⟩) ?_ ?_
                    rotate_left
                    ·intro w'
                     go_simp
                     with_reducible rfl
                    rotate_left
                    ·simp only [Act.put, List.setIfInBounds_toArray, List.set_cons_zero, List.set_cons_succ, i64_w, i32_w]
                     rfl
                    refine done_ (done_of HT_.out (by kernel_rfl)) ?_
                    try go_wp2
                    go_roundg k4
                    case measure => have := HJ1.out; have := HK2.out; have := HK3.out; have := HK4.out; omega
                    case rel => exact ⟨(wrap64 (x7_4 + 1)), (by first | rfl | (simp; done) | (simp [*]; done)), H', ⟨by have := HJ1.out; have := HK2.out; have := HK3.out; have := HK4.out; omega⟩, ⟨by (with_reducible repeat (first | refine Zn ?_ _ | refine Zw ?_ | refine Za ?_ _)); exact BK192.out⟩, ⟨by (with_reducible repeat (first | refine Zn ?_ _ | refine Zw ?_ | refine Za ?_ _)); exact BK200.out⟩, ⟨by repeat (first | (with_reducible first | exact HB.out | apply Ya | apply Yn | apply Yw | refine Ys ?_ GE192.out | refine Ys ?_ GE200.out) | exact HB.out)⟩⟩
                   ·replace c52 := Bool.eq_false_iff.mpr c52
                    subst c52
                    have H1 : (some false) = some r := by rw [if_neg (show ¬ (false = true) by decide)] at H; exact H
                    clear H
                    have H := H1
                    clear H1
                    obtain rfl := Option.some.inj H
                    try go_wp2
                    have n0_ := Az.mk (Zw BK192.out)
                    have n1_ := Az.mk (Zw BK200.out)
                    have n2_ := Az.mk (Yw HB.out)
                    clear BK192
                    clear BK200
                    clear HB
                    have BK192 := n0_
                    have BK200 := n1_
                    have HB := n2_
                    clear n0_ n1_ n2_
                    have p201 : 0 ≤ (x7_4 : Int) := of_decide_eq_true (by first | (with_reducible assumption) | assumption)
                    have q201 : x7_4 < (((rd_T74 l0_1 x5_3).f0).length : Int) := of_decide_eq_true (by first | (with_reducible assumption) | assumption)
                    obtain ⟨ad201, e201, hx201_0, hx201_1, hx201_2⟩ := at_T87 HR199_0.out x7_4 p201 q201
                    have hw201_2 := hx201_2
                    have hw201_1 := hx201_1
                    have hw201_0 := hx201_0
                    cases e201
                    replace hx201_0 := (HB.out.cell (World.block_lt_of_cell? w _ hx201_0)).trans hx201_0
                    replace hx201_1 := (HB.out.cell (World.block_lt_of_cell? w _ hx201_1)).trans hx201_1
                    replace hx201_2 := (HB.out.cell (World.block_lt_of_cell? w _ hx201_2)).trans hx201_2
                    replace p201 := eq_true p201
                    replace q201 := eq_true q201
                    have p202 : 0 ≤ (x7_4 : Int) := of_decide_eq_true (by first | (with_reducible assumption) | assumption)
                    have q202 : x7_4 < (((rd_T74 l0_1 x5_3).f1).length : Int) := of_decide_eq_true (by first | (with_reducible assumption) | assumption)
                    obtain ⟨ad202, A202_0, c202_0, e202, hx202_0, hl202_0, hi202_0⟩ := at_L1 HR199_1.out x7_4 p202 q202
                    have hw202_0 := hx202_0
                    cases e202
                    replace hx202_0 := (HB.out.cell (World.block_lt_of_cell? w _ hx202_0)).trans hx202_0
                    have HR202_0 := Az.mk hi202_0
                    have HC202_0 := Az.mk hl202_0
                    clear hi202_0 hl202_0
                    replace p202 := eq_true p202
                    replace q202 := eq_true q202
                    have p204 : 0 ≤ (x7_4 : Int) := of_decide_eq_true (by first | (with_reducible assumption) | assumption)
                    have q204 : x7_4 < (((rd_T74 l0_1 x5_3).f2).length : Int) := of_decide_eq_true (by first | (with_reducible assumption) | assumption)
                    obtain ⟨ad204, e204, hx204_0, hx204_1, hx204_2, hx204_3⟩ := at_T90 HR199_2.out x7_4 p204 q204
                    have hw204_3 := hx204_3
                    have hw204_2 := hx204_2
                    have hw204_1 := hx204_1
                    have hw204_0 := hx204_0
                    cases e204
                    replace hx204_0 := (HB.out.cell (World.block_lt_of_cell? w _ hx204_0)).trans hx204_0
                    replace hx204_1 := (HB.out.cell (World.block_lt_of_cell? w _ hx204_1)).trans hx204_1
                    replace hx204_2 := (HB.out.cell (World.block_lt_of_cell? w _ hx204_2)).trans hx204_2
                    replace hx204_3 := (HB.out.cell (World.block_lt_of_cell? w _ hx204_3)).trans hx204_3
                    replace p204 := eq_true p204
                    replace q204 := eq_true q204
                    refine start_ (n := 23) (S := fun w' => w'.cell? ⟨gb192, 0, none⟩ = some (.slice A0_0 l0_0.length c0_0) ∧ w'.cell? ⟨gb192, 1, none⟩ = some (.slice (some ad199) l0_1.length c0_1) ∧ w'.cell? ⟨gb192, 2, none⟩ = some (.int .i64 a0_2) ∧ w'.cell? ⟨gb200, 0, none⟩ = some (.slice (some ad201) ((rd_T74 l0_1 x5_3).f0).length c199_0) ∧ w'.cell? ⟨gb200, 1, none⟩ = some (.slice (some ad202) ((rd_T74 l0_1 x5_3).f1).length c199_1) ∧ w'.cell? ⟨gb200, 2, none⟩ = some (.slice (some ad204) ((rd_T74 l0_1 x5_3).f2).length c199_2) ∧ w'.cell? (ad201.add ((x7_4).toNat * 3)) = some (.bool ((rd_T87 ((rd_T74 l0_1 x5_3).f0) x7_4).f0)) ∧ w'.cell? ⟨(ad201.add ((x7_4).toNat * 3)).block, (ad201.add ((x7_4).toNat * 3)).off + 1, none⟩ = some (.int .i64 ((rd_T87 ((rd_T74 l0_1 x5_3).f0) x7_4).f1)) ∧ w'.cell? ⟨(ad201.add ((x7_4).toNat * 3)).block, (ad201.add ((x7_4).toNat * 3)).off + 2, none⟩ = some (.bool ((rd_T87 ((rd_T74 l0_1 x5_3).f0) x7_4).f2)) ∧ w'.cell? (ad202.add (x7_4).toNat) = some (.slice A202_0 (rd_L1 ((rd_T74 l0_1 x5_3).f1) x7_4).length c202_0) ∧ w'.cell? (ad204.add ((x7_4).toNat * 4)) = some (.bool ((rd_T90 ((rd_T74 l0_1 x5_3).f2) x7_4).f0)) ∧ w'.cell? ⟨(ad204.add ((x7_4).toNat * 4)).block, (ad204.add ((x7_4).toNat * 4)).off + 1, none⟩ = some (.int .i64 ((rd_T90 ((rd_T74 l0_1 x5_3).f2) x7_4).f1)) ∧ w'.cell? ⟨(ad204.add ((x7_4).toNat * 4)).block, (ad204.add ((x7_4).toNat * 4)).off + 2, none⟩ = some (.int .i64 ((rd_T90 ((rd_T74 l0_1 x5_3).f2) x7_4).f2)) ∧ w'.cell? ⟨(ad204.add ((x7_4).toNat * 4)).block, (ad204.add ((x7_4).toNat * 4)).off + 3, none⟩ = some (.bool ((rd_T90 ((rd_T74 l0_1 x5_3).f2) x7_4).f3))) (ds := []) #[false, false, false, false, false, false, false, false, false, false, false, false, false, false, false, false, false, false, false, false, false, false, false] (by kernel_rfl) rfl rfl ⟨(Zc BK192.out 0).trans rfl, (Zc BK192.out 1).trans rfl, (Zc BK192.out 2).trans rfl, (Zc BK200.out 0).trans rfl, (Zc BK200.out 1).trans rfl, (Zc BK200.out 2).trans rfl, (by first | exact ((HB.out.cell (World.block_lt_of_cell? w _ hw201_0)).trans hw201_0) | exact hx201_0), (by first | exact ((HB.out.cell (World.block_lt_of_cell? w _ hw201_1)).trans hw201_1) | exact hx201_1), (by first | exact ((HB.out.cell (World.block_lt_of_cell? w _ hw201_2)).trans hw201_2) | exact hx201_2), (by first | exact ((HB.out.cell (World.block_lt_of_cell? w _ hw202_0)).trans hw202_0) | exact hx202_0), (by first | exact ((HB.out.cell (World.block_lt_of_cell? w _ hw204_0)).trans hw204_0) | exact hx204_0), (by first | exact ((HB.out.cell (World.block_lt_of_cell? w _ hw204_1)).trans hw204_1) | exact hx204_1), (by first | exact ((HB.out.cell (World.block_lt_of_cell? w _ hw204_2)).trans hw204_2) | exact hx204_2), (by first | exact ((HB.out.cell (World.block_lt_of_cell? w _ hw204_3)).trans hw204_3) | exact hx204_3)⟩ (fun hHeld => ?_); refine with_tabW spec_HostOk.tab16 spec_HostOk.bits16 (fun HT_ HW_ => ?_)
                    generalize wr.drew = w56 at BK192 BK200 HB HR202_0 hx201_0 hx201_1 hx201_2 hx202_0 hx204_0 hx204_1 hx204_2 hx204_3 hHeld ⊢
                    refine pure_ (i := 1) (N := some 76) (v := ?_) (a' := ?_) #[false, true, false, false, false, false, false, false, false, false, false, false, false, false, false, false, false, false, false, false, false, false, false] rfl rfl (any_of HT_.out (by kernel_rfl)) (fun _ _ _ h => h) (Or.inl ⟨by rfl, ?_⟩) ?_ ?_
                    rotate_left
                    ·intro w'
                     go_simp
                     with_reducible rfl
                    rotate_left
                    ·simp only [Act.put, List.setIfInBounds_toArray, List.set_cons_zero, List.set_cons_succ, i64_w, i32_w]
                     rfl
                    refine pure_ (i := 3) (N := some 78) (v := ?_) (a' := ?_) #[false, true, false, true, false, false, false, false, false, false, false, false, false, false, false, false, false, false, false, false, false, false, false] rfl rfl (any_of HT_.out (by kernel_rfl)) (fun _ _ _ h => h) (Or.inl ⟨by rfl, ?_⟩) ?_ ?_
                    rotate_left
                    ·intro w'
                     go_simp
                     with_reducible rfl
                    rotate_left
                    ·simp only [Act.put, List.setIfInBounds_toArray, List.set_cons_zero, List.set_cons_succ, i64_w, i32_w]
                     rfl
                    refine pure_ (i := 6) (N := some 81) (v := ?_) (a' := ?_) #[false, true, false, true, false, false, true, false, false, false, false, false, false, false, false, false, false, false, false, false, false, false, false] rfl rfl (any_of HT_.out (by kernel_rfl)) (fun _ _ _ h => h) (Or.inl ⟨by rfl, ?_⟩) ?_ ?_
                    rotate_left
                    ·intro w'
                     go_simp
                     with_reducible rfl
                    rotate_left
                    ·simp only [Act.put, List.setIfInBounds_toArray, List.set_cons_zero, List.set_cons_succ, i64_w, i32_w]
                     rfl
                    refine pure_ (i := 8) (N := some 83) (v := ?_) (a' := ?_) #[false, true, false, true, false, false, true, false, true, false, false, false, false, false, false, false, false, false, false, false, false, false, false] rfl rfl (any_of HT_.out (by kernel_rfl)) (fun _ _ _ h => h) (Or.inl ⟨by rfl, ?_⟩) ?_ ?_
                    rotate_left
                    ·intro w'
                     go_simp
                     with_reducible rfl
                    rotate_left
                    ·simp only [Act.put, List.setIfInBounds_toArray, List.set_cons_zero, List.set_cons_succ, i64_w, i32_w]
                     rfl
                    refine take_ (i := 0) (N := some 75) (v := ?_) (a' := ?_) #[true, true, false, true, false, false, true, false, true, false, false, false, false, false, false, false, false, false, false, false, false, false, false] rfl rfl (take_ofW HT_.out HW_.out (by kernel_rfl)) (fun _ _ _ h => h) (Or.inl ⟨by rfl, ?_⟩) hHeld ?_ ?_
                    rotate_left
                    ·rintro w' ⟨s0, s1, s2, s3, s4, s5, s6, s7, s8, s9, s10, s11, s12, s13⟩
                     go_simp
                     with_reducible rfl
                    rotate_left
                    ·simp only [Act.put, List.setIfInBounds_toArray, List.set_cons_zero, List.set_cons_succ, i64_w, i32_w]
                     rfl
                    refine take_ (i := 2) (N := some 77) (v := ?_) (a' := ?_) #[true, true, true, true, false, false, true, false, true, false, false, false, false, false, false, false, false, false, false, false, false, false, false] rfl rfl (take_ofW HT_.out HW_.out (by kernel_rfl)) (fun _ _ _ h => h) (Or.inl ⟨by rfl, ?_⟩) hHeld ?_ ?_
                    rotate_left
                    ·rintro w' ⟨s0, s1, s2, s3, s4, s5, s6, s7, s8, s9, s10, s11, s12, s13⟩
                     go_simp
                     with_reducible rfl
                    rotate_left
                    ·simp only [Act.put, List.setIfInBounds_toArray, List.set_cons_zero, List.set_cons_succ, i64_w, i32_w]
                     rfl
                    refine pure_ (i := 4) (N := some 79) (v := ?_) (a' := ?_) #[true, true, true, true, true, false, true, false, true, false, false, false, false, false, false, false, false, false, false, false, false, false, false] rfl rfl (any_of HT_.out (by kernel_rfl)) (fun _ _ _ h => h) (Or.inl ⟨by rfl, ?_⟩) ?_ ?_
                    rotate_left
                    ·intro w'
                     go_simp
                     with_reducible rfl
                    rotate_left
                    ·simp only [Act.put, List.setIfInBounds_toArray, List.set_cons_zero, List.set_cons_succ, i64_w, i32_w]
                     rfl
                    refine take_ (i := 5) (N := some 80) (v := ?_) (a' := ?_) #[true, true, true, true, true, true, true, false, true, false, false, false, false, false, false, false, false, false, false, false, false, false, false] rfl rfl (take_ofW HT_.out HW_.out (by kernel_rfl)) (fun _ _ _ h => h) (Or.inl ⟨by rfl, ?_⟩) hHeld ?_ ?_
                    rotate_left
                    ·rintro w' ⟨s0, s1, s2, s3, s4, s5, s6, s7, s8, s9, s10, s11, s12, s13⟩
                     go_simp
                     with_reducible rfl
                    rotate_left
                    ·simp only [Act.put, List.setIfInBounds_toArray, List.set_cons_zero, List.set_cons_succ, i64_w, i32_w]
                     rfl
                    refine take_ (i := 7) (N := some 82) (v := ?_) (a' := ?_) #[true, true, true, true, true, true, true, true, true, false, false, false, false, false, false, false, false, false, false, false, false, false, false] rfl rfl (take_ofW HT_.out HW_.out (by kernel_rfl)) (fun _ _ _ h => h) (Or.inl ⟨by rfl, ?_⟩) hHeld ?_ ?_
                    rotate_left
                    ·rintro w' ⟨s0, s1, s2, s3, s4, s5, s6, s7, s8, s9, s10, s11, s12, s13⟩
                     go_simp
                     with_reducible rfl
                    rotate_left
                    ·simp only [Act.put, List.setIfInBounds_toArray, List.set_cons_zero, List.set_cons_succ, i64_w, i32_w]
                     rfl
                    refine pure_ (i := 9) (N := some 84) (v := ?_) (a' := ?_) #[true, true, true, true, true, true, true, true, true, true, false, false, false, false, false, false, false, false, false, false, false, false, false] rfl rfl (any_of HT_.out (by kernel_rfl)) (fun _ _ _ h => h) (Or.inl ⟨by rfl, ?_⟩) ?_ ?_
                    rotate_left
                    ·intro w'
                     go_simp
                     with_reducible rfl
                    rotate_left
                    ·simp only [Act.put, List.setIfInBounds_toArray, List.set_cons_zero, List.set_cons_succ, i64_w, i32_w]
                     rfl
                    refine take_ (i := 10) (N := some 85) (v := ?_) (a' := ?_) #[true, true, true, true, true, true, true, true, true, true, true, false, false, false, false, false, false, false, false, false, false, false, false] rfl rfl (take_ofW HT_.out HW_.out (by kernel_rfl)) (fun _ _ _ h => h) (Or.inl ⟨by rfl, ?_⟩) hHeld ?_ ?_
                    rotate_left
                    ·rintro w' ⟨s0, s1, s2, s3, s4, s5, s6, s7, s8, s9, s10, s11, s12, s13⟩
                     go_simp
                     with_reducible rfl
                    rotate_left
                    ·simp only [Act.put, List.setIfInBounds_toArray, List.set_cons_zero, List.set_cons_succ, i64_w, i32_w]
                     rfl
                    refine one_ (i := 11) (N := some 86) #[true, true, true, true, true, true, true, true, true, true, true, true, false, false, false, false, false, false, false, false, false, false, false] rfl rfl (one_of HT_.out (by kernel_rfl)) (by decide) (fun K hK => ?_)
                    refine goes_ Try.func79 (by kernel_rfl) rfl #[.agg #[.slice A0_0 l0_0.length c0_0, .slice (some ad199) l0_1.length c0_1, .int .i64 a0_2], .agg #[.bool ((rd_T87 ((rd_T74 l0_1 x5_3).f0) x7_4).f0), .int .i64 ((rd_T87 ((rd_T74 l0_1 x5_3).f0) x7_4).f1), .bool ((rd_T87 ((rd_T74 l0_1 x5_3).f0) x7_4).f2)], .slice A202_0 (rd_L1 ((rd_T74 l0_1 x5_3).f1) x7_4).length c202_0] (by rfl) rfl rfl (by (try simp only [List.map_toArray, List.map_cons, List.map_nil]); first | done | rfl | (simp only [List.length_drop, List.length_take]; rfl)) ?_
                    with_reducible refine (spec_l12MapOk.calls k4 _ _ l0_0 _ _ l0_1 a0_2 ((rd_T87 ((rd_T74 l0_1 x5_3).f0) x7_4).f0) ((rd_T87 ((rd_T74 l0_1 x5_3).f0) x7_4).f1) ((rd_T87 ((rd_T74 l0_1 x5_3).f0) x7_4).f2) _ _ (rd_L1 ((rd_T74 l0_1 x5_3).f1) x7_4) true _ ?side1 ?side2 ?side3 ?side4 ?side5 ?side6 A48.out).mono ?_
                    (case side1 => repeat (first | exact (Kd.Cb_ HR0_0.out HB.out) | exact HR0_0.out | (with_reducible refine Kd.Ca_ ?_ _) | (with_reducible refine Kd.Cn_ ?_ _) | (with_reducible refine Kd.Cw_ ?_)))
                    (case side2 => exact HC0_0.out)
                    (case side3 => repeat (first | exact (Kd.Cb_ HR0_1.out HB.out) | exact HR0_1.out | (with_reducible refine Kd.Ca_ ?_ _) | (with_reducible refine Kd.Cn_ ?_ _) | (with_reducible refine Kd.Cw_ ?_)))
                    (case side4 => exact HC0_1.out)
                    (case side5 => repeat (first | exact (Kd.Cb_ HR202_0.out HB.out) | exact HR202_0.out | (with_reducible refine Kd.Ca_ ?_ _) | (with_reducible refine Kd.Cn_ ?_ _) | (with_reducible refine Kd.Cw_ ?_)))
                    (case side6 => exact HC202_0.out)
                    rintro e w57 ⟨rfl, hb⟩
                    refine ⟨_, rfl, ?_⟩
                    have n0_ := Az.mk (Zb (g := gb192) (o := .cells #[.slice A0_0 l0_0.length c0_0, .slice (some ad199) l0_1.length c0_1, .int .i64 a0_2] 35 (0, 0)) (by (with_reducible repeat (first | refine Zn ?_ _ | refine Zw ?_ | refine Za ?_ _)); exact BK192.out) hb)
                    have n1_ := Az.mk (Zb (g := gb200) (o := .cells #[.slice (some ad201) ((rd_T74 l0_1 x5_3).f0).length c199_0, .slice (some ad202) ((rd_T74 l0_1 x5_3).f1).length c199_1, .slice (some ad204) ((rd_T74 l0_1 x5_3).f2).length c199_2] 74 (0, 0)) (by (with_reducible repeat (first | refine Zn ?_ _ | refine Zw ?_ | refine Za ?_ _)); exact BK200.out) hb)
                    have n2_ := Az.mk (Yt (by repeat (first | (with_reducible first | exact HB.out | apply Ya | apply Yn | apply Yw | refine Ys ?_ GE192.out | refine Ys ?_ GE200.out) | exact HB.out)) hb)
                    clear BK192
                    clear BK200
                    clear HB
                    have BK192 := n0_
                    have BK200 := n1_
                    have HB := n2_
                    clear n0_ n1_ n2_
                    (try clear hb)
                    (try clear hb2)
                    (try clear hk)
                    (try clear hi)
                    refine hK.out _ _ ⟨(Zc BK192.out 0).trans rfl, (Zc BK192.out 1).trans rfl, (Zc BK192.out 2).trans rfl, (Zc BK200.out 0).trans rfl, (Zc BK200.out 1).trans rfl, (Zc BK200.out 2).trans rfl, (by first | exact ((HB.out.cell (World.block_lt_of_cell? w _ hw201_0)).trans hw201_0) | exact hx201_0), (by first | exact ((HB.out.cell (World.block_lt_of_cell? w _ hw201_1)).trans hw201_1) | exact hx201_1), (by first | exact ((HB.out.cell (World.block_lt_of_cell? w _ hw201_2)).trans hw201_2) | exact hx201_2), (by first | exact ((HB.out.cell (World.block_lt_of_cell? w _ hw202_0)).trans hw202_0) | exact hx202_0), (by first | exact ((HB.out.cell (World.block_lt_of_cell? w _ hw204_0)).trans hw204_0) | exact hx204_0), (by first | exact ((HB.out.cell (World.block_lt_of_cell? w _ hw204_1)).trans hw204_1) | exact hx204_1), (by first | exact ((HB.out.cell (World.block_lt_of_cell? w _ hw204_2)).trans hw204_2) | exact hx204_2), (by first | exact ((HB.out.cell (World.block_lt_of_cell? w _ hw204_3)).trans hw204_3) | exact hx204_3)⟩ (fun hHeld => ?_)
                    clear hK K
                    refine norm_ (a' := ?_) ?_ ?_
                    rotate_left
                    ·show Act.put _ (some 86) _ = _
                     simp only [Act.put, List.setIfInBounds_toArray, List.set_cons_zero, List.set_cons_succ, i64_w, i32_w]
                     rfl
                    refine pure_ (i := 12) (N := some 87) (v := ?_) (a' := ?_) #[true, true, true, true, true, true, true, true, true, true, true, true, true, false, false, false, false, false, false, false, false, false, false] rfl rfl (any_of HT_.out (by kernel_rfl)) (fun _ _ _ h => h) (Or.inl ⟨by rfl, ?_⟩) ?_ ?_
                    rotate_left
                    ·intro w'
                     go_simp
                     with_reducible rfl
                    rotate_left
                    ·simp only [Act.put, List.setIfInBounds_toArray, List.set_cons_zero, List.set_cons_succ, i64_w, i32_w]
                     rfl
                    refine pure_ (i := 13) (N := some 88) (v := ?_) (a' := ?_) #[true, true, true, true, true, true, true, true, true, true, true, true, true, true, false, false, false, false, false, false, false, false, false] rfl rfl (any_of HT_.out (by kernel_rfl)) (fun _ _ _ h => h) (Or.inl ⟨by rfl, ?_⟩) ?_ ?_
                    rotate_left
                    ·intro w'
                     go_simp
                     with_reducible rfl
                    rotate_left
                    ·simp only [Act.put, List.setIfInBounds_toArray, List.set_cons_zero, List.set_cons_succ, i64_w, i32_w]
                     rfl
                    refine pure_ (i := 15) (N := some 90) (v := ?_) (a' := ?_) #[true, true, true, true, true, true, true, true, true, true, true, true, true, true, false, true, false, false, false, false, false, false, false] rfl rfl (any_of HT_.out (by kernel_rfl)) (fun _ _ _ h => h) (Or.inl ⟨by rfl, ?_⟩) ?_ ?_
                    rotate_left
                    ·intro w'
                     go_simp
                     with_reducible rfl
                    rotate_left
                    ·simp only [Act.put, List.setIfInBounds_toArray, List.set_cons_zero, List.set_cons_succ, i64_w, i32_w]
                     rfl
                    refine pure_ (i := 17) (N := some 92) (v := ?_) (a' := ?_) #[true, true, true, true, true, true, true, true, true, true, true, true, true, true, false, true, false, true, false, false, false, false, false] rfl rfl (any_of HT_.out (by kernel_rfl)) (fun _ _ _ h => h) (Or.inl ⟨by rfl, ?_⟩) ?_ ?_
                    rotate_left
                    ·intro w'
                     go_simp
                     with_reducible rfl
                    rotate_left
                    ·simp only [Act.put, List.setIfInBounds_toArray, List.set_cons_zero, List.set_cons_succ, i64_w, i32_w]
                     rfl
                    refine take_ (i := 14) (N := some 89) (v := ?_) (a' := ?_) #[true, true, true, true, true, true, true, true, true, true, true, true, true, true, true, true, false, true, false, false, false, false, false] rfl rfl (take_ofW HT_.out HW_.out (by kernel_rfl)) (fun _ _ _ h => h) (Or.inl ⟨by rfl, ?_⟩) hHeld ?_ ?_
                    rotate_left
                    ·rintro w' ⟨s0, s1, s2, s3, s4, s5, s6, s7, s8, s9, s10, s11, s12, s13⟩
                     go_simp
                     with_reducible rfl
                    rotate_left
                    ·simp only [Act.put, List.setIfInBounds_toArray, List.set_cons_zero, List.set_cons_succ, i64_w, i32_w]
                     rfl
                    refine take_ (i := 16) (N := some 91) (v := ?_) (a' := ?_) #[true, true, true, true, true, true, true, true, true, true, true, true, true, true, true, true, true, true, false, false, false, false, false] rfl rfl (take_ofW HT_.out HW_.out (by kernel_rfl)) (fun _ _ _ h => h) (Or.inl ⟨by rfl, ?_⟩) hHeld ?_ ?_
                    rotate_left
                    ·rintro w' ⟨s0, s1, s2, s3, s4, s5, s6, s7, s8, s9, s10, s11, s12, s13⟩
                     go_simp
                     with_reducible rfl
                    rotate_left
                    ·simp only [Act.put, List.setIfInBounds_toArray, List.set_cons_zero, List.set_cons_succ, i64_w, i32_w]
                     rfl
                    refine pure_ (i := 18) (N := some 93) (v := ?_) (a' := ?_) #[true, true, true, true, true, true, true, true, true, true, true, true, true, true, true, true, true, true, true, false, false, false, false] rfl rfl (any_of HT_.out (by kernel_rfl)) (fun _ _ _ h => h) (Or.inl ⟨by rfl, ?_⟩) ?_ ?_
                    rotate_left
                    ·intro w'
                     go_simp
                     with_reducible rfl
                    rotate_left
                    ·simp only [Act.put, List.setIfInBounds_toArray, List.set_cons_zero, List.set_cons_succ, i64_w, i32_w]
                     rfl
                    refine take_ (i := 19) (N := some 94) (v := ?_) (a' := ?_) #[true, true, true, true, true, true, true, true, true, true, true, true, true, true, true, true, true, true, true, true, false, false, false] rfl rfl (take_ofW HT_.out HW_.out (by kernel_rfl)) (fun _ _ _ h => h) (Or.inl ⟨by rfl, ?_⟩) hHeld ?_ ?_
                    rotate_left
                    ·rintro w' ⟨s0, s1, s2, s3, s4, s5, s6, s7, s8, s9, s10, s11, s12, s13⟩
                     go_simp
                     with_reducible rfl
                    rotate_left
                    ·simp only [Act.put, List.setIfInBounds_toArray, List.set_cons_zero, List.set_cons_succ, i64_w, i32_w]
                     rfl
                    refine one_ (i := 20) (N := some 95) #[true, true, true, true, true, true, true, true, true, true, true, true, true, true, true, true, true, true, true, true, true, false, false] rfl rfl (one_of HT_.out (by kernel_rfl)) (by decide) (fun K hK => ?_)
                    refine goes_ Try.func80 (by kernel_rfl) rfl #[.agg #[.slice (some ad201) ((rd_T74 l0_1 x5_3).f0).length c199_0, .slice (some ad202) ((rd_T74 l0_1 x5_3).f1).length c199_1, .slice (some ad204) ((rd_T74 l0_1 x5_3).f2).length c199_2], .agg #[.bool ((rd_T90 ((rd_T74 l0_1 x5_3).f2) x7_4).f0), .int .i64 ((rd_T90 ((rd_T74 l0_1 x5_3).f2) x7_4).f1), .int .i64 ((rd_T90 ((rd_T74 l0_1 x5_3).f2) x7_4).f2), .bool ((rd_T90 ((rd_T74 l0_1 x5_3).f2) x7_4).f3)]] (by rfl) rfl rfl (by (try simp only [List.map_toArray, List.map_cons, List.map_nil]); first | done | rfl | (simp only [List.length_drop, List.length_take]; rfl)) ?_
                    with_reducible refine (spec_l12ShadeOk.calls _ _ ((rd_T74 l0_1 x5_3).f0) _ _ ((rd_T74 l0_1 x5_3).f1) _ _ ((rd_T74 l0_1 x5_3).f2) ((rd_T90 ((rd_T74 l0_1 x5_3).f2) x7_4).f0) ((rd_T90 ((rd_T74 l0_1 x5_3).f2) x7_4).f1) ((rd_T90 ((rd_T74 l0_1 x5_3).f2) x7_4).f2) ((rd_T90 ((rd_T74 l0_1 x5_3).f2) x7_4).f3) false _ ?side1 ?side2 ?side3 ?side4 ?side5 ?side6 A51.out).mono ?_
                    (case side1 => repeat (first | exact (Kd.Cb_ HR199_0.out HB.out) | exact HR199_0.out | (with_reducible refine Kd.Ca_ ?_ _) | (with_reducible refine Kd.Cn_ ?_ _) | (with_reducible refine Kd.Cw_ ?_)))
                    (case side2 => exact HC199_0.out)
                    (case side3 => repeat (first | exact (Kd.Cb_ HR199_1.out HB.out) | exact HR199_1.out | (with_reducible refine Kd.Ca_ ?_ _) | (with_reducible refine Kd.Cn_ ?_ _) | (with_reducible refine Kd.Cw_ ?_)))
                    (case side4 => exact HC199_1.out)
                    (case side5 => repeat (first | exact (Kd.Cb_ HR199_2.out HB.out) | exact HR199_2.out | (with_reducible refine Kd.Ca_ ?_ _) | (with_reducible refine Kd.Cn_ ?_ _) | (with_reducible refine Kd.Cw_ ?_)))
                    (case side6 => exact HC199_2.out)
                    rintro e w58 ⟨rfl, hb⟩
                    refine ⟨_, rfl, ?_⟩
                    have n0_ := Az.mk (Zb (g := gb192) (o := .cells #[.slice A0_0 l0_0.length c0_0, .slice (some ad199) l0_1.length c0_1, .int .i64 a0_2] 35 (0, 0)) (by (with_reducible repeat (first | refine Zn ?_ _ | refine Zw ?_ | refine Za ?_ _)); exact BK192.out) hb)
                    have n1_ := Az.mk (Zb (g := gb200) (o := .cells #[.slice (some ad201) ((rd_T74 l0_1 x5_3).f0).length c199_0, .slice (some ad202) ((rd_T74 l0_1 x5_3).f1).length c199_1, .slice (some ad204) ((rd_T74 l0_1 x5_3).f2).length c199_2] 74 (0, 0)) (by (with_reducible repeat (first | refine Zn ?_ _ | refine Zw ?_ | refine Za ?_ _)); exact BK200.out) hb)
                    have n2_ := Az.mk (Yt (by repeat (first | (with_reducible first | exact HB.out | apply Ya | apply Yn | apply Yw | refine Ys ?_ GE192.out | refine Ys ?_ GE200.out) | exact HB.out)) hb)
                    clear BK192
                    clear BK200
                    clear HB
                    have BK192 := n0_
                    have BK200 := n1_
                    have HB := n2_
                    clear n0_ n1_ n2_
                    (try clear hb)
                    (try clear hb2)
                    (try clear hk)
                    (try clear hi)
                    refine hK.out _ _ ⟨(Zc BK192.out 0).trans rfl, (Zc BK192.out 1).trans rfl, (Zc BK192.out 2).trans rfl, (Zc BK200.out 0).trans rfl, (Zc BK200.out 1).trans rfl, (Zc BK200.out 2).trans rfl, (by first | exact ((HB.out.cell (World.block_lt_of_cell? w _ hw201_0)).trans hw201_0) | exact hx201_0), (by first | exact ((HB.out.cell (World.block_lt_of_cell? w _ hw201_1)).trans hw201_1) | exact hx201_1), (by first | exact ((HB.out.cell (World.block_lt_of_cell? w _ hw201_2)).trans hw201_2) | exact hx201_2), (by first | exact ((HB.out.cell (World.block_lt_of_cell? w _ hw202_0)).trans hw202_0) | exact hx202_0), (by first | exact ((HB.out.cell (World.block_lt_of_cell? w _ hw204_0)).trans hw204_0) | exact hx204_0), (by first | exact ((HB.out.cell (World.block_lt_of_cell? w _ hw204_1)).trans hw204_1) | exact hx204_1), (by first | exact ((HB.out.cell (World.block_lt_of_cell? w _ hw204_2)).trans hw204_2) | exact hx204_2), (by first | exact ((HB.out.cell (World.block_lt_of_cell? w _ hw204_3)).trans hw204_3) | exact hx204_3)⟩ (fun hHeld => ?_)
                    clear hK K
                    refine norm_ (a' := ?_) ?_ ?_
                    rotate_left
                    ·show Act.put _ (some 95) _ = _
                     simp only [Act.put, List.setIfInBounds_toArray, List.set_cons_zero, List.set_cons_succ, i64_w, i32_w]
                     rfl
                    refine pure_ (i := 21) (N := some 96) (v := ?_) (a' := ?_) #[true, true, true, true, true, true, true, true, true, true, true, true, true, true, true, true, true, true, true, true, true, true, false] rfl rfl (any_of HT_.out (by kernel_rfl)) (fun _ _ _ h => h) (Or.inl ⟨by rfl, ?_⟩) ?_ ?_
                    rotate_left
                    ·intro w'
                     go_simp
                     with_reducible rfl
                    rotate_left
                    ·simp only [Act.put, List.setIfInBounds_toArray, List.set_cons_zero, List.set_cons_succ, i64_w, i32_w]
                     rfl
                    refine pure_ (i := 22) (N := some 97) (v := ?_) (a' := ?_) #[true, true, true, true, true, true, true, true, true, true, true, true, true, true, true, true, true, true, true, true, true, true, true] rfl rfl (any_of HT_.out (by kernel_rfl)) (fun _ _ _ h => h) (Or.inl ⟨by rfl, ?_⟩) ?_ ?_
                    rotate_left
                    ·intro w'
                     go_simp
                     with_reducible rfl
                    rotate_left
                    ·simp only [Act.put, List.setIfInBounds_toArray, List.set_cons_zero, List.set_cons_succ, i64_w, i32_w]
                     rfl
                    refine done_ (done_of HT_.out (by kernel_rfl)) ?_
                    try go_wp2
                    go_ret
                    exact ⟨by first | rfl | (simp [errW_none, errW_some] <;> rfl) | (simp [*, errW_none, errW_some] <;> rfl), by repeat (first | (with_reducible first | exact HB.out | apply Ya | apply Yn | apply Yw | refine Ys ?_ GE192.out | refine Ys ?_ GE200.out) | exact HB.out)⟩
                  ·rw [if_neg c50] at H
                   exact absurd H (by simp)
                 ·replace c49 := Bool.eq_false_iff.mpr c49
                  subst c49
                  have H1 : (some false) = some r := by rw [if_neg (show ¬ (false = true) by decide)] at H; exact H
                  clear H
                  have H := H1
                  clear H1
                  obtain rfl := Option.some.inj H
                  try go_wp2
                  have n0_ := Az.mk (Zw BK192.out)
                  have n1_ := Az.mk (Zw BK200.out)
                  have n2_ := Az.mk (Yw HB.out)
                  clear BK192
                  clear BK200
                  clear HB
                  have BK192 := n0_
                  have BK200 := n1_
                  have HB := n2_
                  clear n0_ n1_ n2_
                  have p201 : 0 ≤ (x7_4 : Int) := of_decide_eq_true (by first | (with_reducible assumption) | assumption)
                  have q201 : x7_4 < (((rd_T74 l0_1 x5_3).f0).length : Int) := of_decide_eq_true (by first | (with_reducible assumption) | assumption)
                  obtain ⟨ad201, e201, hx201_0, hx201_1, hx201_2⟩ := at_T87 HR199_0.out x7_4 p201 q201
                  have hw201_2 := hx201_2
                  have hw201_1 := hx201_1
                  have hw201_0 := hx201_0
                  cases e201
                  replace hx201_0 := (HB.out.cell (World.block_lt_of_cell? w _ hx201_0)).trans hx201_0
                  replace hx201_1 := (HB.out.cell (World.block_lt_of_cell? w _ hx201_1)).trans hx201_1
                  replace hx201_2 := (HB.out.cell (World.block_lt_of_cell? w _ hx201_2)).trans hx201_2
                  replace p201 := eq_true p201
                  replace q201 := eq_true q201
                  have p202 : 0 ≤ (x7_4 : Int) := of_decide_eq_true (by first | (with_reducible assumption) | assumption)
                  have q202 : x7_4 < (((rd_T74 l0_1 x5_3).f1).length : Int) := of_decide_eq_true (by first | (with_reducible assumption) | assumption)
                  obtain ⟨ad202, A202_0, c202_0, e202, hx202_0, hl202_0, hi202_0⟩ := at_L1 HR199_1.out x7_4 p202 q202
                  have hw202_0 := hx202_0
                  cases e202
                  replace hx202_0 := (HB.out.cell (World.block_lt_of_cell? w _ hx202_0)).trans hx202_0
                  have HR202_0 := Az.mk hi202_0
                  have HC202_0 := Az.mk hl202_0
                  clear hi202_0 hl202_0
                  replace p202 := eq_true p202
                  replace q202 := eq_true q202
                  refine start_ (n := 23) (S := fun w' => w'.cell? ⟨gb192, 0, none⟩ = some (.slice A0_0 l0_0.length c0_0) ∧ w'.cell? ⟨gb192, 1, none⟩ = some (.slice (some ad199) l0_1.length c0_1) ∧ w'.cell? ⟨gb192, 2, none⟩ = some (.int .i64 a0_2) ∧ w'.cell? ⟨gb200, 0, none⟩ = some (.slice (some ad201) ((rd_T74 l0_1 x5_3).f0).length c199_0) ∧ w'.cell? ⟨gb200, 1, none⟩ = some (.slice (some ad202) ((rd_T74 l0_1 x5_3).f1).length c199_1) ∧ w'.cell? ⟨gb200, 2, none⟩ = some (.slice A199_2 ((rd_T74 l0_1 x5_3).f2).length c199_2) ∧ w'.cell? (ad201.add ((x7_4).toNat * 3)) = some (.bool ((rd_T87 ((rd_T74 l0_1 x5_3).f0) x7_4).f0)) ∧ w'.cell? ⟨(ad201.add ((x7_4).toNat * 3)).block, (ad201.add ((x7_4).toNat * 3)).off + 1, none⟩ = some (.int .i64 ((rd_T87 ((rd_T74 l0_1 x5_3).f0) x7_4).f1)) ∧ w'.cell? ⟨(ad201.add ((x7_4).toNat * 3)).block, (ad201.add ((x7_4).toNat * 3)).off + 2, none⟩ = some (.bool ((rd_T87 ((rd_T74 l0_1 x5_3).f0) x7_4).f2)) ∧ w'.cell? (ad202.add (x7_4).toNat) = some (.slice A202_0 (rd_L1 ((rd_T74 l0_1 x5_3).f1) x7_4).length c202_0)) (ds := []) #[false, false, false, false, false, false, false, false, false, false, false, false, false, false, false, false, false, false, false, false, false, false, false] (by kernel_rfl) rfl rfl ⟨(Zc BK192.out 0).trans rfl, (Zc BK192.out 1).trans rfl, (Zc BK192.out 2).trans rfl, (Zc BK200.out 0).trans rfl, (Zc BK200.out 1).trans rfl, (Zc BK200.out 2).trans rfl, (by first | exact ((HB.out.cell (World.block_lt_of_cell? w _ hw201_0)).trans hw201_0) | exact hx201_0), (by first | exact ((HB.out.cell (World.block_lt_of_cell? w _ hw201_1)).trans hw201_1) | exact hx201_1), (by first | exact ((HB.out.cell (World.block_lt_of_cell? w _ hw201_2)).trans hw201_2) | exact hx201_2), (by first | exact ((HB.out.cell (World.block_lt_of_cell? w _ hw202_0)).trans hw202_0) | exact hx202_0)⟩ (fun hHeld => ?_); refine with_tabW spec_HostOk.tab16 spec_HostOk.bits16 (fun HT_ HW_ => ?_)
                  generalize wr.drew = w59 at BK192 BK200 HB HR202_0 hx201_0 hx201_1 hx201_2 hx202_0 hHeld ⊢
                  refine pure_ (i := 1) (N := some 76) (v := ?_) (a' := ?_) #[false, true, false, false, false, false, false, false, false, false, false, false, false, false, false, false, false, false, false, false, false, false, false] rfl rfl (any_of HT_.out (by kernel_rfl)) (fun _ _ _ h => h) (Or.inl ⟨by rfl, ?_⟩) ?_ ?_
                  rotate_left
                  ·intro w'
                   go_simp
                   with_reducible rfl
                  rotate_left
                  ·simp only [Act.put, List.setIfInBounds_toArray, List.set_cons_zero, List.set_cons_succ, i64_w, i32_w]
                   rfl
                  refine pure_ (i := 3) (N := some 78) (v := ?_) (a' := ?_) #[false, true, false, true, false, false, false, false, false, false, false, false, false, false, false, false, false, false, false, false, false, false, false] rfl rfl (any_of HT_.out (by kernel_rfl)) (fun _ _ _ h => h) (Or.inl ⟨by rfl, ?_⟩) ?_ ?_
                  rotate_left
                  ·intro w'
                   go_simp
                   with_reducible rfl
                  rotate_left
                  ·simp only [Act.put, List.setIfInBounds_toArray, List.set_cons_zero, List.set_cons_succ, i64_w, i32_w]
                   rfl
                  refine pure_ (i := 6) (N := some 81) (v := ?_) (a' := ?_) #[false, true, false, true, false, false, true, false, false, false, false, false, false, false, false, false, false, false, false, false, false, false, false] rfl rfl (any_of HT_.out (by kernel_rfl)) (fun _ _ _ h => h) (Or.inl ⟨by rfl, ?_⟩) ?_ ?_
                  rotate_left
                  ·intro w'
                   go_simp
                   with_reducible rfl
                  rotate_left
                  ·simp only [Act.put, List.setIfInBounds_toArray, List.set_cons_zero, List.set_cons_succ, i64_w, i32_w]
                   rfl
                  refine pure_ (i := 8) (N := some 83) (v := ?_) (a' := ?_) #[false, true, false, true, false, false, true, false, true, false, false, false, false, false, false, false, false, false, false, false, false, false, false] rfl rfl (any_of HT_.out (by kernel_rfl)) (fun _ _ _ h => h) (Or.inl ⟨by rfl, ?_⟩) ?_ ?_
                  rotate_left
                  ·intro w'
                   go_simp
                   with_reducible rfl
                  rotate_left
                  ·simp only [Act.put, List.setIfInBounds_toArray, List.set_cons_zero, List.set_cons_succ, i64_w, i32_w]
                   rfl
                  refine take_ (i := 0) (N := some 75) (v := ?_) (a' := ?_) #[true, true, false, true, false, false, true, false, true, false, false, false, false, false, false, false, false, false, false, false, false, false, false] rfl rfl (take_ofW HT_.out HW_.out (by kernel_rfl)) (fun _ _ _ h => h) (Or.inl ⟨by rfl, ?_⟩) hHeld ?_ ?_
                  rotate_left
                  ·rintro w' ⟨s0, s1, s2, s3, s4, s5, s6, s7, s8, s9⟩
                   go_simp
                   with_reducible rfl
                  rotate_left
                  ·simp only [Act.put, List.setIfInBounds_toArray, List.set_cons_zero, List.set_cons_succ, i64_w, i32_w]
                   rfl
                  refine take_ (i := 2) (N := some 77) (v := ?_) (a' := ?_) #[true, true, true, true, false, false, true, false, true, false, false, false, false, false, false, false, false, false, false, false, false, false, false] rfl rfl (take_ofW HT_.out HW_.out (by kernel_rfl)) (fun _ _ _ h => h) (Or.inl ⟨by rfl, ?_⟩) hHeld ?_ ?_
                  rotate_left
                  ·rintro w' ⟨s0, s1, s2, s3, s4, s5, s6, s7, s8, s9⟩
                   go_simp
                   with_reducible rfl
                  rotate_left
                  ·simp only [Act.put, List.setIfInBounds_toArray, List.set_cons_zero, List.set_cons_succ, i64_w, i32_w]
                   rfl
                  refine pure_ (i := 4) (N := some 79) (v := ?_) (a' := ?_) #[true, true, true, true, true, false, true, false, true, false, false, false, false, false, false, false, false, false, false, false, false, false, false] rfl rfl (any_of HT_.out (by kernel_rfl)) (fun _ _ _ h => h) (Or.inl ⟨by rfl, ?_⟩) ?_ ?_
                  rotate_left
                  ·intro w'
                   go_simp
                   with_reducible rfl
                  rotate_left
                  ·simp only [Act.put, List.setIfInBounds_toArray, List.set_cons_zero, List.set_cons_succ, i64_w, i32_w]
                   rfl
                  refine take_ (i := 5) (N := some 80) (v := ?_) (a' := ?_) #[true, true, true, true, true, true, true, false, true, false, false, false, false, false, false, false, false, false, false, false, false, false, false] rfl rfl (take_ofW HT_.out HW_.out (by kernel_rfl)) (fun _ _ _ h => h) (Or.inl ⟨by rfl, ?_⟩) hHeld ?_ ?_
                  rotate_left
                  ·rintro w' ⟨s0, s1, s2, s3, s4, s5, s6, s7, s8, s9⟩
                   go_simp
                   with_reducible rfl
                  rotate_left
                  ·simp only [Act.put, List.setIfInBounds_toArray, List.set_cons_zero, List.set_cons_succ, i64_w, i32_w]
                   rfl
                  refine take_ (i := 7) (N := some 82) (v := ?_) (a' := ?_) #[true, true, true, true, true, true, true, true, true, false, false, false, false, false, false, false, false, false, false, false, false, false, false] rfl rfl (take_ofW HT_.out HW_.out (by kernel_rfl)) (fun _ _ _ h => h) (Or.inl ⟨by rfl, ?_⟩) hHeld ?_ ?_
                  rotate_left
                  ·rintro w' ⟨s0, s1, s2, s3, s4, s5, s6, s7, s8, s9⟩
                   go_simp
                   with_reducible rfl
                  rotate_left
                  ·simp only [Act.put, List.setIfInBounds_toArray, List.set_cons_zero, List.set_cons_succ, i64_w, i32_w]
                   rfl
                  refine pure_ (i := 9) (N := some 84) (v := ?_) (a' := ?_) #[true, true, true, true, true, true, true, true, true, true, false, false, false, false, false, false, false, false, false, false, false, false, false] rfl rfl (any_of HT_.out (by kernel_rfl)) (fun _ _ _ h => h) (Or.inl ⟨by rfl, ?_⟩) ?_ ?_
                  rotate_left
                  ·intro w'
                   go_simp
                   with_reducible rfl
                  rotate_left
                  ·simp only [Act.put, List.setIfInBounds_toArray, List.set_cons_zero, List.set_cons_succ, i64_w, i32_w]
                   rfl
                  refine take_ (i := 10) (N := some 85) (v := ?_) (a' := ?_) #[true, true, true, true, true, true, true, true, true, true, true, false, false, false, false, false, false, false, false, false, false, false, false] rfl rfl (take_ofW HT_.out HW_.out (by kernel_rfl)) (fun _ _ _ h => h) (Or.inl ⟨by rfl, ?_⟩) hHeld ?_ ?_
                  rotate_left
                  ·rintro w' ⟨s0, s1, s2, s3, s4, s5, s6, s7, s8, s9⟩
                   go_simp
                   with_reducible rfl
                  rotate_left
                  ·simp only [Act.put, List.setIfInBounds_toArray, List.set_cons_zero, List.set_cons_succ, i64_w, i32_w]
                   rfl
                  refine one_ (i := 11) (N := some 86) #[true, true, true, true, true, true, true, true, true, true, true, true, false, false, false, false, false, false, false, false, false, false, false] rfl rfl (one_of HT_.out (by kernel_rfl)) (by decide) (fun K hK => ?_)
                  refine goes_ Try.func79 (by kernel_rfl) rfl #[.agg #[.slice A0_0 l0_0.length c0_0, .slice (some ad199) l0_1.length c0_1, .int .i64 a0_2], .agg #[.bool ((rd_T87 ((rd_T74 l0_1 x5_3).f0) x7_4).f0), .int .i64 ((rd_T87 ((rd_T74 l0_1 x5_3).f0) x7_4).f1), .bool ((rd_T87 ((rd_T74 l0_1 x5_3).f0) x7_4).f2)], .slice A202_0 (rd_L1 ((rd_T74 l0_1 x5_3).f1) x7_4).length c202_0] (by rfl) rfl rfl (by (try simp only [List.map_toArray, List.map_cons, List.map_nil]); first | done | rfl | (simp only [List.length_drop, List.length_take]; rfl)) ?_
                  with_reducible refine (spec_l12MapOk.calls k4 _ _ l0_0 _ _ l0_1 a0_2 ((rd_T87 ((rd_T74 l0_1 x5_3).f0) x7_4).f0) ((rd_T87 ((rd_T74 l0_1 x5_3).f0) x7_4).f1) ((rd_T87 ((rd_T74 l0_1 x5_3).f0) x7_4).f2) _ _ (rd_L1 ((rd_T74 l0_1 x5_3).f1) x7_4) false _ ?side1 ?side2 ?side3 ?side4 ?side5 ?side6 A48.out).mono ?_
                  (case side1 => repeat (first | exact (Kd.Cb_ HR0_0.out HB.out) | exact HR0_0.out | (with_reducible refine Kd.Ca_ ?_ _) | (with_reducible refine Kd.Cn_ ?_ _) | (with_reducible refine Kd.Cw_ ?_)))
                  (case side2 => exact HC0_0.out)
                  (case side3 => repeat (first | exact (Kd.Cb_ HR0_1.out HB.out) | exact HR0_1.out | (with_reducible refine Kd.Ca_ ?_ _) | (with_reducible refine Kd.Cn_ ?_ _) | (with_reducible refine Kd.Cw_ ?_)))
                  (case side4 => exact HC0_1.out)
                  (case side5 => repeat (first | exact (Kd.Cb_ HR202_0.out HB.out) | exact HR202_0.out | (with_reducible refine Kd.Ca_ ?_ _) | (with_reducible refine Kd.Cn_ ?_ _) | (with_reducible refine Kd.Cw_ ?_)))
                  (case side6 => exact HC202_0.out)
                  rintro e w60 ⟨rfl, hb⟩
                  refine ⟨_, rfl, ?_⟩
                  have n0_ := Az.mk (Zb (g := gb192) (o := .cells #[.slice A0_0 l0_0.length c0_0, .slice (some ad199) l0_1.length c0_1, .int .i64 a0_2] 35 (0, 0)) (by (with_reducible repeat (first | refine Zn ?_ _ | refine Zw ?_ | refine Za ?_ _)); exact BK192.out) hb)
                  have n1_ := Az.mk (Zb (g := gb200) (o := .cells #[.slice (some ad201) ((rd_T74 l0_1 x5_3).f0).length c199_0, .slice (some ad202) ((rd_T74 l0_1 x5_3).f1).length c199_1, .slice A199_2 ((rd_T74 l0_1 x5_3).f2).length c199_2] 74 (0, 0)) (by (with_reducible repeat (first | refine Zn ?_ _ | refine Zw ?_ | refine Za ?_ _)); exact BK200.out) hb)
                  have n2_ := Az.mk (Yt (by repeat (first | (with_reducible first | exact HB.out | apply Ya | apply Yn | apply Yw | refine Ys ?_ GE192.out | refine Ys ?_ GE200.out) | exact HB.out)) hb)
                  clear BK192
                  clear BK200
                  clear HB
                  have BK192 := n0_
                  have BK200 := n1_
                  have HB := n2_
                  clear n0_ n1_ n2_
                  (try clear hb)
                  (try clear hb2)
                  (try clear hk)
                  (try clear hi)
                  refine hK.out _ _ ⟨(Zc BK192.out 0).trans rfl, (Zc BK192.out 1).trans rfl, (Zc BK192.out 2).trans rfl, (Zc BK200.out 0).trans rfl, (Zc BK200.out 1).trans rfl, (Zc BK200.out 2).trans rfl, (by first | exact ((HB.out.cell (World.block_lt_of_cell? w _ hw201_0)).trans hw201_0) | exact hx201_0), (by first | exact ((HB.out.cell (World.block_lt_of_cell? w _ hw201_1)).trans hw201_1) | exact hx201_1), (by first | exact ((HB.out.cell (World.block_lt_of_cell? w _ hw201_2)).trans hw201_2) | exact hx201_2), (by first | exact ((HB.out.cell (World.block_lt_of_cell? w _ hw202_0)).trans hw202_0) | exact hx202_0)⟩ (fun hHeld => ?_)
                  clear hK K
                  refine norm_ (a' := ?_) ?_ ?_
                  rotate_left
                  ·show Act.put _ (some 86) _ = _
                   simp only [Act.put, List.setIfInBounds_toArray, List.set_cons_zero, List.set_cons_succ, i64_w, i32_w]
                   rfl
                  refine pure_ (i := 12) (N := some 87) (v := ?_) (a' := ?_) #[true, true, true, true, true, true, true, true, true, true, true, true, true, false, false, false, false, false, false, false, false, false, false] rfl rfl (any_of HT_.out (by kernel_rfl)) (fun _ _ _ h => h) (Or.inl ⟨by rfl, ?_⟩) ?_ ?_
                  rotate_left
                  ·intro w'
                   go_simp
                   with_reducible rfl
                  rotate_left
                  ·simp only [Act.put, List.setIfInBounds_toArray, List.set_cons_zero, List.set_cons_succ, i64_w, i32_w]
                   rfl
                  refine pure_ (i := 13) (N := some 88) (v := ?_) (a' := ?_) #[true, true, true, true, true, true, true, true, true, true, true, true, true, true, false, false, false, false, false, false, false, false, false] rfl rfl (any_of HT_.out (by kernel_rfl)) (fun _ _ _ h => h) (Or.inl ⟨by rfl, ?_⟩) ?_ ?_
                  rotate_left
                  ·intro w'
                   go_simp
                   with_reducible rfl
                  rotate_left
                  ·simp only [Act.put, List.setIfInBounds_toArray, List.set_cons_zero, List.set_cons_succ, i64_w, i32_w]
                   rfl
                  refine pure_ (i := 14) (N := some 89) (v := undef) (a' := ?_) #[true, true, true, true, true, true, true, true, true, true, true, true, true, true, true, false, false, false, false, false, false, false, false] rfl rfl (any_of HT_.out (by kernel_rfl)) (fun _ _ _ h => h) (Or.inr ⟨by rfl, rfl⟩) ?_ ?_
                  rotate_left
                  ·simp only [Act.put, List.setIfInBounds_toArray, List.set_cons_zero, List.set_cons_succ, i64_w, i32_w]
                   rfl
                  refine pure_ (i := 15) (N := some 90) (v := undef) (a' := ?_) #[true, true, true, true, true, true, true, true, true, true, true, true, true, true, true, true, false, false, false, false, false, false, false] rfl rfl (any_of HT_.out (by kernel_rfl)) (fun _ _ _ h => h) (Or.inr ⟨by rfl, rfl⟩) ?_ ?_
                  rotate_left
                  ·simp only [Act.put, List.setIfInBounds_toArray, List.set_cons_zero, List.set_cons_succ, i64_w, i32_w]
                   rfl
                  refine pure_ (i := 16) (N := some 91) (v := undef) (a' := ?_) #[true, true, true, true, true, true, true, true, true, true, true, true, true, true, true, true, true, false, false, false, false, false, false] rfl rfl (any_of HT_.out (by kernel_rfl)) (fun _ _ _ h => h) (Or.inr ⟨by rfl, rfl⟩) ?_ ?_
                  rotate_left
                  ·simp only [Act.put, List.setIfInBounds_toArray, List.set_cons_zero, List.set_cons_succ, i64_w, i32_w]
                   rfl
                  refine pure_ (i := 17) (N := some 92) (v := undef) (a' := ?_) #[true, true, true, true, true, true, true, true, true, true, true, true, true, true, true, true, true, true, false, false, false, false, false] rfl rfl (any_of HT_.out (by kernel_rfl)) (fun _ _ _ h => h) (Or.inr ⟨by rfl, rfl⟩) ?_ ?_
                  rotate_left
                  ·simp only [Act.put, List.setIfInBounds_toArray, List.set_cons_zero, List.set_cons_succ, i64_w, i32_w]
                   rfl
                  refine pure_ (i := 18) (N := some 93) (v := undef) (a' := ?_) #[true, true, true, true, true, true, true, true, true, true, true, true, true, true, true, true, true, true, true, false, false, false, false] rfl rfl (any_of HT_.out (by kernel_rfl)) (fun _ _ _ h => h) (Or.inr ⟨by rfl, rfl⟩) ?_ ?_
                  rotate_left
                  ·simp only [Act.put, List.setIfInBounds_toArray, List.set_cons_zero, List.set_cons_succ, i64_w, i32_w]
                   rfl
                  refine pure_ (i := 19) (N := some 94) (v := undef) (a' := ?_) #[true, true, true, true, true, true, true, true, true, true, true, true, true, true, true, true, true, true, true, true, false, false, false] rfl rfl (any_of HT_.out (by kernel_rfl)) (fun _ _ _ h => h) (Or.inr ⟨by rfl, rfl⟩) ?_ ?_
                  rotate_left
                  ·simp only [Act.put, List.setIfInBounds_toArray, List.set_cons_zero, List.set_cons_succ, i64_w, i32_w]
                   rfl
                  refine pure_ (i := 20) (N := some 95) (v := undef) (a' := ?_) #[true, true, true, true, true, true, true, true, true, true, true, true, true, true, true, true, true, true, true, true, true, false, false] rfl rfl (any_of HT_.out (by kernel_rfl)) (fun _ _ _ h => h) (Or.inr ⟨by rfl, rfl⟩) ?_ ?_
                  rotate_left
                  ·simp only [Act.put, List.setIfInBounds_toArray, List.set_cons_zero, List.set_cons_succ, i64_w, i32_w]
                   rfl
                  refine pure_ (i := 21) (N := some 96) (v := undef) (a' := ?_) #[true, true, true, true, true, true, true, true, true, true, true, true, true, true, true, true, true, true, true, true, true, true, false] rfl rfl (any_of HT_.out (by kernel_rfl)) (fun _ _ _ h => h) (Or.inr ⟨by rfl, rfl⟩) ?_ ?_
                  rotate_left
                  ·simp only [Act.put, List.setIfInBounds_toArray, List.set_cons_zero, List.set_cons_succ, i64_w, i32_w]
                   rfl
                  refine pure_ (i := 22) (N := some 97) (v := ?_) (a' := ?_) #[true, true, true, true, true, true, true, true, true, true, true, true, true, true, true, true, true, true, true, true, true, true, true] rfl rfl (any_of HT_.out (by kernel_rfl)) (fun _ _ _ h => h) (Or.inl ⟨by rfl, ?_⟩) ?_ ?_
                  rotate_left
                  ·intro w'
                   go_simp
                   with_reducible rfl
                  rotate_left
                  ·simp only [Act.put, List.setIfInBounds_toArray, List.set_cons_zero, List.set_cons_succ, i64_w, i32_w]
                   rfl
                  refine done_ (done_of HT_.out (by kernel_rfl)) ?_
                  try go_wp2
                  go_ret
                  exact ⟨by first | rfl | (simp [errW_none, errW_some] <;> rfl) | (simp [*, errW_none, errW_some] <;> rfl), by repeat (first | (with_reducible first | exact HB.out | apply Ya | apply Yn | apply Yw | refine Ys ?_ GE192.out | refine Ys ?_ GE200.out) | exact HB.out)⟩
                ·rw [if_neg c47] at H
                 exact absurd H (by simp)
               ·rw [if_neg c46] at H
                exact absurd H (by simp)
              ·rw [if_neg c45] at H
               exact absurd H (by simp)
             ·rw [if_neg c44] at H
              have c44b0 : decide (x7_4 < 6) = false := decide_eq_false c44
              clear c44
              have H' := Az.mk H
              clear H
              go_wp2
              go_roundg k4
              case measure => have := HJ1.out; have := HK2.out; have := HK3.out; have := HK4.out; omega
              case rel => exact ⟨(wrap64 (x5_3 + 1)), (by first | rfl | (simp; done) | (simp [*]; done)), H', ⟨by have := HJ1.out; have := HK2.out; have := HK3.out; have := HK4.out; omega⟩, ⟨by (with_reducible repeat (first | refine Zn ?_ _ | refine Zw ?_ | refine Za ?_ _)); exact BK192.out⟩, ⟨by repeat (first | (with_reducible first | exact HB.out | apply Ya | apply Yn | apply Yw | refine Ys ?_ GE192.out | refine Ys ?_ GE200.out) | exact HB.out)⟩⟩
          ·rw [if_neg c39] at H
           exact absurd H (by simp)
         ·rw [if_neg c38] at H
          have c38b0 : decide (x5_3 < (l0_1.length : Int)) = false := decide_eq_false c38
          clear c38
          obtain rfl := Option.some.inj H
          have hcz61_0 : wr.cell? ⟨gb192, 0, none⟩ = some (.slice A0_0 l0_0.length c0_0) := (Zc BK192.out 0).trans rfl
          have hcz61_1 : wr.cell? ⟨gb192, 1, none⟩ = some (.slice A0_1 l0_1.length c0_1) := (Zc BK192.out 1).trans rfl
          have hcz61_2 : wr.cell? ⟨gb192, 2, none⟩ = some (.int .i64 a0_2) := (Zc BK192.out 2).trans rfl
          have hfz61_0 := Zf BK192.out 0
          have hfz61_1 := Zf BK192.out 1
          have hfz61_2 := Zf BK192.out 2
          go_wp2
          go_ret
          exact ⟨by first | rfl | (simp [errW_none, errW_some] <;> rfl) | (simp [*, errW_none, errW_some] <;> rfl), by repeat (first | (with_reducible first | exact HB.out | apply Ya | apply Yn | apply Yw | refine Ys ?_ GE192.out) | exact HB.out)⟩

end Go.Proofs.Ytfamknibfokfmaa.QFnExactHostOk
