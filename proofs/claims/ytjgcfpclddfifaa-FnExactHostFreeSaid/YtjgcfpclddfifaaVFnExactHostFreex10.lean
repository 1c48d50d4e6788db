/- Walks of this claim: each Go function that the law reaches comes to what the Lean function beside it says. Conditions: none beyond those that each theorem names. -/
import Derived.Test.YtjgcfpclddfifaaVFnExactHostFreex0
import Derived.Test.YtjgcfpclddfifaaVFnExactHostFreex8
import Derived.Test.YtjgcfpclddfifaaVFnExactHostFreex9
namespace Go.Proofs.Ytjgcfpclddfifaa.QFnExactHostFree
open Go.RowKit Go.Proofs.YtjgcfpclddfifaaW.PrintWords Go.Proofs.YtjgcfpclddfifaaW.PrintLast Go.Proofs.YtjgcfpclddfifaaW.PrintMore
attribute [local go_sem] max2_int min2_int max_two min_two max_three min_three max_four min_four   -- for this text's walks alone
set_option linter.unusedVariables false
set_option linter.unusedSimpArgs false

/-! ### spec_HostFree: function 23 -/
def spec_HostFree.l0 : Nat → List Int → Int → List (List Int) → List (S61) → Int → Option (List Int)
 | 0, _, _, _, _, _ => none
 | k + 1, x3, x4, x184000, x184001, x184002 => if x4 < 8 then ((spec_l12Users.f k x184000 x184001 x184002 x4).bind fun t188 => (if t188 = 0 then (if x3.length < 17592186044416 then (spec_HostFree.l0 k (x3 ++ [x4]) (wrap64 (x4 + 1)) x184000 x184001 x184002) else (none)) else (spec_HostFree.l0 k x3 (wrap64 (x4 + 1)) x184000 x184001 x184002))) else (some x3)
def spec_HostFree.f (k : Nat) (l0_0 : List (List Int)) (l0_1 : List (S61)) (a0_2 : Int) : Option (List Int) := (some (([] : List Int) : List Int)).bind fun y184 => ((spec_HostOk.f k l0_0 l0_1 a0_2).bind fun t187 => (if t187 = true then (spec_HostFree.l0 k y184 0 l0_0 l0_1 a0_2) else (some y184)))
set_option maxHeartbeats 8000000 in
set_option maxRecDepth 100000 in
theorem spec_HostFree.calls (k : Nat) (A0_0 : Option Addr) (c0_0 : Nat) (l0_0 : List (List Int)) (A0_1 : Option Addr) (c0_1 : Nat) (l0_1 : List (S61)) (a0_2 : Int) (r : List Int) (w : World) (hr0_0 : Kd.C (Kd.slice 3 (Kd.int .i64)) w A0_0 l0_0.length l0_0) (hc0_0 : l0_0.length ≤ c0_0) (hr0_1 : Kd.C k61 w A0_1 l0_1.length l0_1) (hc0_1 : l0_1.length ≤ c0_1) (h : spec_HostFree.f k l0_0 l0_1 a0_2 = some r) :
  Calls Try.prog 23 #[.agg #[.slice A0_0 l0_0.length c0_0, .slice A0_1 l0_1.length c0_1, .int .i64 a0_2]] w fun e w' => ∃ v0_ : Value, e = .returned (v0_) ∧ Kd.R (Kd.int .i64) 3 w' w.heap.size (fun _ => True) v0_ r ∧ Below w.heap.size w w' := by
 have hu31 := Try.underlying31
 have HR0_0 := Az.mk hr0_0
 have HC0_0 := Az.mk hc0_0
 clear hr0_0 hc0_0
 have HR0_1 := Az.mk hr0_1
 have HC0_1 := Az.mk hc0_1
 clear hr0_1 hc0_1
 have HB := Az.mk (Below.refl w.heap.size w)
 have H : ((some (([] : List Int) : List Int)).bind fun y184 => ((spec_HostOk.f k l0_0 l0_1 a0_2).bind fun t187 => (if t187 = true then (spec_HostFree.l0 k y184 0 l0_0 l0_1 a0_2) else (some y184)))) = some r := h
 clear h
 obtain ⟨y184, hy184⟩ : ∃ y_ : List Int, y_ = (([] : List Int)) := ⟨_, rfl⟩
 replace H : ((spec_HostOk.f k l0_0 l0_1 a0_2).bind fun t187 => (if t187 = true then (spec_HostFree.l0 k y184 0 l0_0 l0_1 a0_2) else (some y184))) = some r := by first | (rw [hy184]; with_reducible exact H) | (have H2_ := (Option.bind_some _ _).symm.trans H; rw [hy184]; with_reducible exact H2_) | (have H2_ := (Option.bind_some _ _).symm.trans H; with_reducible exact H2_) | with_reducible exact H | (rw [hy184]; exact H) | exact H
 have Ny184 := Az.mk hy184
 clear hy184
 replace H := Option.bind_eq_some_iff.mp H
 obtain ⟨t187, A20, H⟩ := H
 replace H : (if t187 = true then (spec_HostFree.l0 k y184 0 l0_0 l0_1 a0_2) else (some y184)) = some r := H
 have A2 := Az.mk A20
 clear A20
 by_cases c3 : t187 = true
 ·subst c3
  have H1 : (spec_HostFree.l0 k y184 0 l0_0 l0_1 a0_2) = some r := by rw [if_pos rfl] at H; exact H
  clear H
  have H := H1
  clear H1
  have H' := Az.mk H
  clear H
  go_enter Try.func23, Try.ntmps23
  go_wp2_with (first | ((with_reducible refine Yd (N := 1) rfl ?_); refine Yv ?hg (N := 1) ?hd (cs := #[.slice A0_0 l0_0.length c0_0, .slice A0_1 l0_1.length c0_1, .int .i64 a0_2]) (t := 31) ?hr ?_; (case hd => rfl); (case hg => rfl); (case hr => first | (go_simp; done) | (go_simp; rfl)); intro gb183 hg w4 hbox hb; have n0_ := Az.mk (Yt (by repeat (first | (with_reducible first | exact HB.out | apply Ya | apply Yn | apply Yw) | exact HB.out)) hb); have n1_ := Az.mk (hbox); have n2_ := Az.mk ((by rw [hg]; exact (Yz (by repeat (first | (with_reducible first | exact HB.out | apply Ya | apply Yn | apply Yw) | exact HB.out))) : w.heap.size ≤ gb183)); have n3_ := Az.mk ((by rw [hg]; exact (Yz (by repeat (first | (with_reducible first | exact HB.out | apply Ya | apply Yn | apply Yw) | exact HB.out))) : w.heap.size ≤ gb183)); clear HB; have HB := n0_; have BK183 := n1_; have GW183 := n2_; have GE183 := n3_; clear n0_ n1_ n2_ n3_; clear hb hbox hg) | ((with_reducible refine Yd (N := 5) rfl ?_); refine Kd.R_lit (Kd.int .i64) _ 3 ?hg (N := 5) ?hd (xs := ([] : List Int)) (inner := []) (ok := fun _ => True) (okp := fun _ => True) ?hr ?hp (fun _ hk => hk) trivial (Below.refl _ _) (Nat.le_refl _) (by simp) ?_; (case hd => rfl); (case hg => rfl); (case hr => first | (go_simp; done) | (go_simp; rfl)); (case hp => exact (Reps.none _ _)); intro v185 w5 ho6 hb hg_ hnew_; clear hg_ hnew_; (first | rw [← Ny184.out] at ho6 | (simp only [Int.reduceToNat] at ho6; rw [← Ny184.out] at ho6)); have n0_ := Az.mk (Kd.Rl_ ho6 (Yz (by repeat (first | (with_reducible first | exact HB.out | apply Ya | apply Yn | apply Yw | refine Ys ?_ GE183.out) | exact HB.out)))); have n1_ := Az.mk (Zb (g := gb183) (o := .cells #[.slice A0_0 l0_0.length c0_0, .slice A0_1 l0_1.length c0_1, .int .i64 a0_2] 31 (0, 0)) (by (with_reducible repeat (first | refine Zn ?_ _ | refine Zw ?_ | refine Za ?_ _)); exact BK183.out) hb); have n2_ := Az.mk (Yt (by repeat (first | (with_reducible first | exact HB.out | apply Ya | apply Yn | apply Yw | refine Ys ?_ GE183.out) | exact HB.out)) hb); clear BK183; clear HB; have HO186 := n0_; have BK183 := n1_; have HB := n2_; clear n0_ n1_ n2_; clear hb ho6; have hcz7_0 : w5.cell? ⟨gb183, 0, none⟩ = some (.slice A0_0 l0_0.length c0_0) := (Zc BK183.out 0).trans rfl; have hcz7_1 : w5.cell? ⟨gb183, 1, none⟩ = some (.slice A0_1 l0_1.length c0_1) := (Zc BK183.out 1).trans rfl; have hcz7_2 : w5.cell? ⟨gb183, 2, none⟩ = some (.int .i64 a0_2) := (Zc BK183.out 2).trans rfl; have hfz7_0 := Zf BK183.out 0; have hfz7_1 := Zf BK183.out 1; have hfz7_2 := Zf BK183.out 2) | ((with_reducible refine Yc (f := 48) rfl ?_); refine Yg (some 7) rfl rfl Try.func48 (by kernel_rfl) rfl #[.agg #[.slice A0_0 l0_0.length c0_0, .slice A0_1 l0_1.length c0_1, .int .i64 a0_2]] rfl (by (try simp only [List.map_toArray, List.map_cons, List.map_nil]); first | done | rfl | (simp only [List.length_drop, List.length_take]; rfl)) ?_; (with_reducible refine (spec_HostOk.calls k _ _ l0_0 _ _ l0_1 a0_2 true _ ?side1 ?side2 ?side3 ?side4 A2.out).mono ?_); (case side1 => repeat (first | exact (Kd.Cb_ HR0_0.out HB.out) | exact HR0_0.out | (with_reducible refine Kd.Ca_ ?_ _) | (with_reducible refine Kd.Cn_ ?_ _) | (with_reducible refine Kd.Cw_ ?_))); (case side2 => exact HC0_0.out); (case side3 => repeat (first | exact (Kd.Cb_ HR0_1.out HB.out) | exact HR0_1.out | (with_reducible refine Kd.Ca_ ?_ _) | (with_reducible refine Kd.Cn_ ?_ _) | (with_reducible refine Kd.Cw_ ?_))); (case side4 => exact HC0_1.out); rintro e w8 ⟨rfl, hb⟩; refine ⟨_, rfl, ?_⟩; have n0_ := Az.mk (Kd.Rb_ (by (with_reducible repeat (first | apply Kd.Ra_ | apply Kd.Rn_ | apply Kd.Rw_)); exact HO186.out) hb); have n1_ := Az.mk (Zb (g := gb183) (o := .cells #[.slice A0_0 l0_0.length c0_0, .slice A0_1 l0_1.length c0_1, .int .i64 a0_2] 31 (0, 0)) (by (with_reducible repeat (first | refine Zn ?_ _ | refine Zw ?_ | refine Za ?_ _)); exact BK183.out) hb); have n2_ := Az.mk (Yt (by repeat (first | (with_reducible first | exact HB.out | apply Ya | apply Yn | apply Yw | refine Ys ?_ GE183.out) | exact HB.out)) hb); clear HO186; clear BK183; clear HB; have HO186 := n0_; have BK183 := n1_; have HB := n2_; clear n0_ n1_ n2_; (try clear hb); (try clear hb2); (try clear hk); (try clear hi)))
  go_loopg [3, 4] k (fun kq v3 v4 w' => ∃ (x3_1 : List Int) (x4_1 : Int), v4 = .int .i64 x4_1 ∧ Az (spec_HostFree.l0 kq x3_1 x4_1 l0_0 l0_1 a0_2 = some r) ∧ Az (kq ≤ k) ∧ Az (Kd.R (Kd.int .i64) 3 w' w.heap.size (fun _ => True) v3 x3_1) ∧ Az (w'.heap[gb183]? = some (.cells #[(.slice A0_0 l0_0.length c0_0), (.slice A0_1 l0_1.length c0_1), .int .i64 a0_2] 31 (0, 0))) ∧ Az (Below w.heap.size w w'))
  case atStart => exact ⟨(y184), (0), (by first | rfl | (simp; done) | (simp [*]; done)), H', ⟨Nat.le_refl _⟩, ⟨by (with_reducible repeat (first | apply Kd.Ra_ | apply Kd.Rn_ | apply Kd.Rw_)); exact HO186.out⟩, ⟨by (with_reducible repeat (first | refine Zn ?_ _ | refine Zw ?_ | refine Za ?_ _)); exact BK183.out⟩, ⟨by repeat (first | (with_reducible first | exact HB.out | apply Ya | apply Yn | apply Yw | refine Ys ?_ GE183.out) | exact HB.out)⟩⟩
  case round =>
   clear H'
   try clear c2
   try clear p2
   try clear c3
   try clear c4
   try clear hcz7_0
   try clear hcz7_1
   try clear hcz7_2
   try clear hfz7_0
   try clear hfz7_1
   try clear hfz7_2
   obtain ⟨x3_1, x4_1, rfl, HA, HK1, HO_3, BK183, HB⟩ := hrel
   cases gk with
   | zero => exact absurd HA.out (by simp [spec_HostFree.l0])
   | succ k1 =>
    have H := HA.out
    clear HA
    simp only [spec_HostFree.l0] at H
    by_cases c9 : x4_1 < 8
    ·rw [if_pos c9] at H
     have c9b0 : decide (x4_1 < 8) = true := decide_eq_true c9
     clear c9
     replace H := Option.bind_eq_some_iff.mp H
     obtain ⟨t188, A100, H⟩ := H
     replace H : (if t188 = 0 then (if x3_1.length < 17592186044416 then (spec_HostFree.l0 k1 (x3_1 ++ [x4_1]) (wrap64 (x4_1 + 1)) l0_0 l0_1 a0_2) else (none)) else (spec_HostFree.l0 k1 x3_1 (wrap64 (x4_1 + 1)) l0_0 l0_1 a0_2)) = some r := H
     have A10 := Az.mk A100
     clear A100
     by_cases c11 : t188 = 0
     ·rw [if_pos c11] at H
      have c11b0 : (t188 == 0) = true := beq_iff_eq.mpr c11
      have c11b1 : (t188 != 0) = false := bne_eq_false_iff_eq.mpr c11
      clear c11
      by_cases c12 : x3_1.length < 17592186044416
      ·rw [if_pos c12] at H
       have LMc12 := Az.mk c12
       clear c12
       obtain ⟨y189, hy189⟩ : ∃ y_ : List Int, y_ = (x3_1 ++ [x4_1]) := ⟨_, rfl⟩
       replace H : (spec_HostFree.l0 k1 y189 (wrap64 (x4_1 + 1)) l0_0 l0_1 a0_2) = some r := by first | (rw [hy189]; with_reducible exact H) | (have H2_ := (Option.bind_some _ _).symm.trans H; rw [hy189]; with_reducible exact H2_) | (have H2_ := (Option.bind_some _ _).symm.trans H; with_reducible exact H2_) | with_reducible exact H | (rw [hy189]; exact H) | exact H
       have Ny189 := Az.mk hy189
       clear hy189
       have H' := Az.mk H
       clear H
       have hcz13_0 : wr.cell? ⟨gb183, 0, none⟩ = some (.slice A0_0 l0_0.length c0_0) := (Zc BK183.out 0).trans rfl
       have hcz13_1 : wr.cell? ⟨gb183, 1, none⟩ = some (.slice A0_1 l0_1.length c0_1) := (Zc BK183.out 1).trans rfl
       have hcz13_2 : wr.cell? ⟨gb183, 2, none⟩ = some (.int .i64 a0_2) := (Zc BK183.out 2).trans rfl
       have hfz13_0 := Zf BK183.out 0
       have hfz13_1 := Zf BK183.out 1
       have hfz13_2 := Zf BK183.out 2
       go_wp2_with (first | ((with_reducible refine Yc (f := 49) rfl ?_); refine Yg (some 16) rfl rfl Try.func49 (by kernel_rfl) rfl #[.agg #[.slice A0_0 l0_0.length c0_0, .slice A0_1 l0_1.length c0_1, .int .i64 a0_2], .int .i64 x4_1] rfl (by (try simp only [List.map_toArray, List.map_cons, List.map_nil]); first | done | rfl | (simp only [List.length_drop, List.length_take]; rfl)) ?_; (with_reducible refine (spec_l12Users.calls k1 _ _ l0_0 _ _ l0_1 a0_2 x4_1 t188 _ ?side1 ?side2 ?side3 ?side4 A10.out).mono ?_); (case side1 => repeat (first | exact (Kd.Cb_ HR0_0.out HB.out) | exact HR0_0.out | (with_reducible refine Kd.Ca_ ?_ _) | (with_reducible refine Kd.Cn_ ?_ _) | (with_reducible refine Kd.Cw_ ?_))); (case side2 => exact HC0_0.out); (case side3 => repeat (first | exact (Kd.Cb_ HR0_1.out HB.out) | exact HR0_1.out | (with_reducible refine Kd.Ca_ ?_ _) | (with_reducible refine Kd.Cn_ ?_ _) | (with_reducible refine Kd.Cw_ ?_))); (case side4 => exact HC0_1.out); rintro e w14 ⟨rfl, hb⟩; refine ⟨_, rfl, ?_⟩; have n0_ := Az.mk (Kd.Rb_ (by (with_reducible repeat (first | apply Kd.Ra_ | apply Kd.Rn_ | apply Kd.Rw_)); exact HO_3.out) hb); have n1_ := Az.mk (Zb (g := gb183) (o := .cells #[.slice A0_0 l0_0.length c0_0, .slice A0_1 l0_1.length c0_1, .int .i64 a0_2] 31 (0, 0)) (by (with_reducible repeat (first | refine Zn ?_ _ | refine Zw ?_ | refine Za ?_ _)); exact BK183.out) hb); have n2_ := Az.mk (Yt (by repeat (first | (with_reducible first | exact HB.out | apply Ya | apply Yn | apply Yw | refine Ys ?_ GE183.out) | exact HB.out)) hb); clear HO_3; clear BK183; clear HB; have HO_3 := n0_; have BK183 := n1_; have HB := n2_; clear n0_ n1_ n2_; (try clear hb); (try clear hb2); (try clear hk); (try clear hi)) | ((with_reducible refine gate_builtin (b := .append) (xs := #[.tmp 18, .tmp 20]) rfl ?_); at_builtin; refine Kd.R_append (Kd.int .i64) (w0 := w) w.heap.size rfl (.tmp 18) (.tmp 20) 45 3 (.int .i64 0) 8 rfl Try.underlying45 info3 rfl (by decide) (by omega) u3 x3_1 x4_1 [.int .i64 x4_1] (fun _ => True) (fun _ => False) rfl rfl ?aP (fun _ hk => hk.elim) ?aF ?aO ?aB ?aS ?aL ?_; (case aP => exact rfl); (case aB => exact (by repeat (first | (with_reducible first | exact HB.out | apply Ya | apply Yn | apply Yw | refine Ys ?_ GE183.out) | exact HB.out))); (case aF => exact (fun _ _ => trivial)); (case aO => exact (by (with_reducible repeat (first | apply Kd.Ra_ | apply Kd.Rn_ | apply Kd.Rw_)); exact HO_3.out)); (case aS => exact (Yz (by repeat (first | (with_reducible first | exact HB.out | apply Ya | apply Yn | apply Yw | refine Ys ?_ GE183.out) | exact HB.out)))); (case aL => have := LMc12.out; omega); intro v190 w15 ho hb hg hat; rw [← Ny189.out] at ho; have n0_ := Az.mk (blk_grown (g := gb183) (o := .cells #[.slice A0_0 l0_0.length c0_0, .slice A0_1 l0_1.length c0_1, .int .i64 a0_2] 31 (0, 0)) (by (with_reducible repeat (first | refine Zn ?_ _ | refine Zw ?_ | refine Za ?_ _)); exact BK183.out) hg (Kd.R_ne HO_3.out BK183.out (by decide))); have n1_ := Az.mk (hb); have n2_ := Az.mk (ho); clear BK183; clear HB; clear HO_3; have BK183 := n0_; have HB := n1_; have HO191 := n2_; clear n0_ n1_ n2_; clear ho hb hg hat))
       go_roundg k1
       case measure => have := HK1.out; omega
       case rel => exact ⟨(y189), (wrap64 (x4_1 + 1)), (by first | rfl | (simp; done) | (simp [*]; done)), H', ⟨by have := HK1.out; omega⟩, ⟨by (with_reducible repeat (first | apply Kd.Ra_ | apply Kd.Rn_ | apply Kd.Rw_)); exact HO191.out⟩, ⟨by (with_reducible repeat (first | refine Zn ?_ _ | refine Zw ?_ | refine Za ?_ _)); exact BK183.out⟩, ⟨by repeat (first | (with_reducible first | exact HB.out | apply Ya | apply Yn | apply Yw | refine Ys ?_ GE183.out) | exact HB.out)⟩⟩
      ·rw [if_neg c12] at H
       exact absurd H (by simp)
     ·rw [if_neg c11] at H
      have c11b0 : (t188 == 0) = false := beq_eq_false_iff_ne.mpr c11
      have c11b1 : (t188 != 0) = true := bne_iff_ne.mpr c11
      have H' := Az.mk H
      clear H
      have hcz16_0 : wr.cell? ⟨gb183, 0, none⟩ = some (.slice A0_0 l0_0.length c0_0) := (Zc BK183.out 0).trans rfl
      have hcz16_1 : wr.cell? ⟨gb183, 1, none⟩ = some (.slice A0_1 l0_1.length c0_1) := (Zc BK183.out 1).trans rfl
      have hcz16_2 : wr.cell? ⟨gb183, 2, none⟩ = some (.int .i64 a0_2) := (Zc BK183.out 2).trans rfl
      have hfz16_0 := Zf BK183.out 0
      have hfz16_1 := Zf BK183.out 1
      have hfz16_2 := Zf BK183.out 2
      go_wp2_with (first | ((with_reducible refine Yc (f := 49) rfl ?_); refine Yg (some 16) rfl rfl Try.func49 (by kernel_rfl) rfl #[.agg #[.slice A0_0 l0_0.length c0_0, .slice A0_1 l0_1.length c0_1, .int .i64 a0_2], .int .i64 x4_1] rfl (by (try simp only [List.map_toArray, List.map_cons, List.map_nil]); first | done | rfl | (simp only [List.length_drop, List.length_take]; rfl)) ?_; (with_reducible refine (spec_l12Users.calls k1 _ _ l0_0 _ _ l0_1 a0_2 x4_1 t188 _ ?side1 ?side2 ?side3 ?side4 A10.out).mono ?_); (case side1 => repeat (first | exact (Kd.Cb_ HR0_0.out HB.out) | exact HR0_0.out | (with_reducible refine Kd.Ca_ ?_ _) | (with_reducible refine Kd.Cn_ ?_ _) | (with_reducible refine Kd.Cw_ ?_))); (case side2 => exact HC0_0.out); (case side3 => repeat (first | exact (Kd.Cb_ HR0_1.out HB.out) | exact HR0_1.out | (with_reducible refine Kd.Ca_ ?_ _) | (with_reducible refine Kd.Cn_ ?_ _) | (with_reducible refine Kd.Cw_ ?_))); (case side4 => exact HC0_1.out); rintro e w17 ⟨rfl, hb⟩; refine ⟨_, rfl, ?_⟩; have n0_ := Az.mk (Kd.Rb_ (by (with_reducible repeat (first | apply Kd.Ra_ | apply Kd.Rn_ | apply Kd.Rw_)); exact HO_3.out) hb); have n1_ := Az.mk (Zb (g := gb183) (o := .cells #[.slice A0_0 l0_0.length c0_0, .slice A0_1 l0_1.length c0_1, .int .i64 a0_2] 31 (0, 0)) (by (with_reducible repeat (first | refine Zn ?_ _ | refine Zw ?_ | refine Za ?_ _)); exact BK183.out) hb); have n2_ := Az.mk (Yt (by repeat (first | (with_reducible first | exact HB.out | apply Ya | apply Yn | apply Yw | refine Ys ?_ GE183.out) | exact HB.out)) hb); clear HO_3; clear BK183; clear HB; have HO_3 := n0_; have BK183 := n1_; have HB := n2_; clear n0_ n1_ n2_; (try clear hb); (try clear hb2); (try clear hk); (try clear hi)))
      go_roundg k1
      case measure => have := HK1.out; omega
      case rel => exact ⟨(x3_1), (wrap64 (x4_1 + 1)), (by first | rfl | (simp; done) | (simp [*]; done)), H', ⟨by have := HK1.out; omega⟩, ⟨by (with_reducible repeat (first | apply Kd.Ra_ | apply Kd.Rn_ | apply Kd.Rw_)); exact HO_3.out⟩, ⟨by (with_reducible repeat (first | refine Zn ?_ _ | refine Zw ?_ | refine Za ?_ _)); exact BK183.out⟩, ⟨by repeat (first | (with_reducible first | exact HB.out | apply Ya | apply Yn | apply Yw | refine Ys ?_ GE183.out) | exact HB.out)⟩⟩
    ·rw [if_neg c9] at H
     have c9b0 : decide (x4_1 < 8) = false := decide_eq_false c9
     clear c9
     obtain rfl := Option.some.inj H
     go_wp2
     go_ret
     exact ⟨_, by first | rfl | (simp [errW_none, errW_some] <;> rfl) | (simp [*, errW_none, errW_some] <;> rfl), by (with_reducible repeat (first | apply Kd.Ra_ | apply Kd.Rn_ | apply Kd.Rw_)); exact HO_3.out, by repeat (first | (with_reducible first | exact HB.out | apply Ya | apply Yn | apply Yw | refine Ys ?_ GE183.out) | exact HB.out)⟩
 ·replace c3 := Bool.eq_false_iff.mpr c3
  subst c3
  have H1 : (some y184) = some r := by rw [if_neg (show ¬ (false = true) by decide)] at H; exact H
  clear H
  have H := H1
  clear H1
  obtain rfl := Option.some.inj H
  go_enter Try.func23, Try.ntmps23
  go_wp2_with (first | ((with_reducible refine Yd (N := 1) rfl ?_); refine Yv ?hg (N := 1) ?hd (cs := #[.slice A0_0 l0_0.length c0_0, .slice A0_1 l0_1.length c0_1, .int .i64 a0_2]) (t := 31) ?hr ?_; (case hd => rfl); (case hg => rfl); (case hr => first | (go_simp; done) | (go_simp; rfl)); intro gb183 hg w18 hbox hb; have n0_ := Az.mk (Yt (by repeat (first | (with_reducible first | exact HB.out | apply Ya | apply Yn | apply Yw) | exact HB.out)) hb); have n1_ := Az.mk (hbox); have n2_ := Az.mk ((by rw [hg]; exact (Yz (by repeat (first | (with_reducible first | exact HB.out | apply Ya | apply Yn | apply Yw) | exact HB.out))) : w.heap.size ≤ gb183)); have n3_ := Az.mk ((by rw [hg]; exact (Yz (by repeat (first | (with_reducible first | exact HB.out | apply Ya | apply Yn | apply Yw) | exact HB.out))) : w.heap.size ≤ gb183)); clear HB; have HB := n0_; have BK183 := n1_; have GW183 := n2_; have GE183 := n3_; clear n0_ n1_ n2_ n3_; clear hb hbox hg) | ((with_reducible refine Yd (N := 5) rfl ?_); refine Kd.R_lit (Kd.int .i64) _ 3 ?hg (N := 5) ?hd (xs := ([] : List Int)) (inner := []) (ok := fun _ => True) (okp := fun _ => True) ?hr ?hp (fun _ hk => hk) trivial (Below.refl _ _) (Nat.le_refl _) (by simp) ?_; (case hd => rfl); (case hg => rfl); (case hr => first | (go_simp; done) | (go_simp; rfl)); (case hp => exact (Reps.none _ _)); intro v185 w19 ho20 hb hg_ hnew_; clear hg_ hnew_; (first | rw [← Ny184.out] at ho20 | (simp only [Int.reduceToNat] at ho20; rw [← Ny184.out] at ho20)); have n0_ := Az.mk (Kd.Rl_ ho20 (Yz (by repeat (first | (with_reducible first | exact HB.out | apply Ya | apply Yn | apply Yw | refine Ys ?_ GE183.out) | exact HB.out)))); have n1_ := Az.mk (Zb (g := gb183) (o := .cells #[.slice A0_0 l0_0.length c0_0, .slice A0_1 l0_1.length c0_1, .int .i64 a0_2] 31 (0, 0)) (by (with_reducible repeat (first | refine Zn ?_ _ | refine Zw ?_ | refine Za ?_ _)); exact BK183.out) hb); have n2_ := Az.mk (Yt (by repeat (first | (with_reducible first | exact HB.out | apply Ya | apply Yn | apply Yw | refine Ys ?_ GE183.out) | exact HB.out)) hb); clear BK183; clear HB; have HO186 := n0_; have BK183 := n1_; have HB := n2_; clear n0_ n1_ n2_; clear hb ho20; have hcz21_0 : w19.cell? ⟨gb183, 0, none⟩ = some (.slice A0_0 l0_0.length c0_0) := (Zc BK183.out 0).trans rfl; have hcz21_1 : w19.cell? ⟨gb183, 1, none⟩ = some (.slice A0_1 l0_1.length c0_1) := (Zc BK183.out 1).trans rfl; have hcz21_2 : w19.cell? ⟨gb183, 2, none⟩ = some (.int .i64 a0_2) := (Zc BK183.out 2).trans rfl; have hfz21_0 := Zf BK183.out 0; have hfz21_1 := Zf BK183.out 1; have hfz21_2 := Zf BK183.out 2) | ((with_reducible refine Yc (f := 48) rfl ?_); refine Yg (some 7) rfl rfl Try.func48 (by kernel_rfl) rfl #[.agg #[.slice A0_0 l0_0.length c0_0, .slice A0_1 l0_1.length c0_1, .int .i64 a0_2]] rfl (by (try simp only [List.map_toArray, List.map_cons, List.map_nil]); first | done | rfl | (simp only [List.length_drop, List.length_take]; rfl)) ?_; (with_reducible refine (spec_HostOk.calls k _ _ l0_0 _ _ l0_1 a0_2 false _ ?side1 ?side2 ?side3 ?side4 A2.out).mono ?_); (case side1 => repeat (first | exact (Kd.Cb_ HR0_0.out HB.out) | exact HR0_0.out | (with_reducible refine Kd.Ca_ ?_ _) | (with_reducible refine Kd.Cn_ ?_ _) | (with_reducible refine Kd.Cw_ ?_))); (case side2 => exact HC0_0.out); (case side3 => repeat (first | exact (Kd.Cb_ HR0_1.out HB.out) | exact HR0_1.out | (with_reducible refine Kd.Ca_ ?_ _) | (with_reducible refine Kd.Cn_ ?_ _) | (with_reducible refine Kd.Cw_ ?_))); (case side4 => exact HC0_1.out); rintro e w22 ⟨rfl, hb⟩; refine ⟨_, rfl, ?_⟩; have n0_ := Az.mk (Kd.Rb_ (by (with_reducible repeat (first | apply Kd.Ra_ | apply Kd.Rn_ | apply Kd.Rw_)); exact HO186.out) hb); have n1_ := Az.mk (Zb (g := gb183) (o := .cells #[.slice A0_0 l0_0.length c0_0, .slice A0_1 l0_1.length c0_1, .int .i64 a0_2] 31 (0, 0)) (by (with_reducible repeat (first | refine Zn ?_ _ | refine Zw ?_ | refine Za ?_ _)); exact BK183.out) hb); have n2_ := Az.mk (Yt (by repeat (first | (with_reducible first | exact HB.out | apply Ya | apply Yn | apply Yw | refine Ys ?_ GE183.out) | exact HB.out)) hb); clear HO186; clear BK183; clear HB; have HO186 := n0_; have BK183 := n1_; have HB := n2_; clear n0_ n1_ n2_; (try clear hb); (try clear hb2); (try clear hk); (try clear hi)))
  go_ret
  exact ⟨_, by first | rfl | (simp [errW_none, errW_some] <;> rfl) | (simp [*, errW_none, errW_some] <;> rfl), by (with_reducible repeat (first | apply Kd.Ra_ | apply Kd.Rn_ | apply Kd.Rw_)); exact HO186.out, by repeat (first | (with_reducible first | exact HB.out | apply Ya | apply Yn | apply Yw | refine Ys ?_ GE183.out) | exact HB.out)⟩

/-! ### laws_toIntS: function 45 -/
def laws_toIntS.l0 : Nat → List Int → List Int → Int → Option (List Int)
 | 0, _, _, _ => none
 | k + 1, x0, x3, x4 => if x4 < (x0.length : Int) then (if 0 ≤ x4 then (if x4 < (x3.length : Int) then (laws_toIntS.l0 k x0 (x3.set (x4 : Int).toNat (rd x0 x4)) (wrap64 (x4 + 1))) else (none)) else (none)) else (some x3)
def laws_toIntS.f (k : Nat) (l0 : List Int) : Option (List Int) := if 0 ≤ (l0.length : Int) then (if ((l0.length : Int) : Int).toNat ≤ 35184372088832 then (laws_toIntS.l0 k l0 (List.replicate ((l0.length : Int) : Int).toNat 0) 0) else (none)) else (none)
set_option maxHeartbeats 8000000 in
set_option maxRecDepth 100000 in
theorem laws_toIntS.calls (k : Nat) (A0 : Option Addr) (c0 : Nat) (l0 : List Int) (r : List Int) (w : World) (hr0 : Kd.C (Kd.int .i64) w A0 l0.length l0) (hc0 : l0.length ≤ c0) (h : laws_toIntS.f k l0 = some r) :
  Calls Try.prog 45 #[.slice A0 l0.length c0] w fun e w' => ∃ v0_ : Value, e = .returned (v0_) ∧ Kd.R (Kd.int .i64) 3 w' w.heap.size (fun _ => True) v0_ r ∧ Below w.heap.size w w' := by
 have HR0 := Az.mk hr0
 have HC0 := Az.mk hc0
 clear hr0 hc0
 have HB := Az.mk (Below.refl w.heap.size w)
 have H : (if 0 ≤ (l0.length : Int) then (if ((l0.length : Int) : Int).toNat ≤ 35184372088832 then (laws_toIntS.l0 k l0 (List.replicate ((l0.length : Int) : Int).toNat 0) 0) else (none)) else (none)) = some r := h
 clear h
 by_cases c2 : 0 ≤ (l0.length : Int)
 ·rw [if_pos c2] at H
  have c2b0 := eq_true c2
  have c2b1 : decide (0 ≤ (l0.length : Int)) = true := decide_eq_true c2
  clear c2
  by_cases c3 : ((l0.length : Int) : Int).toNat ≤ 35184372088832
  ·rw [if_pos c3] at H
   have c3b0 := eq_true c3
   have c3b1 : decide (((l0.length : Int) : Int).toNat ≤ 35184372088832) = true := decide_eq_true c3
   clear c3
   obtain ⟨y192, hy192⟩ : ∃ y_ : List Int, y_ = (List.replicate ((l0.length : Int) : Int).toNat 0) := ⟨_, rfl⟩
   replace H : (laws_toIntS.l0 k l0 y192 0) = some r := by first | (rw [hy192]; with_reducible exact H) | (have H2_ := (Option.bind_some _ _).symm.trans H; rw [hy192]; with_reducible exact H2_) | (have H2_ := (Option.bind_some _ _).symm.trans H; with_reducible exact H2_) | with_reducible exact H | (rw [hy192]; exact H) | exact H
   have Ny192 := Az.mk hy192
   clear hy192
   have H' := Az.mk H
   clear H
   go_enter Try.func45, Try.ntmps45
   go_wp2_with (first | ((with_reducible refine Yd (N := 7) rfl ?_); refine Kd.R_make (Kd.int .i64) _ 3 rfl (N := 7) rfl 45 _ _ rfl (l0.length : Int) rfl rfl Try.underlying45 (.int .i64 0) 8 info3 rfl (by decide) (by omega) 0 (ok := fun _ => True) (okp := fun _ => True) rfl (fun _ hk => hk) trivial (of_decide_eq_true (by first | (with_reducible assumption) | assumption)) (Nat.le_trans (Nat.mul_le_mul_right _ (of_decide_eq_true (by first | (with_reducible assumption) | assumption) : (l0.length : Int).toNat ≤ 35184372088832)) (by omega)) (Below.refl _ _) (Nat.le_refl _) ?_; intro v193 w4 ho5 hb hg_ hnew_; clear hg_ hnew_; (first | rw [← Ny192.out] at ho5 | (simp only [Int.reduceToNat] at ho5; rw [← Ny192.out] at ho5)); have n0_ := Az.mk (Kd.Rl_ ho5 (Yz (by repeat (first | (with_reducible first | exact HB.out | apply Ya | apply Yn | apply Yw) | exact HB.out)))); have n1_ := Az.mk (Yt (by repeat (first | (with_reducible first | exact HB.out | apply Ya | apply Yn | apply Yw) | exact HB.out)) hb); clear HB; have HO194 := n0_; have HB := n1_; clear n0_ n1_; clear hb ho5))
   go_loopg [4] k (fun kq v4 w' => ∃ (x3_1 : List Int) (x4_1 : Int), v4 = .int .i64 x4_1 ∧ Az (laws_toIntS.l0 kq l0 x3_1 x4_1 = some r) ∧ Az (kq ≤ k) ∧ Az (Kd.R (Kd.int .i64) 3 w' w.heap.size (fun _ => True) v193 x3_1) ∧ Az (Below w.heap.size w w'))
   case atStart => exact ⟨(y192), (0), (by first | rfl | (simp; done) | (simp [*]; done)), H', ⟨Nat.le_refl _⟩, ⟨by (with_reducible repeat (first | apply Kd.Ra_ | apply Kd.Rn_ | apply Kd.Rw_)); exact HO194.out⟩, ⟨by repeat (first | (with_reducible first | exact HB.out | apply Ya | apply Yn | apply Yw) | exact HB.out)⟩⟩
   case round =>
    clear H'
    try clear c2
    try clear c2b0
    try clear c2b1
    try clear p2
    try clear c3
    try clear c3b0
    try clear c3b1
    try clear c4
    obtain ⟨x3_1, x4_1, rfl, HA, HK1, HO_3, HB⟩ := hrel
    cases gk with
    | zero => exact absurd HA.out (by simp [laws_toIntS.l0])
    | succ k1 =>
     have H := HA.out
     clear HA
     simp only [laws_toIntS.l0] at H
     by_cases c6 : x4_1 < (l0.length : Int)
     ·rw [if_pos c6] at H
      have c6b0 : decide (x4_1 < (l0.length : Int)) = true := decide_eq_true c6
      clear c6
      by_cases c7 : 0 ≤ x4_1
      ·rw [if_pos c7] at H
       have c7b0 : decide (0 ≤ x4_1) = true := decide_eq_true c7
       clear c7
       by_cases c8 : x4_1 < (x3_1.length : Int)
       ·rw [if_pos c8] at H
        have c8b0 : decide (x4_1 < (x3_1.length : Int)) = true := decide_eq_true c8
        clear c8
        obtain ⟨y196, hy196⟩ : ∃ y_ : List Int, y_ = (x3_1.set (x4_1 : Int).toNat (rd l0 x4_1)) := ⟨_, rfl⟩
        replace H : (laws_toIntS.l0 k1 l0 y196 (wrap64 (x4_1 + 1))) = some r := by first | (rw [hy196]; with_reducible exact H) | (have H2_ := (Option.bind_some _ _).symm.trans H; rw [hy196]; with_reducible exact H2_) | (have H2_ := (Option.bind_some _ _).symm.trans H; with_reducible exact H2_) | with_reducible exact H | (rw [hy196]; exact H) | exact H
        have Ny196 := Az.mk hy196
        clear hy196
        have H' := Az.mk H
        clear H
        have p195 : 0 ≤ (x4_1 : Int) := of_decide_eq_true (by first | (with_reducible assumption) | assumption)
        have q195 : x4_1 < (l0.length : Int) := of_decide_eq_true (by first | (with_reducible assumption) | assumption)
        obtain ⟨ad195, e195, hx195_0⟩ := Kd.at_int HR0.out x4_1 p195 q195
        cases e195
        replace hx195_0 := (HB.out.cell (World.block_lt_of_cell? w _ hx195_0)).trans hx195_0
        replace p195 := eq_true p195
        replace q195 := eq_true q195
        have p9 : 0 ≤ (x4_1 : Int) := of_decide_eq_true (by first | (with_reducible assumption) | assumption)
        have q9 : (x4_1 : Int) < ((x3_1.length : Int) : Int) := of_decide_eq_true (by first | (with_reducible assumption) | assumption)
        obtain ⟨go9, co9, eo9, gb9, gl9, cl9, HG9⟩ := Kd.R_form HO_3.out (by omega)
        (first | cases eo9 | (injection eo9 with ea_ en_ ec_; (first | subst ea_ | (injection ea_ with ea_; subst ea_)); subst ec_; clear en_))
        have GB9 := Az.mk gb9
        have GG9 := Az.mk HG9
        clear gb9 gl9 HG9
        obtain ⟨hx9_0, hf9_0⟩ := Kd.R_celln 0 HO_3.out (x4_1 : Int) p9 q9
        replace p9 := eq_true p9
        replace q9 := eq_true q9
        have HP10 := Kd.R_putg HO_3.out (x4_1 : Int) (rd l0 x4_1)
        go_wp2_with (first | ((with_reducible refine gate_store (t := 3) (p := 20) rfl ?_); refine store_event (t := 3) (p := 20) (v := ?vo_w11) (w1 := (wr.setCell ⟨go9, (x4_1 : Int).toNat, none⟩ (.int .i64 (rd l0 x4_1)))) ?hg ?ho ?hn ?hr ?_; (case ho => rfl); (case hg => rfl); (case hn => rfl); (case hr => first | (go_simp; done) | (go_simp; rfl)); intro w11 hw; have hg : wr.grownBy w11 (some go9) := (by rw [hw]; exact HP10.2); have hp_ : Kd.R (Kd.int .i64) 3 w11 w.heap.size (fun _ => True) (.slice (some ⟨go9, 0, none⟩) x3_1.length co9) y196 := (by rw [hw, Ny196.out]; exact HP10.1); clear HP10; have n0_ := Az.mk (hp_); have n1_ := Az.mk ((by rw [hw]; exact Ys (HB.out) GB9.out : Below w.heap.size w w11)); clear HO_3; clear HB; have HO_3 := n0_; have HB := n1_; clear n0_ n1_; clear hg hw hp_))
        go_roundg k1
        case measure => have := HK1.out; omega
        case rel => exact ⟨(y196), (wrap64 (x4_1 + 1)), (by first | rfl | (simp; done) | (simp [*]; done)), H', ⟨by have := HK1.out; omega⟩, ⟨by (with_reducible repeat (first | apply Kd.Ra_ | apply Kd.Rn_ | apply Kd.Rw_)); exact HO_3.out⟩, ⟨by repeat (first | (with_reducible first | exact HB.out | apply Ya | apply Yn | apply Yw) | exact HB.out)⟩⟩
       ·rw [if_neg c8] at H
        exact absurd H (by simp)
      ·rw [if_neg c7] at H
       exact absurd H (by simp)
     ·rw [if_neg c6] at H
      have c6b0 : decide (x4_1 < (l0.length : Int)) = false := decide_eq_false c6
      clear c6
      obtain rfl := Option.some.inj H
      go_wp2
      go_ret
      exact ⟨_, by first | rfl | (simp [errW_none, errW_some] <;> rfl) | (simp [*, errW_none, errW_some] <;> rfl), by (with_reducible repeat (first | apply Kd.Ra_ | apply Kd.Rn_ | apply Kd.Rw_)); exact HO_3.out, by repeat (first | (with_reducible first | exact HB.out | apply Ya | apply Yn | apply Yw) | exact HB.out)⟩
  ·rw [if_neg c3] at H
   exact absurd H (by simp)
 ·rw [if_neg c2] at H
  exact absurd H (by simp)

/-! ### laws_toIntSS: function 18 -/
def laws_toIntSS.l0 : Nat → List (List Int) → List (List Int) → Int → Option ((List (List Int)))
 | 0, _, _, _ => none
 | k + 1, x0, x3, x4 => if x4 < (x0.length : Int) then (if 0 ≤ x4 then ((laws_toIntS.f k (rd_L1 x0 x4)).bind fun t201 => (if x4 < (x3.length : Int) then (laws_toIntSS.l0 k x0 (x3.set (x4 : Int).toNat t201) (wrap64 (x4 + 1))) else (none))) else (none)) else (some x3)
def laws_toIntSS.f (k : Nat) (l0 : List (List Int)) : Option ((List (List Int))) := if 0 ≤ (l0.length : Int) then (if ((l0.length : Int) : Int).toNat ≤ 11728124029610 then (laws_toIntSS.l0 k l0 (List.replicate ((l0.length : Int) : Int).toNat []) 0) else (none)) else (none)
set_option maxHeartbeats 8000000 in
set_option maxRecDepth 100000 in
theorem laws_toIntSS.calls (k : Nat) (A0 : Option Addr) (c0 : Nat) (l0 : List (List Int)) (r : List (List Int)) (w : World) (hr0 : Kd.C (Kd.slice 3 (Kd.int .i64)) w A0 l0.length l0) (hc0 : l0.length ≤ c0) (h : laws_toIntSS.f k l0 = some r) :
  Calls Try.prog 18 #[.slice A0 l0.length c0] w fun e w' => ∃ v0_ : Value, e = .returned (v0_) ∧ Kd.S (Kd.slice 3 (Kd.int .i64)) 45 w' w.heap.size (fun _ => True) v0_ r ∧ Below w.heap.size w w' := by
 have HR0 := Az.mk hr0
 have HC0 := Az.mk hc0
 clear hr0 hc0
 have HB := Az.mk (Below.refl w.heap.size w)
 have H : (if 0 ≤ (l0.length : Int) then (if ((l0.length : Int) : Int).toNat ≤ 11728124029610 then (laws_toIntSS.l0 k l0 (List.replicate ((l0.length : Int) : Int).toNat []) 0) else (none)) else (none)) = some r := h
 clear h
 by_cases c2 : 0 ≤ (l0.length : Int)
 ·rw [if_pos c2] at H
  have c2b0 := eq_true c2
  have c2b1 : decide (0 ≤ (l0.length : Int)) = true := decide_eq_true c2
  clear c2
  by_cases c3 : ((l0.length : Int) : Int).toNat ≤ 11728124029610
  ·rw [if_pos c3] at H
   have c3b0 := eq_true c3
   have c3b1 : decide (((l0.length : Int) : Int).toNat ≤ 11728124029610) = true := decide_eq_true c3
   clear c3
   obtain ⟨y197, hy197⟩ : ∃ y_ : List (List Int), y_ = (List.replicate ((l0.length : Int) : Int).toNat []) := ⟨_, rfl⟩
   replace H : (laws_toIntSS.l0 k l0 y197 0) = some r := by first | (rw [hy197]; with_reducible exact H) | (have H2_ := (Option.bind_some _ _).symm.trans H; rw [hy197]; with_reducible exact H2_) | (have H2_ := (Option.bind_some _ _).symm.trans H; with_reducible exact H2_) | with_reducible exact H | (rw [hy197]; exact H) | exact H
   have Ny197 := Az.mk hy197
   clear hy197
   have H' := Az.mk H
   clear H
   go_enter Try.func18, Try.ntmps18
   go_wp2_with (first | ((with_reducible refine Yd (N := 7) rfl ?_); refine Kd.S_make (Kd.slice 3 (Kd.int .i64)) _ 45 rfl (N := 7) rfl 23 _ _ rfl (l0.length : Int) rfl rfl Try.underlying23 (.slice none 0 0) 24 info45 rfl (by decide) (by omega) [] (ok := fun _ => True) (okp := fun _ => True) ⟨_, rfl, Kd.R_nil _ _ _ _ _⟩ (fun _ hk => hk) trivial (of_decide_eq_true (by first | (with_reducible assumption) | assumption)) (Nat.le_trans (Nat.mul_le_mul_right _ (of_decide_eq_true (by first | (with_reducible assumption) | assumption) : (l0.length : Int).toNat ≤ 11728124029610)) (by omega)) (Below.refl _ _) (Nat.le_refl _) ?_; intro v198 w4 ho5 hb hg_ hnew_; clear hg_ hnew_; (first | rw [← Ny197.out] at ho5 | (simp only [Int.reduceToNat] at ho5; rw [← Ny197.out] at ho5)); have n0_ := Az.mk (Kd.S_lower ho5 (Yz (by repeat (first | (with_reducible first | exact HB.out | apply Ya | apply Yn | apply Yw) | exact HB.out)))); have n1_ := Az.mk (Yt (by repeat (first | (with_reducible first | exact HB.out | apply Ya | apply Yn | apply Yw) | exact HB.out)) hb); clear HB; have HO199 := n0_; have HB := n1_; clear n0_ n1_; clear hb ho5))
   go_loopg [4] k (fun kq v4 w' => ∃ (x3_1 : List (List Int)) (x4_1 : Int), v4 = .int .i64 x4_1 ∧ Az (laws_toIntSS.l0 kq l0 x3_1 x4_1 = some r) ∧ Az (kq ≤ k) ∧ Az (Kd.S (Kd.slice 3 (Kd.int .i64)) 45 w' w.heap.size (fun _ => True) v198 x3_1) ∧ Az (Below w.heap.size w w'))
   case atStart => exact ⟨(y197), (0), (by first | rfl | (simp; done) | (simp [*]; done)), H', ⟨Nat.le_refl _⟩, ⟨by (with_reducible repeat (first | apply Kd.Sa_ | apply Kd.Sn_ | apply Kd.Sw_)); exact HO199.out⟩, ⟨by repeat (first | (with_reducible first | exact HB.out | apply Ya | apply Yn | apply Yw) | exact HB.out)⟩⟩
   case round =>
    clear H'
    try clear c1
    try clear c2
    try clear c2b0
    try clear c2b1
    try clear p2
    try clear c3
    try clear c3b0
    try clear c3b1
    obtain ⟨x3_1, x4_1, rfl, HA, HK1, HO_3, HB⟩ := hrel
    cases gk with
    | zero => exact absurd HA.out (by simp [laws_toIntSS.l0])
    | succ k1 =>
     have H := HA.out
     clear HA
     simp only [laws_toIntSS.l0] at H
     by_cases c6 : x4_1 < (l0.length : Int)
     ·rw [if_pos c6] at H
      have c6b0 : decide (x4_1 < (l0.length : Int)) = true := decide_eq_true c6
      clear c6
      by_cases c7 : 0 ≤ x4_1
      ·rw [if_pos c7] at H
       have c7b0 : decide (0 ≤ x4_1) = true := decide_eq_true c7
       clear c7
       replace H := Option.bind_eq_some_iff.mp H
       obtain ⟨t201, A80, H⟩ := H
       replace H : (if x4_1 < (x3_1.length : Int) then (laws_toIntSS.l0 k1 l0 (x3_1.set (x4_1 : Int).toNat t201) (wrap64 (x4_1 + 1))) else (none)) = some r := H
       have A8 := Az.mk A80
       clear A80
       by_cases c9 : x4_1 < (x3_1.length : Int)
       ·rw [if_pos c9] at H
        have c9b0 : decide (x4_1 < (x3_1.length : Int)) = true := decide_eq_true c9
        clear c9
        obtain ⟨y204, hy204⟩ : ∃ y_ : List (List Int), y_ = (x3_1.set (x4_1 : Int).toNat t201) := ⟨_, rfl⟩
        replace H : (laws_toIntSS.l0 k1 l0 y204 (wrap64 (x4_1 + 1))) = some r := by first | (rw [hy204]; with_reducible exact H) | (have H2_ := (Option.bind_some _ _).symm.trans H; rw [hy204]; with_reducible exact H2_) | (have H2_ := (Option.bind_some _ _).symm.trans H; with_reducible exact H2_) | with_reducible exact H | (rw [hy204]; exact H) | exact H
        have Ny204 := Az.mk hy204
        clear hy204
        have H' := Az.mk H
        clear H
        have p200 : 0 ≤ (x4_1 : Int) := of_decide_eq_true (by first | (with_reducible assumption) | assumption)
        have q200 : x4_1 < (l0.length : Int) := of_decide_eq_true (by first | (with_reducible assumption) | assumption)
        obtain ⟨ad200, A200_0, c200_0, e200, hx200_0, hl200_0, hi200_0⟩ := at_L1 HR0.out x4_1 p200 q200
        cases e200
        replace hx200_0 := (HB.out.cell (World.block_lt_of_cell? w _ hx200_0)).trans hx200_0
        have HR200_0 := Az.mk hi200_0
        have HC200_0 := Az.mk hl200_0
        clear hi200_0 hl200_0
        replace p200 := eq_true p200
        replace q200 := eq_true q200
        go_wp2_with (first | ((with_reducible refine Yc (f := 45) rfl ?_); refine Yg (some 20) rfl rfl Try.func45 (by kernel_rfl) rfl #[.slice A200_0 (rd_L1 l0 x4_1).length c200_0] rfl (by (try simp only [List.map_toArray, List.map_cons, List.map_nil]); first | done | rfl | (simp only [List.length_drop, List.length_take]; rfl)) ?_; (with_reducible refine (laws_toIntS.calls k1 _ _ (rd_L1 l0 x4_1) t201 _ ?side1 ?side2 A8.out).mono ?_); (case side1 => repeat (first | exact (Kd.Cb_ HR200_0.out HB.out) | exact HR200_0.out | (with_reducible refine Kd.Ca_ ?_ _) | (with_reducible refine Kd.Cn_ ?_ _) | (with_reducible refine Kd.Cw_ ?_))); (case side2 => exact HC200_0.out); rintro e w11 ⟨v202, rfl, ho0, hb⟩; refine ⟨_, rfl, ?_⟩; have n0_ := Az.mk (Kd.S_elder' (by (with_reducible repeat (first | apply Kd.Sa_ | apply Kd.Sn_ | apply Kd.Sw_)); exact HO_3.out) (Kd.R_base ho0) hb); have n1_ := Az.mk (Kd.Rl_ ho0 (Yz (by repeat (first | (with_reducible first | exact HB.out | apply Ya | apply Yn | apply Yw) | exact HB.out)))); have n2_ := Az.mk (Yt (by repeat (first | (with_reducible first | exact HB.out | apply Ya | apply Yn | apply Yw) | exact HB.out)) hb); clear HO_3; clear HB; have HO_3 := n0_; have HO203 := n1_; have HB := n2_; clear n0_ n1_ n2_; (try clear hb); (try clear hb2); (try clear hk); (try clear hi); (try clear ho0); have p10 : 0 ≤ (x4_1 : Int) := of_decide_eq_true (by first | (with_reducible assumption) | assumption); have q10 : (x4_1 : Int) < ((x3_1.length : Int) : Int) := of_decide_eq_true (by first | (with_reducible assumption) | assumption); obtain ⟨go10, co10, eo10, gb10, gl10, cl10, HG10⟩ := Kd.S_form HO_3.out (by omega); (first | cases eo10 | (injection eo10 with ea_ en_ ec_; (first | subst ea_ | (injection ea_ with ea_; subst ea_)); subst ec_; clear en_)); have GB10 := Az.mk gb10; have GG10 := Az.mk HG10; clear gb10 gl10 HG10; obtain ⟨_, ce10, hcl10, hM10, hcc10, hfr10, _, _⟩ := Kd.S_elem HO_3.out [] (x4_1 : Int) p10 q10; obtain ⟨ve10_0, rfl, ge10_0⟩ := hM10; have hx10_0 := hcc10 0 _ rfl; have hf10_0 := hfr10 0; (try simp only [show ((Kd.slice 3 (Kd.int .i64))).sz = 1 from rfl, Nat.mul_one, Nat.add_zero] at hx10_0); (try simp only [show ((Kd.slice 3 (Kd.int .i64))).sz = 1 from rfl, Nat.mul_one, Nat.add_zero] at hf10_0); (try clear hcl10); (try clear hcc10); (try clear hfr10); (try clear hM10); replace p10 := eq_true p10; replace q10 := eq_true q10; have n_ := Az.mk (Kd.Sm_ (ok' := (fun k_ => some k_ ≠ (v202 : Value).ownBlock)) HO_3.out (fun k_ hk => hk.2)); clear HO_3; have HO_3 := n_; clear n_; have HX12 := Az.mk (show Kd.S (Kd.slice 3 (Kd.int .i64)) 45 w11 w.heap.size (fun k_ => ((fun _ => True)) k_ ∧ ¬ ((fun k_ => some k_ = (v202 : Value).ownBlock)) k_) (.slice (some ⟨go10, 0, none⟩) x3_1.length co10) x3_1 from (by (with_reducible repeat (first | apply Kd.Sa_ | apply Kd.Sn_ | apply Kd.Sw_)); exact Kd.Sm_ HO_3.out (fun k_ hk => ⟨trivial, fun e_ => hk e_⟩))); obtain ⟨oki12, ce12, hcl12, hM12, hcc12, hfr12, hoki12, hH12⟩ := Kd.S_elem HX12.out [] (x4_1 : Int) (of_decide_eq_true (by first | (with_reducible assumption) | assumption)) (by have h_ : (x4_1 : Int) < ((x3_1.length : Int) : Int) := of_decide_eq_true (by first | (with_reducible assumption) | assumption); first | exact h_ | (have e_ := (Kd.Sr_ HO_3.out).1; omega) | simpa using h_); obtain ⟨ve12_0, rfl, ge12_0⟩ := hM12; have HP12 := Kd.S_seg hH12 (of_decide_eq_true (by first | (with_reducible assumption) | assumption)) (by have h_ : (x4_1 : Int) < ((x3_1.length : Int) : Int) := of_decide_eq_true (by first | (with_reducible assumption) | assumption); first | exact h_ | (have e_ := (Kd.Sr_ HO_3.out).1; omega) | simpa using h_) (seg := [v202]) (j := 0) (show 1 ≤ 1 from by decide) (x' := t201) (Kd.M_row (Kd.Rm_ (Kd.R_tight rfl (Kd.Rm_ (ok' := fun k_ => ((fun _ => True)) k_ ∧ k_ ≠ go10) (Kd.R_apart' (HO203.out) (Kd.S_typed HO_3.out) (by decide)) (fun k_ hk => ⟨trivial, fun e_ => (hk.2) (by rw [e_]; rfl)⟩))) (fun _ h_ => Or.inr (h_)))) (fun _ hk => hk) (fun k_ hk_ => ((Kd.Rm_ (ok' := fun k_ => ((fun _ => True)) k_ ∧ k_ ≠ go10) (Kd.R_apart' (HO203.out) (Kd.S_typed HO_3.out) (by decide)) (fun k_ hk => ⟨trivial, fun e_ => (hk.2) (by rw [e_]; rfl)⟩))).1 k_ hk_.symm); have hx12_0 := hcc12 0 _ rfl; (try simp only [show ((Kd.slice 3 (Kd.int .i64))).sz = 1 from rfl, Nat.mul_one, Nat.add_zero] at hx12_0); have hf12_0 := hfr12 0; (try simp only [show ((Kd.slice 3 (Kd.int .i64))).sz = 1 from rfl, Nat.mul_one, Nat.add_zero] at hf12_0); (try clear hcl12); (try clear hcc12); (try clear hfr12); (try clear hM12); (try clear hoki12); (try clear hH12); (try simp only [show ((Kd.slice 3 (Kd.int .i64))).sz = 1 from rfl, Nat.mul_one, Nat.add_zero] at HP12)) | ((with_reducible refine gate_store (t := 45) (p := 21) rfl ?_); refine store_event (t := 45) (p := 21) (v := ?vo_w13) (w1 := (w11.setCell ⟨go10, (x4_1 : Int).toNat, none⟩ (v202))) ?hg ?ho ?hn ?hr ?_; (case ho => rfl); (case hg => rfl); (case hn => rfl); (case hr => first | (go_simp; done) | (go_simp; rfl) | (obtain ⟨A_, c_, e_⟩ := Kd.Rs_ HO203.out; subst e_; first | (go_simp; done) | (go_simp; rfl)) | (obtain ⟨A_, c_, e_⟩ := Kd.Rs_ HO204.out; subst e_; first | (go_simp; done) | (go_simp; rfl)) | (obtain ⟨A_, c_, e_⟩ := Kd.Rs_ HO202.out; subst e_; first | (go_simp; done) | (go_simp; rfl))); intro w13 hw; have hg : w11.grownBy w13 (some go10) := (by rw [hw]; exact HP12.2); have hp_ : Kd.S (Kd.slice 3 (Kd.int .i64)) 45 w13 w.heap.size (fun _ => True) (.slice (some ⟨go10, 0, none⟩) x3_1.length co10) y204 := (by rw [hw, Ny204.out]; exact HP12.1); clear HP12; have n0_ := Az.mk (hp_); have n1_ := Az.mk ((by rw [hw]; exact Ys (HB.out) GB10.out : Below w.heap.size w w13)); clear HO_3; clear HB; clear HO203; have HO_3 := n0_; have HB := n1_; clear n0_ n1_; clear hg hw hp_))
        go_roundg k1
        case measure => have := HK1.out; omega
        case rel => exact ⟨(y204), (wrap64 (x4_1 + 1)), (by first | rfl | (simp; done) | (simp [*]; done)), H', ⟨by have := HK1.out; omega⟩, ⟨by (with_reducible repeat (first | apply Kd.Sa_ | apply Kd.Sn_ | apply Kd.Sw_)); exact HO_3.out⟩, ⟨by repeat (first | (with_reducible first | exact HB.out | apply Ya | apply Yn | apply Yw) | exact HB.out)⟩⟩
       ·rw [if_neg c9] at H
        exact absurd H (by simp)
      ·rw [if_neg c7] at H
       exact absurd H (by simp)
     ·rw [if_neg c6] at H
      have c6b0 : decide (x4_1 < (l0.length : Int)) = false := decide_eq_false c6
      clear c6
      obtain rfl := Option.some.inj H
      go_wp2
      go_ret
      exact ⟨_, by first | rfl | (simp [errW_none, errW_some] <;> rfl) | (simp [*, errW_none, errW_some] <;> rfl), by (with_reducible repeat (first | apply Kd.Sa_ | apply Kd.Sn_ | apply Kd.Sw_)); exact HO_3.out, by repeat (first | (with_reducible first | exact HB.out | apply Ya | apply Yn | apply Yw) | exact HB.out)⟩
  ·rw [if_neg c3] at H
   exact absurd H (by simp)
 ·rw [if_neg c2] at H
  exact absurd H (by simp)

/-! ### laws_toMap: function 80 -/
def laws_toMap.f (a0_0 : Bool) (a0_1 : Int) (a0_2 : Bool) : Option (Bool × Int × Bool) := some (a0_0, a0_1, a0_2)
set_option maxHeartbeats 8000000 in
set_option maxRecDepth 100000 in
theorem laws_toMap.calls (a0_0 : Bool) (a0_1 : Int) (a0_2 : Bool) (r1 : Bool) (r2 : Int) (r3 : Bool) (w : World) (h : laws_toMap.f a0_0 a0_1 a0_2 = some (r1, r2, r3)) :
  Calls Try.prog 80 #[.agg #[.bool a0_0, .int .i64 a0_1, .bool a0_2]] w fun e w' => e = .returned (.agg #[.bool r1, .int .i64 r2, .bool r3]) ∧ Below w.heap.size w w' := by
 have hu99 := Try.underlying99
 have hu83 := Try.underlying83
 have HB := Az.mk (Below.refl w.heap.size w)
 have H : (some (a0_0, a0_1, a0_2)) = some (r1, r2, r3) := h
 clear h
 simp only [Option.some.injEq, Prod.mk.injEq] at H
 obtain ⟨rfl, rfl, rfl⟩ := H
 go_enter Try.func80, Try.ntmps80
 go_wp2_with (first | ((with_reducible refine Yd (N := 1) rfl ?_); refine Yv ?hg (N := 1) ?hd (cs := #[.bool a0_0, .int .i64 a0_1, .bool a0_2]) (t := 99) ?hr ?_; (case hd => rfl); (case hg => rfl); (case hr => first | (go_simp; done) | (go_simp; rfl)); intro gb205 hg w2 hbox hb; have n0_ := Az.mk (Yt (by repeat (first | (with_reducible first | exact HB.out | apply Ya | apply Yn | apply Yw) | exact HB.out)) hb); have n1_ := Az.mk (hbox); have n2_ := Az.mk ((by rw [hg]; exact (Yz (by repeat (first | (with_reducible first | exact HB.out | apply Ya | apply Yn | apply Yw) | exact HB.out))) : w.heap.size ≤ gb205)); have n3_ := Az.mk ((by rw [hg]; exact (Yz (by repeat (first | (with_reducible first | exact HB.out | apply Ya | apply Yn | apply Yw) | exact HB.out))) : w.heap.size ≤ gb205)); clear HB; have HB := n0_; have BK205 := n1_; have GW205 := n2_; have GE205 := n3_; clear n0_ n1_ n2_ n3_; clear hb hbox hg) | ((with_reducible refine Yd (N := 2) rfl ?_); refine Yv ?hg (N := 2) ?hd (cs := #[.bool false, .int .i64 0, .bool false]) (t := 83) ?hr ?_; (case hd => rfl); (case hg => rfl); (case hr => first | (go_simp; done) | (go_simp; rfl)); intro gb206 hg w3 hbox hb; have n0_ := Az.mk (Zb (g := gb205) (o := .cells #[.bool a0_0, .int .i64 a0_1, .bool a0_2] 99 (0, 0)) (by (with_reducible repeat (first | refine Zn ?_ _ | refine Zw ?_ | refine Za ?_ _)); exact BK205.out) hb); have n1_ := Az.mk (Yt (by repeat (first | (with_reducible first | exact HB.out | apply Ya | apply Yn | apply Yw | refine Ys ?_ GE205.out) | exact HB.out)) hb); have n2_ := Az.mk (hbox); have n3_ := Az.mk ((by rw [hg]; exact (Yz (by repeat (first | (with_reducible first | exact HB.out | apply Ya | apply Yn | apply Yw | refine Ys ?_ GE205.out) | exact HB.out))) : w.heap.size ≤ gb206)); have n4_ := Az.mk ((by rw [hg]; exact (Yz (by repeat (first | (with_reducible first | exact HB.out | apply Ya | apply Yn | apply Yw | refine Ys ?_ GE205.out) | exact HB.out))) : w.heap.size ≤ gb206)); have n5_ := Az.mk ((by rw [hg]; exact Nat.ne_of_lt (Zl (g := gb205) (o := .cells #[.bool a0_0, .int .i64 a0_1, .bool a0_2] 99 (0, 0)) (by (with_reducible repeat (first | refine Zn ?_ _ | refine Zw ?_ | refine Za ?_ _)); exact BK205.out)) : gb205 ≠ gb206)); have n6_ := Az.mk ((by rw [hg]; exact Nat.ne_of_gt (Zl (g := gb205) (o := .cells #[.bool a0_0, .int .i64 a0_1, .bool a0_2] 99 (0, 0)) (by (with_reducible repeat (first | refine Zn ?_ _ | refine Zw ?_ | refine Za ?_ _)); exact BK205.out)) : gb206 ≠ gb205)); clear BK205; clear HB; have BK205 := n0_; have HB := n1_; have BK206 := n2_; have GW206 := n3_; have GE206 := n4_; have NB205_206 := n5_; have NB206_205 := n6_; clear n0_ n1_ n2_ n3_ n4_ n5_ n6_; clear hb hbox hg) | ((with_reducible refine Yd (N := 3) rfl ?_); refine Yv ?hg (N := 3) ?hd (cs := #[.bool false, .int .i64 0, .bool false]) (t := 83) ?hr ?_; (case hd => rfl); (case hg => rfl); (case hr => first | (go_simp; done) | (go_simp; rfl)); intro gb207 hg w4 hbox hb; have n0_ := Az.mk (Zb (g := gb205) (o := .cells #[.bool a0_0, .int .i64 a0_1, .bool a0_2] 99 (0, 0)) (by (with_reducible repeat (first | refine Zn ?_ _ | refine Zw ?_ | refine Za ?_ _)); exact BK205.out) hb); have n1_ := Az.mk (Zb (g := gb206) (o := .cells #[.bool false, .int .i64 0, .bool false] 83 (0, 0)) (by (with_reducible repeat (first | refine Zn ?_ _ | refine Zw ?_ | refine Za ?_ _)); exact BK206.out) hb); have n2_ := Az.mk (Yt (by repeat (first | (with_reducible first | exact HB.out | apply Ya | apply Yn | apply Yw | refine Ys ?_ GE205.out | refine Ys ?_ GE206.out) | exact HB.out)) hb); have n3_ := Az.mk (hbox); have n4_ := Az.mk ((by rw [hg]; exact (Yz (by repeat (first | (with_reducible first | exact HB.out | apply Ya | apply Yn | apply Yw | refine Ys ?_ GE205.out | refine Ys ?_ GE206.out) | exact HB.out))) : w.heap.size ≤ gb207)); have n5_ := Az.mk ((by rw [hg]; exact (Yz (by repeat (first | (with_reducible first | exact HB.out | apply Ya | apply Yn | apply Yw | refine Ys ?_ GE205.out | refine Ys ?_ GE206.out) | exact HB.out))) : w.heap.size ≤ gb207)); have n6_ := Az.mk ((by rw [hg]; exact Nat.ne_of_lt (Zl (g := gb205) (o := .cells #[.bool a0_0, .int .i64 a0_1, .bool a0_2] 99 (0, 0)) (by (with_reducible repeat (first | refine Zn ?_ _ | refine Zw ?_ | refine Za ?_ _)); exact BK205.out)) : gb205 ≠ gb207)); have n7_ := Az.mk ((by rw [hg]; exact Nat.ne_of_gt (Zl (g := gb205) (o := .cells #[.bool a0_0, .int .i64 a0_1, .bool a0_2] 99 (0, 0)) (by (with_reducible repeat (first | refine Zn ?_ _ | refine Zw ?_ | refine Za ?_ _)); exact BK205.out)) : gb207 ≠ gb205)); have n8_ := Az.mk ((by rw [hg]; exact Nat.ne_of_lt (Zl (g := gb206) (o := .cells #[.bool false, .int .i64 0, .bool false] 83 (0, 0)) (by (with_reducible repeat (first | refine Zn ?_ _ | refine Zw ?_ | refine Za ?_ _)); exact BK206.out)) : gb206 ≠ gb207)); have n9_ := Az.mk ((by rw [hg]; exact Nat.ne_of_gt (Zl (g := gb206) (o := .cells #[.bool false, .int .i64 0, .bool false] 83 (0, 0)) (by (with_reducible repeat (first | refine Zn ?_ _ | refine Zw ?_ | refine Za ?_ _)); exact BK206.out)) : gb207 ≠ gb206)); clear BK205; clear BK206; clear HB; have BK205 := n0_; have BK206 := n1_; have HB := n2_; have BK207 := n3_; have GW207 := n4_; have GE207 := n5_; have NB205_207 := n6_; have NB207_205 := n7_; have NB206_207 := n8_; have NB207_206 := n9_; clear n0_ n1_ n2_ n3_ n4_ n5_ n6_ n7_ n8_ n9_; clear hb hbox hg; have hnb5 := NB205_206.out; have hnc5 := NB206_205.out; have hnb6 := NB205_207.out; have hnc6 := NB207_205.out; have hcz7_0 : w4.cell? ⟨gb205, 0, none⟩ = some (.bool a0_0) := (Zc BK205.out 0).trans rfl; have hcz7_1 : w4.cell? ⟨gb205, 1, none⟩ = some (.int .i64 a0_1) := (Zc BK205.out 1).trans rfl; have hcz7_2 : w4.cell? ⟨gb205, 2, none⟩ = some (.bool a0_2) := (Zc BK205.out 2).trans rfl; have hfz7_0 := Zf BK205.out 0; have hfz7_1 := Zf BK205.out 1; have hfz7_2 := Zf BK205.out 2; have hnb8 := NB207_206.out; have hnc8 := NB206_207.out; have hcz9_0 : w4.cell? ⟨gb207, 0, none⟩ = some (.bool false) := (Zc BK207.out 0).trans rfl; have hcz9_1 : w4.cell? ⟨gb207, 1, none⟩ = some (.int .i64 0) := (Zc BK207.out 1).trans rfl; have hcz9_2 : w4.cell? ⟨gb207, 2, none⟩ = some (.bool false) := (Zc BK207.out 2).trans rfl; have hfz9_0 := Zf BK207.out 0; have hfz9_1 := Zf BK207.out 1; have hfz9_2 := Zf BK207.out 2; have hcz10_0 : w4.cell? ⟨gb206, 0, none⟩ = some (.bool false) := (Zc BK206.out 0).trans rfl; have hcz10_1 : w4.cell? ⟨gb206, 1, none⟩ = some (.int .i64 0) := (Zc BK206.out 1).trans rfl; have hcz10_2 : w4.cell? ⟨gb206, 2, none⟩ = some (.bool false) := (Zc BK206.out 2).trans rfl; have hfz10_0 := Zf BK206.out 0; have hfz10_1 := Zf BK206.out 1; have hfz10_2 := Zf BK206.out 2))
 refine bodyPost_ret (results_cell_row rfl _ _ gb206 83 #[.bool a0_0, .int .i64 a0_1, .bool a0_2] (0, 0) _ rfl (by (with_reducible repeat (first | refine Zn ?_ _ | refine Zw ?_ | refine Za ?_ _)); refine Zp (cs := #[.bool a0_0, .int .i64 a0_1, .bool false]) ?_ 2 _ rfl; (with_reducible repeat (first | refine Zn ?_ _ | refine Zw ?_ | refine Za ?_ _)); refine Zp (cs := #[.bool a0_0, .int .i64 0, .bool false]) ?_ 1 _ rfl; (with_reducible repeat (first | refine Zn ?_ _ | refine Zw ?_ | refine Za ?_ _)); refine Zp (cs := #[.bool false, .int .i64 0, .bool false]) ?_ 0 _ rfl; (with_reducible repeat (first | refine Zn ?_ _ | refine Zw ?_ | refine Za ?_ _)); refine blk_far ?_ NB206_207.out _; (with_reducible repeat (first | refine Zn ?_ _ | refine Zw ?_ | refine Za ?_ _)); refine blk_far ?_ NB206_207.out _; (with_reducible repeat (first | refine Zn ?_ _ | refine Zw ?_ | refine Za ?_ _)); refine blk_far ?_ NB206_207.out _; (with_reducible repeat (first | refine Zn ?_ _ | refine Zw ?_ | refine Za ?_ _)); exact BK206.out) Try.underlying83 rfl (by kernel_rfl)) rfl ?_
 exact ⟨by first | rfl | (simp [errW_none, errW_some] <;> rfl) | (simp [*, errW_none, errW_some] <;> rfl), by repeat (first | (with_reducible first | exact HB.out | apply Ya | apply Yn | apply Yw | refine Ys ?_ GE205.out | refine Ys ?_ GE206.out | refine Ys ?_ GE207.out) | exact HB.out)⟩

/-! ### laws_toMapS: function 74 -/
def laws_toMapS.l0 : Nat → List (S99) → List (S83) → Int → Option ((List (S83)))
 | 0, _, _, _ => none
 | k + 1, x0, x3, x4 => if x4 < (x0.length : Int) then (if 0 ≤ x4 then ((laws_toMap.f ((rd_T99 x0 x4).f0) ((rd_T99 x0 x4).f1) ((rd_T99 x0 x4).f2)).bind fun bt212 => (if x4 < (x3.length : Int) then (laws_toMapS.l0 k x0 (x3.set (x4 : Int).toNat (⟨bt212.1, bt212.2.1, bt212.2.2⟩ : S83)) (wrap64 (x4 + 1))) else (none))) else (none)) else (some x3)
def laws_toMapS.f (k : Nat) (l0 : List (S99)) : Option ((List (S83))) := if 0 ≤ (l0.length : Int) then (if ((l0.length : Int) : Int).toNat ≤ 11728124029610 then (laws_toMapS.l0 k l0 (List.replicate ((l0.length : Int) : Int).toNat z83) 0) else (none)) else (none)
set_option maxHeartbeats 8000000 in
set_option maxRecDepth 100000 in
theorem laws_toMapS.calls (k : Nat) (A0 : Option Addr) (c0 : Nat) (l0 : List (S99)) (r : List (S83)) (w : World) (hr0 : Kd.C k99 w A0 l0.length l0) (hc0 : l0.length ≤ c0) (h : laws_toMapS.f k l0 = some r) :
  Calls Try.prog 74 #[.slice A0 l0.length c0] w fun e w' => ∃ v0_ : Value, e = .returned (v0_) ∧ Kd.R k83 83 w' w.heap.size (fun _ => True) v0_ r ∧ Below w.heap.size w w' := by
 have hu99 := Try.underlying99
 have hu83 := Try.underlying83
 have HR0 := Az.mk hr0
 have HC0 := Az.mk hc0
 clear hr0 hc0
 have HB := Az.mk (Below.refl w.heap.size w)
 have H : (if 0 ≤ (l0.length : Int) then (if ((l0.length : Int) : Int).toNat ≤ 11728124029610 then (laws_toMapS.l0 k l0 (List.replicate ((l0.length : Int) : Int).toNat z83) 0) else (none)) else (none)) = some r := h
 clear h
 by_cases c2 : 0 ≤ (l0.length : Int)
 ·rw [if_pos c2] at H
  have c2b0 := eq_true c2
  have c2b1 : decide (0 ≤ (l0.length : Int)) = true := decide_eq_true c2
  clear c2
  by_cases c3 : ((l0.length : Int) : Int).toNat ≤ 11728124029610
  ·rw [if_pos c3] at H
   have c3b0 := eq_true c3
   have c3b1 : decide (((l0.length : Int) : Int).toNat ≤ 11728124029610) = true := decide_eq_true c3
   clear c3
   obtain ⟨y208, hy208⟩ : ∃ y_ : List (S83), y_ = (List.replicate ((l0.length : Int) : Int).toNat z83) := ⟨_, rfl⟩
   replace H : (laws_toMapS.l0 k l0 y208 0) = some r := by first | (rw [hy208]; with_reducible exact H) | (have H2_ := (Option.bind_some _ _).symm.trans H; rw [hy208]; with_reducible exact H2_) | (have H2_ := (Option.bind_some _ _).symm.trans H; with_reducible exact H2_) | with_reducible exact H | (rw [hy208]; exact H) | exact H
   have Ny208 := Az.mk hy208
   clear hy208
   have H' := Az.mk H
   clear H
   go_enter Try.func74, Try.ntmps74
   go_wp2_with (first | ((with_reducible refine Yd (N := 7) rfl ?_); refine Kd.R_make k83 _ 83 rfl (N := 7) rfl 58 _ _ rfl (l0.length : Int) rfl rfl Try.underlying58 (.agg #[(.bool false), (.int .i64 0), (.bool false)]) 24 info83 rfl (by decide) (by omega) z83 (ok := fun _ => True) (okp := fun _ => True) (k83_mkM _ _ _ z83 ) (fun _ hk => hk) trivial (of_decide_eq_true (by first | (with_reducible assumption) | assumption)) (Nat.le_trans (Nat.mul_le_mul_right _ (of_decide_eq_true (by first | (with_reducible assumption) | assumption) : (l0.length : Int).toNat ≤ 11728124029610)) (by omega)) (Below.refl _ _) (Nat.le_refl _) ?_; intro v209 w4 ho5 hb hg_ hnew_; clear hg_ hnew_; (first | rw [← Ny208.out] at ho5 | (simp only [Int.reduceToNat] at ho5; rw [← Ny208.out] at ho5)); have n0_ := Az.mk (Kd.Rl_ ho5 (Yz (by repeat (first | (with_reducible first | exact HB.out | apply Ya | apply Yn | apply Yw) | exact HB.out)))); have n1_ := Az.mk (Yt (by repeat (first | (with_reducible first | exact HB.out | apply Ya | apply Yn | apply Yw) | exact HB.out)) hb); clear HB; have HO210 := n0_; have HB := n1_; clear n0_ n1_; clear hb ho5))
   go_loopg [4] k (fun kq v4 w' => ∃ (x3_1 : List (S83)) (x4_1 : Int), v4 = .int .i64 x4_1 ∧ Az (laws_toMapS.l0 kq l0 x3_1 x4_1 = some r) ∧ Az (kq ≤ k) ∧ Az (Kd.R k83 83 w' w.heap.size (fun _ => True) v209 x3_1) ∧ Az (Below w.heap.size w w'))
   case atStart => exact ⟨(y208), (0), (by first | rfl | (simp; done) | (simp [*]; done)), H', ⟨Nat.le_refl _⟩, ⟨by (with_reducible repeat (first | apply Kd.Ra_ | apply Kd.Rn_ | apply Kd.Rw_)); exact HO210.out⟩, ⟨by repeat (first | (with_reducible first | exact HB.out | apply Ya | apply Yn | apply Yw) | exact HB.out)⟩⟩
   case round =>
    clear H'
    try clear c2
    try clear c2b0
    try clear c2b1
    try clear p2
    try clear c3
    try clear c3b0
    try clear c3b1
    obtain ⟨x3_1, x4_1, rfl, HA, HK1, HO_3, HB⟩ := hrel
    cases gk with
    | zero => exact absurd HA.out (by simp [laws_toMapS.l0])
    | succ k1 =>
     have H := HA.out
     clear HA
     simp only [laws_toMapS.l0] at H
     by_cases c6 : x4_1 < (l0.length : Int)
     ·rw [if_pos c6] at H
      have c6b0 : decide (x4_1 < (l0.length : Int)) = true := decide_eq_true c6
      clear c6
      by_cases c7 : 0 ≤ x4_1
      ·rw [if_pos c7] at H
       have c7b0 : decide (0 ≤ x4_1) = true := decide_eq_true c7
       clear c7
       replace H := Option.bind_eq_some_iff.mp H
       obtain ⟨⟨t212, t213, t214⟩, A80, H⟩ := H
       replace H : (if x4_1 < (x3_1.length : Int) then (laws_toMapS.l0 k1 l0 (x3_1.set (x4_1 : Int).toNat (⟨t212, t213, t214⟩ : S83)) (wrap64 (x4_1 + 1))) else (none)) = some r := H
       have A8 := Az.mk A80
       clear A80
       by_cases c9 : x4_1 < (x3_1.length : Int)
       ·rw [if_pos c9] at H
        have c9b0 : decide (x4_1 < (x3_1.length : Int)) = true := decide_eq_true c9
        clear c9
        obtain ⟨y215, hy215⟩ : ∃ y_ : List (S83), y_ = (x3_1.set (x4_1 : Int).toNat (⟨t212, t213, t214⟩ : S83)) := ⟨_, rfl⟩
        replace H : (laws_toMapS.l0 k1 l0 y215 (wrap64 (x4_1 + 1))) = some r := by first | (rw [hy215]; with_reducible exact H) | (have H2_ := (Option.bind_some _ _).symm.trans H; rw [hy215]; with_reducible exact H2_) | (have H2_ := (Option.bind_some _ _).symm.trans H; with_reducible exact H2_) | with_reducible exact H | (rw [hy215]; exact H) | exact H
        have Ny215 := Az.mk hy215
        clear hy215
        have H' := Az.mk H
        clear H
        have p211 : 0 ≤ (x4_1 : Int) := of_decide_eq_true (by first | (with_reducible assumption) | assumption)
        have q211 : x4_1 < (l0.length : Int) := of_decide_eq_true (by first | (with_reducible assumption) | assumption)
        obtain ⟨ad211, e211, hx211_0, hx211_1, hx211_2⟩ := at_T99 HR0.out x4_1 p211 q211
        cases e211
        replace hx211_0 := (HB.out.cell (World.block_lt_of_cell? w _ hx211_0)).trans hx211_0
        replace hx211_1 := (HB.out.cell (World.block_lt_of_cell? w _ hx211_1)).trans hx211_1
        replace hx211_2 := (HB.out.cell (World.block_lt_of_cell? w _ hx211_2)).trans hx211_2
        replace p211 := eq_true p211
        replace q211 := eq_true q211
        go_wp2_with (first | ((with_reducible refine Yc (f := 80) rfl ?_); refine Yg (some 20) rfl rfl Try.func80 (by kernel_rfl) rfl #[.agg #[.bool ((rd_T99 l0 x4_1).f0), .int .i64 ((rd_T99 l0 x4_1).f1), .bool ((rd_T99 l0 x4_1).f2)]] rfl (by (try simp only [List.map_toArray, List.map_cons, List.map_nil]); first | done | rfl | (simp only [List.length_drop, List.length_take]; rfl)) ?_; (with_reducible refine (laws_toMap.calls ((rd_T99 l0 x4_1).f0) ((rd_T99 l0 x4_1).f1) ((rd_T99 l0 x4_1).f2) t212 t213 t214 _ A8.out).mono ?_); rintro e w11 ⟨rfl, hb⟩; refine ⟨_, rfl, ?_⟩; have n0_ := Az.mk (Kd.Rb_ (by (with_reducible repeat (first | apply Kd.Ra_ | apply Kd.Rn_ | apply Kd.Rw_)); exact HO_3.out) hb); have n1_ := Az.mk (Yt (by repeat (first | (with_reducible first | exact HB.out | apply Ya | apply Yn | apply Yw) | exact HB.out)) hb); clear HO_3; clear HB; have HO_3 := n0_; have HB := n1_; clear n0_ n1_; (try clear hb); (try clear hb2); (try clear hk); (try clear hi); have p10 : 0 ≤ (x4_1 : Int) := of_decide_eq_true (by first | (with_reducible assumption) | assumption); have q10 : (x4_1 : Int) < ((x3_1.length : Int) : Int) := of_decide_eq_true (by first | (with_reducible assumption) | assumption); obtain ⟨go10, co10, eo10, gb10, gl10, cl10, HG10⟩ := Kd.R_form HO_3.out (by omega); (first | cases eo10 | (injection eo10 with ea_ en_ ec_; (first | subst ea_ | (injection ea_ with ea_; subst ea_)); subst ec_; clear en_)); have GB10 := Az.mk gb10; have GG10 := Az.mk HG10; clear gb10 gl10 HG10; obtain ⟨ce10, hcl10, hM10, hcc10, hfr10⟩ := Kd.R_elem HO_3.out z83 (x4_1 : Int) p10 q10; obtain rfl := k83_openM hM10; have hx10_0 : w11.cell? ⟨go10, (x4_1 : Int).toNat * 3, none⟩ = some (.bool ((rd_T83 x3_1 x4_1).f0)) := hcc10 0 _ rfl; have hx10_1 : w11.cell? ⟨go10, (x4_1 : Int).toNat * 3 + 1, none⟩ = some (.int .i64 ((rd_T83 x3_1 x4_1).f1)) := hcc10 1 _ rfl; have hx10_2 : w11.cell? ⟨go10, (x4_1 : Int).toNat * 3 + 2, none⟩ = some (.bool ((rd_T83 x3_1 x4_1).f2)) := hcc10 2 _ rfl; have hf10_0 : w11.frozen? ⟨go10, (x4_1 : Int).toNat * 3, none⟩ = false := hfr10 0; have hf10_1 : w11.frozen? ⟨go10, (x4_1 : Int).toNat * 3 + 1, none⟩ = false := hfr10 1; have hf10_2 : w11.frozen? ⟨go10, (x4_1 : Int).toNat * 3 + 2, none⟩ = false := hfr10 2; (try clear hcl10); (try clear hcc10); (try clear hfr10); (try clear hM10); replace p10 := eq_true p10; replace q10 := eq_true q10; have HX12 := Az.mk (show Kd.R k83 83 w11 w.heap.size (fun _ => True) (.slice (some ⟨go10, 0, none⟩) x3_1.length co10) x3_1 from (by (with_reducible repeat (first | apply Kd.Ra_ | apply Kd.Rn_ | apply Kd.Rw_)); exact HO_3.out)); obtain ⟨ce12, hcl12, hM12, hcc12, hfr12⟩ := Kd.R_elem HX12.out z83 (x4_1 : Int) (of_decide_eq_true (by first | (with_reducible assumption) | assumption)) (by have h_ : (x4_1 : Int) < ((x3_1.length : Int) : Int) := of_decide_eq_true (by first | (with_reducible assumption) | assumption); first | exact h_ | (have e_ := (Kd.Rr_ HO_3.out).1; omega) | simpa using h_); obtain rfl := k83_openM hM12; have HP12 := Kd.R_seg HX12.out (x4_1 : Int) (of_decide_eq_true (by first | (with_reducible assumption) | assumption)) (by have h_ : (x4_1 : Int) < ((x3_1.length : Int) : Int) := of_decide_eq_true (by first | (with_reducible assumption) | assumption); first | exact h_ | (have e_ := (Kd.Rr_ HO_3.out).1; omega) | simpa using h_) (seg := [.bool t212, .int .i64 t213, .bool t214]) (j := 0) hcl12 hcc12 (show 3 ≤ 3 from by decide) (x' := (⟨t212, t213, t214⟩ : S83)) (k83_mkM _ _ _ (⟨t212, t213, t214⟩ : S83) ) (fun _ hk => hk); have hx12_0 := hcc12 0 _ rfl; (try simp only [show (k83).sz = 3 from rfl, Nat.mul_one, Nat.add_zero] at hx12_0); have hf12_0 := hfr12 0; (try simp only [show (k83).sz = 3 from rfl, Nat.mul_one, Nat.add_zero] at hf12_0); have hx12_1 := hcc12 1 _ rfl; (try simp only [show (k83).sz = 3 from rfl, Nat.mul_one, Nat.add_zero] at hx12_1); have hf12_1 := hfr12 1; (try simp only [show (k83).sz = 3 from rfl, Nat.mul_one, Nat.add_zero] at hf12_1); have hx12_2 := hcc12 2 _ rfl; (try simp only [show (k83).sz = 3 from rfl, Nat.mul_one, Nat.add_zero] at hx12_2); have hf12_2 := hfr12 2; (try simp only [show (k83).sz = 3 from rfl, Nat.mul_one, Nat.add_zero] at hf12_2); (try clear hcl12); (try clear hcc12); (try clear hfr12); (try clear hM12)) | ((with_reducible refine gate_store (t := 83) (p := 21) rfl ?_); refine store_event (t := 83) (p := 21) (v := ?vo_w13) (w1 := (((w11.setCell ⟨go10, (x4_1 : Int).toNat * 3, none⟩ (.bool t212)).setCell ⟨go10, (x4_1 : Int).toNat * 3 + 1, none⟩ (.int .i64 t213)).setCell ⟨go10, (x4_1 : Int).toNat * 3 + 2, none⟩ (.bool t214))) ?hg ?ho ?hn ?hr ?_; (case ho => rfl); (case hg => rfl); (case hn => rfl); (case hr => first | (go_simp; done) | (go_simp; rfl)); intro w13 hw; have hg : w11.grownBy w13 (some go10) := (by rw [hw]; exact HP12.2); have hp_ : Kd.R k83 83 w13 w.heap.size (fun _ => True) (.slice (some ⟨go10, 0, none⟩) x3_1.length co10) y215 := (by rw [hw, Ny215.out]; exact HP12.1); clear HP12; have n0_ := Az.mk (hp_); have n1_ := Az.mk ((by rw [hw]; exact Ys (Ys (Ys (HB.out) GB10.out) GB10.out) GB10.out : Below w.heap.size w w13)); clear HO_3; clear HB; have HO_3 := n0_; have HB := n1_; clear n0_ n1_; clear hg hw hp_))
        go_roundg k1
        case measure => have := HK1.out; omega
        case rel => exact ⟨(y215), (wrap64 (x4_1 + 1)), (by first | rfl | (simp; done) | (simp [*]; done)), H', ⟨by have := HK1.out; omega⟩, ⟨by (with_reducible repeat (first | apply Kd.Ra_ | apply Kd.Rn_ | apply Kd.Rw_)); exact HO_3.out⟩, ⟨by repeat (first | (with_reducible first | exact HB.out | apply Ya | apply Yn | apply Yw) | exact HB.out)⟩⟩
       ·rw [if_neg c9] at H
        exact absurd H (by simp)
      ·rw [if_neg c7] at H
       exact absurd H (by simp)
     ·rw [if_neg c6] at H
      have c6b0 : decide (x4_1 < (l0.length : Int)) = false := decide_eq_false c6
      clear c6
      obtain rfl := Option.some.inj H
      go_wp2
      go_ret
      exact ⟨_, by first | rfl | (simp [errW_none, errW_some] <;> rfl) | (simp [*, errW_none, errW_some] <;> rfl), by (with_reducible repeat (first | apply Kd.Ra_ | apply Kd.Rn_ | apply Kd.Rw_)); exact HO_3.out, by repeat (first | (with_reducible first | exact HB.out | apply Ya | apply Yn | apply Yw) | exact HB.out)⟩
  ·rw [if_neg c3] at H
   exact absurd H (by simp)
 ·rw [if_neg c2] at H
  exact absurd H (by simp)

/-! ### laws_toShade: function 81 -/
def laws_toShade.f (a0_0 : Bool) (a0_1 : Int) (a0_2 : Int) (a0_3 : Bool) : Option (Bool × Int × Int × Bool) := some (a0_0, a0_1, a0_2, a0_3)
set_option maxHeartbeats 8000000 in
set_option maxRecDepth 100000 in
theorem laws_toShade.calls (a0_0 : Bool) (a0_1 : Int) (a0_2 : Int) (a0_3 : Bool) (r1 : Bool) (r2 : Int) (r3 : Int) (r4 : Bool) (w : World) (h : laws_toShade.f a0_0 a0_1 a0_2 a0_3 = some (r1, r2, r3, r4)) :
  Calls Try.prog 81 #[.agg #[.bool a0_0, .int .i64 a0_1, .int .i64 a0_2, .bool a0_3]] w fun e w' => e = .returned (.agg #[.bool r1, .int .i64 r2, .int .i64 r3, .bool r4]) ∧ Below w.heap.size w w' := by
 have hu101 := Try.underlying101
 have hu86 := Try.underlying86
 have HB := Az.mk (Below.refl w.heap.size w)
 have H : (some (a0_0, a0_1, a0_2, a0_3)) = some (r1, r2, r3, r4) := h
 clear h
 simp only [Option.some.injEq, Prod.mk.injEq] at H
 obtain ⟨rfl, rfl, rfl, rfl⟩ := H
 go_enter Try.func81, Try.ntmps81
 go_wp2_with (first | ((with_reducible refine Yd (N := 1) rfl ?_); refine Yv ?hg (N := 1) ?hd (cs := #[.bool a0_0, .int .i64 a0_1, .int .i64 a0_2, .bool a0_3]) (t := 101) ?hr ?_; (case hd => rfl); (case hg => rfl); (case hr => first | (go_simp; done) | (go_simp; rfl)); intro gb216 hg w2 hbox hb; have n0_ := Az.mk (Yt (by repeat (first | (with_reducible first | exact HB.out | apply Ya | apply Yn | apply Yw) | exact HB.out)) hb); have n1_ := Az.mk (hbox); have n2_ := Az.mk ((by rw [hg]; exact (Yz (by repeat (first | (with_reducible first | exact HB.out | apply Ya | apply Yn | apply Yw) | exact HB.out))) : w.heap.size ≤ gb216)); have n3_ := Az.mk ((by rw [hg]; exact (Yz (by repeat (first | (with_reducible first | exact HB.out | apply Ya | apply Yn | apply Yw) | exact HB.out))) : w.heap.size ≤ gb216)); clear HB; have HB := n0_; have BK216 := n1_; have GW216 := n2_; have GE216 := n3_; clear n0_ n1_ n2_ n3_; clear hb hbox hg) | ((with_reducible refine Yd (N := 2) rfl ?_); refine Yv ?hg (N := 2) ?hd (cs := #[.bool false, .int .i64 0, .int .i64 0, .bool false]) (t := 86) ?hr ?_; (case hd => rfl); (case hg => rfl); (case hr => first | (go_simp; done) | (go_simp; rfl)); intro gb217 hg w3 hbox hb; have n0_ := Az.mk (Zb (g := gb216) (o := .cells #[.bool a0_0, .int .i64 a0_1, .int .i64 a0_2, .bool a0_3] 101 (0, 0)) (by (with_reducible repeat (first | refine Zn ?_ _ | refine Zw ?_ | refine Za ?_ _)); exact BK216.out) hb); have n1_ := Az.mk (Yt (by repeat (first | (with_reducible first | exact HB.out | apply Ya | apply Yn | apply Yw | refine Ys ?_ GE216.out) | exact HB.out)) hb); have n2_ := Az.mk (hbox); have n3_ := Az.mk ((by rw [hg]; exact (Yz (by repeat (first | (with_reducible first | exact HB.out | apply Ya | apply Yn | apply Yw | refine Ys ?_ GE216.out) | exact HB.out))) : w.heap.size ≤ gb217)); have n4_ := Az.mk ((by rw [hg]; exact (Yz (by repeat (first | (with_reducible first | exact HB.out | apply Ya | apply Yn | apply Yw | refine Ys ?_ GE216.out) | exact HB.out))) : w.heap.size ≤ gb217)); have n5_ := Az.mk ((by rw [hg]; exact Nat.ne_of_lt (Zl (g := gb216) (o := .cells #[.bool a0_0, .int .i64 a0_1, .int .i64 a0_2, .bool a0_3] 101 (0, 0)) (by (with_reducible repeat (first | refine Zn ?_ _ | refine Zw ?_ | refine Za ?_ _)); exact BK216.out)) : gb216 ≠ gb217)); have n6_ := Az.mk ((by rw [hg]; exact Nat.ne_of_gt (Zl (g := gb216) (o := .cells #[.bool a0_0, .int .i64 a0_1, .int .i64 a0_2, .bool a0_3] 101 (0, 0)) (by (with_reducible repeat (first | refine Zn ?_ _ | refine Zw ?_ | refine Za ?_ _)); exact BK216.out)) : gb217 ≠ gb216)); clear BK216; clear HB; have BK216 := n0_; have HB := n1_; have BK217 := n2_; have GW217 := n3_; have GE217 := n4_; have NB216_217 := n5_; have NB217_216 := n6_; clear n0_ n1_ n2_ n3_ n4_ n5_ n6_; clear hb hbox hg) | ((with_reducible refine Yd (N := 3) rfl ?_); refine Yv ?hg (N := 3) ?hd (cs := #[.bool false, .int .i64 0, .int .i64 0, .bool false]) (t := 86) ?hr ?_; (case hd => rfl); (case hg => rfl); (case hr => first | (go_simp; done) | (go_simp; rfl)); intro gb218 hg w4 hbox hb; have n0_ := Az.mk (Zb (g := gb216) (o := .cells #[.bool a0_0, .int .i64 a0_1, .int .i64 a0_2, .bool a0_3] 101 (0, 0)) (by (with_reducible repeat (first | refine Zn ?_ _ | refine Zw ?_ | refine Za ?_ _)); exact BK216.out) hb); have n1_ := Az.mk (Zb (g := gb217) (o := .cells #[.bool false, .int .i64 0, .int .i64 0, .bool false] 86 (0, 0)) (by (with_reducible repeat (first | refine Zn ?_ _ | refine Zw ?_ | refine Za ?_ _)); exact BK217.out) hb); have n2_ := Az.mk (Yt (by repeat (first | (with_reducible first | exact HB.out | apply Ya | apply Yn | apply Yw | refine Ys ?_ GE216.out | refine Ys ?_ GE217.out) | exact HB.out)) hb); have n3_ := Az.mk (hbox); have n4_ := Az.mk ((by rw [hg]; exact (Yz (by repeat (first | (with_reducible first | exact HB.out | apply Ya | apply Yn | apply Yw | refine Ys ?_ GE216.out | refine Ys ?_ GE217.out) | exact HB.out))) : w.heap.size ≤ gb218)); have n5_ := Az.mk ((by rw [hg]; exact (Yz (by repeat (first | (with_reducible first | exact HB.out | apply Ya | apply Yn | apply Yw | refine Ys ?_ GE216.out | refine Ys ?_ GE217.out) | exact HB.out))) : w.heap.size ≤ gb218)); have n6_ := Az.mk ((by rw [hg]; exact Nat.ne_of_lt (Zl (g := gb216) (o := .cells #[.bool a0_0, .int .i64 a0_1, .int .i64 a0_2, .bool a0_3] 101 (0, 0)) (by (with_reducible repeat (first | refine Zn ?_ _ | refine Zw ?_ | refine Za ?_ _)); exact BK216.out)) : gb216 ≠ gb218)); have n7_ := Az.mk ((by rw [hg]; exact Nat.ne_of_gt (Zl (g := gb216) (o := .cells #[.bool a0_0, .int .i64 a0_1, .int .i64 a0_2, .bool a0_3] 101 (0, 0)) (by (with_reducible repeat (first | refine Zn ?_ _ | refine Zw ?_ | refine Za ?_ _)); exact BK216.out)) : gb218 ≠ gb216)); have n8_ := Az.mk ((by rw [hg]; exact Nat.ne_of_lt (Zl (g := gb217) (o := .cells #[.bool false, .int .i64 0, .int .i64 0, .bool false] 86 (0, 0)) (by (with_reducible repeat (first | refine Zn ?_ _ | refine Zw ?_ | refine Za ?_ _)); exact BK217.out)) : gb217 ≠ gb218)); have n9_ := Az.mk ((by rw [hg]; exact Nat.ne_of_gt (Zl (g := gb217) (o := .cells #[.bool false, .int .i64 0, .int .i64 0, .bool false] 86 (0, 0)) (by (with_reducible repeat (first | refine Zn ?_ _ | refine Zw ?_ | refine Za ?_ _)); exact BK217.out)) : gb218 ≠ gb217)); clear BK216; clear BK217; clear HB; have BK216 := n0_; have BK217 := n1_; have HB := n2_; have BK218 := n3_; have GW218 := n4_; have GE218 := n5_; have NB216_218 := n6_; have NB218_216 := n7_; have NB217_218 := n8_; have NB218_217 := n9_; clear n0_ n1_ n2_ n3_ n4_ n5_ n6_ n7_ n8_ n9_; clear hb hbox hg; have hnb5 := NB216_217.out; have hnc5 := NB217_216.out; have hnb6 := NB216_218.out; have hnc6 := NB218_216.out; have hcz7_0 : w4.cell? ⟨gb216, 0, none⟩ = some (.bool a0_0) := (Zc BK216.out 0).trans rfl; have hcz7_1 : w4.cell? ⟨gb216, 1, none⟩ = some (.int .i64 a0_1) := (Zc BK216.out 1).trans rfl; have hcz7_2 : w4.cell? ⟨gb216, 2, none⟩ = some (.int .i64 a0_2) := (Zc BK216.out 2).trans rfl; have hcz7_3 : w4.cell? ⟨gb216, 3, none⟩ = some (.bool a0_3) := (Zc BK216.out 3).trans rfl; have hfz7_0 := Zf BK216.out 0; have hfz7_1 := Zf BK216.out 1; have hfz7_2 := Zf BK216.out 2; have hfz7_3 := Zf BK216.out 3; have hnb8 := NB218_217.out; have hnc8 := NB217_218.out; have hcz9_0 : w4.cell? ⟨gb218, 0, none⟩ = some (.bool false) := (Zc BK218.out 0).trans rfl; have hcz9_1 : w4.cell? ⟨gb218, 1, none⟩ = some (.int .i64 0) := (Zc BK218.out 1).trans rfl; have hcz9_2 : w4.cell? ⟨gb218, 2, none⟩ = some (.int .i64 0) := (Zc BK218.out 2).trans rfl; have hcz9_3 : w4.cell? ⟨gb218, 3, none⟩ = some (.bool false) := (Zc BK218.out 3).trans rfl; have hfz9_0 := Zf BK218.out 0; have hfz9_1 := Zf BK218.out 1; have hfz9_2 := Zf BK218.out 2; have hfz9_3 := Zf BK218.out 3; have hcz10_0 : w4.cell? ⟨gb217, 0, none⟩ = some (.bool false) := (Zc BK217.out 0).trans rfl; have hcz10_1 : w4.cell? ⟨gb217, 1, none⟩ = some (.int .i64 0) := (Zc BK217.out 1).trans rfl; have hcz10_2 : w4.cell? ⟨gb217, 2, none⟩ = some (.int .i64 0) := (Zc BK217.out 2).trans rfl; have hcz10_3 : w4.cell? ⟨gb217, 3, none⟩ = some (.bool false) := (Zc BK217.out 3).trans rfl; have hfz10_0 := Zf BK217.out 0; have hfz10_1 := Zf BK217.out 1; have hfz10_2 := Zf BK217.out 2; have hfz10_3 := Zf BK217.out 3))
 refine bodyPost_ret (results_cell_row rfl _ _ gb217 86 #[.bool a0_0, .int .i64 a0_1, .int .i64 a0_2, .bool a0_3] (0, 0) _ rfl (by (with_reducible repeat (first | refine Zn ?_ _ | refine Zw ?_ | refine Za ?_ _)); refine Zp (cs := #[.bool a0_0, .int .i64 a0_1, .int .i64 a0_2, .bool false]) ?_ 3 _ rfl; (with_reducible repeat (first | refine Zn ?_ _ | refine Zw ?_ | refine Za ?_ _)); refine Zp (cs := #[.bool a0_0, .int .i64 a0_1, .int .i64 0, .bool false]) ?_ 2 _ rfl; (with_reducible repeat (first | refine Zn ?_ _ | refine Zw ?_ | refine Za ?_ _)); refine Zp (cs := #[.bool a0_0, .int .i64 0, .int .i64 0, .bool false]) ?_ 1 _ rfl; (with_reducible repeat (first | refine Zn ?_ _ | refine Zw ?_ | refine Za ?_ _)); refine Zp (cs := #[.bool false, .int .i64 0, .int .i64 0, .bool false]) ?_ 0 _ rfl; (with_reducible repeat (first | refine Zn ?_ _ | refine Zw ?_ | refine Za ?_ _)); refine blk_far ?_ NB217_218.out _; (with_reducible repeat (first | refine Zn ?_ _ | refine Zw ?_ | refine Za ?_ _)); refine blk_far ?_ NB217_218.out _; (with_reducible repeat (first | refine Zn ?_ _ | refine Zw ?_ | refine Za ?_ _)); refine blk_far ?_ NB217_218.out _; (with_reducible repeat (first | refine Zn ?_ _ | refine Zw ?_ | refine Za ?_ _)); refine blk_far ?_ NB217_218.out _; (with_reducible repeat (first | refine Zn ?_ _ | refine Zw ?_ | refine Za ?_ _)); exact BK217.out) Try.underlying86 rfl (by kernel_rfl)) rfl ?_
 exact ⟨by first | rfl | (simp [errW_none, errW_some] <;> rfl) | (simp [*, errW_none, errW_some] <;> rfl), by repeat (first | (with_reducible first | exact HB.out | apply Ya | apply Yn | apply Yw | refine Ys ?_ GE216.out | refine Ys ?_ GE217.out | refine Ys ?_ GE218.out) | exact HB.out)⟩

/-! ### laws_toShadeS: function 75 -/
def laws_toShadeS.l0 : Nat → List (S101) → List (S86) → Int → Option ((List (S86)))
 | 0, _, _, _ => none
 | k + 1, x0, x3, x4 => if x4 < (x0.length : Int) then (if 0 ≤ x4 then ((laws_toShade.f ((rd_T101 x0 x4).f0) ((rd_T101 x0 x4).f1) ((rd_T101 x0 x4).f2) ((rd_T101 x0 x4).f3)).bind fun bt223 => (if x4 < (x3.length : Int) then (laws_toShadeS.l0 k x0 (x3.set (x4 : Int).toNat (⟨bt223.1, bt223.2.1, bt223.2.2.1, bt223.2.2.2⟩ : S86)) (wrap64 (x4 + 1))) else (none))) else (none)) else (some x3)
def laws_toShadeS.f (k : Nat) (l0 : List (S101)) : Option ((List (S86))) := if 0 ≤ (l0.length : Int) then (if ((l0.length : Int) : Int).toNat ≤ 8796093022208 then (laws_toShadeS.l0 k l0 (List.replicate ((l0.length : Int) : Int).toNat z86) 0) else (none)) else (none)
set_option maxHeartbeats 8000000 in
set_option maxRecDepth 100000 in
theorem laws_toShadeS.calls (k : Nat) (A0 : Option Addr) (c0 : Nat) (l0 : List (S101)) (r : List (S86)) (w : World) (hr0 : Kd.C k101 w A0 l0.length l0) (hc0 : l0.length ≤ c0) (h : laws_toShadeS.f k l0 = some r) :
  Calls Try.prog 75 #[.slice A0 l0.length c0] w fun e w' => ∃ v0_ : Value, e = .returned (v0_) ∧ Kd.R k86 86 w' w.heap.size (fun _ => True) v0_ r ∧ Below w.heap.size w w' := by
 have hu101 := Try.underlying101
 have hu86 := Try.underlying86
 have HR0 := Az.mk hr0
 have HC0 := Az.mk hc0
 clear hr0 hc0
 have HB := Az.mk (Below.refl w.heap.size w)
 have H : (if 0 ≤ (l0.length : Int) then (if ((l0.length : Int) : Int).toNat ≤ 8796093022208 then (laws_toShadeS.l0 k l0 (List.replicate ((l0.length : Int) : Int).toNat z86) 0) else (none)) else (none)) = some r := h
 clear h
 by_cases c2 : 0 ≤ (l0.length : Int)
 ·rw [if_pos c2] at H
  have c2b0 := eq_true c2
  have c2b1 : decide (0 ≤ (l0.length : Int)) = true := decide_eq_true c2
  clear c2
  by_cases c3 : ((l0.length : Int) : Int).toNat ≤ 8796093022208
  ·rw [if_pos c3] at H
   have c3b0 := eq_true c3
   have c3b1 : decide (((l0.length : Int) : Int).toNat ≤ 8796093022208) = true := decide_eq_true c3
   clear c3
   obtain ⟨y219, hy219⟩ : ∃ y_ : List (S86), y_ = (List.replicate ((l0.length : Int) : Int).toNat z86) := ⟨_, rfl⟩
   replace H : (laws_toShadeS.l0 k l0 y219 0) = some r := by first | (rw [hy219]; with_reducible exact H) | (have H2_ := (Option.bind_some _ _).symm.trans H; rw [hy219]; with_reducible exact H2_) | (have H2_ := (Option.bind_some _ _).symm.trans H; with_reducible exact H2_) | with_reducible exact H | (rw [hy219]; exact H) | exact H
   have Ny219 := Az.mk hy219
   clear hy219
   have H' := Az.mk H
   clear H
   go_enter Try.func75, Try.ntmps75
   go_wp2_with (first | ((with_reducible refine Yd (N := 7) rfl ?_); refine Kd.R_make k86 _ 86 rfl (N := 7) rfl 59 _ _ rfl (l0.length : Int) rfl rfl Try.underlying59 (.agg #[(.bool false), (.int .i64 0), (.int .i64 0), (.bool false)]) 32 info86 rfl (by decide) (by omega) z86 (ok := fun _ => True) (okp := fun _ => True) (k86_mkM _ _ _ z86 ) (fun _ hk => hk) trivial (of_decide_eq_true (by first | (with_reducible assumption) | assumption)) (Nat.le_trans (Nat.mul_le_mul_right _ (of_decide_eq_true (by first | (with_reducible assumption) | assumption) : (l0.length : Int).toNat ≤ 8796093022208)) (by omega)) (Below.refl _ _) (Nat.le_refl _) ?_; intro v220 w4 ho5 hb hg_ hnew_; clear hg_ hnew_; (first | rw [← Ny219.out] at ho5 | (simp only [Int.reduceToNat] at ho5; rw [← Ny219.out] at ho5)); have n0_ := Az.mk (Kd.Rl_ ho5 (Yz (by repeat (first | (with_reducible first | exact HB.out | apply Ya | apply Yn | apply Yw) | exact HB.out)))); have n1_ := Az.mk (Yt (by repeat (first | (with_reducible first | exact HB.out | apply Ya | apply Yn | apply Yw) | exact HB.out)) hb); clear HB; have HO221 := n0_; have HB := n1_; clear n0_ n1_; clear hb ho5))
   go_loopg [4] k (fun kq v4 w' => ∃ (x3_1 : List (S86)) (x4_1 : Int), v4 = .int .i64 x4_1 ∧ Az (laws_toShadeS.l0 kq l0 x3_1 x4_1 = some r) ∧ Az (kq ≤ k) ∧ Az (Kd.R k86 86 w' w.heap.size (fun _ => True) v220 x3_1) ∧ Az (Below w.heap.size w w'))
   case atStart => exact ⟨(y219), (0), (by first | rfl | (simp; done) | (simp [*]; done)), H', ⟨Nat.le_refl _⟩, ⟨by (with_reducible repeat (first | apply Kd.Ra_ | apply Kd.Rn_ | apply Kd.Rw_)); exact HO221.out⟩, ⟨by repeat (first | (with_reducible first | exact HB.out | apply Ya | apply Yn | apply Yw) | exact HB.out)⟩⟩
   case round =>
    clear H'
    try clear c2
    try clear c2b0
    try clear c2b1
    try clear p2
    try clear c3
    try clear c3b0
    try clear c3b1
    obtain ⟨x3_1, x4_1, rfl, HA, HK1, HO_3, HB⟩ := hrel
    cases gk with
    | zero => exact absurd HA.out (by simp [laws_toShadeS.l0])
    | succ k1 =>
     have H := HA.out
     clear HA
     simp only [laws_toShadeS.l0] at H
     by_cases c6 : x4_1 < (l0.length : Int)
     ·rw [if_pos c6] at H
      have c6b0 : decide (x4_1 < (l0.length : Int)) = true := decide_eq_true c6
      clear c6
      by_cases c7 : 0 ≤ x4_1
      ·rw [if_pos c7] at H
       have c7b0 : decide (0 ≤ x4_1) = true := decide_eq_true c7
       clear c7
       replace H := Option.bind_eq_some_iff.mp H
       obtain ⟨⟨t223, t224, t225, t226⟩, A80, H⟩ := H
       replace H : (if x4_1 < (x3_1.length : Int) then (laws_toShadeS.l0 k1 l0 (x3_1.set (x4_1 : Int).toNat (⟨t223, t224, t225, t226⟩ : S86)) (wrap64 (x4_1 + 1))) else (none)) = some r := H
       have A8 := Az.mk A80
       clear A80
       by_cases c9 : x4_1 < (x3_1.length : Int)
       ·rw [if_pos c9] at H
        have c9b0 : decide (x4_1 < (x3_1.length : Int)) = true := decide_eq_true c9
        clear c9
        obtain ⟨y227, hy227⟩ : ∃ y_ : List (S86), y_ = (x3_1.set (x4_1 : Int).toNat (⟨t223, t224, t225, t226⟩ : S86)) := ⟨_, rfl⟩
        replace H : (laws_toShadeS.l0 k1 l0 y227 (wrap64 (x4_1 + 1))) = some r := by first | (rw [hy227]; with_reducible exact H) | (have H2_ := (Option.bind_some _ _).symm.trans H; rw [hy227]; with_reducible exact H2_) | (have H2_ := (Option.bind_some _ _).symm.trans H; with_reducible exact H2_) | with_reducible exact H | (rw [hy227]; exact H) | exact H
        have Ny227 := Az.mk hy227
        clear hy227
        have H' := Az.mk H
        clear H
        have p222 : 0 ≤ (x4_1 : Int) := of_decide_eq_true (by first | (with_reducible assumption) | assumption)
        have q222 : x4_1 < (l0.length : Int) := of_decide_eq_true (by first | (with_reducible assumption) | assumption)
        obtain ⟨ad222, e222, hx222_0, hx222_1, hx222_2, hx222_3⟩ := at_T101 HR0.out x4_1 p222 q222
        cases e222
        replace hx222_0 := (HB.out.cell (World.block_lt_of_cell? w _ hx222_0)).trans hx222_0
        replace hx222_1 := (HB.out.cell (World.block_lt_of_cell? w _ hx222_1)).trans hx222_1
        replace hx222_2 := (HB.out.cell (World.block_lt_of_cell? w _ hx222_2)).trans hx222_2
        replace hx222_3 := (HB.out.cell (World.block_lt_of_cell? w _ hx222_3)).trans hx222_3
        replace p222 := eq_true p222
        replace q222 := eq_true q222
        go_wp2_with (first | ((with_reducible refine Yc (f := 81) rfl ?_); refine Yg (some 20) rfl rfl Try.func81 (by kernel_rfl) rfl #[.agg #[.bool ((rd_T101 l0 x4_1).f0), .int .i64 ((rd_T101 l0 x4_1).f1), .int .i64 ((rd_T101 l0 x4_1).f2), .bool ((rd_T101 l0 x4_1).f3)]] rfl (by (try simp only [List.map_toArray, List.map_cons, List.map_nil]); first | done | rfl | (simp only [List.length_drop, List.length_take]; rfl)) ?_; (with_reducible refine (laws_toShade.calls ((rd_T101 l0 x4_1).f0) ((rd_T101 l0 x4_1).f1) ((rd_T101 l0 x4_1).f2) ((rd_T101 l0 x4_1).f3) t223 t224 t225 t226 _ A8.out).mono ?_); rintro e w11 ⟨rfl, hb⟩; refine ⟨_, rfl, ?_⟩; have n0_ := Az.mk (Kd.Rb_ (by (with_reducible repeat (first | apply Kd.Ra_ | apply Kd.Rn_ | apply Kd.Rw_)); exact HO_3.out) hb); have n1_ := Az.mk (Yt (by repeat (first | (with_reducible first | exact HB.out | apply Ya | apply Yn | apply Yw) | exact HB.out)) hb); clear HO_3; clear HB; have HO_3 := n0_; have HB := n1_; clear n0_ n1_; (try clear hb); (try clear hb2); (try clear hk); (try clear hi); have p10 : 0 ≤ (x4_1 : Int) := of_decide_eq_true (by first | (with_reducible assumption) | assumption); have q10 : (x4_1 : Int) < ((x3_1.length : Int) : Int) := of_decide_eq_true (by first | (with_reducible assumption) | assumption); obtain ⟨go10, co10, eo10, gb10, gl10, cl10, HG10⟩ := Kd.R_form HO_3.out (by omega); (first | cases eo10 | (injection eo10 with ea_ en_ ec_; (first | subst ea_ | (injection ea_ with ea_; subst ea_)); subst ec_; clear en_)); have GB10 := Az.mk gb10; have GG10 := Az.mk HG10; clear gb10 gl10 HG10; obtain ⟨ce10, hcl10, hM10, hcc10, hfr10⟩ := Kd.R_elem HO_3.out z86 (x4_1 : Int) p10 q10; obtain rfl := k86_openM hM10; have hx10_0 : w11.cell? ⟨go10, (x4_1 : Int).toNat * 4, none⟩ = some (.bool ((rd_T86 x3_1 x4_1).f0)) := hcc10 0 _ rfl; have hx10_1 : w11.cell? ⟨go10, (x4_1 : Int).toNat * 4 + 1, none⟩ = some (.int .i64 ((rd_T86 x3_1 x4_1).f1)) := hcc10 1 _ rfl; have hx10_2 : w11.cell? ⟨go10, (x4_1 : Int).toNat * 4 + 2, none⟩ = some (.int .i64 ((rd_T86 x3_1 x4_1).f2)) := hcc10 2 _ rfl; have hx10_3 : w11.cell? ⟨go10, (x4_1 : Int).toNat * 4 + 3, none⟩ = some (.bool ((rd_T86 x3_1 x4_1).f3)) := hcc10 3 _ rfl; have hf10_0 : w11.frozen? ⟨go10, (x4_1 : Int).toNat * 4, none⟩ = false := hfr10 0; have hf10_1 : w11.frozen? ⟨go10, (x4_1 : Int).toNat * 4 + 1, none⟩ = false := hfr10 1; have hf10_2 : w11.frozen? ⟨go10, (x4_1 : Int).toNat * 4 + 2, none⟩ = false := hfr10 2; have hf10_3 : w11.frozen? ⟨go10, (x4_1 : Int).toNat * 4 + 3, none⟩ = false := hfr10 3; (try clear hcl10); (try clear hcc10); (try clear hfr10); (try clear hM10); replace p10 := eq_true p10; replace q10 := eq_true q10; have HX12 := Az.mk (show Kd.R k86 86 w11 w.heap.size (fun _ => True) (.slice (some ⟨go10, 0, none⟩) x3_1.length co10) x3_1 from (by (with_reducible repeat (first | apply Kd.Ra_ | apply Kd.Rn_ | apply Kd.Rw_)); exact HO_3.out)); obtain ⟨ce12, hcl12, hM12, hcc12, hfr12⟩ := Kd.R_elem HX12.out z86 (x4_1 : Int) (of_decide_eq_true (by first | (with_reducible assumption) | assumption)) (by have h_ : (x4_1 : Int) < ((x3_1.length : Int) : Int) := of_decide_eq_true (by first | (with_reducible assumption) | assumption); first | exact h_ | (have e_ := (Kd.Rr_ HO_3.out).1; omega) | simpa using h_); obtain rfl := k86_openM hM12; have HP12 := Kd.R_seg HX12.out (x4_1 : Int) (of_decide_eq_true (by first | (with_reducible assumption) | assumption)) (by have h_ : (x4_1 : Int) < ((x3_1.length : Int) : Int) := of_decide_eq_true (by first | (with_reducible assumption) | assumption); first | exact h_ | (have e_ := (Kd.Rr_ HO_3.out).1; omega) | simpa using h_) (seg := [.bool t223, .int .i64 t224, .int .i64 t225, .bool t226]) (j := 0) hcl12 hcc12 (show 4 ≤ 4 from by decide) (x' := (⟨t223, t224, t225, t226⟩ : S86)) (k86_mkM _ _ _ (⟨t223, t224, t225, t226⟩ : S86) ) (fun _ hk => hk); have hx12_0 := hcc12 0 _ rfl; (try simp only [show (k86).sz = 4 from rfl, Nat.mul_one, Nat.add_zero] at hx12_0); have hf12_0 := hfr12 0; (try simp only [show (k86).sz = 4 from rfl, Nat.mul_one, Nat.add_zero] at hf12_0); have hx12_1 := hcc12 1 _ rfl; (try simp only [show (k86).sz = 4 from rfl, Nat.mul_one, Nat.add_zero] at hx12_1); have hf12_1 := hfr12 1; (try simp only [show (k86).sz = 4 from rfl, Nat.mul_one, Nat.add_zero] at hf12_1); have hx12_2 := hcc12 2 _ rfl; (try simp only [show (k86).sz = 4 from rfl, Nat.mul_one, Nat.add_zero] at hx12_2); have hf12_2 := hfr12 2; (try simp only [show (k86).sz = 4 from rfl, Nat.mul_one, Nat.add_zero] at hf12_2); have hx12_3 := hcc12 3 _ rfl; (try simp only [show (k86).sz = 4 from rfl, Nat.mul_one, Nat.add_zero] at hx12_3); have hf12_3 := hfr12 3; (try simp only [show (k86).sz = 4 from rfl, Nat.mul_one, Nat.add_zero] at hf12_3); (try clear hcl12); (try clear hcc12); (try clear hfr12); (try clear hM12)) | ((with_reducible refine gate_store (t := 86) (p := 21) rfl ?_); refine store_event (t := 86) (p := 21) (v := ?vo_w13) (w1 := ((((w11.setCell ⟨go10, (x4_1 : Int).toNat * 4, none⟩ (.bool t223)).setCell ⟨go10, (x4_1 : Int).toNat * 4 + 1, none⟩ (.int .i64 t224)).setCell ⟨go10, (x4_1 : Int).toNat * 4 + 2, none⟩ (.int .i64 t225)).setCell ⟨go10, (x4_1 : Int).toNat * 4 + 3, none⟩ (.bool t226))) ?hg ?ho ?hn ?hr ?_; (case ho => rfl); (case hg => rfl); (case hn => rfl); (case hr => first | (go_simp; done) | (go_simp; rfl)); intro w13 hw; have hg : w11.grownBy w13 (some go10) := (by rw [hw]; exact HP12.2); have hp_ : Kd.R k86 86 w13 w.heap.size (fun _ => True) (.slice (some ⟨go10, 0, none⟩) x3_1.length co10) y227 := (by rw [hw, Ny227.out]; exact HP12.1); clear HP12; have n0_ := Az.mk (hp_); have n1_ := Az.mk ((by rw [hw]; exact Ys (Ys (Ys (Ys (HB.out) GB10.out) GB10.out) GB10.out) GB10.out : Below w.heap.size w w13)); clear HO_3; clear HB; have HO_3 := n0_; have HB := n1_; clear n0_ n1_; clear hg hw hp_))
        go_roundg k1
        case measure => have := HK1.out; omega
        case rel => exact ⟨(y227), (wrap64 (x4_1 + 1)), (by first | rfl | (simp; done) | (simp [*]; done)), H', ⟨by have := HK1.out; omega⟩, ⟨by (with_reducible repeat (first | apply Kd.Ra_ | apply Kd.Rn_ | apply Kd.Rw_)); exact HO_3.out⟩, ⟨by repeat (first | (with_reducible first | exact HB.out | apply Ya | apply Yn | apply Yw) | exact HB.out)⟩⟩
       ·rw [if_neg c9] at H
        exact absurd H (by simp)
      ·rw [if_neg c7] at H
       exact absurd H (by simp)
     ·rw [if_neg c6] at H
      have c6b0 : decide (x4_1 < (l0.length : Int)) = false := decide_eq_false c6
      clear c6
      obtain rfl := Option.some.inj H
      go_wp2
      go_ret
      exact ⟨_, by first | rfl | (simp [errW_none, errW_some] <;> rfl) | (simp [*, errW_none, errW_some] <;> rfl), by (with_reducible repeat (first | apply Kd.Ra_ | apply Kd.Rn_ | apply Kd.Rw_)); exact HO_3.out, by repeat (first | (with_reducible first | exact HB.out | apply Ya | apply Yn | apply Yw) | exact HB.out)⟩
  ·rw [if_neg c3] at H
   exact absurd H (by simp)
 ·rw [if_neg c2] at H
  exact absurd H (by simp)

/-! ### laws_toGuest: function 65 -/
def laws_toGuest.f (k : Nat) (l0_0 : List (S99)) (l0_1 : List (List Int)) (l0_2 : List (S101)) : Option ((List (S83)) × (List (List Int)) × (List (S86))) := (laws_toMapS.f k l0_0).bind fun t231 => ((laws_toIntSS.f k l0_1).bind fun t234 => ((laws_toShadeS.f k l0_2).bind fun t237 => (some (t231, t234, t237))))
set_option maxHeartbeats 8000000 in
set_option maxRecDepth 100000 in
theorem laws_toGuest.calls (k : Nat) (A0_0 : Option Addr) (c0_0 : Nat) (l0_0 : List (S99)) (A0_1 : Option Addr) (c0_1 : Nat) (l0_1 : List (List Int)) (A0_2 : Option Addr) (c0_2 : Nat) (l0_2 : List (S101)) (r1 : List (S83)) (r2 : List (List Int)) (r3 : List (S86)) (w : World) (hr0_0 : Kd.C k99 w A0_0 l0_0.length l0_0) (hc0_0 : l0_0.length ≤ c0_0) (hr0_1 : Kd.C (Kd.slice 3 (Kd.int .i64)) w A0_1 l0_1.length l0_1) (hc0_1 : l0_1.length ≤ c0_1) (hr0_2 : Kd.C k101 w A0_2 l0_2.length l0_2) (hc0_2 : l0_2.length ≤ c0_2) (h : laws_toGuest.f k l0_0 l0_1 l0_2 = some (r1, r2, r3)) :
  Calls Try.prog 65 #[.agg #[.slice A0_0 l0_0.length c0_0, .slice A0_1 l0_1.length c0_1, .slice A0_2 l0_2.length c0_2]] w fun e w' => ∃ v0_ v1_ v2_ : Value, e = .returned (.agg #[v0_, v1_, v2_]) ∧ Kd.R k83 83 w' w.heap.size (fun _ => True) v0_ r1 ∧ Kd.S (Kd.slice 3 (Kd.int .i64)) 45 w' w.heap.size (fun _ => True) v1_ r2 ∧ Kd.R k86 86 w' w.heap.size (fun _ => True) v2_ r3 ∧ Below w.heap.size w w' := by
 have hu80 := Try.underlying80
 have hu61 := Try.underlying61
 have HR0_0 := Az.mk hr0_0
 have HC0_0 := Az.mk hc0_0
 clear hr0_0 hc0_0
 have HR0_1 := Az.mk hr0_1
 have HC0_1 := Az.mk hc0_1
 clear hr0_1 hc0_1
 have HR0_2 := Az.mk hr0_2
 have HC0_2 := Az.mk hc0_2
 clear hr0_2 hc0_2
 have HB := Az.mk (Below.refl w.heap.size w)
 have H : ((laws_toMapS.f k l0_0).bind fun t231 => ((laws_toIntSS.f k l0_1).bind fun t234 => ((laws_toShadeS.f k l0_2).bind fun t237 => (some (t231, t234, t237))))) = some (r1, r2, r3) := h
 clear h
 replace H := Option.bind_eq_some_iff.mp H
 obtain ⟨t231, A20, H⟩ := H
 replace H : ((laws_toIntSS.f k l0_1).bind fun t234 => ((laws_toShadeS.f k l0_2).bind fun t237 => (some (t231, t234, t237)))) = some (r1, r2, r3) := H
 have A2 := Az.mk A20
 clear A20
 replace H := Option.bind_eq_some_iff.mp H
 obtain ⟨t234, A30, H⟩ := H
 replace H : ((laws_toShadeS.f k l0_2).bind fun t237 => (some (t231, t234, t237))) = some (r1, r2, r3) := H
 have A3 := Az.mk A30
 clear A30
 replace H := Option.bind_eq_some_iff.mp H
 obtain ⟨t237, A40, H⟩ := H
 replace H : (some (t231, t234, t237)) = some (r1, r2, r3) := H
 have A4 := Az.mk A40
 clear A40
 simp only [Option.some.injEq, Prod.mk.injEq] at H
 obtain ⟨rfl, rfl, rfl⟩ := H
 go_enter Try.func65, Try.ntmps65
 go_wp2_with (first | ((with_reducible refine Yd (N := 1) rfl ?_); refine Yv ?hg (N := 1) ?hd (cs := #[.slice A0_0 l0_0.length c0_0, .slice A0_1 l0_1.length c0_1, .slice A0_2 l0_2.length c0_2]) (t := 80) ?hr ?_; (case hd => rfl); (case hg => rfl); (case hr => first | (go_simp; done) | (go_simp; rfl)); intro gb228 hg w5 hbox hb; have n0_ := Az.mk (Yt (by repeat (first | (with_reducible first | exact HB.out | apply Ya | apply Yn | apply Yw) | exact HB.out)) hb); have n1_ := Az.mk (hbox); have n2_ := Az.mk ((by rw [hg]; exact (Yz (by repeat (first | (with_reducible first | exact HB.out | apply Ya | apply Yn | apply Yw) | exact HB.out))) : w.heap.size ≤ gb228)); have n3_ := Az.mk ((by rw [hg]; exact (Yz (by repeat (first | (with_reducible first | exact HB.out | apply Ya | apply Yn | apply Yw) | exact HB.out))) : w.heap.size ≤ gb228)); clear HB; have HB := n0_; have BK228 := n1_; have GW228 := n2_; have GE228 := n3_; clear n0_ n1_ n2_ n3_; clear hb hbox hg) | ((with_reducible refine Yd (N := 2) rfl ?_); refine Yv ?hg (N := 2) ?hd (cs := #[.slice none 0 0, .slice none 0 0, .slice none 0 0]) (t := 61) ?hr ?_; (case hd => rfl); (case hg => rfl); (case hr => first | (go_simp; done) | (go_simp; rfl)); intro gb229 hg w6 hbox hb; have n0_ := Az.mk (Zb (g := gb228) (o := .cells #[.slice A0_0 l0_0.length c0_0, .slice A0_1 l0_1.length c0_1, .slice A0_2 l0_2.length c0_2] 80 (0, 0)) (by (with_reducible repeat (first | refine Zn ?_ _ | refine Zw ?_ | refine Za ?_ _)); exact BK228.out) hb); have n1_ := Az.mk (Yt (by repeat (first | (with_reducible first | exact HB.out | apply Ya | apply Yn | apply Yw | refine Ys ?_ GE228.out) | exact HB.out)) hb); have n2_ := Az.mk (hbox); have n3_ := Az.mk ((by rw [hg]; exact (Yz (by repeat (first | (with_reducible first | exact HB.out | apply Ya | apply Yn | apply Yw | refine Ys ?_ GE228.out) | exact HB.out))) : w.heap.size ≤ gb229)); have n4_ := Az.mk ((by rw [hg]; exact (Yz (by repeat (first | (with_reducible first | exact HB.out | apply Ya | apply Yn | apply Yw | refine Ys ?_ GE228.out) | exact HB.out))) : w.heap.size ≤ gb229)); have n5_ := Az.mk ((by rw [hg]; exact Nat.ne_of_lt (Zl (g := gb228) (o := .cells #[.slice A0_0 l0_0.length c0_0, .slice A0_1 l0_1.length c0_1, .slice A0_2 l0_2.length c0_2] 80 (0, 0)) (by (with_reducible repeat (first | refine Zn ?_ _ | refine Zw ?_ | refine Za ?_ _)); exact BK228.out)) : gb228 ≠ gb229)); have n6_ := Az.mk ((by rw [hg]; exact Nat.ne_of_gt (Zl (g := gb228) (o := .cells #[.slice A0_0 l0_0.length c0_0, .slice A0_1 l0_1.length c0_1, .slice A0_2 l0_2.length c0_2] 80 (0, 0)) (by (with_reducible repeat (first | refine Zn ?_ _ | refine Zw ?_ | refine Za ?_ _)); exact BK228.out)) : gb229 ≠ gb228)); clear BK228; clear HB; have BK228 := n0_; have HB := n1_; have BK229 := n2_; have GW229 := n3_; have GE229 := n4_; have NB228_229 := n5_; have NB229_228 := n6_; clear n0_ n1_ n2_ n3_ n4_ n5_ n6_; clear hb hbox hg) | ((with_reducible refine Yd (N := 3) rfl ?_); refine Yv ?hg (N := 3) ?hd (cs := #[.slice none 0 0, .slice none 0 0, .slice none 0 0]) (t := 61) ?hr ?_; (case hd => rfl); (case hg => rfl); (case hr => first | (go_simp; done) | (go_simp; rfl)); intro gb230 hg w7 hbox hb; have n0_ := Az.mk (Zb (g := gb228) (o := .cells #[.slice A0_0 l0_0.length c0_0, .slice A0_1 l0_1.length c0_1, .slice A0_2 l0_2.length c0_2] 80 (0, 0)) (by (with_reducible repeat (first | refine Zn ?_ _ | refine Zw ?_ | refine Za ?_ _)); exact BK228.out) hb); have n1_ := Az.mk (Zb (g := gb229) (o := .cells #[.slice none 0 0, .slice none 0 0, .slice none 0 0] 61 (0, 0)) (by (with_reducible repeat (first | refine Zn ?_ _ | refine Zw ?_ | refine Za ?_ _)); exact BK229.out) hb); have n2_ := Az.mk (Yt (by repeat (first | (with_reducible first | exact HB.out | apply Ya | apply Yn | apply Yw | refine Ys ?_ GE228.out | refine Ys ?_ GE229.out) | exact HB.out)) hb); have n3_ := Az.mk (hbox); have n4_ := Az.mk ((by rw [hg]; exact (Yz (by repeat (first | (with_reducible first | exact HB.out | apply Ya | apply Yn | apply Yw | refine Ys ?_ GE228.out | refine Ys ?_ GE229.out) | exact HB.out))) : w.heap.size ≤ gb230)); have n5_ := Az.mk ((by rw [hg]; exact (Yz (by repeat (first | (with_reducible first | exact HB.out | apply Ya | apply Yn | apply Yw | refine Ys ?_ GE228.out | refine Ys ?_ GE229.out) | exact HB.out))) : w.heap.size ≤ gb230)); have n6_ := Az.mk ((by rw [hg]; exact Nat.ne_of_lt (Zl (g := gb228) (o := .cells #[.slice A0_0 l0_0.length c0_0, .slice A0_1 l0_1.length c0_1, .slice A0_2 l0_2.length c0_2] 80 (0, 0)) (by (with_reducible repeat (first | refine Zn ?_ _ | refine Zw ?_ | refine Za ?_ _)); exact BK228.out)) : gb228 ≠ gb230)); have n7_ := Az.mk ((by rw [hg]; exact Nat.ne_of_gt (Zl (g := gb228) (o := .cells #[.slice A0_0 l0_0.length c0_0, .slice A0_1 l0_1.length c0_1, .slice A0_2 l0_2.length c0_2] 80 (0, 0)) (by (with_reducible repeat (first | refine Zn ?_ _ | refine Zw ?_ | refine Za ?_ _)); exact BK228.out)) : gb230 ≠ gb228)); have n8_ := Az.mk ((by rw [hg]; exact Nat.ne_of_lt (Zl (g := gb229) (o := .cells #[.slice none 0 0, .slice none 0 0, .slice none 0 0] 61 (0, 0)) (by (with_reducible repeat (first | refine Zn ?_ _ | refine Zw ?_ | refine Za ?_ _)); exact BK229.out)) : gb229 ≠ gb230)); have n9_ := Az.mk ((by rw [hg]; exact Nat.ne_of_gt (Zl (g := gb229) (o := .cells #[.slice none 0 0, .slice none 0 0, .slice none 0 0] 61 (0, 0)) (by (with_reducible repeat (first | refine Zn ?_ _ | refine Zw ?_ | refine Za ?_ _)); exact BK229.out)) : gb230 ≠ gb229)); clear BK228; clear BK229; clear HB; have BK228 := n0_; have BK229 := n1_; have HB := n2_; have BK230 := n3_; have GW230 := n4_; have GE230 := n5_; have NB228_230 := n6_; have NB230_228 := n7_; have NB229_230 := n8_; have NB230_229 := n9_; clear n0_ n1_ n2_ n3_ n4_ n5_ n6_ n7_ n8_ n9_; clear hb hbox hg; have hnb8 := NB228_229.out; have hnc8 := NB229_228.out; have hnb9 := NB228_230.out; have hnc9 := NB230_228.out; have hcz10_0 : w7.cell? ⟨gb228, 0, none⟩ = some (.slice A0_0 l0_0.length c0_0) := (Zc BK228.out 0).trans rfl; have hcz10_1 : w7.cell? ⟨gb228, 1, none⟩ = some (.slice A0_1 l0_1.length c0_1) := (Zc BK228.out 1).trans rfl; have hcz10_2 : w7.cell? ⟨gb228, 2, none⟩ = some (.slice A0_2 l0_2.length c0_2) := (Zc BK228.out 2).trans rfl; have hfz10_0 := Zf BK228.out 0; have hfz10_1 := Zf BK228.out 1; have hfz10_2 := Zf BK228.out 2) | ((with_reducible refine Yc (f := 74) rfl ?_); refine Yg (some 6) rfl rfl Try.func74 (by kernel_rfl) rfl #[.slice A0_0 l0_0.length c0_0] rfl (by (try simp only [List.map_toArray, List.map_cons, List.map_nil]); first | done | rfl | (simp only [List.length_drop, List.length_take]; rfl)) ?_; (with_reducible refine (laws_toMapS.calls k _ _ l0_0 t231 _ ?side1 ?side2 A2.out).mono ?_); (case side1 => repeat (first | exact (Kd.Cb_ HR0_0.out HB.out) | exact HR0_0.out | (with_reducible refine Kd.Ca_ ?_ _) | (with_reducible refine Kd.Cn_ ?_ _) | (with_reducible refine Kd.Cw_ ?_))); (case side2 => exact HC0_0.out); rintro e w11 ⟨v232, rfl, ho0, hb⟩; refine ⟨_, rfl, ?_⟩; have n0_ := Az.mk (Kd.Rl_ ho0 (Yz (by repeat (first | (with_reducible first | exact HB.out | apply Ya | apply Yn | apply Yw | refine Ys ?_ GE228.out | refine Ys ?_ GE229.out | refine Ys ?_ GE230.out) | exact HB.out)))); have n1_ := Az.mk (Zb (g := gb228) (o := .cells #[.slice A0_0 l0_0.length c0_0, .slice A0_1 l0_1.length c0_1, .slice A0_2 l0_2.length c0_2] 80 (0, 0)) (by (with_reducible repeat (first | refine Zn ?_ _ | refine Zw ?_ | refine Za ?_ _)); exact BK228.out) hb); have n2_ := Az.mk (Zb (g := gb229) (o := .cells #[.slice none 0 0, .slice none 0 0, .slice none 0 0] 61 (0, 0)) (by (with_reducible repeat (first | refine Zn ?_ _ | refine Zw ?_ | refine Za ?_ _)); exact BK229.out) hb); have n3_ := Az.mk (Zb (g := gb230) (o := .cells #[.slice none 0 0, .slice none 0 0, .slice none 0 0] 61 (0, 0)) (by (with_reducible repeat (first | refine Zn ?_ _ | refine Zw ?_ | refine Za ?_ _)); exact BK230.out) hb); have n4_ := Az.mk (Yt (by repeat (first | (with_reducible first | exact HB.out | apply Ya | apply Yn | apply Yw | refine Ys ?_ GE228.out | refine Ys ?_ GE229.out | refine Ys ?_ GE230.out) | exact HB.out)) hb); clear BK228; clear BK229; clear BK230; clear HB; have HO233 := n0_; have BK228 := n1_; have BK229 := n2_; have BK230 := n3_; have HB := n4_; clear n0_ n1_ n2_ n3_ n4_; (try clear hb); (try clear hb2); (try clear hk); (try clear hi); (try clear ho0); obtain ⟨Ao12, co12, eo12⟩ := Kd.Rs_ HO233.out; subst eo12; have hnb13 := NB230_229.out; have hnc13 := NB229_230.out; have hcz14_0 : w11.cell? ⟨gb230, 0, none⟩ = some (.slice none 0 0) := (Zc BK230.out 0).trans rfl; have hcz14_1 : w11.cell? ⟨gb230, 1, none⟩ = some (.slice none 0 0) := (Zc BK230.out 1).trans rfl; have hcz14_2 : w11.cell? ⟨gb230, 2, none⟩ = some (.slice none 0 0) := (Zc BK230.out 2).trans rfl; have hfz14_0 := Zf BK230.out 0; have hfz14_1 := Zf BK230.out 1; have hfz14_2 := Zf BK230.out 2; have hcz15_0 : w11.cell? ⟨gb228, 0, none⟩ = some (.slice A0_0 l0_0.length c0_0) := (Zc BK228.out 0).trans rfl; have hcz15_1 : w11.cell? ⟨gb228, 1, none⟩ = some (.slice A0_1 l0_1.length c0_1) := (Zc BK228.out 1).trans rfl; have hcz15_2 : w11.cell? ⟨gb228, 2, none⟩ = some (.slice A0_2 l0_2.length c0_2) := (Zc BK228.out 2).trans rfl; have hfz15_0 := Zf BK228.out 0; have hfz15_1 := Zf BK228.out 1; have hfz15_2 := Zf BK228.out 2) | ((with_reducible refine Yc (f := 18) rfl ?_); refine Yg (some 10) rfl rfl Try.func18 (by kernel_rfl) rfl #[.slice A0_1 l0_1.length c0_1] rfl (by (try simp only [List.map_toArray, List.map_cons, List.map_nil]); first | done | rfl | (simp only [List.length_drop, List.length_take]; rfl)) ?_; (with_reducible refine (laws_toIntSS.calls k _ _ l0_1 t234 _ ?side1 ?side2 A3.out).mono ?_); (case side1 => exact Kd.Cb_ HR0_1.out (by repeat (first | (with_reducible first | exact HB.out | apply Ya | apply Yn | apply Yw | refine Ys ?_ GE228.out | refine Ys ?_ GE229.out | refine Ys ?_ GE230.out) | exact HB.out))); (case side2 => exact HC0_1.out); rintro e w16 ⟨v235, rfl, ho0, hb⟩; refine ⟨_, rfl, ?_⟩; have n0_ := Az.mk (Kd.Rb_ (by (with_reducible repeat (first | apply Kd.Ra_ | apply Kd.Rn_ | apply Kd.Rw_)); exact (Kd.Rm_ (Kd.R_far (p := ⟨gb230, 0, none⟩) (Kd.R_types HO233.out BK230.out (by decide)) (fun _ hk => hk.2) (.slice Ao12 t231.length co12)) (fun _ h_ => h_.1))) hb); have n1_ := Az.mk (Kd.S_lower ho0 (Yz (by repeat (first | (with_reducible first | exact HB.out | apply Ya | apply Yn | apply Yw | refine Ys ?_ GE228.out | refine Ys ?_ GE229.out | refine Ys ?_ GE230.out) | exact HB.out)))); have n2_ := Az.mk (Zb (g := gb228) (o := .cells #[.slice A0_0 l0_0.length c0_0, .slice A0_1 l0_1.length c0_1, .slice A0_2 l0_2.length c0_2] 80 (0, 0)) (by (with_reducible repeat (first | refine Zn ?_ _ | refine Zw ?_ | refine Za ?_ _)); refine blk_far ?_ NB228_230.out _; (with_reducible repeat (first | refine Zn ?_ _ | refine Zw ?_ | refine Za ?_ _)); exact BK228.out) hb); have n3_ := Az.mk (Zb (g := gb229) (o := .cells #[.slice none 0 0, .slice none 0 0, .slice none 0 0] 61 (0, 0)) (by (with_reducible repeat (first | refine Zn ?_ _ | refine Zw ?_ | refine Za ?_ _)); refine blk_far ?_ NB229_230.out _; (with_reducible repeat (first | refine Zn ?_ _ | refine Zw ?_ | refine Za ?_ _)); exact BK229.out) hb); have n4_ := Az.mk (Zb (g := gb230) (o := .cells #[.slice Ao12 t231.length co12, .slice none 0 0, .slice none 0 0] 61 (0, 0)) (by (with_reducible repeat (first | refine Zn ?_ _ | refine Zw ?_ | refine Za ?_ _)); refine Zp (cs := #[.slice none 0 0, .slice none 0 0, .slice none 0 0]) ?_ 0 _ rfl; (with_reducible repeat (first | refine Zn ?_ _ | refine Zw ?_ | refine Za ?_ _)); exact BK230.out) hb); have n5_ := Az.mk (Yt (by repeat (first | (with_reducible first | exact HB.out | apply Ya | apply Yn | apply Yw | refine Ys ?_ GE228.out | refine Ys ?_ GE229.out | refine Ys ?_ GE230.out) | exact HB.out)) hb); clear HO233; clear BK228; clear BK229; clear BK230; clear HB; have HO233 := n0_; have HO236 := n1_; have BK228 := n2_; have BK229 := n3_; have BK230 := n4_; have HB := n5_; clear n0_ n1_ n2_ n3_ n4_ n5_; (try clear hb); (try clear hb2); (try clear hk); (try clear hi); (try clear ho0); obtain ⟨Ao17, co17, eo17⟩ := Kd.Ss_ HO236.out; subst eo17; have hcz18_0 : w16.cell? ⟨gb230, 0, none⟩ = some (.slice Ao12 t231.length co12) := (Zc BK230.out 0).trans rfl; have hcz18_1 : w16.cell? ⟨gb230, 1, none⟩ = some (.slice none 0 0) := (Zc BK230.out 1).trans rfl; have hcz18_2 : w16.cell? ⟨gb230, 2, none⟩ = some (.slice none 0 0) := (Zc BK230.out 2).trans rfl; have hfz18_0 := Zf BK230.out 0; have hfz18_1 := Zf BK230.out 1; have hfz18_2 := Zf BK230.out 2; have hcz19_0 : w16.cell? ⟨gb228, 0, none⟩ = some (.slice A0_0 l0_0.length c0_0) := (Zc BK228.out 0).trans rfl; have hcz19_1 : w16.cell? ⟨gb228, 1, none⟩ = some (.slice A0_1 l0_1.length c0_1) := (Zc BK228.out 1).trans rfl; have hcz19_2 : w16.cell? ⟨gb228, 2, none⟩ = some (.slice A0_2 l0_2.length c0_2) := (Zc BK228.out 2).trans rfl; have hfz19_0 := Zf BK228.out 0; have hfz19_1 := Zf BK228.out 1; have hfz19_2 := Zf BK228.out 2) | ((with_reducible refine Yc (f := 75) rfl ?_); refine Yg (some 14) rfl rfl Try.func75 (by kernel_rfl) rfl #[.slice A0_2 l0_2.length c0_2] rfl (by (try simp only [List.map_toArray, List.map_cons, List.map_nil]); first | done | rfl | (simp only [List.length_drop, List.length_take]; rfl)) ?_; (with_reducible refine (laws_toShadeS.calls k _ _ l0_2 t237 _ ?side1 ?side2 A4.out).mono ?_); (case side1 => exact Kd.Cb_ HR0_2.out (by repeat (first | (with_reducible first | exact HB.out | apply Ya | apply Yn | apply Yw | refine Ys ?_ GE228.out | refine Ys ?_ GE229.out | refine Ys ?_ GE230.out) | exact HB.out))); (case side2 => exact HC0_2.out); rintro e w20 ⟨v238, rfl, ho0, hb⟩; refine ⟨_, rfl, ?_⟩; have n0_ := Az.mk (Kd.Rb_ (by (with_reducible repeat (first | apply Kd.Ra_ | apply Kd.Rn_ | apply Kd.Rw_)); exact (Kd.Rm_ (Kd.R_far (p := ⟨gb230, 1, none⟩) (Kd.R_types HO233.out BK230.out (by decide)) (fun _ hk => hk.2) (.slice Ao17 t234.length co17)) (fun _ h_ => h_.1))) hb); have n1_ := Az.mk (Kd.Sb_ (by (with_reducible repeat (first | apply Kd.Sa_ | apply Kd.Sn_ | apply Kd.Sw_)); exact (Kd.Sm_ (Kd.Sf_ (p := ⟨gb230, 1, none⟩) (Kd.S_types HO236.out BK230.out (by decide)) (fun _ hk => hk.2) (.slice Ao17 t234.length co17)) (fun _ h_ => h_.1))) hb); have n2_ := Az.mk (Kd.Rl_ ho0 (Yz (by repeat (first | (with_reducible first | exact HB.out | apply Ya | apply Yn | apply Yw | refine Ys ?_ GE228.out | refine Ys ?_ GE229.out | refine Ys ?_ GE230.out) | exact HB.out)))); have n3_ := Az.mk (Zb (g := gb228) (o := .cells #[.slice A0_0 l0_0.length c0_0, .slice A0_1 l0_1.length c0_1, .slice A0_2 l0_2.length c0_2] 80 (0, 0)) (by (with_reducible repeat (first | refine Zn ?_ _ | refine Zw ?_ | refine Za ?_ _)); refine blk_far ?_ NB228_230.out _; (with_reducible repeat (first | refine Zn ?_ _ | refine Zw ?_ | refine Za ?_ _)); exact BK228.out) hb); have n4_ := Az.mk (Zb (g := gb229) (o := .cells #[.slice none 0 0, .slice none 0 0, .slice none 0 0] 61 (0, 0)) (by (with_reducible repeat (first | refine Zn ?_ _ | refine Zw ?_ | refine Za ?_ _)); refine blk_far ?_ NB229_230.out _; (with_reducible repeat (first | refine Zn ?_ _ | refine Zw ?_ | refine Za ?_ _)); exact BK229.out) hb); have n5_ := Az.mk (Zb (g := gb230) (o := .cells #[.slice Ao12 t231.length co12, .slice Ao17 t234.length co17, .slice none 0 0] 61 (0, 0)) (by (with_reducible repeat (first | refine Zn ?_ _ | refine Zw ?_ | refine Za ?_ _)); refine Zp (cs := #[.slice Ao12 t231.length co12, .slice none 0 0, .slice none 0 0]) ?_ 1 _ rfl; (with_reducible repeat (first | refine Zn ?_ _ | refine Zw ?_ | refine Za ?_ _)); exact BK230.out) hb); have n6_ := Az.mk (Yt (by repeat (first | (with_reducible first | exact HB.out | apply Ya | apply Yn | apply Yw | refine Ys ?_ GE228.out | refine Ys ?_ GE229.out | refine Ys ?_ GE230.out) | exact HB.out)) hb); clear HO233; clear HO236; clear BK228; clear BK229; clear BK230; clear HB; have HO233 := n0_; have HO236 := n1_; have HO239 := n2_; have BK228 := n3_; have BK229 := n4_; have BK230 := n5_; have HB := n6_; clear n0_ n1_ n2_ n3_ n4_ n5_ n6_; (try clear hb); (try clear hb2); (try clear hk); (try clear hi); (try clear ho0); obtain ⟨Ao21, co21, eo21⟩ := Kd.Rs_ HO239.out; subst eo21; have hcz22_0 : w20.cell? ⟨gb230, 0, none⟩ = some (.slice Ao12 t231.length co12) := (Zc BK230.out 0).trans rfl; have hcz22_1 : w20.cell? ⟨gb230, 1, none⟩ = some (.slice Ao17 t234.length co17) := (Zc BK230.out 1).trans rfl; have hcz22_2 : w20.cell? ⟨gb230, 2, none⟩ = some (.slice none 0 0) := (Zc BK230.out 2).trans rfl; have hfz22_0 := Zf BK230.out 0; have hfz22_1 := Zf BK230.out 1; have hfz22_2 := Zf BK230.out 2; have hcz23_0 : w20.cell? ⟨gb229, 0, none⟩ = some (.slice none 0 0) := (Zc BK229.out 0).trans rfl; have hcz23_1 : w20.cell? ⟨gb229, 1, none⟩ = some (.slice none 0 0) := (Zc BK229.out 1).trans rfl; have hcz23_2 : w20.cell? ⟨gb229, 2, none⟩ = some (.slice none 0 0) := (Zc BK229.out 2).trans rfl; have hfz23_0 := Zf BK229.out 0; have hfz23_1 := Zf BK229.out 1; have hfz23_2 := Zf BK229.out 2))
 refine bodyPost_ret (results_cell_row rfl _ _ gb229 61 #[.slice Ao12 t231.length co12, .slice Ao17 t234.length co17, .slice Ao21 t237.length co21] (0, 0) _ rfl (by (with_reducible repeat (first | refine Zn ?_ _ | refine Zw ?_ | refine Za ?_ _)); refine Zp (cs := #[.slice Ao12 t231.length co12, .slice Ao17 t234.length co17, .slice none 0 0]) ?_ 2 _ rfl; (with_reducible repeat (first | refine Zn ?_ _ | refine Zw ?_ | refine Za ?_ _)); refine Zp (cs := #[.slice Ao12 t231.length co12, .slice none 0 0, .slice none 0 0]) ?_ 1 _ rfl; (with_reducible repeat (first | refine Zn ?_ _ | refine Zw ?_ | refine Za ?_ _)); refine Zp (cs := #[.slice none 0 0, .slice none 0 0, .slice none 0 0]) ?_ 0 _ rfl; (with_reducible repeat (first | refine Zn ?_ _ | refine Zw ?_ | refine Za ?_ _)); refine blk_far ?_ NB229_230.out _; (with_reducible repeat (first | refine Zn ?_ _ | refine Zw ?_ | refine Za ?_ _)); exact BK229.out) Try.underlying61 rfl (by kernel_rfl)) rfl ?_
 exact ⟨_, _, _, by first | rfl | (simp [errW_none, errW_some] <;> rfl) | (simp [*, errW_none, errW_some] <;> rfl), by (with_reducible repeat (first | apply Kd.Ra_ | apply Kd.Rn_ | apply Kd.Rw_)); exact Kd.Rm_ (Kd.R_far (p := ⟨gb229, 2, none⟩) (Kd.R_far (p := ⟨gb229, 1, none⟩) (Kd.R_far (p := ⟨gb229, 0, none⟩) (Kd.R_far (p := ⟨gb230, 2, none⟩) (Kd.R_types (Kd.R_types HO233.out BK230.out (by decide)) BK229.out (by decide)) (fun _ hk => hk.1.2) (.slice Ao21 t237.length co21)) (fun _ hk => hk.2) (.slice Ao12 t231.length co12)) (fun _ hk => hk.2) (.slice Ao17 t234.length co17)) (fun _ hk => hk.2) (.slice Ao21 t237.length co21)) (fun _ hk => trivial), by (with_reducible repeat (first | apply Kd.Sa_ | apply Kd.Sn_ | apply Kd.Sw_)); exact Kd.Sm_ (Kd.Sf_ (p := ⟨gb229, 2, none⟩) (Kd.Sf_ (p := ⟨gb229, 1, none⟩) (Kd.Sf_ (p := ⟨gb229, 0, none⟩) (Kd.Sf_ (p := ⟨gb230, 2, none⟩) (Kd.S_types (Kd.S_types HO236.out BK230.out (by decide)) BK229.out (by decide)) (fun _ hk => hk.1.2) (.slice Ao21 t237.length co21)) (fun _ hk => hk.2) (.slice Ao12 t231.length co12)) (fun _ hk => hk.2) (.slice Ao17 t234.length co17)) (fun _ hk => hk.2) (.slice Ao21 t237.length co21)) (fun _ hk => trivial), by (with_reducible repeat (first | apply Kd.Ra_ | apply Kd.Rn_ | apply Kd.Rw_)); exact Kd.Rm_ (Kd.R_far (p := ⟨gb229, 2, none⟩) (Kd.R_far (p := ⟨gb229, 1, none⟩) (Kd.R_far (p := ⟨gb229, 0, none⟩) (Kd.R_far (p := ⟨gb230, 2, none⟩) (Kd.R_types (Kd.R_types HO239.out BK230.out (by decide)) BK229.out (by decide)) (fun _ hk => hk.1.2) (.slice Ao21 t237.length co21)) (fun _ hk => hk.2) (.slice Ao12 t231.length co12)) (fun _ hk => hk.2) (.slice Ao17 t234.length co17)) (fun _ hk => hk.2) (.slice Ao21 t237.length co21)) (fun _ hk => trivial), by repeat (first | (with_reducible first | exact HB.out | apply Ya | apply Yn | apply Yw | refine Ys ?_ GE228.out | refine Ys ?_ GE229.out | refine Ys ?_ GE230.out) | exact HB.out)⟩

end Go.Proofs.Ytjgcfpclddfifaa.QFnExactHostFree
