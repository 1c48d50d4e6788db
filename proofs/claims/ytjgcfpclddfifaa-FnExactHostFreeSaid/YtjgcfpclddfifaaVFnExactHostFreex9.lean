/- Walks of this claim: each Go function that the law reaches comes to what the Lean function beside it says. Conditions: none beyond those that each theorem names. -/
import Derived.Test.YtjgcfpclddfifaaVFnExactHostFreex0
import Derived.Test.YtjgcfpclddfifaaVFnExactHostFreex7
import Derived.Test.YtjgcfpclddfifaaVFnExactHostFreex8
namespace Go.Proofs.Ytjgcfpclddfifaa.QFnExactHostFree
open Go.RowKit Go.Proofs.YtjgcfpclddfifaaW.PrintWords Go.Proofs.YtjgcfpclddfifaaW.PrintLast Go.Proofs.YtjgcfpclddfifaaW.PrintMore
attribute [local go_sem] max2_int min2_int max_two min_two max_three min_three max_four min_four   -- for this text's walks alone
set_option linter.unusedVariables false
set_option linter.unusedSimpArgs false

/-! ### spec_HostOk: function 48 -/
mutual
def spec_HostOk.j0 : Nat → Bool → List (List Int) → List (S61) → Int → Option (Bool)
 | 0, _, _, _, _ => none
 | k + 1, x30, x170000, x170001, x170002 => if x30 = true then (some false) else (spec_HostOk.l0 k 0 x170000 x170001 x170002)
def spec_HostOk.l0 : Nat → Int → List (List Int) → List (S61) → Int → Option (Bool)
 | 0, _, _, _, _ => none
 | k + 1, x3, x170000, x170001, x170002 => if x3 < (x170001.length : Int) then (if 0 ≤ x3 then (if (((rd_T61 x170001 x3).f0).length : Int) = 6 then (if (((rd_T61 x170001 x3).f2).length : Int) = 6 then ((spec_l11Guest.f k ((rd_T61 x170001 x3).f1)).bind fun t175 => (if t175 = true then (spec_HostOk.l0 k (wrap64 (x3 + 1)) x170000 x170001 x170002) else (some false))) else (some false)) else (some false)) else (none)) else (spec_HostOk.l1 k 0 x170000 x170001 x170002)
def spec_HostOk.l1 : Nat → Int → List (List Int) → List (S61) → Int → Option (Bool)
 | 0, _, _, _, _ => none
 | k + 1, x5, x170000, x170001, x170002 => if x5 < (x170001.length : Int) then (if 0 ≤ x5 then (spec_HostOk.l2 k x5 0 x170000 x170001 x170002 ((rd_T61 x170001 x5).f0) ((rd_T61 x170001 x5).f1) ((rd_T61 x170001 x5).f2)) else (none)) else (some true)
def spec_HostOk.l2 : Nat → Int → Int → List (List Int) → List (S61) → Int → List (S83) → List (List Int) → List (S86) → Option (Bool)
 | 0, _, _, _, _, _, _, _, _ => none
 | k + 1, x5, x7, x170000, x170001, x170002, x178000, x178001, x178002 => if x7 < 6 then (if 0 ≤ x7 then (if x7 < (x178000.length : Int) then (if x7 < (x178001.length : Int) then ((spec_l12MapOk.f k x170000 x170001 x170002 ((rd_T83 x178000 x7).f0) ((rd_T83 x178000 x7).f1) ((rd_T83 x178000 x7).f2) (rd_L1 x178001 x7)).bind fun t180 => (if t180 = true then (if x7 < (x178002.length : Int) then ((spec_l12ShadeOk.f x178000 x178001 x178002 ((rd_T86 x178002 x7).f0) ((rd_T86 x178002 x7).f1) ((rd_T86 x178002 x7).f2) ((rd_T86 x178002 x7).f3)).bind fun t182 => (if t182 = true then (spec_HostOk.l2 k x5 (wrap64 (x7 + 1)) x170000 x170001 x170002 x178000 x178001 x178002) else (some false))) else (none)) else (some false))) else (none)) else (none)) else (none)) else (spec_HostOk.l1 k (wrap64 (x5 + 1)) x170000 x170001 x170002)
end
def spec_HostOk.f (k : Nat) (l0_0 : List (List Int)) (l0_1 : List (S61)) (a0_2 : Int) : Option (Bool) := (spec_MemOk.f k l0_0).bind fun t170 => (if t170 = true then (if (l0_0.length : Int) = 8 then ((spec_l6In.f (l0_1.length : Int) 1 2).bind fun t171 => (if t171 = true then ((spec_l6In.f a0_2 0 7).bind fun t172 => (spec_HostOk.j0 k (!t172) l0_0 l0_1 a0_2)) else (spec_HostOk.j0 k true l0_0 l0_1 a0_2))) else (spec_HostOk.j0 k true l0_0 l0_1 a0_2)) else (spec_HostOk.j0 k true l0_0 l0_1 a0_2))
def spec_HostOk.T16 : Bool × List (List Nat × List Nat) := (true, [([], []), ([], []), ([1], [1]), ([], []), ([2, 3], [2, 3]), ([4], [4]), ([], []), ([6], [6]), ([], []), ([7, 8], [7, 8]), ([9], [9]), ([0, 5, 10], [0, 5, 10]), ([11], [11]), ([12, 11], [12]), ([13], [13]), ([13], [13]), ([15, 13], [13, 15]), ([13], [13]), ([16, 17, 13], [13, 16, 17]), ([18, 13], [13, 18]), ([14, 19, 13, 13], [13, 14, 19]), ([20, 13], [13, 20]), ([13, 21], [13, 21])])
def spec_HostOk.B16 : List Nat := [0, 0, 2, 0, 14, 30, 0, 64, 0, 448, 960, 2047, 4095, 8191, 16383, 16383, 49151, 16383, 245759, 507903, 1048575, 2097151, 4194303]
theorem spec_HostOk.tab16 : rtab .any (opsOf Try.f48 16) = spec_HostOk.T16 := by kernel_rfl
theorem spec_HostOk.bits16 : waitsOk spec_HostOk.T16.2 spec_HostOk.B16 = true := by kernel_rfl
set_option maxHeartbeats 8000000 in
set_option maxRecDepth 100000 in
theorem spec_HostOk.calls (k : Nat) (A0_0 : Option Addr) (c0_0 : Nat) (l0_0 : List (List Int)) (A0_1 : Option Addr) (c0_1 : Nat) (l0_1 : List (S61)) (a0_2 : Int) (r : Bool) (w : World) (hr0_0 : Kd.C (Kd.slice 3 (Kd.int .i64)) w A0_0 l0_0.length l0_0) (hc0_0 : l0_0.length ≤ c0_0) (hr0_1 : Kd.C k61 w A0_1 l0_1.length l0_1) (hc0_1 : l0_1.length ≤ c0_1) (h : spec_HostOk.f k l0_0 l0_1 a0_2 = some r) :
  Calls Try.prog 48 #[.agg #[.slice A0_0 l0_0.length c0_0, .slice A0_1 l0_1.length c0_1, .int .i64 a0_2]] w fun e w' => e = .returned (.bool r) ∧ Below w.heap.size w w' := by
 have hu31 := Try.underlying31
 have hu61 := Try.underlying61
 have hu83 := Try.underlying83
 have hu86 := Try.underlying86
 have HR0_0 := Az.mk hr0_0
 have HC0_0 := Az.mk hc0_0
 clear hr0_0 hc0_0
 have HR0_1 := Az.mk hr0_1
 have HC0_1 := Az.mk hc0_1
 clear hr0_1 hc0_1
 have HB := Az.mk (Below.refl w.heap.size w)
 have H : ((spec_MemOk.f k l0_0).bind fun t170 => (if t170 = true then (if (l0_0.length : Int) = 8 then ((spec_l6In.f (l0_1.length : Int) 1 2).bind fun t171 => (if t171 = true then ((spec_l6In.f a0_2 0 7).bind fun t172 => (spec_HostOk.j0 k (!t172) l0_0 l0_1 a0_2)) else (spec_HostOk.j0 k true l0_0 l0_1 a0_2))) else (spec_HostOk.j0 k true l0_0 l0_1 a0_2)) else (spec_HostOk.j0 k true l0_0 l0_1 a0_2))) = some r := h
 clear h
 have HC2 := Az.mk H
 clear H
 go_enter Try.func48, Try.ntmps48
 go_upto_region 1 with (first | ((with_reducible refine Yd (N := 1) rfl ?_); (try (refine Ye (by rfl) ?_; dsimp only)); refine Yv ?hg (N := 1) ?hd (cs := #[.slice A0_0 l0_0.length c0_0, .slice A0_1 l0_1.length c0_1, .int .i64 a0_2]) (t := 31) ?hr ?_; (case hd => rfl); (case hg => rfl); (case hr => first | (go_simp; done) | (go_simp; rfl)); intro gb169 hg w3 hbox hb; have n0_ := Az.mk (Yt (by repeat (first | (with_reducible first | exact HB.out | apply Ya | apply Yn | apply Yw) | exact HB.out)) hb); have n1_ := Az.mk (hbox); have n2_ := Az.mk ((by rw [hg]; exact (Yz (by repeat (first | (with_reducible first | exact HB.out | apply Ya | apply Yn | apply Yw) | exact HB.out))) : w.heap.size ≤ gb169)); have n3_ := Az.mk ((by rw [hg]; exact (Yz (by repeat (first | (with_reducible first | exact HB.out | apply Ya | apply Yn | apply Yw) | exact HB.out))) : w.heap.size ≤ gb169)); clear HB; have HB := n0_; have BK169 := n1_; have GW169 := n2_; have GE169 := n3_; clear n0_ n1_ n2_ n3_; clear hb hbox hg))
 (try simp only [Act.put, List.setIfInBounds_toArray, List.set_cons_zero, List.set_cons_succ])
 go_cut [30] (fun v30 wc => ∃ (kq : Nat) (x30_1 : Bool), v30 = .bool x30_1 ∧ Az (spec_HostOk.j0 kq x30_1 l0_0 l0_1 a0_2 = some r) ∧ Az (kq ≤ k) ∧ Az (wc.heap[gb169]? = some (.cells #[(.slice A0_0 l0_0.length c0_0), (.slice A0_1 l0_1.length c0_1), .int .i64 a0_2] 31 (0, 0))) ∧ Az (Below w.heap.size w wc))
 case first =>
  have H := HC2.out
  clear HC2
  replace H := Option.bind_eq_some_iff.mp H
  obtain ⟨t170, A40, H⟩ := H
  replace H : (if t170 = true then (if (l0_0.length : Int) = 8 then ((spec_l6In.f (l0_1.length : Int) 1 2).bind fun t171 => (if t171 = true then ((spec_l6In.f a0_2 0 7).bind fun t172 => (spec_HostOk.j0 k (!t172) l0_0 l0_1 a0_2)) else (spec_HostOk.j0 k true l0_0 l0_1 a0_2))) else (spec_HostOk.j0 k true l0_0 l0_1 a0_2)) else (spec_HostOk.j0 k true l0_0 l0_1 a0_2)) = some r := H
  have A4 := Az.mk A40
  clear A40
  by_cases c5 : t170 = true
  ·subst c5
   have H1 : (if (l0_0.length : Int) = 8 then ((spec_l6In.f (l0_1.length : Int) 1 2).bind fun t171 => (if t171 = true then ((spec_l6In.f a0_2 0 7).bind fun t172 => (spec_HostOk.j0 k (!t172) l0_0 l0_1 a0_2)) else (spec_HostOk.j0 k true l0_0 l0_1 a0_2))) else (spec_HostOk.j0 k true l0_0 l0_1 a0_2)) = some r := by rw [if_pos rfl] at H; exact H
   clear H
   have H := H1
   clear H1
   by_cases c6 : (l0_0.length : Int) = 8
   ·rw [if_pos c6] at H
    have c6b0 : ((l0_0.length : Int) == 8) = true := beq_iff_eq.mpr c6
    have c6b1 : ((l0_0.length : Int) != 8) = false := bne_eq_false_iff_eq.mpr c6
    clear c6
    (first | rw [c6b0] | (simp only [i64_w, i32_w]; rw [c6b0]) | skip)
    replace H := Option.bind_eq_some_iff.mp H
    obtain ⟨t171, A70, H⟩ := H
    replace H : (if t171 = true then ((spec_l6In.f a0_2 0 7).bind fun t172 => (spec_HostOk.j0 k (!t172) l0_0 l0_1 a0_2)) else (spec_HostOk.j0 k true l0_0 l0_1 a0_2)) = some r := H
    have A7 := Az.mk A70
    clear A70
    by_cases c8 : t171 = true
    ·subst c8
     have H1 : ((spec_l6In.f a0_2 0 7).bind fun t172 => (spec_HostOk.j0 k (!t172) l0_0 l0_1 a0_2)) = some r := by rw [if_pos rfl] at H; exact H
     clear H
     have H := H1
     clear H1
     replace H := Option.bind_eq_some_iff.mp H
     obtain ⟨t172, A90, H⟩ := H
     replace H : (spec_HostOk.j0 k (!t172) l0_0 l0_1 a0_2) = some r := H
     have A9 := Az.mk A90
     clear A90
     have H' := Az.mk H
     clear H
     have hcz10_0 : w3.cell? ⟨gb169, 0, none⟩ = some (.slice A0_0 l0_0.length c0_0) := (Zc BK169.out 0).trans rfl
     have hcz10_1 : w3.cell? ⟨gb169, 1, none⟩ = some (.slice A0_1 l0_1.length c0_1) := (Zc BK169.out 1).trans rfl
     have hcz10_2 : w3.cell? ⟨gb169, 2, none⟩ = some (.int .i64 a0_2) := (Zc BK169.out 2).trans rfl
     have hfz10_0 := Zf BK169.out 0
     have hfz10_1 := Zf BK169.out 1
     have hfz10_2 := Zf BK169.out 2
     go_wp2_with (first | ((with_reducible refine Yc (f := 9) rfl ?_); refine Yg (some 10) rfl rfl Try.func9 (by kernel_rfl) rfl #[.slice A0_0 l0_0.length c0_0] rfl (by (try simp only [List.map_toArray, List.map_cons, List.map_nil]); first | done | rfl | (simp only [List.length_drop, List.length_take]; rfl)) ?_; (with_reducible refine (spec_MemOk.calls k _ _ l0_0 true _ ?side1 ?side2 A4.out).mono ?_); (case side1 => repeat (first | exact (Kd.Cb_ HR0_0.out HB.out) | exact HR0_0.out | (with_reducible refine Kd.Ca_ ?_ _) | (with_reducible refine Kd.Cn_ ?_ _) | (with_reducible refine Kd.Cw_ ?_))); (case side2 => exact HC0_0.out); rintro e w' ⟨rfl, ⟨nd, rfl⟩⟩; refine ⟨_, rfl, ?_⟩) | (go_at_call 35; (with_reducible refine (spec_l6In.calls (l0_1.length : Int) 1 2 true _ A7.out).mono ?_); rintro e w' ⟨rfl, ⟨nd, rfl⟩⟩) | (go_at_call 35; (with_reducible refine (spec_l6In.calls a0_2 0 7 t172 _ A9.out).mono ?_); rintro e w' ⟨rfl, ⟨nd, rfl⟩⟩))
     go_meet
     case rel => exact ⟨_, (!t172), (by first | rfl | (simp; done) | (simp [*]; done)), H', ⟨by first | omega | exact Nat.le_refl _⟩, ⟨by (with_reducible repeat (first | refine Zn ?_ _ | refine Zw ?_ | refine Za ?_ _)); exact BK169.out⟩, ⟨by repeat (first | (with_reducible first | exact HB.out | apply Ya | apply Yn | apply Yw | refine Ys ?_ GE169.out) | exact HB.out)⟩⟩
    ·replace c8 := Bool.eq_false_iff.mpr c8
     subst c8
     have H1 : (spec_HostOk.j0 k true l0_0 l0_1 a0_2) = some r := by rw [if_neg (show ¬ (false = true) by decide)] at H; exact H
     clear H
     have H := H1
     clear H1
     have H' := Az.mk H
     clear H
     have hcz11_0 : w3.cell? ⟨gb169, 0, none⟩ = some (.slice A0_0 l0_0.length c0_0) := (Zc BK169.out 0).trans rfl
     have hcz11_1 : w3.cell? ⟨gb169, 1, none⟩ = some (.slice A0_1 l0_1.length c0_1) := (Zc BK169.out 1).trans rfl
     have hcz11_2 : w3.cell? ⟨gb169, 2, none⟩ = some (.int .i64 a0_2) := (Zc BK169.out 2).trans rfl
     have hfz11_0 := Zf BK169.out 0
     have hfz11_1 := Zf BK169.out 1
     have hfz11_2 := Zf BK169.out 2
     go_wp2_with (first | ((with_reducible refine Yc (f := 9) rfl ?_); refine Yg (some 10) rfl rfl Try.func9 (by kernel_rfl) rfl #[.slice A0_0 l0_0.length c0_0] rfl (by (try simp only [List.map_toArray, List.map_cons, List.map_nil]); first | done | rfl | (simp only [List.length_drop, List.length_take]; rfl)) ?_; (with_reducible refine (spec_MemOk.calls k _ _ l0_0 true _ ?side1 ?side2 A4.out).mono ?_); (case side1 => repeat (first | exact (Kd.Cb_ HR0_0.out HB.out) | exact HR0_0.out | (with_reducible refine Kd.Ca_ ?_ _) | (with_reducible refine Kd.Cn_ ?_ _) | (with_reducible refine Kd.Cw_ ?_))); (case side2 => exact HC0_0.out); rintro e w' ⟨rfl, ⟨nd, rfl⟩⟩; refine ⟨_, rfl, ?_⟩) | (go_at_call 35; (with_reducible refine (spec_l6In.calls (l0_1.length : Int) 1 2 false _ A7.out).mono ?_); rintro e w' ⟨rfl, ⟨nd, rfl⟩⟩))
     go_meet
     case rel => exact ⟨_, (true), (by first | rfl | (simp; done) | (simp [*]; done)), H', ⟨by first | omega | exact Nat.le_refl _⟩, ⟨by (with_reducible repeat (first | refine Zn ?_ _ | refine Zw ?_ | refine Za ?_ _)); exact BK169.out⟩, ⟨by repeat (first | (with_reducible first | exact HB.out | apply Ya | apply Yn | apply Yw | refine Ys ?_ GE169.out) | exact HB.out)⟩⟩
   ·rw [if_neg c6] at H
    have c6b0 : ((l0_0.length : Int) == 8) = false := beq_eq_false_iff_ne.mpr c6
    have c6b1 : ((l0_0.length : Int) != 8) = true := bne_iff_ne.mpr c6
    (first | rw [c6b0] | (simp only [i64_w, i32_w]; rw [c6b0]) | skip)
    have H' := Az.mk H
    clear H
    have hcz12_0 : w3.cell? ⟨gb169, 0, none⟩ = some (.slice A0_0 l0_0.length c0_0) := (Zc BK169.out 0).trans rfl
    have hcz12_1 : w3.cell? ⟨gb169, 1, none⟩ = some (.slice A0_1 l0_1.length c0_1) := (Zc BK169.out 1).trans rfl
    have hcz12_2 : w3.cell? ⟨gb169, 2, none⟩ = some (.int .i64 a0_2) := (Zc BK169.out 2).trans rfl
    have hfz12_0 := Zf BK169.out 0
    have hfz12_1 := Zf BK169.out 1
    have hfz12_2 := Zf BK169.out 2
    go_wp2_with (first | ((with_reducible refine Yc (f := 9) rfl ?_); refine Yg (some 10) rfl rfl Try.func9 (by kernel_rfl) rfl #[.slice A0_0 l0_0.length c0_0] rfl (by (try simp only [List.map_toArray, List.map_cons, List.map_nil]); first | done | rfl | (simp only [List.length_drop, List.length_take]; rfl)) ?_; (with_reducible refine (spec_MemOk.calls k _ _ l0_0 true _ ?side1 ?side2 A4.out).mono ?_); (case side1 => repeat (first | exact (Kd.Cb_ HR0_0.out HB.out) | exact HR0_0.out | (with_reducible refine Kd.Ca_ ?_ _) | (with_reducible refine Kd.Cn_ ?_ _) | (with_reducible refine Kd.Cw_ ?_))); (case side2 => exact HC0_0.out); rintro e w' ⟨rfl, ⟨nd, rfl⟩⟩; refine ⟨_, rfl, ?_⟩))
    go_meet
    case rel => exact ⟨_, (true), (by first | rfl | (simp; done) | (simp [*]; done)), H', ⟨by first | omega | exact Nat.le_refl _⟩, ⟨by (with_reducible repeat (first | refine Zn ?_ _ | refine Zw ?_ | refine Za ?_ _)); exact BK169.out⟩, ⟨by repeat (first | (with_reducible first | exact HB.out | apply Ya | apply Yn | apply Yw | refine Ys ?_ GE169.out) | exact HB.out)⟩⟩
  ·replace c5 := Bool.eq_false_iff.mpr c5
   subst c5
   have H1 : (spec_HostOk.j0 k true l0_0 l0_1 a0_2) = some r := by rw [if_neg (show ¬ (false = true) by decide)] at H; exact H
   clear H
   have H := H1
   clear H1
   have H' := Az.mk H
   clear H
   have hcz13_0 : w3.cell? ⟨gb169, 0, none⟩ = some (.slice A0_0 l0_0.length c0_0) := (Zc BK169.out 0).trans rfl
   have hcz13_1 : w3.cell? ⟨gb169, 1, none⟩ = some (.slice A0_1 l0_1.length c0_1) := (Zc BK169.out 1).trans rfl
   have hcz13_2 : w3.cell? ⟨gb169, 2, none⟩ = some (.int .i64 a0_2) := (Zc BK169.out 2).trans rfl
   have hfz13_0 := Zf BK169.out 0
   have hfz13_1 := Zf BK169.out 1
   have hfz13_2 := Zf BK169.out 2
   go_wp2_with (first | ((with_reducible refine Yc (f := 9) rfl ?_); refine Yg (some 10) rfl rfl Try.func9 (by kernel_rfl) rfl #[.slice A0_0 l0_0.length c0_0] rfl (by (try simp only [List.map_toArray, List.map_cons, List.map_nil]); first | done | rfl | (simp only [List.length_drop, List.length_take]; rfl)) ?_; (with_reducible refine (spec_MemOk.calls k _ _ l0_0 false _ ?side1 ?side2 A4.out).mono ?_); (case side1 => repeat (first | exact (Kd.Cb_ HR0_0.out HB.out) | exact HR0_0.out | (with_reducible refine Kd.Ca_ ?_ _) | (with_reducible refine Kd.Cn_ ?_ _) | (with_reducible refine Kd.Cw_ ?_))); (case side2 => exact HC0_0.out); rintro e w' ⟨rfl, ⟨nd, rfl⟩⟩; refine ⟨_, rfl, ?_⟩))
   go_meet
   case rel => exact ⟨_, (true), (by first | rfl | (simp; done) | (simp [*]; done)), H', ⟨by first | omega | exact Nat.le_refl _⟩, ⟨by (with_reducible repeat (first | refine Zn ?_ _ | refine Zw ?_ | refine Za ?_ _)); exact BK169.out⟩, ⟨by repeat (first | (with_reducible first | exact HB.out | apply Ya | apply Yn | apply Yw | refine Ys ?_ GE169.out) | exact HB.out)⟩⟩
 case rest =>
  clear HC2
  try clear p2
  try clear c4
  try clear c5
  try clear c6
  try clear c6b0
  try clear c6b1
  try clear c8
  try clear c9
  try clear hcz10_0
  try clear hcz10_1
  try clear hcz10_2
  try clear hcz11_0
  try clear hcz11_1
  try clear hcz11_2
  try clear hcz12_0
  try clear hcz12_1
  try clear hcz12_2
  try clear hcz13_0
  try clear hcz13_1
  try clear hcz13_2
  try clear hfz10_0
  try clear hfz10_1
  try clear hfz10_2
  try clear hfz11_0
  try clear hfz11_1
  try clear hfz11_2
  try clear hfz12_0
  try clear hfz12_1
  try clear hfz12_2
  try clear hfz13_0
  try clear hfz13_1
  try clear hfz13_2
  obtain ⟨kq, x30_1, rfl, HA, HJ1, BK169, HB⟩ := hcut
  cases kq with
  | zero => exact absurd HA.out (by simp [spec_HostOk.j0])
  | succ kj1 =>
   have H := HA.out
   clear HA
   simp only [spec_HostOk.j0] at H
   by_cases c14 : x30_1 = true
   ·subst c14
    have H1 : (some false) = some r := by rw [if_pos rfl] at H; exact H
    clear H
    have H := H1
    clear H1
    obtain rfl := Option.some.inj H
    go_wp2
    go_ret
    exact ⟨by first | rfl | (simp [errW_none, errW_some] <;> rfl) | (simp [*, errW_none, errW_some] <;> rfl), by repeat (first | (with_reducible first | exact HB.out | apply Ya | apply Yn | apply Yw | refine Ys ?_ GE169.out) | exact HB.out)⟩
   ·replace c14 := Bool.eq_false_iff.mpr c14
    subst c14
    have H1 : (spec_HostOk.l0 kj1 0 l0_0 l0_1 a0_2) = some r := by rw [if_neg (show ¬ (false = true) by decide)] at H; exact H
    clear H
    have H := H1
    clear H1
    have H' := Az.mk H
    clear H
    go_wp2
    go_loopg [3] kj1 (fun kq v3 w' => ∃ (x3_2 : Int), v3 = .int .i64 x3_2 ∧ Az (spec_HostOk.l0 kq x3_2 l0_0 l0_1 a0_2 = some r) ∧ Az (kq ≤ kj1) ∧ Az (w'.heap[gb169]? = some (.cells #[(.slice A0_0 l0_0.length c0_0), (.slice A0_1 l0_1.length c0_1), .int .i64 a0_2] 31 (0, 0))) ∧ Az (Below w.heap.size w w'))
    case atStart => exact ⟨(0), (by first | rfl | (simp; done) | (simp [*]; done)), H', ⟨Nat.le_refl _⟩, ⟨by (with_reducible repeat (first | refine Zn ?_ _ | refine Zw ?_ | refine Za ?_ _)); exact BK169.out⟩, ⟨by repeat (first | (with_reducible first | exact HB.out | apply Ya | apply Yn | apply Yw | refine Ys ?_ GE169.out) | exact HB.out)⟩⟩
    case round =>
     clear H'
     try clear c1
     try clear p2
     try clear c4
     try clear c5
     try clear c6
     try clear c6b0
     try clear c6b1
     try clear c8
     try clear c9
     try clear c14
     try clear hcz10_0
     try clear hcz10_1
     try clear hcz10_2
     try clear hcz11_0
     try clear hcz11_1
     try clear hcz11_2
     try clear hcz12_0
     try clear hcz12_1
     try clear hcz12_2
     try clear hcz13_0
     try clear hcz13_1
     try clear hcz13_2
     try clear hfz10_0
     try clear hfz10_1
     try clear hfz10_2
     try clear hfz11_0
     try clear hfz11_1
     try clear hfz11_2
     try clear hfz12_0
     try clear hfz12_1
     try clear hfz12_2
     try clear hfz13_0
     try clear hfz13_1
     try clear hfz13_2
     try clear p2
     obtain ⟨x3_2, rfl, HA, HK2, BK169, HB⟩ := hrel
     cases gk with
     | zero => exact absurd HA.out (by simp [spec_HostOk.l0])
     | succ k2 =>
      have H := HA.out
      clear HA
      simp only [spec_HostOk.l0] at H
      by_cases c15 : x3_2 < (l0_1.length : Int)
      ·rw [if_pos c15] at H
       have c15b0 : decide (x3_2 < (l0_1.length : Int)) = true := decide_eq_true c15
       clear c15
       by_cases c16 : 0 ≤ x3_2
       ·rw [if_pos c16] at H
        have c16b0 : decide (0 ≤ x3_2) = true := decide_eq_true c16
        clear c16
        by_cases c17 : (((rd_T61 l0_1 x3_2).f0).length : Int) = 6
        ·rw [if_pos c17] at H
         have c17b0 : ((((rd_T61 l0_1 x3_2).f0).length : Int) == 6) = true := beq_iff_eq.mpr c17
         have c17b1 : ((((rd_T61 l0_1 x3_2).f0).length : Int) != 6) = false := bne_eq_false_iff_eq.mpr c17
         clear c17
         by_cases c18 : (((rd_T61 l0_1 x3_2).f2).length : Int) = 6
         ·rw [if_pos c18] at H
          have c18b0 : ((((rd_T61 l0_1 x3_2).f2).length : Int) == 6) = true := beq_iff_eq.mpr c18
          have c18b1 : ((((rd_T61 l0_1 x3_2).f2).length : Int) != 6) = false := bne_eq_false_iff_eq.mpr c18
          clear c18
          replace H := Option.bind_eq_some_iff.mp H
          obtain ⟨t175, A190, H⟩ := H
          replace H : (if t175 = true then (spec_HostOk.l0 k2 (wrap64 (x3_2 + 1)) l0_0 l0_1 a0_2) else (some false)) = some r := H
          have A19 := Az.mk A190
          clear A190
          by_cases c20 : t175 = true
          ·subst c20
           have H1 : (spec_HostOk.l0 k2 (wrap64 (x3_2 + 1)) l0_0 l0_1 a0_2) = some r := by rw [if_pos rfl] at H; exact H
           clear H
           have H := H1
           clear H1
           have H' := Az.mk H
           clear H
           have hcz21_0 : wr.cell? ⟨gb169, 0, none⟩ = some (.slice A0_0 l0_0.length c0_0) := (Zc BK169.out 0).trans rfl
           have hcz21_1 : wr.cell? ⟨gb169, 1, none⟩ = some (.slice A0_1 l0_1.length c0_1) := (Zc BK169.out 1).trans rfl
           have hcz21_2 : wr.cell? ⟨gb169, 2, none⟩ = some (.int .i64 a0_2) := (Zc BK169.out 2).trans rfl
           have hfz21_0 := Zf BK169.out 0
           have hfz21_1 := Zf BK169.out 1
           have hfz21_2 := Zf BK169.out 2
           have p173 : 0 ≤ (x3_2 : Int) := of_decide_eq_true (by first | (with_reducible assumption) | assumption)
           have q173 : x3_2 < (l0_1.length : Int) := of_decide_eq_true (by first | (with_reducible assumption) | assumption)
           obtain ⟨ad173, A173_0, c173_0, A173_1, c173_1, A173_2, c173_2, e173, hx173_0, hx173_1, hx173_2, hl173_0, hi173_0, hl173_1, hi173_1, hl173_2, hi173_2⟩ := at_T61 HR0_1.out x3_2 p173 q173
           cases e173
           replace hx173_0 := (HB.out.cell (World.block_lt_of_cell? w _ hx173_0)).trans hx173_0
           replace hx173_1 := (HB.out.cell (World.block_lt_of_cell? w _ hx173_1)).trans hx173_1
           replace hx173_2 := (HB.out.cell (World.block_lt_of_cell? w _ hx173_2)).trans hx173_2
           have HR173_0 := Az.mk hi173_0
           have HC173_0 := Az.mk hl173_0
           clear hi173_0 hl173_0
           have HR173_1 := Az.mk hi173_1
           have HC173_1 := Az.mk hl173_1
           clear hi173_1 hl173_1
           have HR173_2 := Az.mk hi173_2
           have HC173_2 := Az.mk hl173_2
           clear hi173_2 hl173_2
           replace p173 := eq_true p173
           replace q173 := eq_true q173
           go_wp2_with (first | ((with_reducible refine Yd (N := 4) rfl ?_); (try (refine Ye (by rfl) ?_; dsimp only)); refine Yv ?hg (N := 4) ?hd (cs := #[.slice none 0 0, .slice none 0 0, .slice none 0 0]) (t := 61) ?hr ?_; (case hd => rfl); (case hg => rfl); (case hr => first | (go_simp; done) | (go_simp; rfl)); intro gb174 hg w22 hbox hb; have n0_ := Az.mk (Zb (g := gb169) (o := .cells #[.slice A0_0 l0_0.length c0_0, .slice (some ad173) l0_1.length c0_1, .int .i64 a0_2] 31 (0, 0)) (by (with_reducible repeat (first | refine Zn ?_ _ | refine Zw ?_ | refine Za ?_ _)); exact BK169.out) hb); have n1_ := Az.mk (Yt (by repeat (first | (with_reducible first | exact HB.out | apply Ya | apply Yn | apply Yw | refine Ys ?_ GE169.out) | exact HB.out)) hb); have n2_ := Az.mk (hbox); have n3_ := Az.mk ((by rw [hg]; exact (Yz (by repeat (first | (with_reducible first | exact HB.out | apply Ya | apply Yn | apply Yw | refine Ys ?_ GE169.out) | exact HB.out))) : w.heap.size ≤ gb174)); have n4_ := Az.mk ((by rw [hg]; exact (Yz (by repeat (first | (with_reducible first | exact HB.out | apply Ya | apply Yn | apply Yw | refine Ys ?_ GE169.out) | exact HB.out))) : w.heap.size ≤ gb174)); have n5_ := Az.mk ((by rw [hg]; exact Nat.ne_of_lt (Zl (g := gb169) (o := .cells #[.slice A0_0 l0_0.length c0_0, .slice (some ad173) l0_1.length c0_1, .int .i64 a0_2] 31 (0, 0)) (by (with_reducible repeat (first | refine Zn ?_ _ | refine Zw ?_ | refine Za ?_ _)); exact BK169.out)) : gb169 ≠ gb174)); have n6_ := Az.mk ((by rw [hg]; exact Nat.ne_of_gt (Zl (g := gb169) (o := .cells #[.slice A0_0 l0_0.length c0_0, .slice (some ad173) l0_1.length c0_1, .int .i64 a0_2] 31 (0, 0)) (by (with_reducible repeat (first | refine Zn ?_ _ | refine Zw ?_ | refine Za ?_ _)); exact BK169.out)) : gb174 ≠ gb169)); clear BK169; clear HB; have BK169 := n0_; have HB := n1_; have BK174 := n2_; have GW174 := n3_; have GE174 := n4_; have NB169_174 := n5_; have NB174_169 := n6_; clear n0_ n1_ n2_ n3_ n4_ n5_ n6_; clear hb hbox hg; have hnb23 := NB174_169.out; have hnc23 := NB169_174.out; have hcz24_0 : w22.cell? ⟨gb174, 0, none⟩ = some (.slice none 0 0) := (Zc BK174.out 0).trans rfl; have hcz24_1 : w22.cell? ⟨gb174, 1, none⟩ = some (.slice none 0 0) := (Zc BK174.out 1).trans rfl; have hcz24_2 : w22.cell? ⟨gb174, 2, none⟩ = some (.slice none 0 0) := (Zc BK174.out 2).trans rfl; have hfz24_0 := Zf BK174.out 0; have hfz24_1 := Zf BK174.out 1; have hfz24_2 := Zf BK174.out 2) | (go_at_call 62; (with_reducible refine (spec_l11Guest.calls k2 _ _ ((rd_T61 l0_1 x3_2).f1) true _ ?side1 ?side2 A19.out).mono ?_); (case side1 => exact Kd.Cb_ HR173_1.out (by repeat (first | (with_reducible first | exact HB.out | apply Ya | apply Yn | apply Yw | refine Ys ?_ GE169.out | refine Ys ?_ GE174.out) | exact HB.out))); (case side2 => exact HC173_1.out); rintro e w' ⟨rfl, ⟨nd, rfl⟩⟩))
           go_roundg k2
           case measure => have := HJ1.out; have := HK2.out; omega
           case rel => exact ⟨(wrap64 (x3_2 + 1)), (by first | rfl | (simp; done) | (simp [*]; done)), H', ⟨by have := HJ1.out; have := HK2.out; omega⟩, ⟨by (with_reducible repeat (first | refine Zn ?_ _ | refine Zw ?_ | refine Za ?_ _)); refine blk_far ?_ NB169_174.out _; (with_reducible repeat (first | refine Zn ?_ _ | refine Zw ?_ | refine Za ?_ _)); refine blk_far ?_ NB169_174.out _; (with_reducible repeat (first | refine Zn ?_ _ | refine Zw ?_ | refine Za ?_ _)); refine blk_far ?_ NB169_174.out _; (with_reducible repeat (first | refine Zn ?_ _ | refine Zw ?_ | refine Za ?_ _)); exact BK169.out⟩, ⟨by repeat (first | (with_reducible first | exact HB.out | apply Ya | apply Yn | apply Yw | refine Ys ?_ GE169.out | refine Ys ?_ GE174.out) | exact HB.out)⟩⟩
          ·replace c20 := Bool.eq_false_iff.mpr c20
           subst c20
           have H1 : (some false) = some r := by rw [if_neg (show ¬ (false = true) by decide)] at H; exact H
           clear H
           have H := H1
           clear H1
           obtain rfl := Option.some.inj H
           have hcz25_0 : wr.cell? ⟨gb169, 0, none⟩ = some (.slice A0_0 l0_0.length c0_0) := (Zc BK169.out 0).trans rfl
           have hcz25_1 : wr.cell? ⟨gb169, 1, none⟩ = some (.slice A0_1 l0_1.length c0_1) := (Zc BK169.out 1).trans rfl
           have hcz25_2 : wr.cell? ⟨gb169, 2, none⟩ = some (.int .i64 a0_2) := (Zc BK169.out 2).trans rfl
           have hfz25_0 := Zf BK169.out 0
           have hfz25_1 := Zf BK169.out 1
           have hfz25_2 := Zf BK169.out 2
           have p173 : 0 ≤ (x3_2 : Int) := of_decide_eq_true (by first | (with_reducible assumption) | assumption)
           have q173 : x3_2 < (l0_1.length : Int) := of_decide_eq_true (by first | (with_reducible assumption) | assumption)
           obtain ⟨ad173, A173_0, c173_0, A173_1, c173_1, A173_2, c173_2, e173, hx173_0, hx173_1, hx173_2, hl173_0, hi173_0, hl173_1, hi173_1, hl173_2, hi173_2⟩ := at_T61 HR0_1.out x3_2 p173 q173
           cases e173
           replace hx173_0 := (HB.out.cell (World.block_lt_of_cell? w _ hx173_0)).trans hx173_0
           replace hx173_1 := (HB.out.cell (World.block_lt_of_cell? w _ hx173_1)).trans hx173_1
           replace hx173_2 := (HB.out.cell (World.block_lt_of_cell? w _ hx173_2)).trans hx173_2
           have HR173_0 := Az.mk hi173_0
           have HC173_0 := Az.mk hl173_0
           clear hi173_0 hl173_0
           have HR173_1 := Az.mk hi173_1
           have HC173_1 := Az.mk hl173_1
           clear hi173_1 hl173_1
           have HR173_2 := Az.mk hi173_2
           have HC173_2 := Az.mk hl173_2
           clear hi173_2 hl173_2
           replace p173 := eq_true p173
           replace q173 := eq_true q173
           go_wp2_with (first | ((with_reducible refine Yd (N := 4) rfl ?_); (try (refine Ye (by rfl) ?_; dsimp only)); refine Yv ?hg (N := 4) ?hd (cs := #[.slice none 0 0, .slice none 0 0, .slice none 0 0]) (t := 61) ?hr ?_; (case hd => rfl); (case hg => rfl); (case hr => first | (go_simp; done) | (go_simp; rfl)); intro gb174 hg w26 hbox hb; have n0_ := Az.mk (Zb (g := gb169) (o := .cells #[.slice A0_0 l0_0.length c0_0, .slice (some ad173) l0_1.length c0_1, .int .i64 a0_2] 31 (0, 0)) (by (with_reducible repeat (first | refine Zn ?_ _ | refine Zw ?_ | refine Za ?_ _)); exact BK169.out) hb); have n1_ := Az.mk (Yt (by repeat (first | (with_reducible first | exact HB.out | apply Ya | apply Yn | apply Yw | refine Ys ?_ GE169.out) | exact HB.out)) hb); have n2_ := Az.mk (hbox); have n3_ := Az.mk ((by rw [hg]; exact (Yz (by repeat (first | (with_reducible first | exact HB.out | apply Ya | apply Yn | apply Yw | refine Ys ?_ GE169.out) | exact HB.out))) : w.heap.size ≤ gb174)); have n4_ := Az.mk ((by rw [hg]; exact (Yz (by repeat (first | (with_reducible first | exact HB.out | apply Ya | apply Yn | apply Yw | refine Ys ?_ GE169.out) | exact HB.out))) : w.heap.size ≤ gb174)); have n5_ := Az.mk ((by rw [hg]; exact Nat.ne_of_lt (Zl (g := gb169) (o := .cells #[.slice A0_0 l0_0.length c0_0, .slice (some ad173) l0_1.length c0_1, .int .i64 a0_2] 31 (0, 0)) (by (with_reducible repeat (first | refine Zn ?_ _ | refine Zw ?_ | refine Za ?_ _)); exact BK169.out)) : gb169 ≠ gb174)); have n6_ := Az.mk ((by rw [hg]; exact Nat.ne_of_gt (Zl (g := gb169) (o := .cells #[.slice A0_0 l0_0.length c0_0, .slice (some ad173) l0_1.length c0_1, .int .i64 a0_2] 31 (0, 0)) (by (with_reducible repeat (first | refine Zn ?_ _ | refine Zw ?_ | refine Za ?_ _)); exact BK169.out)) : gb174 ≠ gb169)); clear BK169; clear HB; have BK169 := n0_; have HB := n1_; have BK174 := n2_; have GW174 := n3_; have GE174 := n4_; have NB169_174 := n5_; have NB174_169 := n6_; clear n0_ n1_ n2_ n3_ n4_ n5_ n6_; clear hb hbox hg; have hnb27 := NB174_169.out; have hnc27 := NB169_174.out; have hcz28_0 : w26.cell? ⟨gb174, 0, none⟩ = some (.slice none 0 0) := (Zc BK174.out 0).trans rfl; have hcz28_1 : w26.cell? ⟨gb174, 1, none⟩ = some (.slice none 0 0) := (Zc BK174.out 1).trans rfl; have hcz28_2 : w26.cell? ⟨gb174, 2, none⟩ = some (.slice none 0 0) := (Zc BK174.out 2).trans rfl; have hfz28_0 := Zf BK174.out 0; have hfz28_1 := Zf BK174.out 1; have hfz28_2 := Zf BK174.out 2) | (go_at_call 62; (with_reducible refine (spec_l11Guest.calls k2 _ _ ((rd_T61 l0_1 x3_2).f1) false _ ?side1 ?side2 A19.out).mono ?_); (case side1 => exact Kd.Cb_ HR173_1.out (by repeat (first | (with_reducible first | exact HB.out | apply Ya | apply Yn | apply Yw | refine Ys ?_ GE169.out | refine Ys ?_ GE174.out) | exact HB.out))); (case side2 => exact HC173_1.out); rintro e w' ⟨rfl, ⟨nd, rfl⟩⟩))
           go_ret
           exact ⟨by first | rfl | (simp [errW_none, errW_some] <;> rfl) | (simp [*, errW_none, errW_some] <;> rfl), by repeat (first | (with_reducible first | exact HB.out | apply Ya | apply Yn | apply Yw | refine Ys ?_ GE169.out | refine Ys ?_ GE174.out) | exact HB.out)⟩
         ·rw [if_neg c18] at H
          have c18b0 : ((((rd_T61 l0_1 x3_2).f2).length : Int) == 6) = false := beq_eq_false_iff_ne.mpr c18
          have c18b1 : ((((rd_T61 l0_1 x3_2).f2).length : Int) != 6) = true := bne_iff_ne.mpr c18
          obtain rfl := Option.some.inj H
          have hcz29_0 : wr.cell? ⟨gb169, 0, none⟩ = some (.slice A0_0 l0_0.length c0_0) := (Zc BK169.out 0).trans rfl
          have hcz29_1 : wr.cell? ⟨gb169, 1, none⟩ = some (.slice A0_1 l0_1.length c0_1) := (Zc BK169.out 1).trans rfl
          have hcz29_2 : wr.cell? ⟨gb169, 2, none⟩ = some (.int .i64 a0_2) := (Zc BK169.out 2).trans rfl
          have hfz29_0 := Zf BK169.out 0
          have hfz29_1 := Zf BK169.out 1
          have hfz29_2 := Zf BK169.out 2
          have p173 : 0 ≤ (x3_2 : Int) := of_decide_eq_true (by first | (with_reducible assumption) | assumption)
          have q173 : x3_2 < (l0_1.length : Int) := of_decide_eq_true (by first | (with_reducible assumption) | assumption)
          obtain ⟨ad173, A173_0, c173_0, A173_1, c173_1, A173_2, c173_2, e173, hx173_0, hx173_1, hx173_2, hl173_0, hi173_0, hl173_1, hi173_1, hl173_2, hi173_2⟩ := at_T61 HR0_1.out x3_2 p173 q173
          cases e173
          replace hx173_0 := (HB.out.cell (World.block_lt_of_cell? w _ hx173_0)).trans hx173_0
          replace hx173_1 := (HB.out.cell (World.block_lt_of_cell? w _ hx173_1)).trans hx173_1
          replace hx173_2 := (HB.out.cell (World.block_lt_of_cell? w _ hx173_2)).trans hx173_2
          have HR173_0 := Az.mk hi173_0
          have HC173_0 := Az.mk hl173_0
          clear hi173_0 hl173_0
          have HR173_1 := Az.mk hi173_1
          have HC173_1 := Az.mk hl173_1
          clear hi173_1 hl173_1
          have HR173_2 := Az.mk hi173_2
          have HC173_2 := Az.mk hl173_2
          clear hi173_2 hl173_2
          replace p173 := eq_true p173
          replace q173 := eq_true q173
          go_wp2_with (first | ((with_reducible refine Yd (N := 4) rfl ?_); (try (refine Ye (by rfl) ?_; dsimp only)); refine Yv ?hg (N := 4) ?hd (cs := #[.slice none 0 0, .slice none 0 0, .slice none 0 0]) (t := 61) ?hr ?_; (case hd => rfl); (case hg => rfl); (case hr => first | (go_simp; done) | (go_simp; rfl)); intro gb174 hg w30 hbox hb; have n0_ := Az.mk (Zb (g := gb169) (o := .cells #[.slice A0_0 l0_0.length c0_0, .slice (some ad173) l0_1.length c0_1, .int .i64 a0_2] 31 (0, 0)) (by (with_reducible repeat (first | refine Zn ?_ _ | refine Zw ?_ | refine Za ?_ _)); exact BK169.out) hb); have n1_ := Az.mk (Yt (by repeat (first | (with_reducible first | exact HB.out | apply Ya | apply Yn | apply Yw | refine Ys ?_ GE169.out) | exact HB.out)) hb); have n2_ := Az.mk (hbox); have n3_ := Az.mk ((by rw [hg]; exact (Yz (by repeat (first | (with_reducible first | exact HB.out | apply Ya | apply Yn | apply Yw | refine Ys ?_ GE169.out) | exact HB.out))) : w.heap.size ≤ gb174)); have n4_ := Az.mk ((by rw [hg]; exact (Yz (by repeat (first | (with_reducible first | exact HB.out | apply Ya | apply Yn | apply Yw | refine Ys ?_ GE169.out) | exact HB.out))) : w.heap.size ≤ gb174)); have n5_ := Az.mk ((by rw [hg]; exact Nat.ne_of_lt (Zl (g := gb169) (o := .cells #[.slice A0_0 l0_0.length c0_0, .slice (some ad173) l0_1.length c0_1, .int .i64 a0_2] 31 (0, 0)) (by (with_reducible repeat (first | refine Zn ?_ _ | refine Zw ?_ | refine Za ?_ _)); exact BK169.out)) : gb169 ≠ gb174)); have n6_ := Az.mk ((by rw [hg]; exact Nat.ne_of_gt (Zl (g := gb169) (o := .cells #[.slice A0_0 l0_0.length c0_0, .slice (some ad173) l0_1.length c0_1, .int .i64 a0_2] 31 (0, 0)) (by (with_reducible repeat (first | refine Zn ?_ _ | refine Zw ?_ | refine Za ?_ _)); exact BK169.out)) : gb174 ≠ gb169)); clear BK169; clear HB; have BK169 := n0_; have HB := n1_; have BK174 := n2_; have GW174 := n3_; have GE174 := n4_; have NB169_174 := n5_; have NB174_169 := n6_; clear n0_ n1_ n2_ n3_ n4_ n5_ n6_; clear hb hbox hg; have hnb31 := NB174_169.out; have hnc31 := NB169_174.out; have hcz32_0 : w30.cell? ⟨gb174, 0, none⟩ = some (.slice none 0 0) := (Zc BK174.out 0).trans rfl; have hcz32_1 : w30.cell? ⟨gb174, 1, none⟩ = some (.slice none 0 0) := (Zc BK174.out 1).trans rfl; have hcz32_2 : w30.cell? ⟨gb174, 2, none⟩ = some (.slice none 0 0) := (Zc BK174.out 2).trans rfl; have hfz32_0 := Zf BK174.out 0; have hfz32_1 := Zf BK174.out 1; have hfz32_2 := Zf BK174.out 2))
          go_ret
          exact ⟨by first | rfl | (simp [errW_none, errW_some] <;> rfl) | (simp [*, errW_none, errW_some] <;> rfl), by repeat (first | (with_reducible first | exact HB.out | apply Ya | apply Yn | apply Yw | refine Ys ?_ GE169.out | refine Ys ?_ GE174.out) | exact HB.out)⟩
        ·rw [if_neg c17] at H
         have c17b0 : ((((rd_T61 l0_1 x3_2).f0).length : Int) == 6) = false := beq_eq_false_iff_ne.mpr c17
         have c17b1 : ((((rd_T61 l0_1 x3_2).f0).length : Int) != 6) = true := bne_iff_ne.mpr c17
         obtain rfl := Option.some.inj H
         have hcz33_0 : wr.cell? ⟨gb169, 0, none⟩ = some (.slice A0_0 l0_0.length c0_0) := (Zc BK169.out 0).trans rfl
         have hcz33_1 : wr.cell? ⟨gb169, 1, none⟩ = some (.slice A0_1 l0_1.length c0_1) := (Zc BK169.out 1).trans rfl
         have hcz33_2 : wr.cell? ⟨gb169, 2, none⟩ = some (.int .i64 a0_2) := (Zc BK169.out 2).trans rfl
         have hfz33_0 := Zf BK169.out 0
         have hfz33_1 := Zf BK169.out 1
         have hfz33_2 := Zf BK169.out 2
         have p173 : 0 ≤ (x3_2 : Int) := of_decide_eq_true (by first | (with_reducible assumption) | assumption)
         have q173 : x3_2 < (l0_1.length : Int) := of_decide_eq_true (by first | (with_reducible assumption) | assumption)
         obtain ⟨ad173, A173_0, c173_0, A173_1, c173_1, A173_2, c173_2, e173, hx173_0, hx173_1, hx173_2, hl173_0, hi173_0, hl173_1, hi173_1, hl173_2, hi173_2⟩ := at_T61 HR0_1.out x3_2 p173 q173
         cases e173
         replace hx173_0 := (HB.out.cell (World.block_lt_of_cell? w _ hx173_0)).trans hx173_0
         replace hx173_1 := (HB.out.cell (World.block_lt_of_cell? w _ hx173_1)).trans hx173_1
         replace hx173_2 := (HB.out.cell (World.block_lt_of_cell? w _ hx173_2)).trans hx173_2
         have HR173_0 := Az.mk hi173_0
         have HC173_0 := Az.mk hl173_0
         clear hi173_0 hl173_0
         have HR173_1 := Az.mk hi173_1
         have HC173_1 := Az.mk hl173_1
         clear hi173_1 hl173_1
         have HR173_2 := Az.mk hi173_2
         have HC173_2 := Az.mk hl173_2
         clear hi173_2 hl173_2
         replace p173 := eq_true p173
         replace q173 := eq_true q173
         go_wp2_with (first | ((with_reducible refine Yd (N := 4) rfl ?_); (try (refine Ye (by rfl) ?_; dsimp only)); refine Yv ?hg (N := 4) ?hd (cs := #[.slice none 0 0, .slice none 0 0, .slice none 0 0]) (t := 61) ?hr ?_; (case hd => rfl); (case hg => rfl); (case hr => first | (go_simp; done) | (go_simp; rfl)); intro gb174 hg w34 hbox hb; have n0_ := Az.mk (Zb (g := gb169) (o := .cells #[.slice A0_0 l0_0.length c0_0, .slice (some ad173) l0_1.length c0_1, .int .i64 a0_2] 31 (0, 0)) (by (with_reducible repeat (first | refine Zn ?_ _ | refine Zw ?_ | refine Za ?_ _)); exact BK169.out) hb); have n1_ := Az.mk (Yt (by repeat (first | (with_reducible first | exact HB.out | apply Ya | apply Yn | apply Yw | refine Ys ?_ GE169.out) | exact HB.out)) hb); have n2_ := Az.mk (hbox); have n3_ := Az.mk ((by rw [hg]; exact (Yz (by repeat (first | (with_reducible first | exact HB.out | apply Ya | apply Yn | apply Yw | refine Ys ?_ GE169.out) | exact HB.out))) : w.heap.size ≤ gb174)); have n4_ := Az.mk ((by rw [hg]; exact (Yz (by repeat (first | (with_reducible first | exact HB.out | apply Ya | apply Yn | apply Yw | refine Ys ?_ GE169.out) | exact HB.out))) : w.heap.size ≤ gb174)); have n5_ := Az.mk ((by rw [hg]; exact Nat.ne_of_lt (Zl (g := gb169) (o := .cells #[.slice A0_0 l0_0.length c0_0, .slice (some ad173) l0_1.length c0_1, .int .i64 a0_2] 31 (0, 0)) (by (with_reducible repeat (first | refine Zn ?_ _ | refine Zw ?_ | refine Za ?_ _)); exact BK169.out)) : gb169 ≠ gb174)); have n6_ := Az.mk ((by rw [hg]; exact Nat.ne_of_gt (Zl (g := gb169) (o := .cells #[.slice A0_0 l0_0.length c0_0, .slice (some ad173) l0_1.length c0_1, .int .i64 a0_2] 31 (0, 0)) (by (with_reducible repeat (first | refine Zn ?_ _ | refine Zw ?_ | refine Za ?_ _)); exact BK169.out)) : gb174 ≠ gb169)); clear BK169; clear HB; have BK169 := n0_; have HB := n1_; have BK174 := n2_; have GW174 := n3_; have GE174 := n4_; have NB169_174 := n5_; have NB174_169 := n6_; clear n0_ n1_ n2_ n3_ n4_ n5_ n6_; clear hb hbox hg; have hnb35 := NB174_169.out; have hnc35 := NB169_174.out; have hcz36_0 : w34.cell? ⟨gb174, 0, none⟩ = some (.slice none 0 0) := (Zc BK174.out 0).trans rfl; have hcz36_1 : w34.cell? ⟨gb174, 1, none⟩ = some (.slice none 0 0) := (Zc BK174.out 1).trans rfl; have hcz36_2 : w34.cell? ⟨gb174, 2, none⟩ = some (.slice none 0 0) := (Zc BK174.out 2).trans rfl; have hfz36_0 := Zf BK174.out 0; have hfz36_1 := Zf BK174.out 1; have hfz36_2 := Zf BK174.out 2))
         go_ret
         exact ⟨by first | rfl | (simp [errW_none, errW_some] <;> rfl) | (simp [*, errW_none, errW_some] <;> rfl), by repeat (first | (with_reducible first | exact HB.out | apply Ya | apply Yn | apply Yw | refine Ys ?_ GE169.out | refine Ys ?_ GE174.out) | exact HB.out)⟩
       ·rw [if_neg c16] at H
        exact absurd H (by simp)
      ·rw [if_neg c15] at H
       have c15b0 : decide (x3_2 < (l0_1.length : Int)) = false := decide_eq_false c15
       clear c15
       have H' := Az.mk H
       clear H
       have hcz37_0 : wr.cell? ⟨gb169, 0, none⟩ = some (.slice A0_0 l0_0.length c0_0) := (Zc BK169.out 0).trans rfl
       have hcz37_1 : wr.cell? ⟨gb169, 1, none⟩ = some (.slice A0_1 l0_1.length c0_1) := (Zc BK169.out 1).trans rfl
       have hcz37_2 : wr.cell? ⟨gb169, 2, none⟩ = some (.int .i64 a0_2) := (Zc BK169.out 2).trans rfl
       have hfz37_0 := Zf BK169.out 0
       have hfz37_1 := Zf BK169.out 1
       have hfz37_2 := Zf BK169.out 2
       go_wp2
       go_loopg [5] k2 (fun kq v5 w' => ∃ (x5_3 : Int), v5 = .int .i64 x5_3 ∧ Az (spec_HostOk.l1 kq x5_3 l0_0 l0_1 a0_2 = some r) ∧ Az (kq ≤ k2) ∧ Az (w'.heap[gb169]? = some (.cells #[(.slice A0_0 l0_0.length c0_0), (.slice A0_1 l0_1.length c0_1), .int .i64 a0_2] 31 (0, 0))) ∧ Az (Below w.heap.size w w'))
       case atStart => exact ⟨(0), (by first | rfl | (simp; done) | (simp [*]; done)), H', ⟨Nat.le_refl _⟩, ⟨by (with_reducible repeat (first | refine Zn ?_ _ | refine Zw ?_ | refine Za ?_ _)); exact BK169.out⟩, ⟨by repeat (first | (with_reducible first | exact HB.out | apply Ya | apply Yn | apply Yw | refine Ys ?_ GE169.out) | exact HB.out)⟩⟩
       case round =>
        clear H'
        try clear c1
        try clear p1
        try clear q1
        try clear hx1
        try clear c2
        try clear p2
        try clear c3
        try clear c4
        try clear c5
        try clear c6
        try clear c6b0
        try clear c6b1
        try clear p6
        try clear c8
        try clear c9
        try clear c14
        try clear c15
        try clear c15b0
        try clear c16
        try clear c16b0
        try clear c17
        try clear c17b0
        try clear c17b1
        try clear p17
        try clear q17
        try clear hx17
        try clear c18
        try clear c18b0
        try clear c18b1
        try clear c20
        try clear c23
        try clear c27
        try clear c31
        try clear c35
        try clear hcz10_0
        try clear hcz10_1
        try clear hcz10_2
        try clear hcz11_0
        try clear hcz11_1
        try clear hcz11_2
        try clear hcz12_0
        try clear hcz12_1
        try clear hcz12_2
        try clear hcz13_0
        try clear hcz13_1
        try clear hcz13_2
        try clear hcz21_0
        try clear hcz21_1
        try clear hcz21_2
        try clear hcz24_0
        try clear hcz24_1
        try clear hcz24_2
        try clear hcz25_0
        try clear hcz25_1
        try clear hcz25_2
        try clear hcz28_0
        try clear hcz28_1
        try clear hcz28_2
        try clear hcz29_0
        try clear hcz29_1
        try clear hcz29_2
        try clear hcz32_0
        try clear hcz32_1
        try clear hcz32_2
        try clear hcz33_0
        try clear hcz33_1
        try clear hcz33_2
        try clear hcz36_0
        try clear hcz36_1
        try clear hcz36_2
        try clear hcz37_0
        try clear hcz37_1
        try clear hcz37_2
        try clear hfz10_0
        try clear hfz10_1
        try clear hfz10_2
        try clear hfz11_0
        try clear hfz11_1
        try clear hfz11_2
        try clear hfz12_0
        try clear hfz12_1
        try clear hfz12_2
        try clear hfz13_0
        try clear hfz13_1
        try clear hfz13_2
        try clear hfz21_0
        try clear hfz21_1
        try clear hfz21_2
        try clear hfz24_0
        try clear hfz24_1
        try clear hfz24_2
        try clear hfz25_0
        try clear hfz25_1
        try clear hfz25_2
        try clear hfz28_0
        try clear hfz28_1
        try clear hfz28_2
        try clear hfz29_0
        try clear hfz29_1
        try clear hfz29_2
        try clear hfz32_0
        try clear hfz32_1
        try clear hfz32_2
        try clear hfz33_0
        try clear hfz33_1
        try clear hfz33_2
        try clear hfz36_0
        try clear hfz36_1
        try clear hfz36_2
        try clear hfz37_0
        try clear hfz37_1
        try clear hfz37_2
        try clear hx173_0
        try clear hx173_1
        try clear hx173_2
        try clear p173
        try clear p2
        try clear q173
        obtain ⟨x5_3, rfl, HA, HK3, BK169, HB⟩ := hrel
        cases gk with
        | zero => exact absurd HA.out (by simp [spec_HostOk.l1])
        | succ k3 =>
         have H := HA.out
         clear HA
         simp only [spec_HostOk.l1] at H
         by_cases c38 : x5_3 < (l0_1.length : Int)
         ·rw [if_pos c38] at H
          have c38b0 : decide (x5_3 < (l0_1.length : Int)) = true := decide_eq_true c38
          clear c38
          by_cases c39 : 0 ≤ x5_3
          ·rw [if_pos c39] at H
           have c39b0 : decide (0 ≤ x5_3) = true := decide_eq_true c39
           clear c39
           have H' := Az.mk H
           clear H
           have hcz40_0 : wr.cell? ⟨gb169, 0, none⟩ = some (.slice A0_0 l0_0.length c0_0) := (Zc BK169.out 0).trans rfl
           have hcz40_1 : wr.cell? ⟨gb169, 1, none⟩ = some (.slice A0_1 l0_1.length c0_1) := (Zc BK169.out 1).trans rfl
           have hcz40_2 : wr.cell? ⟨gb169, 2, none⟩ = some (.int .i64 a0_2) := (Zc BK169.out 2).trans rfl
           have hfz40_0 := Zf BK169.out 0
           have hfz40_1 := Zf BK169.out 1
           have hfz40_2 := Zf BK169.out 2
           have p176 : 0 ≤ (x5_3 : Int) := of_decide_eq_true (by first | (with_reducible assumption) | assumption)
           have q176 : x5_3 < (l0_1.length : Int) := of_decide_eq_true (by first | (with_reducible assumption) | assumption)
           obtain ⟨ad176, A176_0, c176_0, A176_1, c176_1, A176_2, c176_2, e176, hx176_0, hx176_1, hx176_2, hl176_0, hi176_0, hl176_1, hi176_1, hl176_2, hi176_2⟩ := at_T61 HR0_1.out x5_3 p176 q176
           cases e176
           replace hx176_0 := (HB.out.cell (World.block_lt_of_cell? w _ hx176_0)).trans hx176_0
           replace hx176_1 := (HB.out.cell (World.block_lt_of_cell? w _ hx176_1)).trans hx176_1
           replace hx176_2 := (HB.out.cell (World.block_lt_of_cell? w _ hx176_2)).trans hx176_2
           have HR176_0 := Az.mk hi176_0
           have HC176_0 := Az.mk hl176_0
           clear hi176_0 hl176_0
           have HR176_1 := Az.mk hi176_1
           have HC176_1 := Az.mk hl176_1
           clear hi176_1 hl176_1
           have HR176_2 := Az.mk hi176_2
           have HC176_2 := Az.mk hl176_2
           clear hi176_2 hl176_2
           replace p176 := eq_true p176
           replace q176 := eq_true q176
           go_wp2_with (first | ((with_reducible refine Yd (N := 6) rfl ?_); (try (refine Ye (by rfl) ?_; dsimp only)); refine Yv ?hg (N := 6) ?hd (cs := #[.slice none 0 0, .slice none 0 0, .slice none 0 0]) (t := 61) ?hr ?_; (case hd => rfl); (case hg => rfl); (case hr => first | (go_simp; done) | (go_simp; rfl)); intro gb177 hg w41 hbox hb; have n0_ := Az.mk (Zb (g := gb169) (o := .cells #[.slice A0_0 l0_0.length c0_0, .slice (some ad176) l0_1.length c0_1, .int .i64 a0_2] 31 (0, 0)) (by (with_reducible repeat (first | refine Zn ?_ _ | refine Zw ?_ | refine Za ?_ _)); exact BK169.out) hb); have n1_ := Az.mk (Yt (by repeat (first | (with_reducible first | exact HB.out | apply Ya | apply Yn | apply Yw | refine Ys ?_ GE169.out) | exact HB.out)) hb); have n2_ := Az.mk (hbox); have n3_ := Az.mk ((by rw [hg]; exact (Yz (by repeat (first | (with_reducible first | exact HB.out | apply Ya | apply Yn | apply Yw | refine Ys ?_ GE169.out) | exact HB.out))) : w.heap.size ≤ gb177)); have n4_ := Az.mk ((by rw [hg]; exact (Yz (by repeat (first | (with_reducible first | exact HB.out | apply Ya | apply Yn | apply Yw | refine Ys ?_ GE169.out) | exact HB.out))) : w.heap.size ≤ gb177)); have n5_ := Az.mk ((by rw [hg]; exact Nat.ne_of_lt (Zl (g := gb169) (o := .cells #[.slice A0_0 l0_0.length c0_0, .slice (some ad176) l0_1.length c0_1, .int .i64 a0_2] 31 (0, 0)) (by (with_reducible repeat (first | refine Zn ?_ _ | refine Zw ?_ | refine Za ?_ _)); exact BK169.out)) : gb169 ≠ gb177)); have n6_ := Az.mk ((by rw [hg]; exact Nat.ne_of_gt (Zl (g := gb169) (o := .cells #[.slice A0_0 l0_0.length c0_0, .slice (some ad176) l0_1.length c0_1, .int .i64 a0_2] 31 (0, 0)) (by (with_reducible repeat (first | refine Zn ?_ _ | refine Zw ?_ | refine Za ?_ _)); exact BK169.out)) : gb177 ≠ gb169)); clear BK169; clear HB; have BK169 := n0_; have HB := n1_; have BK177 := n2_; have GW177 := n3_; have GE177 := n4_; have NB169_177 := n5_; have NB177_169 := n6_; clear n0_ n1_ n2_ n3_ n4_ n5_ n6_; clear hb hbox hg; have hnb42 := NB177_169.out; have hnc42 := NB169_177.out; have hcz43_0 : w41.cell? ⟨gb177, 0, none⟩ = some (.slice none 0 0) := (Zc BK177.out 0).trans rfl; have hcz43_1 : w41.cell? ⟨gb177, 1, none⟩ = some (.slice none 0 0) := (Zc BK177.out 1).trans rfl; have hcz43_2 : w41.cell? ⟨gb177, 2, none⟩ = some (.slice none 0 0) := (Zc BK177.out 2).trans rfl; have hfz43_0 := Zf BK177.out 0; have hfz43_1 := Zf BK177.out 1; have hfz43_2 := Zf BK177.out 2))
           go_loopg [7] k3 (fun kq v7 w' => ∃ (x7_4 : Int), v7 = .int .i64 x7_4 ∧ Az (spec_HostOk.l2 kq x5_3 x7_4 l0_0 l0_1 a0_2 ((rd_T61 l0_1 x5_3).f0) ((rd_T61 l0_1 x5_3).f1) ((rd_T61 l0_1 x5_3).f2) = some r) ∧ Az (kq ≤ k3) ∧ Az (w'.heap[gb169]? = some (.cells #[(.slice A0_0 l0_0.length c0_0), (.slice (some ad176) l0_1.length c0_1), .int .i64 a0_2] 31 (0, 0))) ∧ Az (w'.heap[gb177]? = some (.cells #[(.slice A176_0 ((rd_T61 l0_1 x5_3).f0).length c176_0), (.slice A176_1 ((rd_T61 l0_1 x5_3).f1).length c176_1), (.slice A176_2 ((rd_T61 l0_1 x5_3).f2).length c176_2)] 61 (0, 0))) ∧ Az (Below w.heap.size w w'))
           case atStart => exact ⟨(0), (by first | rfl | (simp; done) | (simp [*]; done)), H', ⟨Nat.le_refl _⟩, ⟨by (with_reducible repeat (first | refine Zn ?_ _ | refine Zw ?_ | refine Za ?_ _)); refine blk_far ?_ NB169_177.out _; (with_reducible repeat (first | refine Zn ?_ _ | refine Zw ?_ | refine Za ?_ _)); refine blk_far ?_ NB169_177.out _; (with_reducible repeat (first | refine Zn ?_ _ | refine Zw ?_ | refine Za ?_ _)); refine blk_far ?_ NB169_177.out _; (with_reducible repeat (first | refine Zn ?_ _ | refine Zw ?_ | refine Za ?_ _)); exact BK169.out⟩, ⟨by (with_reducible repeat (first | refine Zn ?_ _ | refine Zw ?_ | refine Za ?_ _)); refine Zp (cs := #[.slice A176_0 ((rd_T61 l0_1 x5_3).f0).length c176_0, .slice A176_1 ((rd_T61 l0_1 x5_3).f1).length c176_1, .slice none 0 0]) ?_ 2 _ rfl; (with_reducible repeat (first | refine Zn ?_ _ | refine Zw ?_ | refine Za ?_ _)); refine Zp (cs := #[.slice A176_0 ((rd_T61 l0_1 x5_3).f0).length c176_0, .slice none 0 0, .slice none 0 0]) ?_ 1 _ rfl; (with_reducible repeat (first | refine Zn ?_ _ | refine Zw ?_ | refine Za ?_ _)); refine Zp (cs := #[.slice none 0 0, .slice none 0 0, .slice none 0 0]) ?_ 0 _ rfl; (with_reducible repeat (first | refine Zn ?_ _ | refine Zw ?_ | refine Za ?_ _)); exact BK177.out⟩, ⟨by repeat (first | (with_reducible first | exact HB.out | apply Ya | apply Yn | apply Yw | refine Ys ?_ GE169.out | refine Ys ?_ GE177.out) | exact HB.out)⟩⟩
           case round =>
            clear H'
            try clear c1
            try clear p1
            try clear q1
            try clear hx1
            try clear c2
            try clear p2
            try clear c3
            try clear c4
            try clear c5
            try clear c6
            try clear c6b0
            try clear c6b1
            try clear p6
            try clear c8
            try clear c9
            try clear c14
            try clear c15
            try clear c15b0
            try clear c16
            try clear c16b0
            try clear c17
            try clear c17b0
            try clear c17b1
            try clear p17
            try clear q17
            try clear hx17
            try clear c18
            try clear c18b0
            try clear c18b1
            try clear c20
            try clear c23
            try clear c27
            try clear c31
            try clear c35
            try clear c38
            try clear c38b0
            try clear c39
            try clear c39b0
            try clear c42
            try clear hcz10_0
            try clear hcz10_1
            try clear hcz10_2
            try clear hcz11_0
            try clear hcz11_1
            try clear hcz11_2
            try clear hcz12_0
            try clear hcz12_1
            try clear hcz12_2
            try clear hcz13_0
            try clear hcz13_1
            try clear hcz13_2
            try clear hcz21_0
            try clear hcz21_1
            try clear hcz21_2
            try clear hcz24_0
            try clear hcz24_1
            try clear hcz24_2
            try clear hcz25_0
            try clear hcz25_1
            try clear hcz25_2
            try clear hcz28_0
            try clear hcz28_1
            try clear hcz28_2
            try clear hcz29_0
            try clear hcz29_1
            try clear hcz29_2
            try clear hcz32_0
            try clear hcz32_1
            try clear hcz32_2
            try clear hcz33_0
            try clear hcz33_1
            try clear hcz33_2
            try clear hcz36_0
            try clear hcz36_1
            try clear hcz36_2
            try clear hcz37_0
            try clear hcz37_1
            try clear hcz37_2
            try clear hcz40_0
            try clear hcz40_1
            try clear hcz40_2
            try clear hcz43_0
            try clear hcz43_1
            try clear hcz43_2
            try clear hfz10_0
            try clear hfz10_1
            try clear hfz10_2
            try clear hfz11_0
            try clear hfz11_1
            try clear hfz11_2
            try clear hfz12_0
            try clear hfz12_1
            try clear hfz12_2
            try clear hfz13_0
            try clear hfz13_1
            try clear hfz13_2
            try clear hfz21_0
            try clear hfz21_1
            try clear hfz21_2
            try clear hfz24_0
            try clear hfz24_1
            try clear hfz24_2
            try clear hfz25_0
            try clear hfz25_1
            try clear hfz25_2
            try clear hfz28_0
            try clear hfz28_1
            try clear hfz28_2
            try clear hfz29_0
            try clear hfz29_1
            try clear hfz29_2
            try clear hfz32_0
            try clear hfz32_1
            try clear hfz32_2
            try clear hfz33_0
            try clear hfz33_1
            try clear hfz33_2
            try clear hfz36_0
            try clear hfz36_1
            try clear hfz36_2
            try clear hfz37_0
            try clear hfz37_1
            try clear hfz37_2
            try clear hfz40_0
            try clear hfz40_1
            try clear hfz40_2
            try clear hfz43_0
            try clear hfz43_1
            try clear hfz43_2
            try clear hx173_0
            try clear hx173_1
            try clear hx173_2
            try clear hx176_0
            try clear hx176_1
            try clear hx176_2
            try clear p1
            try clear p17
            try clear p173
            try clear p176
            try clear p2
            try clear p6
            try clear q1
            try clear q17
            try clear q173
            try clear q176
            obtain ⟨x7_4, rfl, HA, HK4, BK169, BK177, HB⟩ := hrel
            cases gk with
            | zero => exact absurd HA.out (by simp [spec_HostOk.l2])
            | succ k4 =>
             have H := HA.out
             clear HA
             simp only [spec_HostOk.l2] at H
             by_cases c44 : x7_4 < 6
             ·rw [if_pos c44] at H
              have c44b0 : decide (x7_4 < 6) = true := decide_eq_true c44
              clear c44
              by_cases c45 : 0 ≤ x7_4
              ·rw [if_pos c45] at H
               have c45b0 : decide (0 ≤ x7_4) = true := decide_eq_true c45
               clear c45
               by_cases c46 : x7_4 < (((rd_T61 l0_1 x5_3).f0).length : Int)
               ·rw [if_pos c46] at H
                have c46b0 : decide (x7_4 < (((rd_T61 l0_1 x5_3).f0).length : Int)) = true := decide_eq_true c46
                clear c46
                by_cases c47 : x7_4 < (((rd_T61 l0_1 x5_3).f1).length : Int)
                ·rw [if_pos c47] at H
                 have c47b0 : decide (x7_4 < (((rd_T61 l0_1 x5_3).f1).length : Int)) = true := decide_eq_true c47
                 clear c47
                 replace H := Option.bind_eq_some_iff.mp H
                 obtain ⟨t180, A480, H⟩ := H
                 replace H : (if t180 = true then (if x7_4 < (((rd_T61 l0_1 x5_3).f2).length : Int) then ((spec_l12ShadeOk.f ((rd_T61 l0_1 x5_3).f0) ((rd_T61 l0_1 x5_3).f1) ((rd_T61 l0_1 x5_3).f2) ((rd_T86 ((rd_T61 l0_1 x5_3).f2) x7_4).f0) ((rd_T86 ((rd_T61 l0_1 x5_3).f2) x7_4).f1) ((rd_T86 ((rd_T61 l0_1 x5_3).f2) x7_4).f2) ((rd_T86 ((rd_T61 l0_1 x5_3).f2) x7_4).f3)).bind fun t182 => (if t182 = true then (spec_HostOk.l2 k4 x5_3 (wrap64 (x7_4 + 1)) l0_0 l0_1 a0_2 ((rd_T61 l0_1 x5_3).f0) ((rd_T61 l0_1 x5_3).f1) ((rd_T61 l0_1 x5_3).f2)) else (some false))) else (none)) else (some false)) = some r := H
                 have A48 := Az.mk A480
                 clear A480
                 by_cases c49 : t180 = true
                 ·subst c49
                  have H1 : (if x7_4 < (((rd_T61 l0_1 x5_3).f2).length : Int) then ((spec_l12ShadeOk.f ((rd_T61 l0_1 x5_3).f0) ((rd_T61 l0_1 x5_3).f1) ((rd_T61 l0_1 x5_3).f2) ((rd_T86 ((rd_T61 l0_1 x5_3).f2) x7_4).f0) ((rd_T86 ((rd_T61 l0_1 x5_3).f2) x7_4).f1) ((rd_T86 ((rd_T61 l0_1 x5_3).f2) x7_4).f2) ((rd_T86 ((rd_T61 l0_1 x5_3).f2) x7_4).f3)).bind fun t182 => (if t182 = true then (spec_HostOk.l2 k4 x5_3 (wrap64 (x7_4 + 1)) l0_0 l0_1 a0_2 ((rd_T61 l0_1 x5_3).f0) ((rd_T61 l0_1 x5_3).f1) ((rd_T61 l0_1 x5_3).f2)) else (some false))) else (none)) = some r := by rw [if_pos rfl] at H; exact H
                  clear H
                  have H := H1
                  clear H1
                  by_cases c50 : x7_4 < (((rd_T61 l0_1 x5_3).f2).length : Int)
                  ·rw [if_pos c50] at H
                   have c50b0 : decide (x7_4 < (((rd_T61 l0_1 x5_3).f2).length : Int)) = true := decide_eq_true c50
                   clear c50
                   replace H := Option.bind_eq_some_iff.mp H
                   obtain ⟨t182, A510, H⟩ := H
                   replace H : (if t182 = true then (spec_HostOk.l2 k4 x5_3 (wrap64 (x7_4 + 1)) l0_0 l0_1 a0_2 ((rd_T61 l0_1 x5_3).f0) ((rd_T61 l0_1 x5_3).f1) ((rd_T61 l0_1 x5_3).f2)) else (some false)) = some r := H
                   have A51 := Az.mk A510
                   clear A510
                   by_cases c52 : t182 = true
                   ·subst c52
                    have H1 : (spec_HostOk.l2 k4 x5_3 (wrap64 (x7_4 + 1)) l0_0 l0_1 a0_2 ((rd_T61 l0_1 x5_3).f0) ((rd_T61 l0_1 x5_3).f1) ((rd_T61 l0_1 x5_3).f2)) = some r := by rw [if_pos rfl] at H; exact H
                    clear H
                    have H := H1
                    clear H1
                    have H' := Az.mk H
                    clear H
                    try go_wp2
                    have n0_ := Az.mk (Zw BK169.out)
                    have n1_ := Az.mk (Zw BK177.out)
                    have n2_ := Az.mk (Yw HB.out)
                    clear BK169
                    clear BK177
                    clear HB
                    have BK169 := n0_
                    have BK177 := n1_
                    have HB := n2_
                    clear n0_ n1_ n2_
                    have p178 : 0 ≤ (x7_4 : Int) := of_decide_eq_true (by first | (with_reducible assumption) | assumption)
                    have q178 : x7_4 < (((rd_T61 l0_1 x5_3).f0).length : Int) := of_decide_eq_true (by first | (with_reducible assumption) | assumption)
                    obtain ⟨ad178, e178, hx178_0, hx178_1, hx178_2⟩ := at_T83 HR176_0.out x7_4 p178 q178
                    have hw178_2 := hx178_2
                    have hw178_1 := hx178_1
                    have hw178_0 := hx178_0
                    cases e178
                    replace hx178_0 := (HB.out.cell (World.block_lt_of_cell? w _ hx178_0)).trans hx178_0
                    replace hx178_1 := (HB.out.cell (World.block_lt_of_cell? w _ hx178_1)).trans hx178_1
                    replace hx178_2 := (HB.out.cell (World.block_lt_of_cell? w _ hx178_2)).trans hx178_2
                    replace p178 := eq_true p178
                    replace q178 := eq_true q178
                    have p179 : 0 ≤ (x7_4 : Int) := of_decide_eq_true (by first | (with_reducible assumption) | assumption)
                    have q179 : x7_4 < (((rd_T61 l0_1 x5_3).f1).length : Int) := of_decide_eq_true (by first | (with_reducible assumption) | assumption)
                    obtain ⟨ad179, A179_0, c179_0, e179, hx179_0, hl179_0, hi179_0⟩ := at_L1 HR176_1.out x7_4 p179 q179
                    have hw179_0 := hx179_0
                    cases e179
                    replace hx179_0 := (HB.out.cell (World.block_lt_of_cell? w _ hx179_0)).trans hx179_0
                    have HR179_0 := Az.mk hi179_0
                    have HC179_0 := Az.mk hl179_0
                    clear hi179_0 hl179_0
                    replace p179 := eq_true p179
                    replace q179 := eq_true q179
                    have p181 : 0 ≤ (x7_4 : Int) := of_decide_eq_true (by first | (with_reducible assumption) | assumption)
                    have q181 : x7_4 < (((rd_T61 l0_1 x5_3).f2).length : Int) := of_decide_eq_true (by first | (with_reducible assumption) | assumption)
                    obtain ⟨ad181, e181, hx181_0, hx181_1, hx181_2, hx181_3⟩ := at_T86 HR176_2.out x7_4 p181 q181
                    have hw181_3 := hx181_3
                    have hw181_2 := hx181_2
                    have hw181_1 := hx181_1
                    have hw181_0 := hx181_0
                    cases e181
                    replace hx181_0 := (HB.out.cell (World.block_lt_of_cell? w _ hx181_0)).trans hx181_0
                    replace hx181_1 := (HB.out.cell (World.block_lt_of_cell? w _ hx181_1)).trans hx181_1
                    replace hx181_2 := (HB.out.cell (World.block_lt_of_cell? w _ hx181_2)).trans hx181_2
                    replace hx181_3 := (HB.out.cell (World.block_lt_of_cell? w _ hx181_3)).trans hx181_3
                    replace p181 := eq_true p181
                    replace q181 := eq_true q181
                    refine start_ (n := 23) (S := fun w' => w'.cell? ⟨gb169, 0, none⟩ = some (.slice A0_0 l0_0.length c0_0) ∧ w'.cell? ⟨gb169, 1, none⟩ = some (.slice (some ad176) l0_1.length c0_1) ∧ w'.cell? ⟨gb169, 2, none⟩ = some (.int .i64 a0_2) ∧ w'.cell? ⟨gb177, 0, none⟩ = some (.slice (some ad178) ((rd_T61 l0_1 x5_3).f0).length c176_0) ∧ w'.cell? ⟨gb177, 1, none⟩ = some (.slice (some ad179) ((rd_T61 l0_1 x5_3).f1).length c176_1) ∧ w'.cell? ⟨gb177, 2, none⟩ = some (.slice (some ad181) ((rd_T61 l0_1 x5_3).f2).length c176_2) ∧ w'.cell? (ad178.add ((x7_4).toNat * 3)) = some (.bool ((rd_T83 ((rd_T61 l0_1 x5_3).f0) x7_4).f0)) ∧ w'.cell? ⟨(ad178.add ((x7_4).toNat * 3)).block, (ad178.add ((x7_4).toNat * 3)).off + 1, none⟩ = some (.int .i64 ((rd_T83 ((rd_T61 l0_1 x5_3).f0) x7_4).f1)) ∧ w'.cell? ⟨(ad178.add ((x7_4).toNat * 3)).block, (ad178.add ((x7_4).toNat * 3)).off + 2, none⟩ = some (.bool ((rd_T83 ((rd_T61 l0_1 x5_3).f0) x7_4).f2)) ∧ w'.cell? (ad179.add (x7_4).toNat) = some (.slice A179_0 (rd_L1 ((rd_T61 l0_1 x5_3).f1) x7_4).length c179_0) ∧ w'.cell? (ad181.add ((x7_4).toNat * 4)) = some (.bool ((rd_T86 ((rd_T61 l0_1 x5_3).f2) x7_4).f0)) ∧ w'.cell? ⟨(ad181.add ((x7_4).toNat * 4)).block, (ad181.add ((x7_4).toNat * 4)).off + 1, none⟩ = some (.int .i64 ((rd_T86 ((rd_T61 l0_1 x5_3).f2) x7_4).f1)) ∧ w'.cell? ⟨(ad181.add ((x7_4).toNat * 4)).block, (ad181.add ((x7_4).toNat * 4)).off + 2, none⟩ = some (.int .i64 ((rd_T86 ((rd_T61 l0_1 x5_3).f2) x7_4).f2)) ∧ w'.cell? ⟨(ad181.add ((x7_4).toNat * 4)).block, (ad181.add ((x7_4).toNat * 4)).off + 3, none⟩ = some (.bool ((rd_T86 ((rd_T61 l0_1 x5_3).f2) x7_4).f3))) (ds := []) #[false, false, false, false, false, false, false, false, false, false, false, false, false, false, false, false, false, false, false, false, false, false, false] (by kernel_rfl) rfl rfl ⟨(Zc BK169.out 0).trans rfl, (Zc BK169.out 1).trans rfl, (Zc BK169.out 2).trans rfl, (Zc BK177.out 0).trans rfl, (Zc BK177.out 1).trans rfl, (Zc BK177.out 2).trans rfl, (by first | exact ((HB.out.cell (World.block_lt_of_cell? w _ hw178_0)).trans hw178_0) | exact hx178_0), (by first | exact ((HB.out.cell (World.block_lt_of_cell? w _ hw178_1)).trans hw178_1) | exact hx178_1), (by first | exact ((HB.out.cell (World.block_lt_of_cell? w _ hw178_2)).trans hw178_2) | exact hx178_2), (by first | exact ((HB.out.cell (World.block_lt_of_cell? w _ hw179_0)).trans hw179_0) | exact hx179_0), (by first | exact ((HB.out.cell (World.block_lt_of_cell? w _ hw181_0)).trans hw181_0) | exact hx181_0), (by first | exact ((HB.out.cell (World.block_lt_of_cell? w _ hw181_1)).trans hw181_1) | exact hx181_1), (by first | exact ((HB.out.cell (World.block_lt_of_cell? w _ hw181_2)).trans hw181_2) | exact hx181_2), (by first | exact ((HB.out.cell (World.block_lt_of_cell? w _ hw181_3)).trans hw181_3) | exact hx181_3)⟩ (fun hHeld => ?_); refine with_tabW spec_HostOk.tab16 spec_HostOk.bits16 (fun HT_ HW_ => ?_)
                    generalize wr.drew = w53 at BK169 BK177 HB HR179_0 hx178_0 hx178_1 hx178_2 hx179_0 hx181_0 hx181_1 hx181_2 hx181_3 hHeld ⊢
                    refine pure_ (i := 1) (N := some 76) (v := ?_) (a' := ?_) #[false, true, false, false, false, false, false, false, false, false, false, false, false, false, false, false, false, false, false, false, false, false, false] rfl rfl (any_of HT_.out (by kernel_rfl)) (fun _ _ _ h => h) (Or.inl ⟨by rfl, ?_⟩) ?_ ?_
                    rotate_left
                    ·intro w'
                     go_simp
                     with_reducible rfl
                    rotate_left
                    ·simp only [Act.put, List.setIfInBounds_toArray, List.set_cons_zero, List.set_cons_succ, i64_w, i32_w]
                     rfl
                    refine pure_ (i := 3) (N := some 78) (v := ?_) (a' := ?_) #[false, true, false, true, false, false, false, false, false, false, false, false, false, false, false, false, false, false, false, false, false, false, false] rfl rfl (any_of HT_.out (by kernel_rfl)) (fun _ _ _ h => h) (Or.inl ⟨by rfl, ?_⟩) ?_ ?_
                    rotate_left
                    ·intro w'
                     go_simp
                     with_reducible rfl
                    rotate_left
                    ·simp only [Act.put, List.setIfInBounds_toArray, List.set_cons_zero, List.set_cons_succ, i64_w, i32_w]
                     rfl
                    refine pure_ (i := 6) (N := some 81) (v := ?_) (a' := ?_) #[false, true, false, true, false, false, true, false, false, false, false, false, false, false, false, false, false, false, false, false, false, false, false] rfl rfl (any_of HT_.out (by kernel_rfl)) (fun _ _ _ h => h) (Or.inl ⟨by rfl, ?_⟩) ?_ ?_
                    rotate_left
                    ·intro w'
                     go_simp
                     with_reducible rfl
                    rotate_left
                    ·simp only [Act.put, List.setIfInBounds_toArray, List.set_cons_zero, List.set_cons_succ, i64_w, i32_w]
                     rfl
                    refine pure_ (i := 8) (N := some 83) (v := ?_) (a' := ?_) #[false, true, false, true, false, false, true, false, true, false, false, false, false, false, false, false, false, false, false, false, false, false, false] rfl rfl (any_of HT_.out (by kernel_rfl)) (fun _ _ _ h => h) (Or.inl ⟨by rfl, ?_⟩) ?_ ?_
                    rotate_left
                    ·intro w'
                     go_simp
                     with_reducible rfl
                    rotate_left
                    ·simp only [Act.put, List.setIfInBounds_toArray, List.set_cons_zero, List.set_cons_succ, i64_w, i32_w]
                     rfl
                    refine take_ (i := 0) (N := some 75) (v := ?_) (a' := ?_) #[true, true, false, true, false, false, true, false, true, false, false, false, false, false, false, false, false, false, false, false, false, false, false] rfl rfl (take_ofW HT_.out HW_.out (by kernel_rfl)) (fun _ _ _ h => h) (Or.inl ⟨by rfl, ?_⟩) hHeld ?_ ?_
                    rotate_left
                    ·rintro w' ⟨s0, s1, s2, s3, s4, s5, s6, s7, s8, s9, s10, s11, s12, s13⟩
                     go_simp
                     with_reducible rfl
                    rotate_left
                    ·simp only [Act.put, List.setIfInBounds_toArray, List.set_cons_zero, List.set_cons_succ, i64_w, i32_w]
                     rfl
                    refine take_ (i := 2) (N := some 77) (v := ?_) (a' := ?_) #[true, true, true, true, false, false, true, false, true, false, false, false, false, false, false, false, false, false, false, false, false, false, false] rfl rfl (take_ofW HT_.out HW_.out (by kernel_rfl)) (fun _ _ _ h => h) (Or.inl ⟨by rfl, ?_⟩) hHeld ?_ ?_
                    rotate_left
                    ·rintro w' ⟨s0, s1, s2, s3, s4, s5, s6, s7, s8, s9, s10, s11, s12, s13⟩
                     go_simp
                     with_reducible rfl
                    rotate_left
                    ·simp only [Act.put, List.setIfInBounds_toArray, List.set_cons_zero, List.set_cons_succ, i64_w, i32_w]
                     rfl
                    refine pure_ (i := 4) (N := some 79) (v := ?_) (a' := ?_) #[true, true, true, true, true, false, true, false, true, false, false, false, false, false, false, false, false, false, false, false, false, false, false] rfl rfl (any_of HT_.out (by kernel_rfl)) (fun _ _ _ h => h) (Or.inl ⟨by rfl, ?_⟩) ?_ ?_
                    rotate_left
                    ·intro w'
                     go_simp
                     with_reducible rfl
                    rotate_left
                    ·simp only [Act.put, List.setIfInBounds_toArray, List.set_cons_zero, List.set_cons_succ, i64_w, i32_w]
                     rfl
                    refine take_ (i := 5) (N := some 80) (v := ?_) (a' := ?_) #[true, true, true, true, true, true, true, false, true, false, false, false, false, false, false, false, false, false, false, false, false, false, false] rfl rfl (take_ofW HT_.out HW_.out (by kernel_rfl)) (fun _ _ _ h => h) (Or.inl ⟨by rfl, ?_⟩) hHeld ?_ ?_
                    rotate_left
                    ·rintro w' ⟨s0, s1, s2, s3, s4, s5, s6, s7, s8, s9, s10, s11, s12, s13⟩
                     go_simp
                     with_reducible rfl
                    rotate_left
                    ·simp only [Act.put, List.setIfInBounds_toArray, List.set_cons_zero, List.set_cons_succ, i64_w, i32_w]
                     rfl
                    refine take_ (i := 7) (N := some 82) (v := ?_) (a' := ?_) #[true, true, true, true, true, true, true, true, true, false, false, false, false, false, false, false, false, false, false, false, false, false, false] rfl rfl (take_ofW HT_.out HW_.out (by kernel_rfl)) (fun _ _ _ h => h) (Or.inl ⟨by rfl, ?_⟩) hHeld ?_ ?_
                    rotate_left
                    ·rintro w' ⟨s0, s1, s2, s3, s4, s5, s6, s7, s8, s9, s10, s11, s12, s13⟩
                     go_simp
                     with_reducible rfl
                    rotate_left
                    ·simp only [Act.put, List.setIfInBounds_toArray, List.set_cons_zero, List.set_cons_succ, i64_w, i32_w]
                     rfl
                    refine pure_ (i := 9) (N := some 84) (v := ?_) (a' := ?_) #[true, true, true, true, true, true, true, true, true, true, false, false, false, false, false, false, false, false, false, false, false, false, false] rfl rfl (any_of HT_.out (by kernel_rfl)) (fun _ _ _ h => h) (Or.inl ⟨by rfl, ?_⟩) ?_ ?_
                    rotate_left
                    ·intro w'
                     go_simp
                     with_reducible rfl
                    rotate_left
                    ·simp only [Act.put, List.setIfInBounds_toArray, List.set_cons_zero, List.set_cons_succ, i64_w, i32_w]
                     rfl
                    refine take_ (i := 10) (N := some 85) (v := ?_) (a' := ?_) #[true, true, true, true, true, true, true, true, true, true, true, false, false, false, false, false, false, false, false, false, false, false, false] rfl rfl (take_ofW HT_.out HW_.out (by kernel_rfl)) (fun _ _ _ h => h) (Or.inl ⟨by rfl, ?_⟩) hHeld ?_ ?_
                    rotate_left
                    ·rintro w' ⟨s0, s1, s2, s3, s4, s5, s6, s7, s8, s9, s10, s11, s12, s13⟩
                     go_simp
                     with_reducible rfl
                    rotate_left
                    ·simp only [Act.put, List.setIfInBounds_toArray, List.set_cons_zero, List.set_cons_succ, i64_w, i32_w]
                     rfl
                    refine one_ (i := 11) (N := some 86) #[true, true, true, true, true, true, true, true, true, true, true, true, false, false, false, false, false, false, false, false, false, false, false] rfl rfl (one_of HT_.out (by kernel_rfl)) (by decide) (fun K hK => ?_)
                    refine goes_ Try.func63 (by kernel_rfl) rfl #[.agg #[.slice A0_0 l0_0.length c0_0, .slice (some ad176) l0_1.length c0_1, .int .i64 a0_2], .agg #[.bool ((rd_T83 ((rd_T61 l0_1 x5_3).f0) x7_4).f0), .int .i64 ((rd_T83 ((rd_T61 l0_1 x5_3).f0) x7_4).f1), .bool ((rd_T83 ((rd_T61 l0_1 x5_3).f0) x7_4).f2)], .slice A179_0 (rd_L1 ((rd_T61 l0_1 x5_3).f1) x7_4).length c179_0] (by rfl) rfl rfl (by (try simp only [List.map_toArray, List.map_cons, List.map_nil]); first | done | rfl | (simp only [List.length_drop, List.length_take]; rfl)) ?_
                    with_reducible refine (spec_l12MapOk.calls k4 _ _ l0_0 _ _ l0_1 a0_2 ((rd_T83 ((rd_T61 l0_1 x5_3).f0) x7_4).f0) ((rd_T83 ((rd_T61 l0_1 x5_3).f0) x7_4).f1) ((rd_T83 ((rd_T61 l0_1 x5_3).f0) x7_4).f2) _ _ (rd_L1 ((rd_T61 l0_1 x5_3).f1) x7_4) true _ ?side1 ?side2 ?side3 ?side4 ?side5 ?side6 A48.out).mono ?_
                    (case side1 => repeat (first | exact (Kd.Cb_ HR0_0.out HB.out) | exact HR0_0.out | (with_reducible refine Kd.Ca_ ?_ _) | (with_reducible refine Kd.Cn_ ?_ _) | (with_reducible refine Kd.Cw_ ?_)))
                    (case side2 => exact HC0_0.out)
                    (case side3 => repeat (first | exact (Kd.Cb_ HR0_1.out HB.out) | exact HR0_1.out | (with_reducible refine Kd.Ca_ ?_ _) | (with_reducible refine Kd.Cn_ ?_ _) | (with_reducible refine Kd.Cw_ ?_)))
                    (case side4 => exact HC0_1.out)
                    (case side5 => repeat (first | exact (Kd.Cb_ HR179_0.out HB.out) | exact HR179_0.out | (with_reducible refine Kd.Ca_ ?_ _) | (with_reducible refine Kd.Cn_ ?_ _) | (with_reducible refine Kd.Cw_ ?_)))
                    (case side6 => exact HC179_0.out)
                    rintro e w54 ⟨rfl, hb⟩
                    refine ⟨_, rfl, ?_⟩
                    have n0_ := Az.mk (Zb (g := gb169) (o := .cells #[.slice A0_0 l0_0.length c0_0, .slice (some ad176) l0_1.length c0_1, .int .i64 a0_2] 31 (0, 0)) (by (with_reducible repeat (first | refine Zn ?_ _ | refine Zw ?_ | refine Za ?_ _)); exact BK169.out) hb)
                    have n1_ := Az.mk (Zb (g := gb177) (o := .cells #[.slice (some ad178) ((rd_T61 l0_1 x5_3).f0).length c176_0, .slice (some ad179) ((rd_T61 l0_1 x5_3).f1).length c176_1, .slice (some ad181) ((rd_T61 l0_1 x5_3).f2).length c176_2] 61 (0, 0)) (by (with_reducible repeat (first | refine Zn ?_ _ | refine Zw ?_ | refine Za ?_ _)); exact BK177.out) hb)
                    have n2_ := Az.mk (Yt (by repeat (first | (with_reducible first | exact HB.out | apply Ya | apply Yn | apply Yw | refine Ys ?_ GE169.out | refine Ys ?_ GE177.out) | exact HB.out)) hb)
                    clear BK169
                    clear BK177
                    clear HB
                    have BK169 := n0_
                    have BK177 := n1_
                    have HB := n2_
                    clear n0_ n1_ n2_
                    (try clear hb)
                    (try clear hb2)
                    (try clear hk)
                    (try clear hi)
                    refine hK.out _ _ ⟨(Zc BK169.out 0).trans rfl, (Zc BK169.out 1).trans rfl, (Zc BK169.out 2).trans rfl, (Zc BK177.out 0).trans rfl, (Zc BK177.out 1).trans rfl, (Zc BK177.out 2).trans rfl, (by first | exact ((HB.out.cell (World.block_lt_of_cell? w _ hw178_0)).trans hw178_0) | exact hx178_0), (by first | exact ((HB.out.cell (World.block_lt_of_cell? w _ hw178_1)).trans hw178_1) | exact hx178_1), (by first | exact ((HB.out.cell (World.block_lt_of_cell? w _ hw178_2)).trans hw178_2) | exact hx178_2), (by first | exact ((HB.out.cell (World.block_lt_of_cell? w _ hw179_0)).trans hw179_0) | exact hx179_0), (by first | exact ((HB.out.cell (World.block_lt_of_cell? w _ hw181_0)).trans hw181_0) | exact hx181_0), (by first | exact ((HB.out.cell (World.block_lt_of_cell? w _ hw181_1)).trans hw181_1) | exact hx181_1), (by first | exact ((HB.out.cell (World.block_lt_of_cell? w _ hw181_2)).trans hw181_2) | exact hx181_2), (by first | exact ((HB.out.cell (World.block_lt_of_cell? w _ hw181_3)).trans hw181_3) | exact hx181_3)⟩ (fun hHeld => ?_)
                    clear hK K
                    refine norm_ (a' := ?_) ?_ ?_
                    rotate_left
                    ·show Act.put _ (some 86) _ = _
                     simp only [Act.put, List.setIfInBounds_toArray, List.set_cons_zero, List.set_cons_succ, i64_w, i32_w]
                     rfl
                    refine pure_ (i := 12) (N := some 87) (v := ?_) (a' := ?_) #[true, true, true, true, true, true, true, true, true, true, true, true, true, false, false, false, false, false, false, false, false, false, false] rfl rfl (any_of HT_.out (by kernel_rfl)) (fun _ _ _ h => h) (Or.inl ⟨by rfl, ?_⟩) ?_ ?_
                    rotate_left
                    ·intro w'
                     go_simp
                     with_reducible rfl
                    rotate_left
                    ·simp only [Act.put, List.setIfInBounds_toArray, List.set_cons_zero, List.set_cons_succ, i64_w, i32_w]
                     rfl
                    refine pure_ (i := 13) (N := some 88) (v := ?_) (a' := ?_) #[true, true, true, true, true, true, true, true, true, true, true, true, true, true, false, false, false, false, false, false, false, false, false] rfl rfl (any_of HT_.out (by kernel_rfl)) (fun _ _ _ h => h) (Or.inl ⟨by rfl, ?_⟩) ?_ ?_
                    rotate_left
                    ·intro w'
                     go_simp
                     with_reducible rfl
                    rotate_left
                    ·simp only [Act.put, List.setIfInBounds_toArray, List.set_cons_zero, List.set_cons_succ, i64_w, i32_w]
                     rfl
                    refine pure_ (i := 15) (N := some 90) (v := ?_) (a' := ?_) #[true, true, true, true, true, true, true, true, true, true, true, true, true, true, false, true, false, false, false, false, false, false, false] rfl rfl (any_of HT_.out (by kernel_rfl)) (fun _ _ _ h => h) (Or.inl ⟨by rfl, ?_⟩) ?_ ?_
                    rotate_left
                    ·intro w'
                     go_simp
                     with_reducible rfl
                    rotate_left
                    ·simp only [Act.put, List.setIfInBounds_toArray, List.set_cons_zero, List.set_cons_succ, i64_w, i32_w]
                     rfl
                    refine pure_ (i := 17) (N := some 92) (v := ?_) (a' := ?_) #[true, true, true, true, true, true, true, true, true, true, true, true, true, true, false, true, false, true, false, false, false, false, false] rfl rfl (any_of HT_.out (by kernel_rfl)) (fun _ _ _ h => h) (Or.inl ⟨by rfl, ?_⟩) ?_ ?_
                    rotate_left
                    ·intro w'
                     go_simp
                     with_reducible rfl
                    rotate_left
                    ·simp only [Act.put, List.setIfInBounds_toArray, List.set_cons_zero, List.set_cons_succ, i64_w, i32_w]
                     rfl
                    refine take_ (i := 14) (N := some 89) (v := ?_) (a' := ?_) #[true, true, true, true, true, true, true, true, true, true, true, true, true, true, true, true, false, true, false, false, false, false, false] rfl rfl (take_ofW HT_.out HW_.out (by kernel_rfl)) (fun _ _ _ h => h) (Or.inl ⟨by rfl, ?_⟩) hHeld ?_ ?_
                    rotate_left
                    ·rintro w' ⟨s0, s1, s2, s3, s4, s5, s6, s7, s8, s9, s10, s11, s12, s13⟩
                     go_simp
                     with_reducible rfl
                    rotate_left
                    ·simp only [Act.put, List.setIfInBounds_toArray, List.set_cons_zero, List.set_cons_succ, i64_w, i32_w]
                     rfl
                    refine take_ (i := 16) (N := some 91) (v := ?_) (a' := ?_) #[true, true, true, true, true, true, true, true, true, true, true, true, true, true, true, true, true, true, false, false, false, false, false] rfl rfl (take_ofW HT_.out HW_.out (by kernel_rfl)) (fun _ _ _ h => h) (Or.inl ⟨by rfl, ?_⟩) hHeld ?_ ?_
                    rotate_left
                    ·rintro w' ⟨s0, s1, s2, s3, s4, s5, s6, s7, s8, s9, s10, s11, s12, s13⟩
                     go_simp
                     with_reducible rfl
                    rotate_left
                    ·simp only [Act.put, List.setIfInBounds_toArray, List.set_cons_zero, List.set_cons_succ, i64_w, i32_w]
                     rfl
                    refine pure_ (i := 18) (N := some 93) (v := ?_) (a' := ?_) #[true, true, true, true, true, true, true, true, true, true, true, true, true, true, true, true, true, true, true, false, false, false, false] rfl rfl (any_of HT_.out (by kernel_rfl)) (fun _ _ _ h => h) (Or.inl ⟨by rfl, ?_⟩) ?_ ?_
                    rotate_left
                    ·intro w'
                     go_simp
                     with_reducible rfl
                    rotate_left
                    ·simp only [Act.put, List.setIfInBounds_toArray, List.set_cons_zero, List.set_cons_succ, i64_w, i32_w]
                     rfl
                    refine take_ (i := 19) (N := some 94) (v := ?_) (a' := ?_) #[true, true, true, true, true, true, true, true, true, true, true, true, true, true, true, true, true, true, true, true, false, false, false] rfl rfl (take_ofW HT_.out HW_.out (by kernel_rfl)) (fun _ _ _ h => h) (Or.inl ⟨by rfl, ?_⟩) hHeld ?_ ?_
                    rotate_left
                    ·rintro w' ⟨s0, s1, s2, s3, s4, s5, s6, s7, s8, s9, s10, s11, s12, s13⟩
                     go_simp
                     with_reducible rfl
                    rotate_left
                    ·simp only [Act.put, List.setIfInBounds_toArray, List.set_cons_zero, List.set_cons_succ, i64_w, i32_w]
                     rfl
                    refine one_ (i := 20) (N := some 95) #[true, true, true, true, true, true, true, true, true, true, true, true, true, true, true, true, true, true, true, true, true, false, false] rfl rfl (one_of HT_.out (by kernel_rfl)) (by decide) (fun K hK => ?_)
                    refine goes_ Try.func64 (by kernel_rfl) rfl #[.agg #[.slice (some ad178) ((rd_T61 l0_1 x5_3).f0).length c176_0, .slice (some ad179) ((rd_T61 l0_1 x5_3).f1).length c176_1, .slice (some ad181) ((rd_T61 l0_1 x5_3).f2).length c176_2], .agg #[.bool ((rd_T86 ((rd_T61 l0_1 x5_3).f2) x7_4).f0), .int .i64 ((rd_T86 ((rd_T61 l0_1 x5_3).f2) x7_4).f1), .int .i64 ((rd_T86 ((rd_T61 l0_1 x5_3).f2) x7_4).f2), .bool ((rd_T86 ((rd_T61 l0_1 x5_3).f2) x7_4).f3)]] (by rfl) rfl rfl (by (try simp only [List.map_toArray, List.map_cons, List.map_nil]); first | done | rfl | (simp only [List.length_drop, List.length_take]; rfl)) ?_
                    with_reducible refine (spec_l12ShadeOk.calls _ _ ((rd_T61 l0_1 x5_3).f0) _ _ ((rd_T61 l0_1 x5_3).f1) _ _ ((rd_T61 l0_1 x5_3).f2) ((rd_T86 ((rd_T61 l0_1 x5_3).f2) x7_4).f0) ((rd_T86 ((rd_T61 l0_1 x5_3).f2) x7_4).f1) ((rd_T86 ((rd_T61 l0_1 x5_3).f2) x7_4).f2) ((rd_T86 ((rd_T61 l0_1 x5_3).f2) x7_4).f3) true _ ?side1 ?side2 ?side3 ?side4 ?side5 ?side6 A51.out).mono ?_
                    (case side1 => repeat (first | exact (Kd.Cb_ HR176_0.out HB.out) | exact HR176_0.out | (with_reducible refine Kd.Ca_ ?_ _) | (with_reducible refine Kd.Cn_ ?_ _) | (with_reducible refine Kd.Cw_ ?_)))
                    (case side2 => exact HC176_0.out)
                    (case side3 => repeat (first | exact (Kd.Cb_ HR176_1.out HB.out) | exact HR176_1.out | (with_reducible refine Kd.Ca_ ?_ _) | (with_reducible refine Kd.Cn_ ?_ _) | (with_reducible refine Kd.Cw_ ?_)))
                    (case side4 => exact HC176_1.out)
                    (case side5 => repeat (first | exact (Kd.Cb_ HR176_2.out HB.out) | exact HR176_2.out | (with_reducible refine Kd.Ca_ ?_ _) | (with_reducible refine Kd.Cn_ ?_ _) | (with_reducible refine Kd.Cw_ ?_)))
                    (case side6 => exact HC176_2.out)
                    rintro e w55 ⟨rfl, hb⟩
                    refine ⟨_, rfl, ?_⟩
                    have n0_ := Az.mk (Zb (g := gb169) (o := .cells #[.slice A0_0 l0_0.length c0_0, .slice (some ad176) l0_1.length c0_1, .int .i64 a0_2] 31 (0, 0)) (by (with_reducible repeat (first | refine Zn ?_ _ | refine Zw ?_ | refine Za ?_ _)); exact BK169.out) hb)
                    have n1_ := Az.mk (Zb (g := gb177) (o := .cells #[.slice (some ad178) ((rd_T61 l0_1 x5_3).f0).length c176_0, .slice (some ad179) ((rd_T61 l0_1 x5_3).f1).length c176_1, .slice (some ad181) ((rd_T61 l0_1 x5_3).f2).length c176_2] 61 (0, 0)) (by (with_reducible repeat (first | refine Zn ?_ _ | refine Zw ?_ | refine Za ?_ _)); exact BK177.out) hb)
                    have n2_ := Az.mk (Yt (by repeat (first | (with_reducible first | exact HB.out | apply Ya | apply Yn | apply Yw | refine Ys ?_ GE169.out | refine Ys ?_ GE177.out) | exact HB.out)) hb)
                    clear BK169
                    clear BK177
                    clear HB
                    have BK169 := n0_
                    have BK177 := n1_
                    have HB := n2_
                    clear n0_ n1_ n2_
                    (try clear hb)
                    (try clear hb2)
                    (try clear hk)
                    (try clear hi)
                    refine hK.out _ _ ⟨(Zc BK169.out 0).trans rfl, (Zc BK169.out 1).trans rfl, (Zc BK169.out 2).trans rfl, (Zc BK177.out 0).trans rfl, (Zc BK177.out 1).trans rfl, (Zc BK177.out 2).trans rfl, (by first | exact ((HB.out.cell (World.block_lt_of_cell? w _ hw178_0)).trans hw178_0) | exact hx178_0), (by first | exact ((HB.out.cell (World.block_lt_of_cell? w _ hw178_1)).trans hw178_1) | exact hx178_1), (by first | exact ((HB.out.cell (World.block_lt_of_cell? w _ hw178_2)).trans hw178_2) | exact hx178_2), (by first | exact ((HB.out.cell (World.block_lt_of_cell? w _ hw179_0)).trans hw179_0) | exact hx179_0), (by first | exact ((HB.out.cell (World.block_lt_of_cell? w _ hw181_0)).trans hw181_0) | exact hx181_0), (by first | exact ((HB.out.cell (World.block_lt_of_cell? w _ hw181_1)).trans hw181_1) | exact hx181_1), (by first | exact ((HB.out.cell (World.block_lt_of_cell? w _ hw181_2)).trans hw181_2) | exact hx181_2), (by first | exact ((HB.out.cell (World.block_lt_of_cell? w _ hw181_3)).trans hw181_3) | exact hx181_3)⟩ (fun hHeld => ?_)
                    clear hK K
                    refine norm_ (a' := ?_) ?_ ?_
                    rotate_left
                    ·show Act.put _ (some 95) _ = _
                     simp only [Act.put, List.setIfInBounds_toArray, List.set_cons_zero, List.set_cons_succ, i64_w, i32_w]
                     rfl
                    refine pure_ (i := 21) (N := some 96) (v := ?_) (a' := ?_) #[true, true, true, true, true, true, true, true, true, true, true, true, true, true, true, true, true, true, true, true, true, true, false] rfl rfl (any_of HT_.out (by kernel_rfl)) (fun _ _ _ h => h) (Or.inl ⟨by rfl, ?_⟩) ?_ ?_
                    rotate_left
                    ·intro w'
                     go_simp
                     with_reducible rfl
                    rotate_left
                    ·simp only [Act.put, List.setIfInBounds_toArray, List.set_cons_zero, List.set_cons_succ, i64_w, i32_w]
                     rfl
                    refine pure_ (i := 22) (N := some 97) (v := ?_) (a' := ?_) #[true, true, true, true, true, true, true, true, true, true, true, true, true, true, true, true, true, true, true, true, true, true, true] rfl rfl (any_of HT_.out (by kernel_rfl)) (fun _ _ _ h => h) (Or.inl ⟨by rfl, ?_⟩) ?_ ?_
                    rotate_left
                    ·intro w'
                     go_simp
                     with_reducible rfl
                    rotate_left
                    ·simp only [Act.put, List.setIfInBounds_toArray, List.set_cons_zero, List.set_cons_succ, i64_w, i32_w]
                     rfl
                    refine done_ (done_of HT_.out (by kernel_rfl)) ?_
                    try go_wp2
                    go_roundg k4
                    case measure => have := HJ1.out; have := HK2.out; have := HK3.out; have := HK4.out; omega
                    case rel => exact ⟨(wrap64 (x7_4 + 1)), (by first | rfl | (simp; done) | (simp [*]; done)), H', ⟨by have := HJ1.out; have := HK2.out; have := HK3.out; have := HK4.out; omega⟩, ⟨by (with_reducible repeat (first | refine Zn ?_ _ | refine Zw ?_ | refine Za ?_ _)); exact BK169.out⟩, ⟨by (with_reducible repeat (first | refine Zn ?_ _ | refine Zw ?_ | refine Za ?_ _)); exact BK177.out⟩, ⟨by repeat (first | (with_reducible first | exact HB.out | apply Ya | apply Yn | apply Yw | refine Ys ?_ GE169.out | refine Ys ?_ GE177.out) | exact HB.out)⟩⟩
                   ·replace c52 := Bool.eq_false_iff.mpr c52
                    subst c52
                    have H1 : (some false) = some r := by rw [if_neg (show ¬ (false = true) by decide)] at H; exact H
                    clear H
                    have H := H1
                    clear H1
                    obtain rfl := Option.some.inj H
                    try go_wp2
                    have n0_ := Az.mk (Zw BK169.out)
                    have n1_ := Az.mk (Zw BK177.out)
                    have n2_ := Az.mk (Yw HB.out)
                    clear BK169
                    clear BK177
                    clear HB
                    have BK169 := n0_
                    have BK177 := n1_
                    have HB := n2_
                    clear n0_ n1_ n2_
                    have p178 : 0 ≤ (x7_4 : Int) := of_decide_eq_true (by first | (with_reducible assumption) | assumption)
                    have q178 : x7_4 < (((rd_T61 l0_1 x5_3).f0).length : Int) := of_decide_eq_true (by first | (with_reducible assumption) | assumption)
                    obtain ⟨ad178, e178, hx178_0, hx178_1, hx178_2⟩ := at_T83 HR176_0.out x7_4 p178 q178
                    have hw178_2 := hx178_2
                    have hw178_1 := hx178_1
                    have hw178_0 := hx178_0
                    cases e178
                    replace hx178_0 := (HB.out.cell (World.block_lt_of_cell? w _ hx178_0)).trans hx178_0
                    replace hx178_1 := (HB.out.cell (World.block_lt_of_cell? w _ hx178_1)).trans hx178_1
                    replace hx178_2 := (HB.out.cell (World.block_lt_of_cell? w _ hx178_2)).trans hx178_2
                    replace p178 := eq_true p178
                    replace q178 := eq_true q178
                    have p179 : 0 ≤ (x7_4 : Int) := of_decide_eq_true (by first | (with_reducible assumption) | assumption)
                    have q179 : x7_4 < (((rd_T61 l0_1 x5_3).f1).length : Int) := of_decide_eq_true (by first | (with_reducible assumption) | assumption)
                    obtain ⟨ad179, A179_0, c179_0, e179, hx179_0, hl179_0, hi179_0⟩ := at_L1 HR176_1.out x7_4 p179 q179
                    have hw179_0 := hx179_0
                    cases e179
                    replace hx179_0 := (HB.out.cell (World.block_lt_of_cell? w _ hx179_0)).trans hx179_0
                    have HR179_0 := Az.mk hi179_0
                    have HC179_0 := Az.mk hl179_0
                    clear hi179_0 hl179_0
                    replace p179 := eq_true p179
                    replace q179 := eq_true q179
                    have p181 : 0 ≤ (x7_4 : Int) := of_decide_eq_true (by first | (with_reducible assumption) | assumption)
                    have q181 : x7_4 < (((rd_T61 l0_1 x5_3).f2).length : Int) := of_decide_eq_true (by first | (with_reducible assumption) | assumption)
                    obtain ⟨ad181, e181, hx181_0, hx181_1, hx181_2, hx181_3⟩ := at_T86 HR176_2.out x7_4 p181 q181
                    have hw181_3 := hx181_3
                    have hw181_2 := hx181_2
                    have hw181_1 := hx181_1
                    have hw181_0 := hx181_0
                    cases e181
                    replace hx181_0 := (HB.out.cell (World.block_lt_of_cell? w _ hx181_0)).trans hx181_0
                    replace hx181_1 := (HB.out.cell (World.block_lt_of_cell? w _ hx181_1)).trans hx181_1
                    replace hx181_2 := (HB.out.cell (World.block_lt_of_cell? w _ hx181_2)).trans hx181_2
                    replace hx181_3 := (HB.out.cell (World.block_lt_of_cell? w _ hx181_3)).trans hx181_3
                    replace p181 := eq_true p181
                    replace q181 := eq_true q181
                    refine start_ (n := 23) (S := fun w' => w'.cell? ⟨gb169, 0, none⟩ = some (.slice A0_0 l0_0.length c0_0) ∧ w'.cell? ⟨gb169, 1, none⟩ = some (.slice (some ad176) l0_1.length c0_1) ∧ w'.cell? ⟨gb169, 2, none⟩ = some (.int .i64 a0_2) ∧ w'.cell? ⟨gb177, 0, none⟩ = some (.slice (some ad178) ((rd_T61 l0_1 x5_3).f0).length c176_0) ∧ w'.cell? ⟨gb177, 1, none⟩ = some (.slice (some ad179) ((rd_T61 l0_1 x5_3).f1).length c176_1) ∧ w'.cell? ⟨gb177, 2, none⟩ = some (.slice (some ad181) ((rd_T61 l0_1 x5_3).f2).length c176_2) ∧ w'.cell? (ad178.add ((x7_4).toNat * 3)) = some (.bool ((rd_T83 ((rd_T61 l0_1 x5_3).f0) x7_4).f0)) ∧ w'.cell? ⟨(ad178.add ((x7_4).toNat * 3)).block, (ad178.add ((x7_4).toNat * 3)).off + 1, none⟩ = some (.int .i64 ((rd_T83 ((rd_T61 l0_1 x5_3).f0) x7_4).f1)) ∧ w'.cell? ⟨(ad178.add ((x7_4).toNat * 3)).block, (ad178.add ((x7_4).toNat * 3)).off + 2, none⟩ = some (.bool ((rd_T83 ((rd_T61 l0_1 x5_3).f0) x7_4).f2)) ∧ w'.cell? (ad179.add (x7_4).toNat) = some (.slice A179_0 (rd_L1 ((rd_T61 l0_1 x5_3).f1) x7_4).length c179_0) ∧ w'.cell? (ad181.add ((x7_4).toNat * 4)) = some (.bool ((rd_T86 ((rd_T61 l0_1 x5_3).f2) x7_4).f0)) ∧ w'.cell? ⟨(ad181.add ((x7_4).toNat * 4)).block, (ad181.add ((x7_4).toNat * 4)).off + 1, none⟩ = some (.int .i64 ((rd_T86 ((rd_T61 l0_1 x5_3).f2) x7_4).f1)) ∧ w'.cell? ⟨(ad181.add ((x7_4).toNat * 4)).block, (ad181.add ((x7_4).toNat * 4)).off + 2, none⟩ = some (.int .i64 ((rd_T86 ((rd_T61 l0_1 x5_3).f2) x7_4).f2)) ∧ w'.cell? ⟨(ad181.add ((x7_4).toNat * 4)).block, (ad181.add ((x7_4).toNat * 4)).off + 3, none⟩ = some (.bool ((rd_T86 ((rd_T61 l0_1 x5_3).f2) x7_4).f3))) (ds := []) #[false, false, false, false, false, false, false, false, false, false, false, false, false, false, false, false, false, false, false, false, false, false, false] (by kernel_rfl) rfl rfl ⟨(Zc BK169.out 0).trans rfl, (Zc BK169.out 1).trans rfl, (Zc BK169.out 2).trans rfl, (Zc BK177.out 0).trans rfl, (Zc BK177.out 1).trans rfl, (Zc BK177.out 2).trans rfl, (by first | exact ((HB.out.cell (World.block_lt_of_cell? w _ hw178_0)).trans hw178_0) | exact hx178_0), (by first | exact ((HB.out.cell (World.block_lt_of_cell? w _ hw178_1)).trans hw178_1) | exact hx178_1), (by first | exact ((HB.out.cell (World.block_lt_of_cell? w _ hw178_2)).trans hw178_2) | exact hx178_2), (by first | exact ((HB.out.cell (World.block_lt_of_cell? w _ hw179_0)).trans hw179_0) | exact hx179_0), (by first | exact ((HB.out.cell (World.block_lt_of_cell? w _ hw181_0)).trans hw181_0) | exact hx181_0), (by first | exact ((HB.out.cell (World.block_lt_of_cell? w _ hw181_1)).trans hw181_1) | exact hx181_1), (by first | exact ((HB.out.cell (World.block_lt_of_cell? w _ hw181_2)).trans hw181_2) | exact hx181_2), (by first | exact ((HB.out.cell (World.block_lt_of_cell? w _ hw181_3)).trans hw181_3) | exact hx181_3)⟩ (fun hHeld => ?_); refine with_tabW spec_HostOk.tab16 spec_HostOk.bits16 (fun HT_ HW_ => ?_)
                    generalize wr.drew = w56 at BK169 BK177 HB HR179_0 hx178_0 hx178_1 hx178_2 hx179_0 hx181_0 hx181_1 hx181_2 hx181_3 hHeld ⊢
                    refine pure_ (i := 1) (N := some 76) (v := ?_) (a' := ?_) #[false, true, false, false, false, false, false, false, false, false, false, false, false, false, false, false, false, false, false, false, false, false, false] rfl rfl (any_of HT_.out (by kernel_rfl)) (fun _ _ _ h => h) (Or.inl ⟨by rfl, ?_⟩) ?_ ?_
                    rotate_left
                    ·intro w'
                     go_simp
                     with_reducible rfl
                    rotate_left
                    ·simp only [Act.put, List.setIfInBounds_toArray, List.set_cons_zero, List.set_cons_succ, i64_w, i32_w]
                     rfl
                    refine pure_ (i := 3) (N := some 78) (v := ?_) (a' := ?_) #[false, true, false, true, false, false, false, false, false, false, false, false, false, false, false, false, false, false, false, false, false, false, false] rfl rfl (any_of HT_.out (by kernel_rfl)) (fun _ _ _ h => h) (Or.inl ⟨by rfl, ?_⟩) ?_ ?_
                    rotate_left
                    ·intro w'
                     go_simp
                     with_reducible rfl
                    rotate_left
                    ·simp only [Act.put, List.setIfInBounds_toArray, List.set_cons_zero, List.set_cons_succ, i64_w, i32_w]
                     rfl
                    refine pure_ (i := 6) (N := some 81) (v := ?_) (a' := ?_) #[false, true, false, true, false, false, true, false, false, false, false, false, false, false, false, false, false, false, false, false, false, false, false] rfl rfl (any_of HT_.out (by kernel_rfl)) (fun _ _ _ h => h) (Or.inl ⟨by rfl, ?_⟩) ?_ ?_
                    rotate_left
                    ·intro w'
                     go_simp
                     with_reducible rfl
                    rotate_left
                    ·simp only [Act.put, List.setIfInBounds_toArray, List.set_cons_zero, List.set_cons_succ, i64_w, i32_w]
                     rfl
                    refine pure_ (i := 8) (N := some 83) (v := ?_) (a' := ?_) #[false, true, false, true, false, false, true, false, true, false, false, false, false, false, false, false, false, false, false, false, false, false, false] rfl rfl (any_of HT_.out (by kernel_rfl)) (fun _ _ _ h => h) (Or.inl ⟨by rfl, ?_⟩) ?_ ?_
                    rotate_left
                    ·intro w'
                     go_simp
                     with_reducible rfl
                    rotate_left
                    ·simp only [Act.put, List.setIfInBounds_toArray, List.set_cons_zero, List.set_cons_succ, i64_w, i32_w]
                     rfl
                    refine take_ (i := 0) (N := some 75) (v := ?_) (a' := ?_) #[true, true, false, true, false, false, true, false, true, false, false, false, false, false, false, false, false, false, false, false, false, false, false] rfl rfl (take_ofW HT_.out HW_.out (by kernel_rfl)) (fun _ _ _ h => h) (Or.inl ⟨by rfl, ?_⟩) hHeld ?_ ?_
                    rotate_left
                    ·rintro w' ⟨s0, s1, s2, s3, s4, s5, s6, s7, s8, s9, s10, s11, s12, s13⟩
                     go_simp
                     with_reducible rfl
                    rotate_left
                    ·simp only [Act.put, List.setIfInBounds_toArray, List.set_cons_zero, List.set_cons_succ, i64_w, i32_w]
                     rfl
                    refine take_ (i := 2) (N := some 77) (v := ?_) (a' := ?_) #[true, true, true, true, false, false, true, false, true, false, false, false, false, false, false, false, false, false, false, false, false, false, false] rfl rfl (take_ofW HT_.out HW_.out (by kernel_rfl)) (fun _ _ _ h => h) (Or.inl ⟨by rfl, ?_⟩) hHeld ?_ ?_
                    rotate_left
                    ·rintro w' ⟨s0, s1, s2, s3, s4, s5, s6, s7, s8, s9, s10, s11, s12, s13⟩
                     go_simp
                     with_reducible rfl
                    rotate_left
                    ·simp only [Act.put, List.setIfInBounds_toArray, List.set_cons_zero, List.set_cons_succ, i64_w, i32_w]
                     rfl
                    refine pure_ (i := 4) (N := some 79) (v := ?_) (a' := ?_) #[true, true, true, true, true, false, true, false, true, false, false, false, false, false, false, false, false, false, false, false, false, false, false] rfl rfl (any_of HT_.out (by kernel_rfl)) (fun _ _ _ h => h) (Or.inl ⟨by rfl, ?_⟩) ?_ ?_
                    rotate_left
                    ·intro w'
                     go_simp
                     with_reducible rfl
                    rotate_left
                    ·simp only [Act.put, List.setIfInBounds_toArray, List.set_cons_zero, List.set_cons_succ, i64_w, i32_w]
                     rfl
                    refine take_ (i := 5) (N := some 80) (v := ?_) (a' := ?_) #[true, true, true, true, true, true, true, false, true, false, false, false, false, false, false, false, false, false, false, false, false, false, false] rfl rfl (take_ofW HT_.out HW_.out (by kernel_rfl)) (fun _ _ _ h => h) (Or.inl ⟨by rfl, ?_⟩) hHeld ?_ ?_
                    rotate_left
                    ·rintro w' ⟨s0, s1, s2, s3, s4, s5, s6, s7, s8, s9, s10, s11, s12, s13⟩
                     go_simp
                     with_reducible rfl
                    rotate_left
                    ·simp only [Act.put, List.setIfInBounds_toArray, List.set_cons_zero, List.set_cons_succ, i64_w, i32_w]
                     rfl
                    refine take_ (i := 7) (N := some 82) (v := ?_) (a' := ?_) #[true, true, true, true, true, true, true, true, true, false, false, false, false, false, false, false, false, false, false, false, false, false, false] rfl rfl (take_ofW HT_.out HW_.out (by kernel_rfl)) (fun _ _ _ h => h) (Or.inl ⟨by rfl, ?_⟩) hHeld ?_ ?_
                    rotate_left
                    ·rintro w' ⟨s0, s1, s2, s3, s4, s5, s6, s7, s8, s9, s10, s11, s12, s13⟩
                     go_simp
                     with_reducible rfl
                    rotate_left
                    ·simp only [Act.put, List.setIfInBounds_toArray, List.set_cons_zero, List.set_cons_succ, i64_w, i32_w]
                     rfl
                    refine pure_ (i := 9) (N := some 84) (v := ?_) (a' := ?_) #[true, true, true, true, true, true, true, true, true, true, false, false, false, false, false, false, false, false, false, false, false, false, false] rfl rfl (any_of HT_.out (by kernel_rfl)) (fun _ _ _ h => h) (Or.inl ⟨by rfl, ?_⟩) ?_ ?_
                    rotate_left
                    ·intro w'
                     go_simp
                     with_reducible rfl
                    rotate_left
                    ·simp only [Act.put, List.setIfInBounds_toArray, List.set_cons_zero, List.set_cons_succ, i64_w, i32_w]
                     rfl
                    refine take_ (i := 10) (N := some 85) (v := ?_) (a' := ?_) #[true, true, true, true, true, true, true, true, true, true, true, false, false, false, false, false, false, false, false, false, false, false, false] rfl rfl (take_ofW HT_.out HW_.out (by kernel_rfl)) (fun _ _ _ h => h) (Or.inl ⟨by rfl, ?_⟩) hHeld ?_ ?_
                    rotate_left
                    ·rintro w' ⟨s0, s1, s2, s3, s4, s5, s6, s7, s8, s9, s10, s11, s12, s13⟩
                     go_simp
                     with_reducible rfl
                    rotate_left
                    ·simp only [Act.put, List.setIfInBounds_toArray, List.set_cons_zero, List.set_cons_succ, i64_w, i32_w]
                     rfl
                    refine one_ (i := 11) (N := some 86) #[true, true, true, true, true, true, true, true, true, true, true, true, false, false, false, false, false, false, false, false, false, false, false] rfl rfl (one_of HT_.out (by kernel_rfl)) (by decide) (fun K hK => ?_)
                    refine goes_ Try.func63 (by kernel_rfl) rfl #[.agg #[.slice A0_0 l0_0.length c0_0, .slice (some ad176) l0_1.length c0_1, .int .i64 a0_2], .agg #[.bool ((rd_T83 ((rd_T61 l0_1 x5_3).f0) x7_4).f0), .int .i64 ((rd_T83 ((rd_T61 l0_1 x5_3).f0) x7_4).f1), .bool ((rd_T83 ((rd_T61 l0_1 x5_3).f0) x7_4).f2)], .slice A179_0 (rd_L1 ((rd_T61 l0_1 x5_3).f1) x7_4).length c179_0] (by rfl) rfl rfl (by (try simp only [List.map_toArray, List.map_cons, List.map_nil]); first | done | rfl | (simp only [List.length_drop, List.length_take]; rfl)) ?_
                    with_reducible refine (spec_l12MapOk.calls k4 _ _ l0_0 _ _ l0_1 a0_2 ((rd_T83 ((rd_T61 l0_1 x5_3).f0) x7_4).f0) ((rd_T83 ((rd_T61 l0_1 x5_3).f0) x7_4).f1) ((rd_T83 ((rd_T61 l0_1 x5_3).f0) x7_4).f2) _ _ (rd_L1 ((rd_T61 l0_1 x5_3).f1) x7_4) true _ ?side1 ?side2 ?side3 ?side4 ?side5 ?side6 A48.out).mono ?_
                    (case side1 => repeat (first | exact (Kd.Cb_ HR0_0.out HB.out) | exact HR0_0.out | (with_reducible refine Kd.Ca_ ?_ _) | (with_reducible refine Kd.Cn_ ?_ _) | (with_reducible refine Kd.Cw_ ?_)))
                    (case side2 => exact HC0_0.out)
                    (case side3 => repeat (first | exact (Kd.Cb_ HR0_1.out HB.out) | exact HR0_1.out | (with_reducible refine Kd.Ca_ ?_ _) | (with_reducible refine Kd.Cn_ ?_ _) | (with_reducible refine Kd.Cw_ ?_)))
                    (case side4 => exact HC0_1.out)
                    (case side5 => repeat (first | exact (Kd.Cb_ HR179_0.out HB.out) | exact HR179_0.out | (with_reducible refine Kd.Ca_ ?_ _) | (with_reducible refine Kd.Cn_ ?_ _) | (with_reducible refine Kd.Cw_ ?_)))
                    (case side6 => exact HC179_0.out)
                    rintro e w57 ⟨rfl, hb⟩
                    refine ⟨_, rfl, ?_⟩
                    have n0_ := Az.mk (Zb (g := gb169) (o := .cells #[.slice A0_0 l0_0.length c0_0, .slice (some ad176) l0_1.length c0_1, .int .i64 a0_2] 31 (0, 0)) (by (with_reducible repeat (first | refine Zn ?_ _ | refine Zw ?_ | refine Za ?_ _)); exact BK169.out) hb)
                    have n1_ := Az.mk (Zb (g := gb177) (o := .cells #[.slice (some ad178) ((rd_T61 l0_1 x5_3).f0).length c176_0, .slice (some ad179) ((rd_T61 l0_1 x5_3).f1).length c176_1, .slice (some ad181) ((rd_T61 l0_1 x5_3).f2).length c176_2] 61 (0, 0)) (by (with_reducible repeat (first | refine Zn ?_ _ | refine Zw ?_ | refine Za ?_ _)); exact BK177.out) hb)
                    have n2_ := Az.mk (Yt (by repeat (first | (with_reducible first | exact HB.out | apply Ya | apply Yn | apply Yw | refine Ys ?_ GE169.out | refine Ys ?_ GE177.out) | exact HB.out)) hb)
                    clear BK169
                    clear BK177
                    clear HB
                    have BK169 := n0_
                    have BK177 := n1_
                    have HB := n2_
                    clear n0_ n1_ n2_
                    (try clear hb)
                    (try clear hb2)
                    (try clear hk)
                    (try clear hi)
                    refine hK.out _ _ ⟨(Zc BK169.out 0).trans rfl, (Zc BK169.out 1).trans rfl, (Zc BK169.out 2).trans rfl, (Zc BK177.out 0).trans rfl, (Zc BK177.out 1).trans rfl, (Zc BK177.out 2).trans rfl, (by first | exact ((HB.out.cell (World.block_lt_of_cell? w _ hw178_0)).trans hw178_0) | exact hx178_0), (by first | exact ((HB.out.cell (World.block_lt_of_cell? w _ hw178_1)).trans hw178_1) | exact hx178_1), (by first | exact ((HB.out.cell (World.block_lt_of_cell? w _ hw178_2)).trans hw178_2) | exact hx178_2), (by first | exact ((HB.out.cell (World.block_lt_of_cell? w _ hw179_0)).trans hw179_0) | exact hx179_0), (by first | exact ((HB.out.cell (World.block_lt_of_cell? w _ hw181_0)).trans hw181_0) | exact hx181_0), (by first | exact ((HB.out.cell (World.block_lt_of_cell? w _ hw181_1)).trans hw181_1) | exact hx181_1), (by first | exact ((HB.out.cell (World.block_lt_of_cell? w _ hw181_2)).trans hw181_2) | exact hx181_2), (by first | exact ((HB.out.cell (World.block_lt_of_cell? w _ hw181_3)).trans hw181_3) | exact hx181_3)⟩ (fun hHeld => ?_)
                    clear hK K
                    refine norm_ (a' := ?_) ?_ ?_
                    rotate_left
                    ·show Act.put _ (some 86) _ = _
                     simp only [Act.put, List.setIfInBounds_toArray, List.set_cons_zero, List.set_cons_succ, i64_w, i32_w]
                     rfl
                    refine pure_ (i := 12) (N := some 87) (v := ?_) (a' := ?_) #[true, true, true, true, true, true, true, true, true, true, true, true, true, false, false, false, false, false, false, false, false, false, false] rfl rfl (any_of HT_.out (by kernel_rfl)) (fun _ _ _ h => h) (Or.inl ⟨by rfl, ?_⟩) ?_ ?_
                    rotate_left
                    ·intro w'
                     go_simp
                     with_reducible rfl
                    rotate_left
                    ·simp only [Act.put, List.setIfInBounds_toArray, List.set_cons_zero, List.set_cons_succ, i64_w, i32_w]
                     rfl
                    refine pure_ (i := 13) (N := some 88) (v := ?_) (a' := ?_) #[true, true, true, true, true, true, true, true, true, true, true, true, true, true, false, false, false, false, false, false, false, false, false] rfl rfl (any_of HT_.out (by kernel_rfl)) (fun _ _ _ h => h) (Or.inl ⟨by rfl, ?_⟩) ?_ ?_
                    rotate_left
                    ·intro w'
                     go_simp
                     with_reducible rfl
                    rotate_left
                    ·simp only [Act.put, List.setIfInBounds_toArray, List.set_cons_zero, List.set_cons_succ, i64_w, i32_w]
                     rfl
                    refine pure_ (i := 15) (N := some 90) (v := ?_) (a' := ?_) #[true, true, true, true, true, true, true, true, true, true, true, true, true, true, false, true, false, false, false, false, false, false, false] rfl rfl (any_of HT_.out (by kernel_rfl)) (fun _ _ _ h => h) (Or.inl ⟨by rfl, ?_⟩) ?_ ?_
                    rotate_left
                    ·intro w'
                     go_simp
                     with_reducible rfl
                    rotate_left
                    ·simp only [Act.put, List.setIfInBounds_toArray, List.set_cons_zero, List.set_cons_succ, i64_w, i32_w]
                     rfl
                    refine pure_ (i := 17) (N := some 92) (v := ?_) (a' := ?_) #[true, true, true, true, true, true, true, true, true, true, true, true, true, true, false, true, false, true, false, false, false, false, false] rfl rfl (any_of HT_.out (by kernel_rfl)) (fun _ _ _ h => h) (Or.inl ⟨by rfl, ?_⟩) ?_ ?_
                    rotate_left
                    ·intro w'
                     go_simp
                     with_reducible rfl
                    rotate_left
                    ·simp only [Act.put, List.setIfInBounds_toArray, List.set_cons_zero, List.set_cons_succ, i64_w, i32_w]
                     rfl
                    refine take_ (i := 14) (N := some 89) (v := ?_) (a' := ?_) #[true, true, true, true, true, true, true, true, true, true, true, true, true, true, true, true, false, true, false, false, false, false, false] rfl rfl (take_ofW HT_.out HW_.out (by kernel_rfl)) (fun _ _ _ h => h) (Or.inl ⟨by rfl, ?_⟩) hHeld ?_ ?_
                    rotate_left
                    ·rintro w' ⟨s0, s1, s2, s3, s4, s5, s6, s7, s8, s9, s10, s11, s12, s13⟩
                     go_simp
                     with_reducible rfl
                    rotate_left
                    ·simp only [Act.put, List.setIfInBounds_toArray, List.set_cons_zero, List.set_cons_succ, i64_w, i32_w]
                     rfl
                    refine take_ (i := 16) (N := some 91) (v := ?_) (a' := ?_) #[true, true, true, true, true, true, true, true, true, true, true, true, true, true, true, true, true, true, false, false, false, false, false] rfl rfl (take_ofW HT_.out HW_.out (by kernel_rfl)) (fun _ _ _ h => h) (Or.inl ⟨by rfl, ?_⟩) hHeld ?_ ?_
                    rotate_left
                    ·rintro w' ⟨s0, s1, s2, s3, s4, s5, s6, s7, s8, s9, s10, s11, s12, s13⟩
                     go_simp
                     with_reducible rfl
                    rotate_left
                    ·simp only [Act.put, List.setIfInBounds_toArray, List.set_cons_zero, List.set_cons_succ, i64_w, i32_w]
                     rfl
                    refine pure_ (i := 18) (N := some 93) (v := ?_) (a' := ?_) #[true, true, true, true, true, true, true, true, true, true, true, true, true, true, true, true, true, true, true, false, false, false, false] rfl rfl (any_of HT_.out (by kernel_rfl)) (fun _ _ _ h => h) (Or.inl ⟨by rfl, ?_⟩) ?_ ?_
                    rotate_left
                    ·intro w'
                     go_simp
                     with_reducible rfl
                    rotate_left
                    ·simp only [Act.put, List.setIfInBounds_toArray, List.set_cons_zero, List.set_cons_succ, i64_w, i32_w]
                     rfl
                    refine take_ (i := 19) (N := some 94) (v := ?_) (a' := ?_) #[true, true, true, true, true, true, true, true, true, true, true, true, true, true, true, true, true, true, true, true, false, false, false] rfl rfl (take_ofW HT_.out HW_.out (by kernel_rfl)) (fun _ _ _ h => h) (Or.inl ⟨by rfl, ?_⟩) hHeld ?_ ?_
                    rotate_left
                    ·rintro w' ⟨s0, s1, s2, s3, s4, s5, s6, s7, s8, s9, s10, s11, s12, s13⟩
                     go_simp
                     with_reducible rfl
                    rotate_left
                    ·simp only [Act.put, List.setIfInBounds_toArray, List.set_cons_zero, List.set_cons_succ, i64_w, i32_w]
                     rfl
                    refine one_ (i := 20) (N := some 95) #[true, true, true, true, true, true, true, true, true, true, true, true, true, true, true, true, true, true, true, true, true, false, false] rfl rfl (one_of HT_.out (by kernel_rfl)) (by decide) (fun K hK => ?_)
                    refine goes_ Try.func64 (by kernel_rfl) rfl #[.agg #[.slice (some ad178) ((rd_T61 l0_1 x5_3).f0).length c176_0, .slice (some ad179) ((rd_T61 l0_1 x5_3).f1).length c176_1, .slice (some ad181) ((rd_T61 l0_1 x5_3).f2).length c176_2], .agg #[.bool ((rd_T86 ((rd_T61 l0_1 x5_3).f2) x7_4).f0), .int .i64 ((rd_T86 ((rd_T61 l0_1 x5_3).f2) x7_4).f1), .int .i64 ((rd_T86 ((rd_T61 l0_1 x5_3).f2) x7_4).f2), .bool ((rd_T86 ((rd_T61 l0_1 x5_3).f2) x7_4).f3)]] (by rfl) rfl rfl (by (try simp only [List.map_toArray, List.map_cons, List.map_nil]); first | done | rfl | (simp only [List.length_drop, List.length_take]; rfl)) ?_
                    with_reducible refine (spec_l12ShadeOk.calls _ _ ((rd_T61 l0_1 x5_3).f0) _ _ ((rd_T61 l0_1 x5_3).f1) _ _ ((rd_T61 l0_1 x5_3).f2) ((rd_T86 ((rd_T61 l0_1 x5_3).f2) x7_4).f0) ((rd_T86 ((rd_T61 l0_1 x5_3).f2) x7_4).f1) ((rd_T86 ((rd_T61 l0_1 x5_3).f2) x7_4).f2) ((rd_T86 ((rd_T61 l0_1 x5_3).f2) x7_4).f3) false _ ?side1 ?side2 ?side3 ?side4 ?side5 ?side6 A51.out).mono ?_
                    (case side1 => repeat (first | exact (Kd.Cb_ HR176_0.out HB.out) | exact HR176_0.out | (with_reducible refine Kd.Ca_ ?_ _) | (with_reducible refine Kd.Cn_ ?_ _) | (with_reducible refine Kd.Cw_ ?_)))
                    (case side2 => exact HC176_0.out)
                    (case side3 => repeat (first | exact (Kd.Cb_ HR176_1.out HB.out) | exact HR176_1.out | (with_reducible refine Kd.Ca_ ?_ _) | (with_reducible refine Kd.Cn_ ?_ _) | (with_reducible refine Kd.Cw_ ?_)))
                    (case side4 => exact HC176_1.out)
                    (case side5 => repeat (first | exact (Kd.Cb_ HR176_2.out HB.out) | exact HR176_2.out | (with_reducible refine Kd.Ca_ ?_ _) | (with_reducible refine Kd.Cn_ ?_ _) | (with_reducible refine Kd.Cw_ ?_)))
                    (case side6 => exact HC176_2.out)
                    rintro e w58 ⟨rfl, hb⟩
                    refine ⟨_, rfl, ?_⟩
                    have n0_ := Az.mk (Zb (g := gb169) (o := .cells #[.slice A0_0 l0_0.length c0_0, .slice (some ad176) l0_1.length c0_1, .int .i64 a0_2] 31 (0, 0)) (by (with_reducible repeat (first | refine Zn ?_ _ | refine Zw ?_ | refine Za ?_ _)); exact BK169.out) hb)
                    have n1_ := Az.mk (Zb (g := gb177) (o := .cells #[.slice (some ad178) ((rd_T61 l0_1 x5_3).f0).length c176_0, .slice (some ad179) ((rd_T61 l0_1 x5_3).f1).length c176_1, .slice (some ad181) ((rd_T61 l0_1 x5_3).f2).length c176_2] 61 (0, 0)) (by (with_reducible repeat (first | refine Zn ?_ _ | refine Zw ?_ | refine Za ?_ _)); exact BK177.out) hb)
                    have n2_ := Az.mk (Yt (by repeat (first | (with_reducible first | exact HB.out | apply Ya | apply Yn | apply Yw | refine Ys ?_ GE169.out | refine Ys ?_ GE177.out) | exact HB.out)) hb)
                    clear BK169
                    clear BK177
                    clear HB
                    have BK169 := n0_
                    have BK177 := n1_
                    have HB := n2_
                    clear n0_ n1_ n2_
                    (try clear hb)
                    (try clear hb2)
                    (try clear hk)
                    (try clear hi)
                    refine hK.out _ _ ⟨(Zc BK169.out 0).trans rfl, (Zc BK169.out 1).trans rfl, (Zc BK169.out 2).trans rfl, (Zc BK177.out 0).trans rfl, (Zc BK177.out 1).trans rfl, (Zc BK177.out 2).trans rfl, (by first | exact ((HB.out.cell (World.block_lt_of_cell? w _ hw178_0)).trans hw178_0) | exact hx178_0), (by first | exact ((HB.out.cell (World.block_lt_of_cell? w _ hw178_1)).trans hw178_1) | exact hx178_1), (by first | exact ((HB.out.cell (World.block_lt_of_cell? w _ hw178_2)).trans hw178_2) | exact hx178_2), (by first | exact ((HB.out.cell (World.block_lt_of_cell? w _ hw179_0)).trans hw179_0) | exact hx179_0), (by first | exact ((HB.out.cell (World.block_lt_of_cell? w _ hw181_0)).trans hw181_0) | exact hx181_0), (by first | exact ((HB.out.cell (World.block_lt_of_cell? w _ hw181_1)).trans hw181_1) | exact hx181_1), (by first | exact ((HB.out.cell (World.block_lt_of_cell? w _ hw181_2)).trans hw181_2) | exact hx181_2), (by first | exact ((HB.out.cell (World.block_lt_of_cell? w _ hw181_3)).trans hw181_3) | exact hx181_3)⟩ (fun hHeld => ?_)
                    clear hK K
                    refine norm_ (a' := ?_) ?_ ?_
                    rotate_left
                    ·show Act.put _ (some 95) _ = _
                     simp only [Act.put, List.setIfInBounds_toArray, List.set_cons_zero, List.set_cons_succ, i64_w, i32_w]
                     rfl
                    refine pure_ (i := 21) (N := some 96) (v := ?_) (a' := ?_) #[true, true, true, true, true, true, true, true, true, true, true, true, true, true, true, true, true, true, true, true, true, true, false] rfl rfl (any_of HT_.out (by kernel_rfl)) (fun _ _ _ h => h) (Or.inl ⟨by rfl, ?_⟩) ?_ ?_
                    rotate_left
                    ·intro w'
                     go_simp
                     with_reducible rfl
                    rotate_left
                    ·simp only [Act.put, List.setIfInBounds_toArray, List.set_cons_zero, List.set_cons_succ, i64_w, i32_w]
                     rfl
                    refine pure_ (i := 22) (N := some 97) (v := ?_) (a' := ?_) #[true, true, true, true, true, true, true, true, true, true, true, true, true, true, true, true, true, true, true, true, true, true, true] rfl rfl (any_of HT_.out (by kernel_rfl)) (fun _ _ _ h => h) (Or.inl ⟨by rfl, ?_⟩) ?_ ?_
                    rotate_left
                    ·intro w'
                     go_simp
                     with_reducible rfl
                    rotate_left
                    ·simp only [Act.put, List.setIfInBounds_toArray, List.set_cons_zero, List.set_cons_succ, i64_w, i32_w]
                     rfl
                    refine done_ (done_of HT_.out (by kernel_rfl)) ?_
                    try go_wp2
                    go_ret
                    exact ⟨by first | rfl | (simp [errW_none, errW_some] <;> rfl) | (simp [*, errW_none, errW_some] <;> rfl), by repeat (first | (with_reducible first | exact HB.out | apply Ya | apply Yn | apply Yw | refine Ys ?_ GE169.out | refine Ys ?_ GE177.out) | exact HB.out)⟩
                  ·rw [if_neg c50] at H
                   exact absurd H (by simp)
                 ·replace c49 := Bool.eq_false_iff.mpr c49
                  subst c49
                  have H1 : (some false) = some r := by rw [if_neg (show ¬ (false = true) by decide)] at H; exact H
                  clear H
                  have H := H1
                  clear H1
                  obtain rfl := Option.some.inj H
                  try go_wp2
                  have n0_ := Az.mk (Zw BK169.out)
                  have n1_ := Az.mk (Zw BK177.out)
                  have n2_ := Az.mk (Yw HB.out)
                  clear BK169
                  clear BK177
                  clear HB
                  have BK169 := n0_
                  have BK177 := n1_
                  have HB := n2_
                  clear n0_ n1_ n2_
                  have p178 : 0 ≤ (x7_4 : Int) := of_decide_eq_true (by first | (with_reducible assumption) | assumption)
                  have q178 : x7_4 < (((rd_T61 l0_1 x5_3).f0).length : Int) := of_decide_eq_true (by first | (with_reducible assumption) | assumption)
                  obtain ⟨ad178, e178, hx178_0, hx178_1, hx178_2⟩ := at_T83 HR176_0.out x7_4 p178 q178
                  have hw178_2 := hx178_2
                  have hw178_1 := hx178_1
                  have hw178_0 := hx178_0
                  cases e178
                  replace hx178_0 := (HB.out.cell (World.block_lt_of_cell? w _ hx178_0)).trans hx178_0
                  replace hx178_1 := (HB.out.cell (World.block_lt_of_cell? w _ hx178_1)).trans hx178_1
                  replace hx178_2 := (HB.out.cell (World.block_lt_of_cell? w _ hx178_2)).trans hx178_2
                  replace p178 := eq_true p178
                  replace q178 := eq_true q178
                  have p179 : 0 ≤ (x7_4 : Int) := of_decide_eq_true (by first | (with_reducible assumption) | assumption)
                  have q179 : x7_4 < (((rd_T61 l0_1 x5_3).f1).length : Int) := of_decide_eq_true (by first | (with_reducible assumption) | assumption)
                  obtain ⟨ad179, A179_0, c179_0, e179, hx179_0, hl179_0, hi179_0⟩ := at_L1 HR176_1.out x7_4 p179 q179
                  have hw179_0 := hx179_0
                  cases e179
                  replace hx179_0 := (HB.out.cell (World.block_lt_of_cell? w _ hx179_0)).trans hx179_0
                  have HR179_0 := Az.mk hi179_0
                  have HC179_0 := Az.mk hl179_0
                  clear hi179_0 hl179_0
                  replace p179 := eq_true p179
                  replace q179 := eq_true q179
                  refine start_ (n := 23) (S := fun w' => w'.cell? ⟨gb169, 0, none⟩ = some (.slice A0_0 l0_0.length c0_0) ∧ w'.cell? ⟨gb169, 1, none⟩ = some (.slice (some ad176) l0_1.length c0_1) ∧ w'.cell? ⟨gb169, 2, none⟩ = some (.int .i64 a0_2) ∧ w'.cell? ⟨gb177, 0, none⟩ = some (.slice (some ad178) ((rd_T61 l0_1 x5_3).f0).length c176_0) ∧ w'.cell? ⟨gb177, 1, none⟩ = some (.slice (some ad179) ((rd_T61 l0_1 x5_3).f1).length c176_1) ∧ w'.cell? ⟨gb177, 2, none⟩ = some (.slice A176_2 ((rd_T61 l0_1 x5_3).f2).length c176_2) ∧ w'.cell? (ad178.add ((x7_4).toNat * 3)) = some (.bool ((rd_T83 ((rd_T61 l0_1 x5_3).f0) x7_4).f0)) ∧ w'.cell? ⟨(ad178.add ((x7_4).toNat * 3)).block, (ad178.add ((x7_4).toNat * 3)).off + 1, none⟩ = some (.int .i64 ((rd_T83 ((rd_T61 l0_1 x5_3).f0) x7_4).f1)) ∧ w'.cell? ⟨(ad178.add ((x7_4).toNat * 3)).block, (ad178.add ((x7_4).toNat * 3)).off + 2, none⟩ = some (.bool ((rd_T83 ((rd_T61 l0_1 x5_3).f0) x7_4).f2)) ∧ w'.cell? (ad179.add (x7_4).toNat) = some (.slice A179_0 (rd_L1 ((rd_T61 l0_1 x5_3).f1) x7_4).length c179_0)) (ds := []) #[false, false, false, false, false, false, false, false, false, false, false, false, false, false, false, false, false, false, false, false, false, false, false] (by kernel_rfl) rfl rfl ⟨(Zc BK169.out 0).trans rfl, (Zc BK169.out 1).trans rfl, (Zc BK169.out 2).trans rfl, (Zc BK177.out 0).trans rfl, (Zc BK177.out 1).trans rfl, (Zc BK177.out 2).trans rfl, (by first | exact ((HB.out.cell (World.block_lt_of_cell? w _ hw178_0)).trans hw178_0) | exact hx178_0), (by first | exact ((HB.out.cell (World.block_lt_of_cell? w _ hw178_1)).trans hw178_1) | exact hx178_1), (by first | exact ((HB.out.cell (World.block_lt_of_cell? w _ hw178_2)).trans hw178_2) | exact hx178_2), (by first | exact ((HB.out.cell (World.block_lt_of_cell? w _ hw179_0)).trans hw179_0) | exact hx179_0)⟩ (fun hHeld => ?_); refine with_tabW spec_HostOk.tab16 spec_HostOk.bits16 (fun HT_ HW_ => ?_)
                  generalize wr.drew = w59 at BK169 BK177 HB HR179_0 hx178_0 hx178_1 hx178_2 hx179_0 hHeld ⊢
                  refine pure_ (i := 1) (N := some 76) (v := ?_) (a' := ?_) #[false, true, false, false, false, false, false, false, false, false, false, false, false, false, false, false, false, false, false, false, false, false, false] rfl rfl (any_of HT_.out (by kernel_rfl)) (fun _ _ _ h => h) (Or.inl ⟨by rfl, ?_⟩) ?_ ?_
                  rotate_left
                  ·intro w'
                   go_simp
                   with_reducible rfl
                  rotate_left
                  ·simp only [Act.put, List.setIfInBounds_toArray, List.set_cons_zero, List.set_cons_succ, i64_w, i32_w]
                   rfl
                  refine pure_ (i := 3) (N := some 78) (v := ?_) (a' := ?_) #[false, true, false, true, false, false, false, false, false, false, false, false, false, false, false, false, false, false, false, false, false, false, false] rfl rfl (any_of HT_.out (by kernel_rfl)) (fun _ _ _ h => h) (Or.inl ⟨by rfl, ?_⟩) ?_ ?_
                  rotate_left
                  ·intro w'
                   go_simp
                   with_reducible rfl
                  rotate_left
                  ·simp only [Act.put, List.setIfInBounds_toArray, List.set_cons_zero, List.set_cons_succ, i64_w, i32_w]
                   rfl
                  refine pure_ (i := 6) (N := some 81) (v := ?_) (a' := ?_) #[false, true, false, true, false, false, true, false, false, false, false, false, false, false, false, false, false, false, false, false, false, false, false] rfl rfl (any_of HT_.out (by kernel_rfl)) (fun _ _ _ h => h) (Or.inl ⟨by rfl, ?_⟩) ?_ ?_
                  rotate_left
                  ·intro w'
                   go_simp
                   with_reducible rfl
                  rotate_left
                  ·simp only [Act.put, List.setIfInBounds_toArray, List.set_cons_zero, List.set_cons_succ, i64_w, i32_w]
                   rfl
                  refine pure_ (i := 8) (N := some 83) (v := ?_) (a' := ?_) #[false, true, false, true, false, false, true, false, true, false, false, false, false, false, false, false, false, false, false, false, false, false, false] rfl rfl (any_of HT_.out (by kernel_rfl)) (fun _ _ _ h => h) (Or.inl ⟨by rfl, ?_⟩) ?_ ?_
                  rotate_left
                  ·intro w'
                   go_simp
                   with_reducible rfl
                  rotate_left
                  ·simp only [Act.put, List.setIfInBounds_toArray, List.set_cons_zero, List.set_cons_succ, i64_w, i32_w]
                   rfl
                  refine take_ (i := 0) (N := some 75) (v := ?_) (a' := ?_) #[true, true, false, true, false, false, true, false, true, false, false, false, false, false, false, false, false, false, false, false, false, false, false] rfl rfl (take_ofW HT_.out HW_.out (by kernel_rfl)) (fun _ _ _ h => h) (Or.inl ⟨by rfl, ?_⟩) hHeld ?_ ?_
                  rotate_left
                  ·rintro w' ⟨s0, s1, s2, s3, s4, s5, s6, s7, s8, s9⟩
                   go_simp
                   with_reducible rfl
                  rotate_left
                  ·simp only [Act.put, List.setIfInBounds_toArray, List.set_cons_zero, List.set_cons_succ, i64_w, i32_w]
                   rfl
                  refine take_ (i := 2) (N := some 77) (v := ?_) (a' := ?_) #[true, true, true, true, false, false, true, false, true, false, false, false, false, false, false, false, false, false, false, false, false, false, false] rfl rfl (take_ofW HT_.out HW_.out (by kernel_rfl)) (fun _ _ _ h => h) (Or.inl ⟨by rfl, ?_⟩) hHeld ?_ ?_
                  rotate_left
                  ·rintro w' ⟨s0, s1, s2, s3, s4, s5, s6, s7, s8, s9⟩
                   go_simp
                   with_reducible rfl
                  rotate_left
                  ·simp only [Act.put, List.setIfInBounds_toArray, List.set_cons_zero, List.set_cons_succ, i64_w, i32_w]
                   rfl
                  refine pure_ (i := 4) (N := some 79) (v := ?_) (a' := ?_) #[true, true, true, true, true, false, true, false, true, false, false, false, false, false, false, false, false, false, false, false, false, false, false] rfl rfl (any_of HT_.out (by kernel_rfl)) (fun _ _ _ h => h) (Or.inl ⟨by rfl, ?_⟩) ?_ ?_
                  rotate_left
                  ·intro w'
                   go_simp
                   with_reducible rfl
                  rotate_left
                  ·simp only [Act.put, List.setIfInBounds_toArray, List.set_cons_zero, List.set_cons_succ, i64_w, i32_w]
                   rfl
                  refine take_ (i := 5) (N := some 80) (v := ?_) (a' := ?_) #[true, true, true, true, true, true, true, false, true, false, false, false, false, false, false, false, false, false, false, false, false, false, false] rfl rfl (take_ofW HT_.out HW_.out (by kernel_rfl)) (fun _ _ _ h => h) (Or.inl ⟨by rfl, ?_⟩) hHeld ?_ ?_
                  rotate_left
                  ·rintro w' ⟨s0, s1, s2, s3, s4, s5, s6, s7, s8, s9⟩
                   go_simp
                   with_reducible rfl
                  rotate_left
                  ·simp only [Act.put, List.setIfInBounds_toArray, List.set_cons_zero, List.set_cons_succ, i64_w, i32_w]
                   rfl
                  refine take_ (i := 7) (N := some 82) (v := ?_) (a' := ?_) #[true, true, true, true, true, true, true, true, true, false, false, false, false, false, false, false, false, false, false, false, false, false, false] rfl rfl (take_ofW HT_.out HW_.out (by kernel_rfl)) (fun _ _ _ h => h) (Or.inl ⟨by rfl, ?_⟩) hHeld ?_ ?_
                  rotate_left
                  ·rintro w' ⟨s0, s1, s2, s3, s4, s5, s6, s7, s8, s9⟩
                   go_simp
                   with_reducible rfl
                  rotate_left
                  ·simp only [Act.put, List.setIfInBounds_toArray, List.set_cons_zero, List.set_cons_succ, i64_w, i32_w]
                   rfl
                  refine pure_ (i := 9) (N := some 84) (v := ?_) (a' := ?_) #[true, true, true, true, true, true, true, true, true, true, false, false, false, false, false, false, false, false, false, false, false, false, false] rfl rfl (any_of HT_.out (by kernel_rfl)) (fun _ _ _ h => h) (Or.inl ⟨by rfl, ?_⟩) ?_ ?_
                  rotate_left
                  ·intro w'
                   go_simp
                   with_reducible rfl
                  rotate_left
                  ·simp only [Act.put, List.setIfInBounds_toArray, List.set_cons_zero, List.set_cons_succ, i64_w, i32_w]
                   rfl
                  refine take_ (i := 10) (N := some 85) (v := ?_) (a' := ?_) #[true, true, true, true, true, true, true, true, true, true, true, false, false, false, false, false, false, false, false, false, false, false, false] rfl rfl (take_ofW HT_.out HW_.out (by kernel_rfl)) (fun _ _ _ h => h) (Or.inl ⟨by rfl, ?_⟩) hHeld ?_ ?_
                  rotate_left
                  ·rintro w' ⟨s0, s1, s2, s3, s4, s5, s6, s7, s8, s9⟩
                   go_simp
                   with_reducible rfl
                  rotate_left
                  ·simp only [Act.put, List.setIfInBounds_toArray, List.set_cons_zero, List.set_cons_succ, i64_w, i32_w]
                   rfl
                  refine one_ (i := 11) (N := some 86) #[true, true, true, true, true, true, true, true, true, true, true, true, false, false, false, false, false, false, false, false, false, false, false] rfl rfl (one_of HT_.out (by kernel_rfl)) (by decide) (fun K hK => ?_)
                  refine goes_ Try.func63 (by kernel_rfl) rfl #[.agg #[.slice A0_0 l0_0.length c0_0, .slice (some ad176) l0_1.length c0_1, .int .i64 a0_2], .agg #[.bool ((rd_T83 ((rd_T61 l0_1 x5_3).f0) x7_4).f0), .int .i64 ((rd_T83 ((rd_T61 l0_1 x5_3).f0) x7_4).f1), .bool ((rd_T83 ((rd_T61 l0_1 x5_3).f0) x7_4).f2)], .slice A179_0 (rd_L1 ((rd_T61 l0_1 x5_3).f1) x7_4).length c179_0] (by rfl) rfl rfl (by (try simp only [List.map_toArray, List.map_cons, List.map_nil]); first | done | rfl | (simp only [List.length_drop, List.length_take]; rfl)) ?_
                  with_reducible refine (spec_l12MapOk.calls k4 _ _ l0_0 _ _ l0_1 a0_2 ((rd_T83 ((rd_T61 l0_1 x5_3).f0) x7_4).f0) ((rd_T83 ((rd_T61 l0_1 x5_3).f0) x7_4).f1) ((rd_T83 ((rd_T61 l0_1 x5_3).f0) x7_4).f2) _ _ (rd_L1 ((rd_T61 l0_1 x5_3).f1) x7_4) false _ ?side1 ?side2 ?side3 ?side4 ?side5 ?side6 A48.out).mono ?_
                  (case side1 => repeat (first | exact (Kd.Cb_ HR0_0.out HB.out) | exact HR0_0.out | (with_reducible refine Kd.Ca_ ?_ _) | (with_reducible refine Kd.Cn_ ?_ _) | (with_reducible refine Kd.Cw_ ?_)))
                  (case side2 => exact HC0_0.out)
                  (case side3 => repeat (first | exact (Kd.Cb_ HR0_1.out HB.out) | exact HR0_1.out | (with_reducible refine Kd.Ca_ ?_ _) | (with_reducible refine Kd.Cn_ ?_ _) | (with_reducible refine Kd.Cw_ ?_)))
                  (case side4 => exact HC0_1.out)
                  (case side5 => repeat (first | exact (Kd.Cb_ HR179_0.out HB.out) | exact HR179_0.out | (with_reducible refine Kd.Ca_ ?_ _) | (with_reducible refine Kd.Cn_ ?_ _) | (with_reducible refine Kd.Cw_ ?_)))
                  (case side6 => exact HC179_0.out)
                  rintro e w60 ⟨rfl, hb⟩
                  refine ⟨_, rfl, ?_⟩
                  have n0_ := Az.mk (Zb (g := gb169) (o := .cells #[.slice A0_0 l0_0.length c0_0, .slice (some ad176) l0_1.length c0_1, .int .i64 a0_2] 31 (0, 0)) (by (with_reducible repeat (first | refine Zn ?_ _ | refine Zw ?_ | refine Za ?_ _)); exact BK169.out) hb)
                  have n1_ := Az.mk (Zb (g := gb177) (o := .cells #[.slice (some ad178) ((rd_T61 l0_1 x5_3).f0).length c176_0, .slice (some ad179) ((rd_T61 l0_1 x5_3).f1).length c176_1, .slice A176_2 ((rd_T61 l0_1 x5_3).f2).length c176_2] 61 (0, 0)) (by (with_reducible repeat (first | refine Zn ?_ _ | refine Zw ?_ | refine Za ?_ _)); exact BK177.out) hb)
                  have n2_ := Az.mk (Yt (by repeat (first | (with_reducible first | exact HB.out | apply Ya | apply Yn | apply Yw | refine Ys ?_ GE169.out | refine Ys ?_ GE177.out) | exact HB.out)) hb)
                  clear BK169
                  clear BK177
                  clear HB
                  have BK169 := n0_
                  have BK177 := n1_
                  have HB := n2_
                  clear n0_ n1_ n2_
                  (try clear hb)
                  (try clear hb2)
                  (try clear hk)
                  (try clear hi)
                  refine hK.out _ _ ⟨(Zc BK169.out 0).trans rfl, (Zc BK169.out 1).trans rfl, (Zc BK169.out 2).trans rfl, (Zc BK177.out 0).trans rfl, (Zc BK177.out 1).trans rfl, (Zc BK177.out 2).trans rfl, (by first | exact ((HB.out.cell (World.block_lt_of_cell? w _ hw178_0)).trans hw178_0) | exact hx178_0), (by first | exact ((HB.out.cell (World.block_lt_of_cell? w _ hw178_1)).trans hw178_1) | exact hx178_1), (by first | exact ((HB.out.cell (World.block_lt_of_cell? w _ hw178_2)).trans hw178_2) | exact hx178_2), (by first | exact ((HB.out.cell (World.block_lt_of_cell? w _ hw179_0)).trans hw179_0) | exact hx179_0)⟩ (fun hHeld => ?_)
                  clear hK K
                  refine norm_ (a' := ?_) ?_ ?_
                  rotate_left
                  ·show Act.put _ (some 86) _ = _
                   simp only [Act.put, List.setIfInBounds_toArray, List.set_cons_zero, List.set_cons_succ, i64_w, i32_w]
                   rfl
                  refine pure_ (i := 12) (N := some 87) (v := ?_) (a' := ?_) #[true, true, true, true, true, true, true, true, true, true, true, true, true, false, false, false, false, false, false, false, false, false, false] rfl rfl (any_of HT_.out (by kernel_rfl)) (fun _ _ _ h => h) (Or.inl ⟨by rfl, ?_⟩) ?_ ?_
                  rotate_left
                  ·intro w'
                   go_simp
                   with_reducible rfl
                  rotate_left
                  ·simp only [Act.put, List.setIfInBounds_toArray, List.set_cons_zero, List.set_cons_succ, i64_w, i32_w]
                   rfl
                  refine pure_ (i := 13) (N := some 88) (v := ?_) (a' := ?_) #[true, true, true, true, true, true, true, true, true, true, true, true, true, true, false, false, false, false, false, false, false, false, false] rfl rfl (any_of HT_.out (by kernel_rfl)) (fun _ _ _ h => h) (Or.inl ⟨by rfl, ?_⟩) ?_ ?_
                  rotate_left
                  ·intro w'
                   go_simp
                   with_reducible rfl
                  rotate_left
                  ·simp only [Act.put, List.setIfInBounds_toArray, List.set_cons_zero, List.set_cons_succ, i64_w, i32_w]
                   rfl
                  refine pure_ (i := 14) (N := some 89) (v := undef) (a' := ?_) #[true, true, true, true, true, true, true, true, true, true, true, true, true, true, true, false, false, false, false, false, false, false, false] rfl rfl (any_of HT_.out (by kernel_rfl)) (fun _ _ _ h => h) (Or.inr ⟨by rfl, rfl⟩) ?_ ?_
                  rotate_left
                  ·simp only [Act.put, List.setIfInBounds_toArray, List.set_cons_zero, List.set_cons_succ, i64_w, i32_w]
                   rfl
                  refine pure_ (i := 15) (N := some 90) (v := undef) (a' := ?_) #[true, true, true, true, true, true, true, true, true, true, true, true, true, true, true, true, false, false, false, false, false, false, false] rfl rfl (any_of HT_.out (by kernel_rfl)) (fun _ _ _ h => h) (Or.inr ⟨by rfl, rfl⟩) ?_ ?_
                  rotate_left
                  ·simp only [Act.put, List.setIfInBounds_toArray, List.set_cons_zero, List.set_cons_succ, i64_w, i32_w]
                   rfl
                  refine pure_ (i := 16) (N := some 91) (v := undef) (a' := ?_) #[true, true, true, true, true, true, true, true, true, true, true, true, true, true, true, true, true, false, false, false, false, false, false] rfl rfl (any_of HT_.out (by kernel_rfl)) (fun _ _ _ h => h) (Or.inr ⟨by rfl, rfl⟩) ?_ ?_
                  rotate_left
                  ·simp only [Act.put, List.setIfInBounds_toArray, List.set_cons_zero, List.set_cons_succ, i64_w, i32_w]
                   rfl
                  refine pure_ (i := 17) (N := some 92) (v := undef) (a' := ?_) #[true, true, true, true, true, true, true, true, true, true, true, true, true, true, true, true, true, true, false, false, false, false, false] rfl rfl (any_of HT_.out (by kernel_rfl)) (fun _ _ _ h => h) (Or.inr ⟨by rfl, rfl⟩) ?_ ?_
                  rotate_left
                  ·simp only [Act.put, List.setIfInBounds_toArray, List.set_cons_zero, List.set_cons_succ, i64_w, i32_w]
                   rfl
                  refine pure_ (i := 18) (N := some 93) (v := undef) (a' := ?_) #[true, true, true, true, true, true, true, true, true, true, true, true, true, true, true, true, true, true, true, false, false, false, false] rfl rfl (any_of HT_.out (by kernel_rfl)) (fun _ _ _ h => h) (Or.inr ⟨by rfl, rfl⟩) ?_ ?_
                  rotate_left
                  ·simp only [Act.put, List.setIfInBounds_toArray, List.set_cons_zero, List.set_cons_succ, i64_w, i32_w]
                   rfl
                  refine pure_ (i := 19) (N := some 94) (v := undef) (a' := ?_) #[true, true, true, true, true, true, true, true, true, true, true, true, true, true, true, true, true, true, true, true, false, false, false] rfl rfl (any_of HT_.out (by kernel_rfl)) (fun _ _ _ h => h) (Or.inr ⟨by rfl, rfl⟩) ?_ ?_
                  rotate_left
                  ·simp only [Act.put, List.setIfInBounds_toArray, List.set_cons_zero, List.set_cons_succ, i64_w, i32_w]
                   rfl
                  refine pure_ (i := 20) (N := some 95) (v := undef) (a' := ?_) #[true, true, true, true, true, true, true, true, true, true, true, true, true, true, true, true, true, true, true, true, true, false, false] rfl rfl (any_of HT_.out (by kernel_rfl)) (fun _ _ _ h => h) (Or.inr ⟨by rfl, rfl⟩) ?_ ?_
                  rotate_left
                  ·simp only [Act.put, List.setIfInBounds_toArray, List.set_cons_zero, List.set_cons_succ, i64_w, i32_w]
                   rfl
                  refine pure_ (i := 21) (N := some 96) (v := undef) (a' := ?_) #[true, true, true, true, true, true, true, true, true, true, true, true, true, true, true, true, true, true, true, true, true, true, false] rfl rfl (any_of HT_.out (by kernel_rfl)) (fun _ _ _ h => h) (Or.inr ⟨by rfl, rfl⟩) ?_ ?_
                  rotate_left
                  ·simp only [Act.put, List.setIfInBounds_toArray, List.set_cons_zero, List.set_cons_succ, i64_w, i32_w]
                   rfl
                  refine pure_ (i := 22) (N := some 97) (v := ?_) (a' := ?_) #[true, true, true, true, true, true, true, true, true, true, true, true, true, true, true, true, true, true, true, true, true, true, true] rfl rfl (any_of HT_.out (by kernel_rfl)) (fun _ _ _ h => h) (Or.inl ⟨by rfl, ?_⟩) ?_ ?_
                  rotate_left
                  ·intro w'
                   go_simp
                   with_reducible rfl
                  rotate_left
                  ·simp only [Act.put, List.setIfInBounds_toArray, List.set_cons_zero, List.set_cons_succ, i64_w, i32_w]
                   rfl
                  refine done_ (done_of HT_.out (by kernel_rfl)) ?_
                  try go_wp2
                  go_ret
                  exact ⟨by first | rfl | (simp [errW_none, errW_some] <;> rfl) | (simp [*, errW_none, errW_some] <;> rfl), by repeat (first | (with_reducible first | exact HB.out | apply Ya | apply Yn | apply Yw | refine Ys ?_ GE169.out | refine Ys ?_ GE177.out) | exact HB.out)⟩
                ·rw [if_neg c47] at H
                 exact absurd H (by simp)
               ·rw [if_neg c46] at H
                exact absurd H (by simp)
              ·rw [if_neg c45] at H
               exact absurd H (by simp)
             ·rw [if_neg c44] at H
              have c44b0 : decide (x7_4 < 6) = false := decide_eq_false c44
              clear c44
              have H' := Az.mk H
              clear H
              go_wp2
              go_roundg k4
              case measure => have := HJ1.out; have := HK2.out; have := HK3.out; have := HK4.out; omega
              case rel => exact ⟨(wrap64 (x5_3 + 1)), (by first | rfl | (simp; done) | (simp [*]; done)), H', ⟨by have := HJ1.out; have := HK2.out; have := HK3.out; have := HK4.out; omega⟩, ⟨by (with_reducible repeat (first | refine Zn ?_ _ | refine Zw ?_ | refine Za ?_ _)); exact BK169.out⟩, ⟨by repeat (first | (with_reducible first | exact HB.out | apply Ya | apply Yn | apply Yw | refine Ys ?_ GE169.out | refine Ys ?_ GE177.out) | exact HB.out)⟩⟩
          ·rw [if_neg c39] at H
           exact absurd H (by simp)
         ·rw [if_neg c38] at H
          have c38b0 : decide (x5_3 < (l0_1.length : Int)) = false := decide_eq_false c38
          clear c38
          obtain rfl := Option.some.inj H
          have hcz61_0 : wr.cell? ⟨gb169, 0, none⟩ = some (.slice A0_0 l0_0.length c0_0) := (Zc BK169.out 0).trans rfl
          have hcz61_1 : wr.cell? ⟨gb169, 1, none⟩ = some (.slice A0_1 l0_1.length c0_1) := (Zc BK169.out 1).trans rfl
          have hcz61_2 : wr.cell? ⟨gb169, 2, none⟩ = some (.int .i64 a0_2) := (Zc BK169.out 2).trans rfl
          have hfz61_0 := Zf BK169.out 0
          have hfz61_1 := Zf BK169.out 1
          have hfz61_2 := Zf BK169.out 2
          go_wp2
          go_ret
          exact ⟨by first | rfl | (simp [errW_none, errW_some] <;> rfl) | (simp [*, errW_none, errW_some] <;> rfl), by repeat (first | (with_reducible first | exact HB.out | apply Ya | apply Yn | apply Yw | refine Ys ?_ GE169.out) | exact HB.out)⟩

end Go.Proofs.Ytjgcfpclddfifaa.QFnExactHostFree
