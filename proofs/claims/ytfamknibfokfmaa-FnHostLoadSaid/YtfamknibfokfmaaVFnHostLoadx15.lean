/- Walks of this claim: each Go function that the law reaches comes to what the Lean function beside it says. Conditions: none beyond those that each theorem names. -/
import Derived.Test.YtfamknibfokfmaaVFnHostLoadx0
import Derived.Test.YtfamknibfokfmaaVFnHostLoadx8
import Derived.Test.YtfamknibfokfmaaVFnHostLoadx14
namespace Go.Proofs.Ytfamknibfokfmaa.QFnHostLoad
open Go.RowKit Go.Proofs.YtfamknibfokfmaaW.PrintWords Go.Proofs.YtfamknibfokfmaaW.PrintLast Go.Proofs.YtfamknibfokfmaaW.PrintMore
attribute [local go_sem] max2_int min2_int max_two min_two max_three min_three max_four min_four   -- for this text's walks alone
set_option linter.unusedVariables false
set_option linter.unusedSimpArgs false

/-! ### impl_HostOk: function 27 -/
mutual
def impl_HostOk.j0 : Nat → Bool → List (List Int) → List (S74) → Int → Option (Bool)
 | 0, _, _, _, _ => none
 | k + 1, x27, x328000, x328001, x328002 => if x27 = true then (some false) else (impl_HostOk.l0 k x328001 (x328001.length : Int) 0 x328000 x328001 x328002)
def impl_HostOk.l0 : Nat → List (S74) → Int → Int → List (List Int) → List (S74) → Int → Option (Bool)
 | 0, _, _, _, _, _, _ => none
 | k + 1, x29, x30, x31, x328000, x328001, x328002 => if x31 < x30 then (if 0 ≤ x31 then (if x31 < (x29.length : Int) then ((impl_Host_guestOk.f k x328000 x328001 x328002 ((rd_T74 x29 x31).f0) ((rd_T74 x29 x31).f1) ((rd_T74 x29 x31).f2)).bind fun t333 => (if t333 = true then (impl_HostOk.l0 k x29 x30 (wrap64 (x31 + 1)) x328000 x328001 x328002) else (some false))) else (none)) else (none)) else (some true)
end
def impl_HostOk.f (k : Nat) (l0_0 : List (List Int)) (l0_1 : List (S74)) (a0_2 : Int) : Option (Bool) := if (l0_0.length : Int) = 8 then ((impl_MemOk.f k l0_0).bind fun t328 => (if t328 = true then ((impl_within.f (l0_1.length : Int) 1 2).bind fun t329 => (if t329 = true then ((impl_within.f a0_2 0 7).bind fun t330 => (impl_HostOk.j0 k (!t330) l0_0 l0_1 a0_2)) else (impl_HostOk.j0 k true l0_0 l0_1 a0_2))) else (impl_HostOk.j0 k true l0_0 l0_1 a0_2))) else (impl_HostOk.j0 k true l0_0 l0_1 a0_2)
set_option maxHeartbeats 8000000 in
set_option maxRecDepth 100000 in
theorem impl_HostOk.calls (k : Nat) (A0_0 : Option Addr) (c0_0 : Nat) (l0_0 : List (List Int)) (A0_1 : Option Addr) (c0_1 : Nat) (l0_1 : List (S74)) (a0_2 : Int) (r : Bool) (w : World) (hr0_0 : Kd.C (Kd.slice 3 (Kd.int .i64)) w A0_0 l0_0.length l0_0) (hc0_0 : l0_0.length ≤ c0_0) (hr0_1 : Kd.C k74 w A0_1 l0_1.length l0_1) (hc0_1 : l0_1.length ≤ c0_1) (h : impl_HostOk.f k l0_0 l0_1 a0_2 = some r) :
  Calls Try.prog 27 #[.agg #[.slice A0_0 l0_0.length c0_0, .slice A0_1 l0_1.length c0_1, .int .i64 a0_2]] w fun e w' => e = .returned (.bool r) ∧ Below w.heap.size w w' := by
 have hu35 := Try.underlying35
 have hu74 := Try.underlying74
 have HR0_0 := Az.mk hr0_0
 have HC0_0 := Az.mk hc0_0
 clear hr0_0 hc0_0
 have HR0_1 := Az.mk hr0_1
 have HC0_1 := Az.mk hc0_1
 clear hr0_1 hc0_1
 have HB := Az.mk (Below.refl w.heap.size w)
 have H : (if (l0_0.length : Int) = 8 then ((impl_MemOk.f k l0_0).bind fun t328 => (if t328 = true then ((impl_within.f (l0_1.length : Int) 1 2).bind fun t329 => (if t329 = true then ((impl_within.f a0_2 0 7).bind fun t330 => (impl_HostOk.j0 k (!t330) l0_0 l0_1 a0_2)) else (impl_HostOk.j0 k true l0_0 l0_1 a0_2))) else (impl_HostOk.j0 k true l0_0 l0_1 a0_2))) else (impl_HostOk.j0 k true l0_0 l0_1 a0_2)) = some r := h
 clear h
 have HC2 := Az.mk H
 clear H
 go_enter Try.func27, Try.ntmps27
 go_upto_region 1 with (first | ((with_reducible refine Yd (N := 1) rfl ?_); (try (refine Ye (by rfl) ?_; dsimp only)); refine Yv ?hg (N := 1) ?hd (cs := #[.slice A0_0 l0_0.length c0_0, .slice A0_1 l0_1.length c0_1, .int .i64 a0_2]) (t := 35) ?hr ?_; (case hd => rfl); (case hg => rfl); (case hr => first | (go_simp; done) | (go_simp; rfl)); intro gb327 hg w3 hbox hb; have n0_ := Az.mk (Yt (by repeat (first | (with_reducible first | exact HB.out | apply Ya | apply Yn | apply Yw) | exact HB.out)) hb); have n1_ := Az.mk (hbox); have n2_ := Az.mk ((by rw [hg]; exact (Yz (by repeat (first | (with_reducible first | exact HB.out | apply Ya | apply Yn | apply Yw) | exact HB.out))) : w.heap.size ≤ gb327)); have n3_ := Az.mk ((by rw [hg]; exact (Yz (by repeat (first | (with_reducible first | exact HB.out | apply Ya | apply Yn | apply Yw) | exact HB.out))) : w.heap.size ≤ gb327)); clear HB; have HB := n0_; have BK327 := n1_; have GW327 := n2_; have GE327 := n3_; clear n0_ n1_ n2_ n3_; clear hb hbox hg))
 (try simp only [Act.put, List.setIfInBounds_toArray, List.set_cons_zero, List.set_cons_succ])
 go_cut [27] (fun v27 wc => ∃ (kq : Nat) (x27_1 : Bool), v27 = .bool x27_1 ∧ Az (impl_HostOk.j0 kq x27_1 l0_0 l0_1 a0_2 = some r) ∧ Az (kq ≤ k) ∧ Az (wc.heap[gb327]? = some (.cells #[(.slice A0_0 l0_0.length c0_0), (.slice A0_1 l0_1.length c0_1), .int .i64 a0_2] 35 (0, 0))) ∧ Az (Below w.heap.size w wc))
 case first =>
  have H := HC2.out
  clear HC2
  by_cases c4 : (l0_0.length : Int) = 8
  ·rw [if_pos c4] at H
   have c4b0 : ((l0_0.length : Int) == 8) = true := beq_iff_eq.mpr c4
   have c4b1 : ((l0_0.length : Int) != 8) = false := bne_eq_false_iff_eq.mpr c4
   clear c4
   (first | rw [c4b0] | (simp only [i64_w, i32_w]; rw [c4b0]) | skip)
   replace H := Option.bind_eq_some_iff.mp H
   obtain ⟨t328, A50, H⟩ := H
   replace H : (if t328 = true then ((impl_within.f (l0_1.length : Int) 1 2).bind fun t329 => (if t329 = true then ((impl_within.f a0_2 0 7).bind fun t330 => (impl_HostOk.j0 k (!t330) l0_0 l0_1 a0_2)) else (impl_HostOk.j0 k true l0_0 l0_1 a0_2))) else (impl_HostOk.j0 k true l0_0 l0_1 a0_2)) = some r := H
   have A5 := Az.mk A50
   clear A50
   by_cases c6 : t328 = true
   ·subst c6
    have H1 : ((impl_within.f (l0_1.length : Int) 1 2).bind fun t329 => (if t329 = true then ((impl_within.f a0_2 0 7).bind fun t330 => (impl_HostOk.j0 k (!t330) l0_0 l0_1 a0_2)) else (impl_HostOk.j0 k true l0_0 l0_1 a0_2))) = some r := by rw [if_pos rfl] at H; exact H
    clear H
    have H := H1
    clear H1
    replace H := Option.bind_eq_some_iff.mp H
    obtain ⟨t329, A70, H⟩ := H
    replace H : (if t329 = true then ((impl_within.f a0_2 0 7).bind fun t330 => (impl_HostOk.j0 k (!t330) l0_0 l0_1 a0_2)) else (impl_HostOk.j0 k true l0_0 l0_1 a0_2)) = some r := H
    have A7 := Az.mk A70
    clear A70
    by_cases c8 : t329 = true
    ·subst c8
     have H1 : ((impl_within.f a0_2 0 7).bind fun t330 => (impl_HostOk.j0 k (!t330) l0_0 l0_1 a0_2)) = some r := by rw [if_pos rfl] at H; exact H
     clear H
     have H := H1
     clear H1
     replace H := Option.bind_eq_some_iff.mp H
     obtain ⟨t330, A90, H⟩ := H
     replace H : (impl_HostOk.j0 k (!t330) l0_0 l0_1 a0_2) = some r := H
     have A9 := Az.mk A90
     clear A90
     have H' := Az.mk H
     clear H
     have hcz10_0 : w3.cell? ⟨gb327, 0, none⟩ = some (.slice A0_0 l0_0.length c0_0) := (Zc BK327.out 0).trans rfl
     have hcz10_1 : w3.cell? ⟨gb327, 1, none⟩ = some (.slice A0_1 l0_1.length c0_1) := (Zc BK327.out 1).trans rfl
     have hcz10_2 : w3.cell? ⟨gb327, 2, none⟩ = some (.int .i64 a0_2) := (Zc BK327.out 2).trans rfl
     have hfz10_0 := Zf BK327.out 0
     have hfz10_1 := Zf BK327.out 1
     have hfz10_2 := Zf BK327.out 2
     go_wp2_with (first | (go_at_call 52; (with_reducible refine (impl_MemOk.calls k _ _ l0_0 true _ ?side1 ?side2 A5.out).mono ?_); (case side1 => repeat (first | exact (Kd.Cb_ HR0_0.out HB.out) | exact HR0_0.out | (with_reducible refine Kd.Ca_ ?_ _) | (with_reducible refine Kd.Cn_ ?_ _) | (with_reducible refine Kd.Cw_ ?_))); (case side2 => exact HC0_0.out); rintro e w' ⟨rfl, ⟨nd, rfl⟩⟩) | (go_at_call 53; (with_reducible refine (impl_within.calls (l0_1.length : Int) 1 2 true _ A7.out).mono ?_); rintro e w' ⟨rfl, ⟨nd, rfl⟩⟩) | (go_at_call 53; (with_reducible refine (impl_within.calls a0_2 0 7 t330 _ A9.out).mono ?_); rintro e w' ⟨rfl, ⟨nd, rfl⟩⟩))
     go_meet
     case rel => exact ⟨_, (!t330), (by first | rfl | (simp; done) | (simp [*]; done)), H', ⟨by first | omega | exact Nat.le_refl _⟩, ⟨by (with_reducible repeat (first | refine Zn ?_ _ | refine Zw ?_ | refine Za ?_ _)); exact BK327.out⟩, ⟨by repeat (first | (with_reducible first | exact HB.out | apply Ya | apply Yn | apply Yw | refine Ys ?_ GE327.out) | exact HB.out)⟩⟩
    ·replace c8 := Bool.eq_false_iff.mpr c8
     subst c8
     have H1 : (impl_HostOk.j0 k true l0_0 l0_1 a0_2) = some r := by rw [if_neg (show ¬ (false = true) by decide)] at H; exact H
     clear H
     have H := H1
     clear H1
     have H' := Az.mk H
     clear H
     have hcz11_0 : w3.cell? ⟨gb327, 0, none⟩ = some (.slice A0_0 l0_0.length c0_0) := (Zc BK327.out 0).trans rfl
     have hcz11_1 : w3.cell? ⟨gb327, 1, none⟩ = some (.slice A0_1 l0_1.length c0_1) := (Zc BK327.out 1).trans rfl
     have hcz11_2 : w3.cell? ⟨gb327, 2, none⟩ = some (.int .i64 a0_2) := (Zc BK327.out 2).trans rfl
     have hfz11_0 := Zf BK327.out 0
     have hfz11_1 := Zf BK327.out 1
     have hfz11_2 := Zf BK327.out 2
     go_wp2_with (first | (go_at_call 52; (with_reducible refine (impl_MemOk.calls k _ _ l0_0 true _ ?side1 ?side2 A5.out).mono ?_); (case side1 => repeat (first | exact (Kd.Cb_ HR0_0.out HB.out) | exact HR0_0.out | (with_reducible refine Kd.Ca_ ?_ _) | (with_reducible refine Kd.Cn_ ?_ _) | (with_reducible refine Kd.Cw_ ?_))); (case side2 => exact HC0_0.out); rintro e w' ⟨rfl, ⟨nd, rfl⟩⟩) | (go_at_call 53; (with_reducible refine (impl_within.calls (l0_1.length : Int) 1 2 false _ A7.out).mono ?_); rintro e w' ⟨rfl, ⟨nd, rfl⟩⟩))
     go_meet
     case rel => exact ⟨_, (true), (by first | rfl | (simp; done) | (simp [*]; done)), H', ⟨by first | omega | exact Nat.le_refl _⟩, ⟨by (with_reducible repeat (first | refine Zn ?_ _ | refine Zw ?_ | refine Za ?_ _)); exact BK327.out⟩, ⟨by repeat (first | (with_reducible first | exact HB.out | apply Ya | apply Yn | apply Yw | refine Ys ?_ GE327.out) | exact HB.out)⟩⟩
   ·replace c6 := Bool.eq_false_iff.mpr c6
    subst c6
    have H1 : (impl_HostOk.j0 k true l0_0 l0_1 a0_2) = some r := by rw [if_neg (show ¬ (false = true) by decide)] at H; exact H
    clear H
    have H := H1
    clear H1
    have H' := Az.mk H
    clear H
    have hcz12_0 : w3.cell? ⟨gb327, 0, none⟩ = some (.slice A0_0 l0_0.length c0_0) := (Zc BK327.out 0).trans rfl
    have hcz12_1 : w3.cell? ⟨gb327, 1, none⟩ = some (.slice A0_1 l0_1.length c0_1) := (Zc BK327.out 1).trans rfl
    have hcz12_2 : w3.cell? ⟨gb327, 2, none⟩ = some (.int .i64 a0_2) := (Zc BK327.out 2).trans rfl
    have hfz12_0 := Zf BK327.out 0
    have hfz12_1 := Zf BK327.out 1
    have hfz12_2 := Zf BK327.out 2
    go_wp2_with (first | (go_at_call 52; (with_reducible refine (impl_MemOk.calls k _ _ l0_0 false _ ?side1 ?side2 A5.out).mono ?_); (case side1 => repeat (first | exact (Kd.Cb_ HR0_0.out HB.out) | exact HR0_0.out | (with_reducible refine Kd.Ca_ ?_ _) | (with_reducible refine Kd.Cn_ ?_ _) | (with_reducible refine Kd.Cw_ ?_))); (case side2 => exact HC0_0.out); rintro e w' ⟨rfl, ⟨nd, rfl⟩⟩))
    go_meet
    case rel => exact ⟨_, (true), (by first | rfl | (simp; done) | (simp [*]; done)), H', ⟨by first | omega | exact Nat.le_refl _⟩, ⟨by (with_reducible repeat (first | refine Zn ?_ _ | refine Zw ?_ | refine Za ?_ _)); exact BK327.out⟩, ⟨by repeat (first | (with_reducible first | exact HB.out | apply Ya | apply Yn | apply Yw | refine Ys ?_ GE327.out) | exact HB.out)⟩⟩
  ·rw [if_neg c4] at H
   have c4b0 : ((l0_0.length : Int) == 8) = false := beq_eq_false_iff_ne.mpr c4
   have c4b1 : ((l0_0.length : Int) != 8) = true := bne_iff_ne.mpr c4
   (first | rw [c4b0] | (simp only [i64_w, i32_w]; rw [c4b0]) | skip)
   have H' := Az.mk H
   clear H
   have hcz13_0 : w3.cell? ⟨gb327, 0, none⟩ = some (.slice A0_0 l0_0.length c0_0) := (Zc BK327.out 0).trans rfl
   have hcz13_1 : w3.cell? ⟨gb327, 1, none⟩ = some (.slice A0_1 l0_1.length c0_1) := (Zc BK327.out 1).trans rfl
   have hcz13_2 : w3.cell? ⟨gb327, 2, none⟩ = some (.int .i64 a0_2) := (Zc BK327.out 2).trans rfl
   have hfz13_0 := Zf BK327.out 0
   have hfz13_1 := Zf BK327.out 1
   have hfz13_2 := Zf BK327.out 2
   go_wp2
   go_meet
   case rel => exact ⟨_, (true), (by first | rfl | (simp; done) | (simp [*]; done)), H', ⟨by first | omega | exact Nat.le_refl _⟩, ⟨by (with_reducible repeat (first | refine Zn ?_ _ | refine Zw ?_ | refine Za ?_ _)); exact BK327.out⟩, ⟨by repeat (first | (with_reducible first | exact HB.out | apply Ya | apply Yn | apply Yw | refine Ys ?_ GE327.out) | exact HB.out)⟩⟩
 case rest =>
  clear HC2
  try clear c2
  try clear p2
  try clear c4
  try clear c4b0
  try clear c4b1
  try clear c6
  try clear c8
  try clear hcz10_0
  try clear hcz10_1
  try clear hcz10_2
  try clear hcz11_0
  try clear hcz11_1
  try clear hcz11_2
  try clear hcz12_0
  try clear hcz12_1
  try clear hcz12_2
  try clear hcz13_0
  try clear hcz13_1
  try clear hcz13_2
  try clear hfz10_0
  try clear hfz10_1
  try clear hfz10_2
  try clear hfz11_0
  try clear hfz11_1
  try clear hfz11_2
  try clear hfz12_0
  try clear hfz12_1
  try clear hfz12_2
  try clear hfz13_0
  try clear hfz13_1
  try clear hfz13_2
  obtain ⟨kq, x27_1, rfl, HA, HJ1, BK327, HB⟩ := hcut
  cases kq with
  | zero => exact absurd HA.out (by simp [impl_HostOk.j0])
  | succ kj1 =>
   have H := HA.out
   clear HA
   simp only [impl_HostOk.j0] at H
   by_cases c14 : x27_1 = true
   ·subst c14
    have H1 : (some false) = some r := by rw [if_pos rfl] at H; exact H
    clear H
    have H := H1
    clear H1
    obtain rfl := Option.some.inj H
    go_wp2
    go_ret
    exact ⟨by first | rfl | (simp [errW_none, errW_some] <;> rfl) | (simp [*, errW_none, errW_some] <;> rfl), by repeat (first | (with_reducible first | exact HB.out | apply Ya | apply Yn | apply Yw | refine Ys ?_ GE327.out) | exact HB.out)⟩
   ·replace c14 := Bool.eq_false_iff.mpr c14
    subst c14
    have H1 : (impl_HostOk.l0 kj1 l0_1 (l0_1.length : Int) 0 l0_0 l0_1 a0_2) = some r := by rw [if_neg (show ¬ (false = true) by decide)] at H; exact H
    clear H
    have H := H1
    clear H1
    have H' := Az.mk H
    clear H
    have hcz15_0 : wc.cell? ⟨gb327, 0, none⟩ = some (.slice A0_0 l0_0.length c0_0) := (Zc BK327.out 0).trans rfl
    have hcz15_1 : wc.cell? ⟨gb327, 1, none⟩ = some (.slice A0_1 l0_1.length c0_1) := (Zc BK327.out 1).trans rfl
    have hcz15_2 : wc.cell? ⟨gb327, 2, none⟩ = some (.int .i64 a0_2) := (Zc BK327.out 2).trans rfl
    have hfz15_0 := Zf BK327.out 0
    have hfz15_1 := Zf BK327.out 1
    have hfz15_2 := Zf BK327.out 2
    go_wp2
    go_loopg [31] kj1 (fun kq v31 w' => ∃ (x31_2 : Int), v31 = .int .i64 x31_2 ∧ Az (impl_HostOk.l0 kq l0_1 (l0_1.length : Int) x31_2 l0_0 l0_1 a0_2 = some r) ∧ Az (kq ≤ kj1) ∧ Az (w'.heap[gb327]? = some (.cells #[(.slice A0_0 l0_0.length c0_0), (.slice A0_1 l0_1.length c0_1), .int .i64 a0_2] 35 (0, 0))) ∧ Az (Below w.heap.size w w'))
    case atStart => exact ⟨(0), (by first | rfl | (simp; done) | (simp [*]; done)), H', ⟨Nat.le_refl _⟩, ⟨by (with_reducible repeat (first | refine Zn ?_ _ | refine Zw ?_ | refine Za ?_ _)); exact BK327.out⟩, ⟨by repeat (first | (with_reducible first | exact HB.out | apply Ya | apply Yn | apply Yw | refine Ys ?_ GE327.out) | exact HB.out)⟩⟩
    case round =>
     clear H'
     try clear c1
     try clear c2
     try clear p2
     try clear c4
     try clear c4b0
     try clear c4b1
     try clear c6
     try clear c8
     try clear c14
     try clear hcz10_0
     try clear hcz10_1
     try clear hcz10_2
     try clear hcz11_0
     try clear hcz11_1
     try clear hcz11_2
     try clear hcz12_0
     try clear hcz12_1
     try clear hcz12_2
     try clear hcz13_0
     try clear hcz13_1
     try clear hcz13_2
     try clear hcz15_0
     try clear hcz15_1
     try clear hcz15_2
     try clear hfz10_0
     try clear hfz10_1
     try clear hfz10_2
     try clear hfz11_0
     try clear hfz11_1
     try clear hfz11_2
     try clear hfz12_0
     try clear hfz12_1
     try clear hfz12_2
     try clear hfz13_0
     try clear hfz13_1
     try clear hfz13_2
     try clear hfz15_0
     try clear hfz15_1
     try clear hfz15_2
     try clear p2
     obtain ⟨x31_2, rfl, HA, HK2, BK327, HB⟩ := hrel
     cases gk with
     | zero => exact absurd HA.out (by simp [impl_HostOk.l0])
     | succ k2 =>
      have H := HA.out
      clear HA
      simp only [impl_HostOk.l0] at H
      by_cases c16 : x31_2 < (l0_1.length : Int)
      ·rw [if_pos c16] at H
       have c16b0 : decide (x31_2 < (l0_1.length : Int)) = true := decide_eq_true c16
       clear c16
       by_cases c17 : 0 ≤ x31_2
       ·rw [if_pos c17] at H
        have c17b0 : decide (0 ≤ x31_2) = true := decide_eq_true c17
        clear c17
        by_cases c18 : x31_2 < (l0_1.length : Int)
        ·rw [if_pos c18] at H
         have c18b0 : decide (x31_2 < (l0_1.length : Int)) = true := decide_eq_true c18
         clear c18
         replace H := Option.bind_eq_some_iff.mp H
         obtain ⟨t333, A190, H⟩ := H
         replace H : (if t333 = true then (impl_HostOk.l0 k2 l0_1 (l0_1.length : Int) (wrap64 (x31_2 + 1)) l0_0 l0_1 a0_2) else (some false)) = some r := H
         have A19 := Az.mk A190
         clear A190
         by_cases c20 : t333 = true
         ·subst c20
          have H1 : (impl_HostOk.l0 k2 l0_1 (l0_1.length : Int) (wrap64 (x31_2 + 1)) l0_0 l0_1 a0_2) = some r := by rw [if_pos rfl] at H; exact H
          clear H
          have H := H1
          clear H1
          have H' := Az.mk H
          clear H
          have p331 : 0 ≤ (x31_2 : Int) := of_decide_eq_true (by first | (with_reducible assumption) | assumption)
          have q331 : x31_2 < (l0_1.length : Int) := of_decide_eq_true (by first | (with_reducible assumption) | assumption)
          obtain ⟨ad331, A331_0, c331_0, A331_1, c331_1, A331_2, c331_2, e331, hx331_0, hx331_1, hx331_2, hl331_0, hi331_0, hl331_1, hi331_1, hl331_2, hi331_2⟩ := at_T74 HR0_1.out x31_2 p331 q331
          cases e331
          replace hx331_0 := (HB.out.cell (World.block_lt_of_cell? w _ hx331_0)).trans hx331_0
          replace hx331_1 := (HB.out.cell (World.block_lt_of_cell? w _ hx331_1)).trans hx331_1
          replace hx331_2 := (HB.out.cell (World.block_lt_of_cell? w _ hx331_2)).trans hx331_2
          have HR331_0 := Az.mk hi331_0
          have HC331_0 := Az.mk hl331_0
          clear hi331_0 hl331_0
          have HR331_1 := Az.mk hi331_1
          have HC331_1 := Az.mk hl331_1
          clear hi331_1 hl331_1
          have HR331_2 := Az.mk hi331_2
          have HC331_2 := Az.mk hl331_2
          clear hi331_2 hl331_2
          replace p331 := eq_true p331
          replace q331 := eq_true q331
          go_wp2_with (first | ((with_reducible refine Yd (N := 4) rfl ?_); (try (refine Ye (by rfl) ?_; dsimp only)); refine Yv ?hg (N := 4) ?hd (cs := #[.slice none 0 0, .slice none 0 0, .slice none 0 0]) (t := 74) ?hr ?_; (case hd => rfl); (case hg => rfl); (case hr => first | (go_simp; done) | (go_simp; rfl)); intro gb332 hg w21 hbox hb; have n0_ := Az.mk (Zb (g := gb327) (o := .cells #[.slice A0_0 l0_0.length c0_0, .slice (some ad331) l0_1.length c0_1, .int .i64 a0_2] 35 (0, 0)) (by (with_reducible repeat (first | refine Zn ?_ _ | refine Zw ?_ | refine Za ?_ _)); exact BK327.out) hb); have n1_ := Az.mk (Yt (by repeat (first | (with_reducible first | exact HB.out | apply Ya | apply Yn | apply Yw | refine Ys ?_ GE327.out) | exact HB.out)) hb); have n2_ := Az.mk (hbox); have n3_ := Az.mk ((by rw [hg]; exact (Yz (by repeat (first | (with_reducible first | exact HB.out | apply Ya | apply Yn | apply Yw | refine Ys ?_ GE327.out) | exact HB.out))) : w.heap.size ≤ gb332)); have n4_ := Az.mk ((by rw [hg]; exact (Yz (by repeat (first | (with_reducible first | exact HB.out | apply Ya | apply Yn | apply Yw | refine Ys ?_ GE327.out) | exact HB.out))) : w.heap.size ≤ gb332)); have n5_ := Az.mk ((by rw [hg]; exact Nat.ne_of_lt (Zl (g := gb327) (o := .cells #[.slice A0_0 l0_0.length c0_0, .slice (some ad331) l0_1.length c0_1, .int .i64 a0_2] 35 (0, 0)) (by (with_reducible repeat (first | refine Zn ?_ _ | refine Zw ?_ | refine Za ?_ _)); exact BK327.out)) : gb327 ≠ gb332)); have n6_ := Az.mk ((by rw [hg]; exact Nat.ne_of_gt (Zl (g := gb327) (o := .cells #[.slice A0_0 l0_0.length c0_0, .slice (some ad331) l0_1.length c0_1, .int .i64 a0_2] 35 (0, 0)) (by (with_reducible repeat (first | refine Zn ?_ _ | refine Zw ?_ | refine Za ?_ _)); exact BK327.out)) : gb332 ≠ gb327)); clear BK327; clear HB; have BK327 := n0_; have HB := n1_; have BK332 := n2_; have GW332 := n3_; have GE332 := n4_; have NB327_332 := n5_; have NB332_327 := n6_; clear n0_ n1_ n2_ n3_ n4_ n5_ n6_; clear hb hbox hg; have hnb22 := NB332_327.out; have hnc22 := NB327_332.out; have hcz23_0 : w21.cell? ⟨gb332, 0, none⟩ = some (.slice none 0 0) := (Zc BK332.out 0).trans rfl; have hcz23_1 : w21.cell? ⟨gb332, 1, none⟩ = some (.slice none 0 0) := (Zc BK332.out 1).trans rfl; have hcz23_2 : w21.cell? ⟨gb332, 2, none⟩ = some (.slice none 0 0) := (Zc BK332.out 2).trans rfl; have hfz23_0 := Zf BK332.out 0; have hfz23_1 := Zf BK332.out 1; have hfz23_2 := Zf BK332.out 2; have hcz24_0 : w21.cell? ⟨gb327, 0, none⟩ = some (.slice A0_0 l0_0.length c0_0) := (Zc BK327.out 0).trans rfl; have hcz24_1 : w21.cell? ⟨gb327, 1, none⟩ = some (.slice (some ad331) l0_1.length c0_1) := (Zc BK327.out 1).trans rfl; have hcz24_2 : w21.cell? ⟨gb327, 2, none⟩ = some (.int .i64 a0_2) := (Zc BK327.out 2).trans rfl; have hfz24_0 := Zf BK327.out 0; have hfz24_1 := Zf BK327.out 1; have hfz24_2 := Zf BK327.out 2) | ((with_reducible refine Yc (f := 66) rfl ?_); refine Yg (some 37) rfl rfl Try.func66 (by kernel_rfl) rfl #[.agg #[.slice A0_0 l0_0.length c0_0, .slice (some ad331) l0_1.length c0_1, .int .i64 a0_2], .agg #[.slice A331_0 ((rd_T74 l0_1 x31_2).f0).length c331_0, .slice A331_1 ((rd_T74 l0_1 x31_2).f1).length c331_1, .slice A331_2 ((rd_T74 l0_1 x31_2).f2).length c331_2]] rfl (by (try simp only [List.map_toArray, List.map_cons, List.map_nil]); first | done | rfl | (simp only [List.length_drop, List.length_take]; rfl)) ?_; (with_reducible refine (impl_Host_guestOk.calls k2 _ _ l0_0 _ _ l0_1 a0_2 _ _ ((rd_T74 l0_1 x31_2).f0) _ _ ((rd_T74 l0_1 x31_2).f1) _ _ ((rd_T74 l0_1 x31_2).f2) true _ ?side1 ?side2 ?side3 ?side4 ?side5 ?side6 ?side7 ?side8 ?side9 ?side10 A19.out).mono ?_); (case side1 => exact Kd.Cb_ HR0_0.out (by repeat (first | (with_reducible first | exact HB.out | apply Ya | apply Yn | apply Yw | refine Ys ?_ GE327.out | refine Ys ?_ GE332.out) | exact HB.out))); (case side2 => exact HC0_0.out); (case side3 => exact Kd.Cb_ HR0_1.out (by repeat (first | (with_reducible first | exact HB.out | apply Ya | apply Yn | apply Yw | refine Ys ?_ GE327.out | refine Ys ?_ GE332.out) | exact HB.out))); (case side4 => exact HC0_1.out); (case side5 => exact Kd.Cb_ HR331_0.out (by repeat (first | (with_reducible first | exact HB.out | apply Ya | apply Yn | apply Yw | refine Ys ?_ GE327.out | refine Ys ?_ GE332.out) | exact HB.out))); (case side6 => exact HC331_0.out); (case side7 => exact Kd.Cb_ HR331_1.out (by repeat (first | (with_reducible first | exact HB.out | apply Ya | apply Yn | apply Yw | refine Ys ?_ GE327.out | refine Ys ?_ GE332.out) | exact HB.out))); (case side8 => exact HC331_1.out); (case side9 => exact Kd.Cb_ HR331_2.out (by repeat (first | (with_reducible first | exact HB.out | apply Ya | apply Yn | apply Yw | refine Ys ?_ GE327.out | refine Ys ?_ GE332.out) | exact HB.out))); (case side10 => exact HC331_2.out); rintro e w25 ⟨rfl, hb⟩; refine ⟨_, rfl, ?_⟩; have n0_ := Az.mk (Zb (g := gb327) (o := .cells #[.slice A0_0 l0_0.length c0_0, .slice (some ad331) l0_1.length c0_1, .int .i64 a0_2] 35 (0, 0)) (by (with_reducible repeat (first | refine Zn ?_ _ | refine Zw ?_ | refine Za ?_ _)); refine blk_far ?_ NB327_332.out _; (with_reducible repeat (first | refine Zn ?_ _ | refine Zw ?_ | refine Za ?_ _)); refine blk_far ?_ NB327_332.out _; (with_reducible repeat (first | refine Zn ?_ _ | refine Zw ?_ | refine Za ?_ _)); refine blk_far ?_ NB327_332.out _; (with_reducible repeat (first | refine Zn ?_ _ | refine Zw ?_ | refine Za ?_ _)); exact BK327.out) hb); have n1_ := Az.mk (Zb (g := gb332) (o := .cells #[.slice A331_0 ((rd_T74 l0_1 x31_2).f0).length c331_0, .slice A331_1 ((rd_T74 l0_1 x31_2).f1).length c331_1, .slice A331_2 ((rd_T74 l0_1 x31_2).f2).length c331_2] 74 (0, 0)) (by (with_reducible repeat (first | refine Zn ?_ _ | refine Zw ?_ | refine Za ?_ _)); refine Zp (cs := #[.slice A331_0 ((rd_T74 l0_1 x31_2).f0).length c331_0, .slice A331_1 ((rd_T74 l0_1 x31_2).f1).length c331_1, .slice none 0 0]) ?_ 2 _ rfl; (with_reducible repeat (first | refine Zn ?_ _ | refine Zw ?_ | refine Za ?_ _)); refine Zp (cs := #[.slice A331_0 ((rd_T74 l0_1 x31_2).f0).length c331_0, .slice none 0 0, .slice none 0 0]) ?_ 1 _ rfl; (with_reducible repeat (first | refine Zn ?_ _ | refine Zw ?_ | refine Za ?_ _)); refine Zp (cs := #[.slice none 0 0, .slice none 0 0, .slice none 0 0]) ?_ 0 _ rfl; (with_reducible repeat (first | refine Zn ?_ _ | refine Zw ?_ | refine Za ?_ _)); exact BK332.out) hb); have n2_ := Az.mk (Yt (by repeat (first | (with_reducible first | exact HB.out | apply Ya | apply Yn | apply Yw | refine Ys ?_ GE327.out | refine Ys ?_ GE332.out) | exact HB.out)) hb); clear BK327; clear BK332; clear HB; have BK327 := n0_; have BK332 := n1_; have HB := n2_; clear n0_ n1_ n2_; (try clear hb); (try clear hb2); (try clear hk); (try clear hi)))
          go_roundg k2
          case measure => have := HJ1.out; have := HK2.out; omega
          case rel => exact ⟨(wrap64 (x31_2 + 1)), (by first | rfl | (simp; done) | (simp [*]; done)), H', ⟨by have := HJ1.out; have := HK2.out; omega⟩, ⟨by (with_reducible repeat (first | refine Zn ?_ _ | refine Zw ?_ | refine Za ?_ _)); exact BK327.out⟩, ⟨by repeat (first | (with_reducible first | exact HB.out | apply Ya | apply Yn | apply Yw | refine Ys ?_ GE327.out | refine Ys ?_ GE332.out) | exact HB.out)⟩⟩
         ·replace c20 := Bool.eq_false_iff.mpr c20
          subst c20
          have H1 : (some false) = some r := by rw [if_neg (show ¬ (false = true) by decide)] at H; exact H
          clear H
          have H := H1
          clear H1
          obtain rfl := Option.some.inj H
          have p331 : 0 ≤ (x31_2 : Int) := of_decide_eq_true (by first | (with_reducible assumption) | assumption)
          have q331 : x31_2 < (l0_1.length : Int) := of_decide_eq_true (by first | (with_reducible assumption) | assumption)
          obtain ⟨ad331, A331_0, c331_0, A331_1, c331_1, A331_2, c331_2, e331, hx331_0, hx331_1, hx331_2, hl331_0, hi331_0, hl331_1, hi331_1, hl331_2, hi331_2⟩ := at_T74 HR0_1.out x31_2 p331 q331
          cases e331
          replace hx331_0 := (HB.out.cell (World.block_lt_of_cell? w _ hx331_0)).trans hx331_0
          replace hx331_1 := (HB.out.cell (World.block_lt_of_cell? w _ hx331_1)).trans hx331_1
          replace hx331_2 := (HB.out.cell (World.block_lt_of_cell? w _ hx331_2)).trans hx331_2
          have HR331_0 := Az.mk hi331_0
          have HC331_0 := Az.mk hl331_0
          clear hi331_0 hl331_0
          have HR331_1 := Az.mk hi331_1
          have HC331_1 := Az.mk hl331_1
          clear hi331_1 hl331_1
          have HR331_2 := Az.mk hi331_2
          have HC331_2 := Az.mk hl331_2
          clear hi331_2 hl331_2
          replace p331 := eq_true p331
          replace q331 := eq_true q331
          go_wp2_with (first | ((with_reducible refine Yd (N := 4) rfl ?_); (try (refine Ye (by rfl) ?_; dsimp only)); refine Yv ?hg (N := 4) ?hd (cs := #[.slice none 0 0, .slice none 0 0, .slice none 0 0]) (t := 74) ?hr ?_; (case hd => rfl); (case hg => rfl); (case hr => first | (go_simp; done) | (go_simp; rfl)); intro gb332 hg w26 hbox hb; have n0_ := Az.mk (Zb (g := gb327) (o := .cells #[.slice A0_0 l0_0.length c0_0, .slice (some ad331) l0_1.length c0_1, .int .i64 a0_2] 35 (0, 0)) (by (with_reducible repeat (first | refine Zn ?_ _ | refine Zw ?_ | refine Za ?_ _)); exact BK327.out) hb); have n1_ := Az.mk (Yt (by repeat (first | (with_reducible first | exact HB.out | apply Ya | apply Yn | apply Yw | refine Ys ?_ GE327.out) | exact HB.out)) hb); have n2_ := Az.mk (hbox); have n3_ := Az.mk ((by rw [hg]; exact (Yz (by repeat (first | (with_reducible first | exact HB.out | apply Ya | apply Yn | apply Yw | refine Ys ?_ GE327.out) | exact HB.out))) : w.heap.size ≤ gb332)); have n4_ := Az.mk ((by rw [hg]; exact (Yz (by repeat (first | (with_reducible first | exact HB.out | apply Ya | apply Yn | apply Yw | refine Ys ?_ GE327.out) | exact HB.out))) : w.heap.size ≤ gb332)); have n5_ := Az.mk ((by rw [hg]; exact Nat.ne_of_lt (Zl (g := gb327) (o := .cells #[.slice A0_0 l0_0.length c0_0, .slice (some ad331) l0_1.length c0_1, .int .i64 a0_2] 35 (0, 0)) (by (with_reducible repeat (first | refine Zn ?_ _ | refine Zw ?_ | refine Za ?_ _)); exact BK327.out)) : gb327 ≠ gb332)); have n6_ := Az.mk ((by rw [hg]; exact Nat.ne_of_gt (Zl (g := gb327) (o := .cells #[.slice A0_0 l0_0.length c0_0, .slice (some ad331) l0_1.length c0_1, .int .i64 a0_2] 35 (0, 0)) (by (with_reducible repeat (first | refine Zn ?_ _ | refine Zw ?_ | refine Za ?_ _)); exact BK327.out)) : gb332 ≠ gb327)); clear BK327; clear HB; have BK327 := n0_; have HB := n1_; have BK332 := n2_; have GW332 := n3_; have GE332 := n4_; have NB327_332 := n5_; have NB332_327 := n6_; clear n0_ n1_ n2_ n3_ n4_ n5_ n6_; clear hb hbox hg; have hnb27 := NB332_327.out; have hnc27 := NB327_332.out; have hcz28_0 : w26.cell? ⟨gb332, 0, none⟩ = some (.slice none 0 0) := (Zc BK332.out 0).trans rfl; have hcz28_1 : w26.cell? ⟨gb332, 1, none⟩ = some (.slice none 0 0) := (Zc BK332.out 1).trans rfl; have hcz28_2 : w26.cell? ⟨gb332, 2, none⟩ = some (.slice none 0 0) := (Zc BK332.out 2).trans rfl; have hfz28_0 := Zf BK332.out 0; have hfz28_1 := Zf BK332.out 1; have hfz28_2 := Zf BK332.out 2; have hcz29_0 : w26.cell? ⟨gb327, 0, none⟩ = some (.slice A0_0 l0_0.length c0_0) := (Zc BK327.out 0).trans rfl; have hcz29_1 : w26.cell? ⟨gb327, 1, none⟩ = some (.slice (some ad331) l0_1.length c0_1) := (Zc BK327.out 1).trans rfl; have hcz29_2 : w26.cell? ⟨gb327, 2, none⟩ = some (.int .i64 a0_2) := (Zc BK327.out 2).trans rfl; have hfz29_0 := Zf BK327.out 0; have hfz29_1 := Zf BK327.out 1; have hfz29_2 := Zf BK327.out 2) | ((with_reducible refine Yc (f := 66) rfl ?_); refine Yg (some 37) rfl rfl Try.func66 (by kernel_rfl) rfl #[.agg #[.slice A0_0 l0_0.length c0_0, .slice (some ad331) l0_1.length c0_1, .int .i64 a0_2], .agg #[.slice A331_0 ((rd_T74 l0_1 x31_2).f0).length c331_0, .slice A331_1 ((rd_T74 l0_1 x31_2).f1).length c331_1, .slice A331_2 ((rd_T74 l0_1 x31_2).f2).length c331_2]] rfl (by (try simp only [List.map_toArray, List.map_cons, List.map_nil]); first | done | rfl | (simp only [List.length_drop, List.length_take]; rfl)) ?_; (with_reducible refine (impl_Host_guestOk.calls k2 _ _ l0_0 _ _ l0_1 a0_2 _ _ ((rd_T74 l0_1 x31_2).f0) _ _ ((rd_T74 l0_1 x31_2).f1) _ _ ((rd_T74 l0_1 x31_2).f2) false _ ?side1 ?side2 ?side3 ?side4 ?side5 ?side6 ?side7 ?side8 ?side9 ?side10 A19.out).mono ?_); (case side1 => exact Kd.Cb_ HR0_0.out (by repeat (first | (with_reducible first | exact HB.out | apply Ya | apply Yn | apply Yw | refine Ys ?_ GE327.out | refine Ys ?_ GE332.out) | exact HB.out))); (case side2 => exact HC0_0.out); (case side3 => exact Kd.Cb_ HR0_1.out (by repeat (first | (with_reducible first | exact HB.out | apply Ya | apply Yn | apply Yw | refine Ys ?_ GE327.out | refine Ys ?_ GE332.out) | exact HB.out))); (case side4 => exact HC0_1.out); (case side5 => exact Kd.Cb_ HR331_0.out (by repeat (first | (with_reducible first | exact HB.out | apply Ya | apply Yn | apply Yw | refine Ys ?_ GE327.out | refine Ys ?_ GE332.out) | exact HB.out))); (case side6 => exact HC331_0.out); (case side7 => exact Kd.Cb_ HR331_1.out (by repeat (first | (with_reducible first | exact HB.out | apply Ya | apply Yn | apply Yw | refine Ys ?_ GE327.out | refine Ys ?_ GE332.out) | exact HB.out))); (case side8 => exact HC331_1.out); (case side9 => exact Kd.Cb_ HR331_2.out (by repeat (first | (with_reducible first | exact HB.out | apply Ya | apply Yn | apply Yw | refine Ys ?_ GE327.out | refine Ys ?_ GE332.out) | exact HB.out))); (case side10 => exact HC331_2.out); rintro e w30 ⟨rfl, hb⟩; refine ⟨_, rfl, ?_⟩; have n0_ := Az.mk (Zb (g := gb327) (o := .cells #[.slice A0_0 l0_0.length c0_0, .slice (some ad331) l0_1.length c0_1, .int .i64 a0_2] 35 (0, 0)) (by (with_reducible repeat (first | refine Zn ?_ _ | refine Zw ?_ | refine Za ?_ _)); refine blk_far ?_ NB327_332.out _; (with_reducible repeat (first | refine Zn ?_ _ | refine Zw ?_ | refine Za ?_ _)); refine blk_far ?_ NB327_332.out _; (with_reducible repeat (first | refine Zn ?_ _ | refine Zw ?_ | refine Za ?_ _)); refine blk_far ?_ NB327_332.out _; (with_reducible repeat (first | refine Zn ?_ _ | refine Zw ?_ | refine Za ?_ _)); exact BK327.out) hb); have n1_ := Az.mk (Zb (g := gb332) (o := .cells #[.slice A331_0 ((rd_T74 l0_1 x31_2).f0).length c331_0, .slice A331_1 ((rd_T74 l0_1 x31_2).f1).length c331_1, .slice A331_2 ((rd_T74 l0_1 x31_2).f2).length c331_2] 74 (0, 0)) (by (with_reducible repeat (first | refine Zn ?_ _ | refine Zw ?_ | refine Za ?_ _)); refine Zp (cs := #[.slice A331_0 ((rd_T74 l0_1 x31_2).f0).length c331_0, .slice A331_1 ((rd_T74 l0_1 x31_2).f1).length c331_1, .slice none 0 0]) ?_ 2 _ rfl; (with_reducible repeat (first | refine Zn ?_ _ | refine Zw ?_ | refine Za ?_ _)); refine Zp (cs := #[.slice A331_0 ((rd_T74 l0_1 x31_2).f0).length c331_0, .slice none 0 0, .slice none 0 0]) ?_ 1 _ rfl; (with_reducible repeat (first | refine Zn ?_ _ | refine Zw ?_ | refine Za ?_ _)); refine Zp (cs := #[.slice none 0 0, .slice none 0 0, .slice none 0 0]) ?_ 0 _ rfl; (with_reducible repeat (first | refine Zn ?_ _ | refine Zw ?_ | refine Za ?_ _)); exact BK332.out) hb); have n2_ := Az.mk (Yt (by repeat (first | (with_reducible first | exact HB.out | apply Ya | apply Yn | apply Yw | refine Ys ?_ GE327.out | refine Ys ?_ GE332.out) | exact HB.out)) hb); clear BK327; clear BK332; clear HB; have BK327 := n0_; have BK332 := n1_; have HB := n2_; clear n0_ n1_ n2_; (try clear hb); (try clear hb2); (try clear hk); (try clear hi)))
          go_ret
          exact ⟨by first | rfl | (simp [errW_none, errW_some] <;> rfl) | (simp [*, errW_none, errW_some] <;> rfl), by repeat (first | (with_reducible first | exact HB.out | apply Ya | apply Yn | apply Yw | refine Ys ?_ GE327.out | refine Ys ?_ GE332.out) | exact HB.out)⟩
        ·rw [if_neg c18] at H
         exact absurd H (by simp)
       ·rw [if_neg c17] at H
        exact absurd H (by simp)
      ·rw [if_neg c16] at H
       have c16b0 : decide (x31_2 < (l0_1.length : Int)) = false := decide_eq_false c16
       clear c16
       obtain rfl := Option.some.inj H
       go_wp2
       go_ret
       exact ⟨by first | rfl | (simp [errW_none, errW_some] <;> rfl) | (simp [*, errW_none, errW_some] <;> rfl), by repeat (first | (with_reducible first | exact HB.out | apply Ya | apply Yn | apply Yw | refine Ys ?_ GE327.out) | exact HB.out)⟩

/-! ### impl_Host_see: function 65 -/
def impl_Host_see.l0 : Nat → List (List Int) → List (S87) → Int → Int → List (List Int) → List (S74) → Int → List (S87) → List (List Int) → List (S90) → Option ((List (List Int)))
 | 0, _, _, _, _, _, _, _, _, _, _ => none
 | k + 1, x5, x17, x18, x19, x335000, x335001, x335002, x340000, x340001, x340002 => if x19 < x18 then (if 0 ≤ x19 then (if x19 < (x17.length : Int) then (if x19 < (x340001.length : Int) then (if (rd_T87 x17 x19).f0 = true then (if 0 ≤ ((rd_T87 x17 x19).f1) then (if ((rd_T87 x17 x19).f1) < (x335000.length : Int) then ((some (([] : List Int) : List Int)).bind fun y344 => (if y344.length + (rd_L1 x335000 ((rd_T87 x17 x19).f1)).length < 17592186044416 then (if x5.length < 5864062014805 then (impl_Host_see.l0 k (x5 ++ [(y344 ++ (rd_L1 x335000 ((rd_T87 x17 x19).f1)))]) x17 x18 (wrap64 (x19 + 1)) x335000 x335001 x335002 x340000 x340001 x340002) else (none)) else (none))) else (none)) else (none)) else ((some (([] : List Int) : List Int)).bind fun y353 => (if y353.length + (rd_L1 x340001 x19).length < 17592186044416 then (if x5.length < 5864062014805 then (impl_Host_see.l0 k (x5 ++ [(y353 ++ (rd_L1 x340001 x19))]) x17 x18 (wrap64 (x19 + 1)) x335000 x335001 x335002 x340000 x340001 x340002) else (none)) else (none)))) else (none)) else (none)) else (none)) else (some x5)
def impl_Host_see.f (k : Nat) (l0_0 : List (List Int)) (l0_1 : List (S74)) (a0_2 : Int) (a1 : Int) : Option ((List (List Int))) := if 0 ≤ a1 then (if a1 < (l0_1.length : Int) then (impl_Host_see.l0 k (([] : List (List Int))) ((rd_T74 l0_1 a1).f0) (((rd_T74 l0_1 a1).f0).length : Int) 0 l0_0 l0_1 a0_2 ((rd_T74 l0_1 a1).f0) ((rd_T74 l0_1 a1).f1) ((rd_T74 l0_1 a1).f2)) else (none)) else (none)
set_option maxHeartbeats 8000000 in
set_option maxRecDepth 100000 in
theorem impl_Host_see.calls (k : Nat) (A0_0 : Option Addr) (c0_0 : Nat) (l0_0 : List (List Int)) (A0_1 : Option Addr) (c0_1 : Nat) (l0_1 : List (S74)) (a0_2 : Int) (a1 : Int) (r : List (List Int)) (w : World) (hr0_0 : Kd.C (Kd.slice 3 (Kd.int .i64)) w A0_0 l0_0.length l0_0) (hc0_0 : l0_0.length ≤ c0_0) (hr0_1 : Kd.C k74 w A0_1 l0_1.length l0_1) (hc0_1 : l0_1.length ≤ c0_1) (h : impl_Host_see.f k l0_0 l0_1 a0_2 a1 = some r) :
  Calls Try.prog 65 #[.agg #[.slice A0_0 l0_0.length c0_0, .slice A0_1 l0_1.length c0_1, .int .i64 a0_2], .int .i64 a1] w fun e w' => ∃ v0_ : Value, e = .returned (v0_) ∧ Kd.S (Kd.slice 3 (Kd.int .i64)) 45 w' w.heap.size (fun _ => True) v0_ r ∧ Below w.heap.size w w' := by
 have hu35 := Try.underlying35
 have hu74 := Try.underlying74
 have hu87 := Try.underlying87
 have HR0_0 := Az.mk hr0_0
 have HC0_0 := Az.mk hc0_0
 clear hr0_0 hc0_0
 have HR0_1 := Az.mk hr0_1
 have HC0_1 := Az.mk hc0_1
 clear hr0_1 hc0_1
 have HB := Az.mk (Below.refl w.heap.size w)
 have H : (if 0 ≤ a1 then (if a1 < (l0_1.length : Int) then (impl_Host_see.l0 k (([] : List (List Int))) ((rd_T74 l0_1 a1).f0) (((rd_T74 l0_1 a1).f0).length : Int) 0 l0_0 l0_1 a0_2 ((rd_T74 l0_1 a1).f0) ((rd_T74 l0_1 a1).f1) ((rd_T74 l0_1 a1).f2)) else (none)) else (none)) = some r := h
 clear h
 obtain ⟨y335, hy335⟩ : ∃ y_ : List (List Int), y_ = (([] : List (List Int))) := ⟨_, rfl⟩
 replace H : (if 0 ≤ a1 then (if a1 < (l0_1.length : Int) then (impl_Host_see.l0 k y335 ((rd_T74 l0_1 a1).f0) (((rd_T74 l0_1 a1).f0).length : Int) 0 l0_0 l0_1 a0_2 ((rd_T74 l0_1 a1).f0) ((rd_T74 l0_1 a1).f1) ((rd_T74 l0_1 a1).f2)) else (none)) else (none)) = some r := by first | (rw [hy335]; with_reducible exact H) | (have H2_ := (Option.bind_some _ _).symm.trans H; rw [hy335]; with_reducible exact H2_) | (have H2_ := (Option.bind_some _ _).symm.trans H; with_reducible exact H2_) | with_reducible exact H | (rw [hy335]; exact H) | exact H
 have Ny335 := Az.mk hy335
 clear hy335
 by_cases c3 : 0 ≤ a1
 ·rw [if_pos c3] at H
  have c3b0 : decide (0 ≤ a1) = true := decide_eq_true c3
  clear c3
  by_cases c4 : a1 < (l0_1.length : Int)
  ·rw [if_pos c4] at H
   have c4b0 : decide (a1 < (l0_1.length : Int)) = true := decide_eq_true c4
   clear c4
   have H' := Az.mk H
   clear H
   go_enter Try.func65, Try.ntmps65
   go_wp2_with (first | ((with_reducible refine Yd (N := 2) rfl ?_); refine Yv ?hg (N := 2) ?hd (cs := #[.slice A0_0 l0_0.length c0_0, .slice A0_1 l0_1.length c0_1, .int .i64 a0_2]) (t := 35) ?hr ?_; (case hd => rfl); (case hg => rfl); (case hr => first | (go_simp; done) | (go_simp; rfl)); intro gb334 hg w5 hbox hb; have n0_ := Az.mk (Yt (by repeat (first | (with_reducible first | exact HB.out | apply Ya | apply Yn | apply Yw) | exact HB.out)) hb); have n1_ := Az.mk (hbox); have n2_ := Az.mk ((by rw [hg]; exact (Yz (by repeat (first | (with_reducible first | exact HB.out | apply Ya | apply Yn | apply Yw) | exact HB.out))) : w.heap.size ≤ gb334)); have n3_ := Az.mk ((by rw [hg]; exact (Yz (by repeat (first | (with_reducible first | exact HB.out | apply Ya | apply Yn | apply Yw) | exact HB.out))) : w.heap.size ≤ gb334)); clear HB; have HB := n0_; have BK334 := n1_; have GW334 := n2_; have GE334 := n3_; clear n0_ n1_ n2_ n3_; clear hb hbox hg) | ((with_reducible refine Yd (N := 10) rfl ?_); refine Kd.S_lit (Kd.slice 3 (Kd.int .i64)) _ 45 ?hg (N := 10) ?hd (xs := ([] : List (List Int))) (inner := []) (ok := fun _ => True) (okp := fun _ => True) ?hr ?hp (fun _ hk => hk) trivial (Below.refl _ _) (Nat.le_refl _) (by simp) ?_; (case hd => rfl); (case hg => rfl); (case hr => first | (go_simp; done) | (go_simp; rfl)); (case hp => exact (Reps.none _ _)); intro v336 w6 ho7 hb hg_ hnew_; clear hg_ hnew_; (first | rw [← Ny335.out] at ho7 | (simp only [Int.reduceToNat] at ho7; rw [← Ny335.out] at ho7)); have n0_ := Az.mk (Kd.Sl_ ho7 (Yz (by repeat (first | (with_reducible first | exact HB.out | apply Ya | apply Yn | apply Yw | refine Ys ?_ GE334.out) | exact HB.out)))); have n1_ := Az.mk (Zb (g := gb334) (o := .cells #[.slice A0_0 l0_0.length c0_0, .slice A0_1 l0_1.length c0_1, .int .i64 a0_2] 35 (0, 0)) (by (with_reducible repeat (first | refine Zn ?_ _ | refine Zw ?_ | refine Za ?_ _)); exact BK334.out) hb); have n2_ := Az.mk (Yt (by repeat (first | (with_reducible first | exact HB.out | apply Ya | apply Yn | apply Yw | refine Ys ?_ GE334.out) | exact HB.out)) hb); clear BK334; clear HB; have HO337 := n0_; have BK334 := n1_; have HB := n2_; clear n0_ n1_ n2_; clear hb ho7; have hcz8_0 : w6.cell? ⟨gb334, 0, none⟩ = some (.slice A0_0 l0_0.length c0_0) := (Zc BK334.out 0).trans rfl; have hcz8_1 : w6.cell? ⟨gb334, 1, none⟩ = some (.slice A0_1 l0_1.length c0_1) := (Zc BK334.out 1).trans rfl; have hcz8_2 : w6.cell? ⟨gb334, 2, none⟩ = some (.int .i64 a0_2) := (Zc BK334.out 2).trans rfl; have hfz8_0 := Zf BK334.out 0; have hfz8_1 := Zf BK334.out 1; have hfz8_2 := Zf BK334.out 2; have p338 : 0 ≤ (a1 : Int) := of_decide_eq_true (by first | (with_reducible assumption) | assumption); have q338 : a1 < (l0_1.length : Int) := of_decide_eq_true (by first | (with_reducible assumption) | assumption); obtain ⟨ad338, A338_0, c338_0, A338_1, c338_1, A338_2, c338_2, e338, hx338_0, hx338_1, hx338_2, hl338_0, hi338_0, hl338_1, hi338_1, hl338_2, hi338_2⟩ := at_T74 HR0_1.out a1 p338 q338; cases e338; replace hx338_0 := (HB.out.cell (World.block_lt_of_cell? w _ hx338_0)).trans hx338_0; replace hx338_1 := (HB.out.cell (World.block_lt_of_cell? w _ hx338_1)).trans hx338_1; replace hx338_2 := (HB.out.cell (World.block_lt_of_cell? w _ hx338_2)).trans hx338_2; have HR338_0 := Az.mk hi338_0; have HC338_0 := Az.mk hl338_0; clear hi338_0 hl338_0; have HR338_1 := Az.mk hi338_1; have HC338_1 := Az.mk hl338_1; clear hi338_1 hl338_1; have HR338_2 := Az.mk hi338_2; have HC338_2 := Az.mk hl338_2; clear hi338_2 hl338_2; replace p338 := eq_true p338; replace q338 := eq_true q338) | ((with_reducible refine Yd (N := 6) rfl ?_); refine Yv ?hg (N := 6) ?hd (cs := #[.slice none 0 0, .slice none 0 0, .slice none 0 0]) (t := 74) ?hr ?_; (case hd => rfl); (case hg => rfl); (case hr => first | (go_simp; done) | (go_simp; rfl)); intro gb339 hg w9 hbox hb; have n0_ := Az.mk (Kd.Sb_ (by (with_reducible repeat (first | apply Kd.Sa_ | apply Kd.Sn_ | apply Kd.Sw_)); exact HO337.out) hb); have n1_ := Az.mk (Zb (g := gb334) (o := .cells #[.slice A0_0 l0_0.length c0_0, .slice (some ad338) l0_1.length c0_1, .int .i64 a0_2] 35 (0, 0)) (by (with_reducible repeat (first | refine Zn ?_ _ | refine Zw ?_ | refine Za ?_ _)); exact BK334.out) hb); have n2_ := Az.mk (Yt (by repeat (first | (with_reducible first | exact HB.out | apply Ya | apply Yn | apply Yw | refine Ys ?_ GE334.out) | exact HB.out)) hb); have n3_ := Az.mk (hbox); have n4_ := Az.mk ((by rw [hg]; exact (Yz (by repeat (first | (with_reducible first | exact HB.out | apply Ya | apply Yn | apply Yw | refine Ys ?_ GE334.out) | exact HB.out))) : w.heap.size ≤ gb339)); have n5_ := Az.mk ((by rw [hg]; exact (Yz (by repeat (first | (with_reducible first | exact HB.out | apply Ya | apply Yn | apply Yw | refine Ys ?_ GE334.out) | exact HB.out))) : w.heap.size ≤ gb339)); have n6_ := Az.mk ((by rw [hg]; exact Nat.ne_of_lt (Zl (g := gb334) (o := .cells #[.slice A0_0 l0_0.length c0_0, .slice (some ad338) l0_1.length c0_1, .int .i64 a0_2] 35 (0, 0)) (by (with_reducible repeat (first | refine Zn ?_ _ | refine Zw ?_ | refine Za ?_ _)); exact BK334.out)) : gb334 ≠ gb339)); have n7_ := Az.mk ((by rw [hg]; exact Nat.ne_of_gt (Zl (g := gb334) (o := .cells #[.slice A0_0 l0_0.length c0_0, .slice (some ad338) l0_1.length c0_1, .int .i64 a0_2] 35 (0, 0)) (by (with_reducible repeat (first | refine Zn ?_ _ | refine Zw ?_ | refine Za ?_ _)); exact BK334.out)) : gb339 ≠ gb334)); clear HO337; clear BK334; clear HB; have HO337 := n0_; have BK334 := n1_; have HB := n2_; have BK339 := n3_; have GW339 := n4_; have GE339 := n5_; have NB334_339 := n6_; have NB339_334 := n7_; clear n0_ n1_ n2_ n3_ n4_ n5_ n6_ n7_; clear hb hbox hg; have hnb10 := NB339_334.out; have hnc10 := NB334_339.out; have hcz11_0 : w9.cell? ⟨gb339, 0, none⟩ = some (.slice none 0 0) := (Zc BK339.out 0).trans rfl; have hcz11_1 : w9.cell? ⟨gb339, 1, none⟩ = some (.slice none 0 0) := (Zc BK339.out 1).trans rfl; have hcz11_2 : w9.cell? ⟨gb339, 2, none⟩ = some (.slice none 0 0) := (Zc BK339.out 2).trans rfl; have hfz11_0 := Zf BK339.out 0; have hfz11_1 := Zf BK339.out 1; have hfz11_2 := Zf BK339.out 2))
   go_loopg [5, 19] k (fun kq v5 v19 w' => ∃ (x5_1 : List (List Int)) (x19_1 : Int), v19 = .int .i64 x19_1 ∧ Az (impl_Host_see.l0 kq x5_1 ((rd_T74 l0_1 a1).f0) (((rd_T74 l0_1 a1).f0).length : Int) x19_1 l0_0 l0_1 a0_2 ((rd_T74 l0_1 a1).f0) ((rd_T74 l0_1 a1).f1) ((rd_T74 l0_1 a1).f2) = some r) ∧ Az (kq ≤ k) ∧ Az (Kd.S (Kd.slice 3 (Kd.int .i64)) 45 w' w.heap.size (fun _ => True) v5 x5_1) ∧ Az (w'.heap[gb334]? = some (.cells #[(.slice A0_0 l0_0.length c0_0), (.slice (some ad338) l0_1.length c0_1), .int .i64 a0_2] 35 (0, 0))) ∧ Az (w'.heap[gb339]? = some (.cells #[(.slice A338_0 ((rd_T74 l0_1 a1).f0).length c338_0), (.slice A338_1 ((rd_T74 l0_1 a1).f1).length c338_1), (.slice A338_2 ((rd_T74 l0_1 a1).f2).length c338_2)] 74 (0, 0))) ∧ Az (Below w.heap.size w w'))
   case atStart => exact ⟨(y335), (0), (by first | rfl | (simp; done) | (simp [*]; done)), H', ⟨Nat.le_refl _⟩, ⟨by (with_reducible repeat (first | apply Kd.Sa_ | apply Kd.Sn_ | apply Kd.Sw_)); exact Kd.Sm_ (Kd.Sf_ (p := ⟨gb339, 2, none⟩) (Kd.Sf_ (p := ⟨gb339, 1, none⟩) (Kd.Sf_ (p := ⟨gb339, 0, none⟩) (Kd.S_types HO337.out BK339.out (by decide)) (fun _ hk => hk.2) (.slice A338_0 ((rd_T74 l0_1 a1).f0).length c338_0)) (fun _ hk => hk.2) (.slice A338_1 ((rd_T74 l0_1 a1).f1).length c338_1)) (fun _ hk => hk.2) (.slice A338_2 ((rd_T74 l0_1 a1).f2).length c338_2)) (fun _ hk => trivial)⟩, ⟨by (with_reducible repeat (first | refine Zn ?_ _ | refine Zw ?_ | refine Za ?_ _)); refine blk_far ?_ NB334_339.out _; (with_reducible repeat (first | refine Zn ?_ _ | refine Zw ?_ | refine Za ?_ _)); refine blk_far ?_ NB334_339.out _; (with_reducible repeat (first | refine Zn ?_ _ | refine Zw ?_ | refine Za ?_ _)); refine blk_far ?_ NB334_339.out _; (with_reducible repeat (first | refine Zn ?_ _ | refine Zw ?_ | refine Za ?_ _)); exact BK334.out⟩, ⟨by (with_reducible repeat (first | refine Zn ?_ _ | refine Zw ?_ | refine Za ?_ _)); refine Zp (cs := #[.slice A338_0 ((rd_T74 l0_1 a1).f0).length c338_0, .slice A338_1 ((rd_T74 l0_1 a1).f1).length c338_1, .slice none 0 0]) ?_ 2 _ rfl; (with_reducible repeat (first | refine Zn ?_ _ | refine Zw ?_ | refine Za ?_ _)); refine Zp (cs := #[.slice A338_0 ((rd_T74 l0_1 a1).f0).length c338_0, .slice none 0 0, .slice none 0 0]) ?_ 1 _ rfl; (with_reducible repeat (first | refine Zn ?_ _ | refine Zw ?_ | refine Za ?_ _)); refine Zp (cs := #[.slice none 0 0, .slice none 0 0, .slice none 0 0]) ?_ 0 _ rfl; (with_reducible repeat (first | refine Zn ?_ _ | refine Zw ?_ | refine Za ?_ _)); exact BK339.out⟩, ⟨by repeat (first | (with_reducible first | exact HB.out | apply Ya | apply Yn | apply Yw | refine Ys ?_ GE334.out | refine Ys ?_ GE339.out) | exact HB.out)⟩⟩
   case round =>
    clear H'
    try clear c1
    try clear p2
    try clear c3
    try clear c3b0
    try clear p3
    try clear q3
    try clear hx3
    try clear c4
    try clear c4b0
    try clear c6
    try clear c10
    try clear hcz11_0
    try clear hcz11_1
    try clear hcz11_2
    try clear hcz8_0
    try clear hcz8_1
    try clear hcz8_2
    try clear hfz11_0
    try clear hfz11_1
    try clear hfz11_2
    try clear hfz8_0
    try clear hfz8_1
    try clear hfz8_2
    try clear hx338_0
    try clear hx338_1
    try clear hx338_2
    try clear p338
    try clear q338
    obtain ⟨x5_1, x19_1, rfl, HA, HK1, HO_5, BK334, BK339, HB⟩ := hrel
    cases gk with
    | zero => exact absurd HA.out (by simp [impl_Host_see.l0])
    | succ k1 =>
     have H := HA.out
     clear HA
     simp only [impl_Host_see.l0] at H
     by_cases c12 : x19_1 < (((rd_T74 l0_1 a1).f0).length : Int)
     ·rw [if_pos c12] at H
      have c12b0 : decide (x19_1 < (((rd_T74 l0_1 a1).f0).length : Int)) = true := decide_eq_true c12
      clear c12
      by_cases c13 : 0 ≤ x19_1
      ·rw [if_pos c13] at H
       have c13b0 : decide (0 ≤ x19_1) = true := decide_eq_true c13
       clear c13
       by_cases c14 : x19_1 < (((rd_T74 l0_1 a1).f0).length : Int)
       ·rw [if_pos c14] at H
        have c14b0 : decide (x19_1 < (((rd_T74 l0_1 a1).f0).length : Int)) = true := decide_eq_true c14
        clear c14
        by_cases c15 : x19_1 < (((rd_T74 l0_1 a1).f1).length : Int)
        ·rw [if_pos c15] at H
         have c15b0 : decide (x19_1 < (((rd_T74 l0_1 a1).f1).length : Int)) = true := decide_eq_true c15
         clear c15
         obtain ⟨bq16, hbq16⟩ : ∃ b_ : Bool, b_ = ((rd_T87 ((rd_T74 l0_1 a1).f0) x19_1).f0) := ⟨_, rfl⟩
         replace H : (if bq16 = true then (if 0 ≤ ((rd_T87 ((rd_T74 l0_1 a1).f0) x19_1).f1) then (if ((rd_T87 ((rd_T74 l0_1 a1).f0) x19_1).f1) < (l0_0.length : Int) then ((some (([] : List Int) : List Int)).bind fun y344 => (if y344.length + (rd_L1 l0_0 ((rd_T87 ((rd_T74 l0_1 a1).f0) x19_1).f1)).length < 17592186044416 then (if x5_1.length < 5864062014805 then (impl_Host_see.l0 k1 (x5_1 ++ [(y344 ++ (rd_L1 l0_0 ((rd_T87 ((rd_T74 l0_1 a1).f0) x19_1).f1)))]) ((rd_T74 l0_1 a1).f0) (((rd_T74 l0_1 a1).f0).length : Int) (wrap64 (x19_1 + 1)) l0_0 l0_1 a0_2 ((rd_T74 l0_1 a1).f0) ((rd_T74 l0_1 a1).f1) ((rd_T74 l0_1 a1).f2)) else (none)) else (none))) else (none)) else (none)) else ((some (([] : List Int) : List Int)).bind fun y353 => (if y353.length + (rd_L1 ((rd_T74 l0_1 a1).f1) x19_1).length < 17592186044416 then (if x5_1.length < 5864062014805 then (impl_Host_see.l0 k1 (x5_1 ++ [(y353 ++ (rd_L1 ((rd_T74 l0_1 a1).f1) x19_1))]) ((rd_T74 l0_1 a1).f0) (((rd_T74 l0_1 a1).f0).length : Int) (wrap64 (x19_1 + 1)) l0_0 l0_1 a0_2 ((rd_T74 l0_1 a1).f0) ((rd_T74 l0_1 a1).f1) ((rd_T74 l0_1 a1).f2)) else (none)) else (none)))) = some r := by rw [← hbq16] at H; exact H
         have Nbq16 := Az.mk hbq16
         clear hbq16
         by_cases c17 : bq16 = true
         ·subst c17
          have H1 : (if 0 ≤ ((rd_T87 ((rd_T74 l0_1 a1).f0) x19_1).f1) then (if ((rd_T87 ((rd_T74 l0_1 a1).f0) x19_1).f1) < (l0_0.length : Int) then ((some (([] : List Int) : List Int)).bind fun y344 => (if y344.length + (rd_L1 l0_0 ((rd_T87 ((rd_T74 l0_1 a1).f0) x19_1).f1)).length < 17592186044416 then (if x5_1.length < 5864062014805 then (impl_Host_see.l0 k1 (x5_1 ++ [(y344 ++ (rd_L1 l0_0 ((rd_T87 ((rd_T74 l0_1 a1).f0) x19_1).f1)))]) ((rd_T74 l0_1 a1).f0) (((rd_T74 l0_1 a1).f0).length : Int) (wrap64 (x19_1 + 1)) l0_0 l0_1 a0_2 ((rd_T74 l0_1 a1).f0) ((rd_T74 l0_1 a1).f1) ((rd_T74 l0_1 a1).f2)) else (none)) else (none))) else (none)) else (none)) = some r := by rw [if_pos rfl] at H; exact H
          clear H
          have H := H1
          clear H1
          by_cases c18 : 0 ≤ ((rd_T87 ((rd_T74 l0_1 a1).f0) x19_1).f1)
          ·rw [if_pos c18] at H
           have c18b0 : decide (0 ≤ ((rd_T87 ((rd_T74 l0_1 a1).f0) x19_1).f1)) = true := decide_eq_true c18
           clear c18
           by_cases c19 : ((rd_T87 ((rd_T74 l0_1 a1).f0) x19_1).f1) < (l0_0.length : Int)
           ·rw [if_pos c19] at H
            have c19b0 : decide (((rd_T87 ((rd_T74 l0_1 a1).f0) x19_1).f1) < (l0_0.length : Int)) = true := decide_eq_true c19
            clear c19
            obtain ⟨y344, hy344⟩ : ∃ y_ : List Int, y_ = (([] : List Int)) := ⟨_, rfl⟩
            replace H : (if y344.length + (rd_L1 l0_0 ((rd_T87 ((rd_T74 l0_1 a1).f0) x19_1).f1)).length < 17592186044416 then (if x5_1.length < 5864062014805 then (impl_Host_see.l0 k1 (x5_1 ++ [(y344 ++ (rd_L1 l0_0 ((rd_T87 ((rd_T74 l0_1 a1).f0) x19_1).f1)))]) ((rd_T74 l0_1 a1).f0) (((rd_T74 l0_1 a1).f0).length : Int) (wrap64 (x19_1 + 1)) l0_0 l0_1 a0_2 ((rd_T74 l0_1 a1).f0) ((rd_T74 l0_1 a1).f1) ((rd_T74 l0_1 a1).f2)) else (none)) else (none)) = some r := by first | (rw [hy344]; with_reducible exact H) | (have H2_ := (Option.bind_some _ _).symm.trans H; rw [hy344]; with_reducible exact H2_) | (have H2_ := (Option.bind_some _ _).symm.trans H; with_reducible exact H2_) | with_reducible exact H | (rw [hy344]; exact H) | exact H
            have Ny344 := Az.mk hy344
            clear hy344
            by_cases c20 : y344.length + (rd_L1 l0_0 ((rd_T87 ((rd_T74 l0_1 a1).f0) x19_1).f1)).length < 17592186044416
            ·rw [if_pos c20] at H
             have LMc20 := Az.mk c20
             clear c20
             obtain ⟨y347, hy347⟩ : ∃ y_ : List Int, y_ = (y344 ++ (rd_L1 l0_0 ((rd_T87 ((rd_T74 l0_1 a1).f0) x19_1).f1))) := ⟨_, rfl⟩
             replace H : (if x5_1.length < 5864062014805 then (impl_Host_see.l0 k1 (x5_1 ++ [y347]) ((rd_T74 l0_1 a1).f0) (((rd_T74 l0_1 a1).f0).length : Int) (wrap64 (x19_1 + 1)) l0_0 l0_1 a0_2 ((rd_T74 l0_1 a1).f0) ((rd_T74 l0_1 a1).f1) ((rd_T74 l0_1 a1).f2)) else (none)) = some r := by first | (rw [hy347]; with_reducible exact H) | (have H2_ := (Option.bind_some _ _).symm.trans H; rw [hy347]; with_reducible exact H2_) | (have H2_ := (Option.bind_some _ _).symm.trans H; with_reducible exact H2_) | with_reducible exact H | (rw [hy347]; exact H) | exact H
             have Ny347 := Az.mk hy347
             clear hy347
             by_cases c21 : x5_1.length < 5864062014805
             ·rw [if_pos c21] at H
              have LMc21 := Az.mk c21
              clear c21
              obtain ⟨y350, hy350⟩ : ∃ y_ : List (List Int), y_ = (x5_1 ++ [y347]) := ⟨_, rfl⟩
              replace H : (impl_Host_see.l0 k1 y350 ((rd_T74 l0_1 a1).f0) (((rd_T74 l0_1 a1).f0).length : Int) (wrap64 (x19_1 + 1)) l0_0 l0_1 a0_2 ((rd_T74 l0_1 a1).f0) ((rd_T74 l0_1 a1).f1) ((rd_T74 l0_1 a1).f2)) = some r := by first | (rw [hy350]; with_reducible exact H) | (have H2_ := (Option.bind_some _ _).symm.trans H; rw [hy350]; with_reducible exact H2_) | (have H2_ := (Option.bind_some _ _).symm.trans H; with_reducible exact H2_) | with_reducible exact H | (rw [hy350]; exact H) | exact H
              have Ny350 := Az.mk hy350
              clear hy350
              have H' := Az.mk H
              clear H
              have p340 : 0 ≤ (x19_1 : Int) := of_decide_eq_true (by first | (with_reducible assumption) | assumption)
              have q340 : x19_1 < (((rd_T74 l0_1 a1).f0).length : Int) := of_decide_eq_true (by first | (with_reducible assumption) | assumption)
              obtain ⟨ad340, e340, hx340_0, hx340_1, hx340_2⟩ := at_T87 HR338_0.out x19_1 p340 q340
              (try rw [← Nbq16.out] at hx340_0)
              (try rw [← Nbq16.out] at hx340_2)
              cases e340
              replace hx340_0 := (HB.out.cell (World.block_lt_of_cell? w _ hx340_0)).trans hx340_0
              replace hx340_1 := (HB.out.cell (World.block_lt_of_cell? w _ hx340_1)).trans hx340_1
              replace hx340_2 := (HB.out.cell (World.block_lt_of_cell? w _ hx340_2)).trans hx340_2
              replace p340 := eq_true p340
              replace q340 := eq_true q340
              go_wp2_with (first | ((with_reducible refine Yd (N := 8) rfl ?_); refine Yv ?hg (N := 8) ?hd (cs := #[.bool false, .int .i64 0, .bool false]) (t := 87) ?hr ?_; (case hd => rfl); (case hg => rfl); (case hr => first | (go_simp; done) | (go_simp; rfl)); intro gb341 hg w22 hbox hb; have n0_ := Az.mk (Kd.Sb_ (by (with_reducible repeat (first | apply Kd.Sa_ | apply Kd.Sn_ | apply Kd.Sw_)); exact HO_5.out) hb); have n1_ := Az.mk (Zb (g := gb334) (o := .cells #[.slice A0_0 l0_0.length c0_0, .slice (some ad338) l0_1.length c0_1, .int .i64 a0_2] 35 (0, 0)) (by (with_reducible repeat (first | refine Zn ?_ _ | refine Zw ?_ | refine Za ?_ _)); exact BK334.out) hb); have n2_ := Az.mk (Zb (g := gb339) (o := .cells #[.slice (some ad340) ((rd_T74 l0_1 a1).f0).length c338_0, .slice A338_1 ((rd_T74 l0_1 a1).f1).length c338_1, .slice A338_2 ((rd_T74 l0_1 a1).f2).length c338_2] 74 (0, 0)) (by (with_reducible repeat (first | refine Zn ?_ _ | refine Zw ?_ | refine Za ?_ _)); exact BK339.out) hb); have n3_ := Az.mk (Yt (by repeat (first | (with_reducible first | exact HB.out | apply Ya | apply Yn | apply Yw | refine Ys ?_ GE334.out | refine Ys ?_ GE339.out) | exact HB.out)) hb); have n4_ := Az.mk (hbox); have n5_ := Az.mk ((by rw [hg]; exact (Yz (by repeat (first | (with_reducible first | exact HB.out | apply Ya | apply Yn | apply Yw | refine Ys ?_ GE334.out | refine Ys ?_ GE339.out) | exact HB.out))) : w.heap.size ≤ gb341)); have n6_ := Az.mk ((by rw [hg]; exact (Yz (by repeat (first | (with_reducible first | exact HB.out | apply Ya | apply Yn | apply Yw | refine Ys ?_ GE334.out | refine Ys ?_ GE339.out) | exact HB.out))) : w.heap.size ≤ gb341)); have n7_ := Az.mk ((by rw [hg]; exact Nat.ne_of_lt (Zl (g := gb334) (o := .cells #[.slice A0_0 l0_0.length c0_0, .slice (some ad338) l0_1.length c0_1, .int .i64 a0_2] 35 (0, 0)) (by (with_reducible repeat (first | refine Zn ?_ _ | refine Zw ?_ | refine Za ?_ _)); exact BK334.out)) : gb334 ≠ gb341)); have n8_ := Az.mk ((by rw [hg]; exact Nat.ne_of_gt (Zl (g := gb334) (o := .cells #[.slice A0_0 l0_0.length c0_0, .slice (some ad338) l0_1.length c0_1, .int .i64 a0_2] 35 (0, 0)) (by (with_reducible repeat (first | refine Zn ?_ _ | refine Zw ?_ | refine Za ?_ _)); exact BK334.out)) : gb341 ≠ gb334)); have n9_ := Az.mk ((by rw [hg]; exact Nat.ne_of_lt (Zl (g := gb339) (o := .cells #[.slice (some ad340) ((rd_T74 l0_1 a1).f0).length c338_0, .slice A338_1 ((rd_T74 l0_1 a1).f1).length c338_1, .slice A338_2 ((rd_T74 l0_1 a1).f2).length c338_2] 74 (0, 0)) (by (with_reducible repeat (first | refine Zn ?_ _ | refine Zw ?_ | refine Za ?_ _)); exact BK339.out)) : gb339 ≠ gb341)); have n10_ := Az.mk ((by rw [hg]; exact Nat.ne_of_gt (Zl (g := gb339) (o := .cells #[.slice (some ad340) ((rd_T74 l0_1 a1).f0).length c338_0, .slice A338_1 ((rd_T74 l0_1 a1).f1).length c338_1, .slice A338_2 ((rd_T74 l0_1 a1).f2).length c338_2] 74 (0, 0)) (by (with_reducible repeat (first | refine Zn ?_ _ | refine Zw ?_ | refine Za ?_ _)); exact BK339.out)) : gb341 ≠ gb339)); clear HO_5; clear BK334; clear BK339; clear HB; have HO_5 := n0_; have BK334 := n1_; have BK339 := n2_; have HB := n3_; have BK341 := n4_; have GW341 := n5_; have GE341 := n6_; have NB334_341 := n7_; have NB341_334 := n8_; have NB339_341 := n9_; have NB341_339 := n10_; clear n0_ n1_ n2_ n3_ n4_ n5_ n6_ n7_ n8_ n9_ n10_; clear hb hbox hg; have hnb23 := NB341_334.out; have hnc23 := NB334_341.out; have hnb24 := NB341_339.out; have hnc24 := NB339_341.out; have hcz25_0 : w22.cell? ⟨gb341, 0, none⟩ = some (.bool false) := (Zc BK341.out 0).trans rfl; have hcz25_1 : w22.cell? ⟨gb341, 1, none⟩ = some (.int .i64 0) := (Zc BK341.out 1).trans rfl; have hcz25_2 : w22.cell? ⟨gb341, 2, none⟩ = some (.bool false) := (Zc BK341.out 2).trans rfl; have hfz25_0 := Zf BK341.out 0; have hfz25_1 := Zf BK341.out 1; have hfz25_2 := Zf BK341.out 2; have hnb26 := NB339_334.out; have hnc26 := NB334_339.out; have hcz27_0 : w22.cell? ⟨gb339, 0, none⟩ = some (.slice (some ad340) ((rd_T74 l0_1 a1).f0).length c338_0) := (Zc BK339.out 0).trans rfl; have hcz27_1 : w22.cell? ⟨gb339, 1, none⟩ = some (.slice A338_1 ((rd_T74 l0_1 a1).f1).length c338_1) := (Zc BK339.out 1).trans rfl; have hcz27_2 : w22.cell? ⟨gb339, 2, none⟩ = some (.slice A338_2 ((rd_T74 l0_1 a1).f2).length c338_2) := (Zc BK339.out 2).trans rfl; have hfz27_0 := Zf BK339.out 0; have hfz27_1 := Zf BK339.out 1; have hfz27_2 := Zf BK339.out 2; have p342 : 0 ≤ (x19_1 : Int) := of_decide_eq_true (by first | (with_reducible assumption) | assumption); have q342 : x19_1 < (((rd_T74 l0_1 a1).f1).length : Int) := of_decide_eq_true (by first | (with_reducible assumption) | assumption); obtain ⟨ad342, A342_0, c342_0, e342, hx342_0, hl342_0, hi342_0⟩ := at_L1 HR338_1.out x19_1 p342 q342; cases e342; have hn342_0 : ad342.block ≠ gb341 := Nat.ne_of_lt (Nat.lt_of_lt_of_le (by have := World.block_lt_of_cell? _ _ hx342_0; first | rwa [add_block] at this | exact this) GW341.out); have hn342_1 : ad342.block ≠ gb341 := Nat.ne_of_lt (Nat.lt_of_lt_of_le (by have := World.block_lt_of_cell? _ _ hx342_0; first | rwa [add_block] at this | exact this) GW341.out); have hn342_2 : ad342.block ≠ gb341 := Nat.ne_of_lt (Nat.lt_of_lt_of_le (by have := World.block_lt_of_cell? _ _ hx342_0; first | rwa [add_block] at this | exact this) GW341.out); replace hx342_0 := (HB.out.cell (World.block_lt_of_cell? w _ hx342_0)).trans hx342_0; have HR342_0 := Az.mk hi342_0; have HC342_0 := Az.mk hl342_0; clear hi342_0 hl342_0; replace hx342_0 := (cell_far (p := ⟨gb341, 0, none⟩) (by first | (rw [add_block]; exact hn342_0) | (show (Addr.add _ _).block ≠ _; rw [add_block]; exact hn342_0) | exact hn342_0) (.bool true)).trans hx342_0; replace hx342_0 := (cell_far (p := ⟨gb341, 1, none⟩) (by first | (rw [add_block]; exact hn342_1) | (show (Addr.add _ _).block ≠ _; rw [add_block]; exact hn342_1) | exact hn342_1) (.int .i64 ((rd_T87 ((rd_T74 l0_1 a1).f0) x19_1).f1))).trans hx342_0; replace hx342_0 := (cell_far (p := ⟨gb341, 2, none⟩) (by first | (rw [add_block]; exact hn342_2) | (show (Addr.add _ _).block ≠ _; rw [add_block]; exact hn342_2) | exact hn342_2) (.bool ((rd_T87 ((rd_T74 l0_1 a1).f0) x19_1).f2))).trans hx342_0; clear hn342_0; clear hn342_1; clear hn342_2; replace p342 := eq_true p342; replace q342 := eq_true q342; have hcz28_0 : w22.cell? ⟨gb334, 0, none⟩ = some (.slice A0_0 l0_0.length c0_0) := (Zc BK334.out 0).trans rfl; have hcz28_1 : w22.cell? ⟨gb334, 1, none⟩ = some (.slice (some ad338) l0_1.length c0_1) := (Zc BK334.out 1).trans rfl; have hcz28_2 : w22.cell? ⟨gb334, 2, none⟩ = some (.int .i64 a0_2) := (Zc BK334.out 2).trans rfl; have hfz28_0 := Zf BK334.out 0; have hfz28_1 := Zf BK334.out 1; have hfz28_2 := Zf BK334.out 2; have p343 : 0 ≤ (((rd_T87 ((rd_T74 l0_1 a1).f0) x19_1).f1) : Int) := of_decide_eq_true (by first | (with_reducible assumption) | assumption); have q343 : ((rd_T87 ((rd_T74 l0_1 a1).f0) x19_1).f1) < (l0_0.length : Int) := of_decide_eq_true (by first | (with_reducible assumption) | assumption); obtain ⟨ad343, A343_0, c343_0, e343, hx343_0, hl343_0, hi343_0⟩ := at_L1 HR0_0.out ((rd_T87 ((rd_T74 l0_1 a1).f0) x19_1).f1) p343 q343; cases e343; have hn343_0 : ad343.block ≠ gb341 := Nat.ne_of_lt (Nat.lt_of_lt_of_le (by have := World.block_lt_of_cell? _ _ hx343_0; first | rwa [add_block] at this | exact this) GW341.out); have hn343_1 : ad343.block ≠ gb341 := Nat.ne_of_lt (Nat.lt_of_lt_of_le (by have := World.block_lt_of_cell? _ _ hx343_0; first | rwa [add_block] at this | exact this) GW341.out); have hn343_2 : ad343.block ≠ gb341 := Nat.ne_of_lt (Nat.lt_of_lt_of_le (by have := World.block_lt_of_cell? _ _ hx343_0; first | rwa [add_block] at this | exact this) GW341.out); replace hx343_0 := (HB.out.cell (World.block_lt_of_cell? w _ hx343_0)).trans hx343_0; have HR343_0 := Az.mk hi343_0; have HC343_0 := Az.mk hl343_0; clear hi343_0 hl343_0; replace hx343_0 := (cell_far (p := ⟨gb341, 0, none⟩) (by first | (rw [add_block]; exact hn343_0) | (show (Addr.add _ _).block ≠ _; rw [add_block]; exact hn343_0) | exact hn343_0) (.bool true)).trans hx343_0; replace hx343_0 := (cell_far (p := ⟨gb341, 1, none⟩) (by first | (rw [add_block]; exact hn343_1) | (show (Addr.add _ _).block ≠ _; rw [add_block]; exact hn343_1) | exact hn343_1) (.int .i64 ((rd_T87 ((rd_T74 l0_1 a1).f0) x19_1).f1))).trans hx343_0; replace hx343_0 := (cell_far (p := ⟨gb341, 2, none⟩) (by first | (rw [add_block]; exact hn343_2) | (show (Addr.add _ _).block ≠ _; rw [add_block]; exact hn343_2) | exact hn343_2) (.bool ((rd_T87 ((rd_T74 l0_1 a1).f0) x19_1).f2))).trans hx343_0; clear hn343_0; clear hn343_1; clear hn343_2; replace p343 := eq_true p343; replace q343 := eq_true q343) | ((with_reducible refine Yd (N := 38) rfl ?_); refine Kd.R_lit (Kd.int .i64) _ 3 ?hg (N := 38) ?hd (xs := ([] : List Int)) (inner := []) (ok := fun _ => True) (okp := fun _ => True) ?hr ?hp (fun _ hk => hk) trivial (Below.refl _ _) (Nat.le_refl _) (by simp) ?_; (case hd => rfl); (case hg => rfl); (case hr => first | (go_simp; done) | (go_simp; rfl)); (case hp => exact (Reps.none _ _)); intro v345 w29 ho30 hb hg_ hnew_; clear hg_ hnew_; (first | rw [← Ny344.out] at ho30 | (simp only [Int.reduceToNat] at ho30; rw [← Ny344.out] at ho30)); have n0_ := Az.mk (Kd.SE_ (by (with_reducible repeat (first | apply Kd.Sa_ | apply Kd.Sn_ | apply Kd.Sw_)); exact (Kd.Sm_ (Kd.Sf_ (p := ⟨gb341, 2, none⟩) (Kd.Sf_ (p := ⟨gb341, 1, none⟩) (Kd.Sf_ (p := ⟨gb341, 0, none⟩) (Kd.S_types HO_5.out BK341.out (by decide)) (fun _ hk => hk.2) (.bool true)) (fun _ hk => hk.2) (.int .i64 ((rd_T87 ((rd_T74 l0_1 a1).f0) x19_1).f1))) (fun _ hk => hk.2) (.bool ((rd_T87 ((rd_T74 l0_1 a1).f0) x19_1).f2))) (fun _ h_ => h_.1))) (Kd.R_base ho30) hb); have n1_ := Az.mk (Kd.Rl_ ho30 (Yz (by repeat (first | (with_reducible first | exact HB.out | apply Ya | apply Yn | apply Yw | refine Ys ?_ GE334.out | refine Ys ?_ GE339.out | refine Ys ?_ GE341.out) | exact HB.out)))); have n2_ := Az.mk (Zb (g := gb334) (o := .cells #[.slice (some ad343) l0_0.length c0_0, .slice (some ad338) l0_1.length c0_1, .int .i64 a0_2] 35 (0, 0)) (by (with_reducible repeat (first | refine Zn ?_ _ | refine Zw ?_ | refine Za ?_ _)); refine blk_far ?_ NB334_341.out _; (with_reducible repeat (first | refine Zn ?_ _ | refine Zw ?_ | refine Za ?_ _)); refine blk_far ?_ NB334_341.out _; (with_reducible repeat (first | refine Zn ?_ _ | refine Zw ?_ | refine Za ?_ _)); refine blk_far ?_ NB334_341.out _; (with_reducible repeat (first | refine Zn ?_ _ | refine Zw ?_ | refine Za ?_ _)); exact BK334.out) hb); have n3_ := Az.mk (Zb (g := gb339) (o := .cells #[.slice (some ad340) ((rd_T74 l0_1 a1).f0).length c338_0, .slice (some ad342) ((rd_T74 l0_1 a1).f1).length c338_1, .slice A338_2 ((rd_T74 l0_1 a1).f2).length c338_2] 74 (0, 0)) (by (with_reducible repeat (first | refine Zn ?_ _ | refine Zw ?_ | refine Za ?_ _)); refine blk_far ?_ NB339_341.out _; (with_reducible repeat (first | refine Zn ?_ _ | refine Zw ?_ | refine Za ?_ _)); refine blk_far ?_ NB339_341.out _; (with_reducible repeat (first | refine Zn ?_ _ | refine Zw ?_ | refine Za ?_ _)); refine blk_far ?_ NB339_341.out _; (with_reducible repeat (first | refine Zn ?_ _ | refine Zw ?_ | refine Za ?_ _)); exact BK339.out) hb); have n4_ := Az.mk (Zb (g := gb341) (o := .cells #[.bool true, .int .i64 ((rd_T87 ((rd_T74 l0_1 a1).f0) x19_1).f1), .bool ((rd_T87 ((rd_T74 l0_1 a1).f0) x19_1).f2)] 87 (0, 0)) (by (with_reducible repeat (first | refine Zn ?_ _ | refine Zw ?_ | refine Za ?_ _)); refine Zp (cs := #[.bool true, .int .i64 ((rd_T87 ((rd_T74 l0_1 a1).f0) x19_1).f1), .bool false]) ?_ 2 _ rfl; (with_reducible repeat (first | refine Zn ?_ _ | refine Zw ?_ | refine Za ?_ _)); refine Zp (cs := #[.bool true, .int .i64 0, .bool false]) ?_ 1 _ rfl; (with_reducible repeat (first | refine Zn ?_ _ | refine Zw ?_ | refine Za ?_ _)); refine Zp (cs := #[.bool false, .int .i64 0, .bool false]) ?_ 0 _ rfl; (with_reducible repeat (first | refine Zn ?_ _ | refine Zw ?_ | refine Za ?_ _)); exact BK341.out) hb); have n5_ := Az.mk (Yt (by repeat (first | (with_reducible first | exact HB.out | apply Ya | apply Yn | apply Yw | refine Ys ?_ GE334.out | refine Ys ?_ GE339.out | refine Ys ?_ GE341.out) | exact HB.out)) hb); clear HO_5; clear BK334; clear BK339; clear BK341; clear HB; have HO_5 := n0_; have HO346 := n1_; have BK334 := n2_; have BK339 := n3_; have BK341 := n4_; have HB := n5_; clear n0_ n1_ n2_ n3_ n4_ n5_; clear hb ho30) | ((with_reducible refine gate_builtin (b := .append) (xs := #[.tmp 38, .tmp 39]) rfl ?_); at_builtin; refine Kd.R_append_rows (Kd.int .i64) (w0 := w) w.heap.size rfl (.tmp 38) (.tmp 39) 45 3 (.int .i64 0) 8 rfl Try.underlying45 info3 rfl (by decide) (by omega) v345 y344 (rd_L1 l0_0 ((rd_T87 ((rd_T74 l0_1 a1).f0) x19_1).f1)) _ _ _ (fun _ => True) (fun _ => False) rfl rfl ?aO ?aR (fun _ _ h => h) (fun _ h => h.elim) ?aF ?aB ?aS ?aL ?_; (case aR => repeat (first | exact (Kd.Cb_ HR343_0.out HB.out) | exact HR343_0.out | (with_reducible refine Kd.Ca_ ?_ _) | (with_reducible refine Kd.Cn_ ?_ _) | (with_reducible refine Kd.Cw_ ?_))); (case aB => exact (by repeat (first | (with_reducible first | exact HB.out | apply Ya | apply Yn | apply Yw | refine Ys ?_ GE334.out | refine Ys ?_ GE339.out | refine Ys ?_ GE341.out) | exact HB.out))); (case aF => exact (fun _ _ => trivial)); (case aO => exact (by (with_reducible repeat (first | apply Kd.Ra_ | apply Kd.Rn_ | apply Kd.Rw_)); exact HO346.out)); (case aS => exact (Yz (by repeat (first | (with_reducible first | exact HB.out | apply Ya | apply Yn | apply Yw | refine Ys ?_ GE334.out | refine Ys ?_ GE339.out | refine Ys ?_ GE341.out) | exact HB.out)))); (case aL => have := LMc20.out; omega); intro v348 w31 ho hb hg hat; rw [← Ny347.out] at ho; have n0_ := Az.mk (Kd.S_after (ok := (fun _ => True)) (by (with_reducible repeat (first | apply Kd.Sa_ | apply Kd.Sn_ | apply Kd.Sw_)); exact HO_5.out) hg hat); have n1_ := Az.mk (blk_grown (g := gb334) (o := .cells #[.slice (some ad343) l0_0.length c0_0, .slice (some ad338) l0_1.length c0_1, .int .i64 a0_2] 35 (0, 0)) (by (with_reducible repeat (first | refine Zn ?_ _ | refine Zw ?_ | refine Za ?_ _)); exact BK334.out) hg (Kd.R_ne HO346.out BK334.out (by decide))); have n2_ := Az.mk (blk_grown (g := gb339) (o := .cells #[.slice (some ad340) ((rd_T74 l0_1 a1).f0).length c338_0, .slice (some ad342) ((rd_T74 l0_1 a1).f1).length c338_1, .slice A338_2 ((rd_T74 l0_1 a1).f2).length c338_2] 74 (0, 0)) (by (with_reducible repeat (first | refine Zn ?_ _ | refine Zw ?_ | refine Za ?_ _)); exact BK339.out) hg (Kd.R_ne HO346.out BK339.out (by decide))); have n3_ := Az.mk (blk_grown (g := gb341) (o := .cells #[.bool true, .int .i64 ((rd_T87 ((rd_T74 l0_1 a1).f0) x19_1).f1), .bool ((rd_T87 ((rd_T74 l0_1 a1).f0) x19_1).f2)] 87 (0, 0)) (by (with_reducible repeat (first | refine Zn ?_ _ | refine Zw ?_ | refine Za ?_ _)); exact BK341.out) hg (Kd.R_ne HO346.out BK341.out (by decide))); have n4_ := Az.mk (hb); have n5_ := Az.mk (ho); clear HO_5; clear BK334; clear BK339; clear BK341; clear HB; clear HO346; have HO_5 := n0_; have BK334 := n1_; have BK339 := n2_; have BK341 := n3_; have HB := n4_; have HO349 := n5_; clear n0_ n1_ n2_ n3_ n4_ n5_; clear ho hb hg hat; obtain ⟨Ao33, co33, eo33⟩ := Kd.Rs_ HO349.out; subst eo33) | ((with_reducible refine gate_builtin (b := .append) (xs := #[.tmp 37, .tmp 41]) rfl ?_); at_builtin; refine Kd.S_append (Kd.slice 3 (Kd.int .i64)) (w0 := w) w.heap.size rfl (.tmp 37) (.tmp 41) 23 45 (.slice none 0 0) 24 rfl Try.underlying23 info45 rfl (by decide) (by omega) u5 x5_1 y347 [.slice Ao33 y347.length co33] (fun _ => True) (fun k_ => some k_ = (.slice Ao33 y347.length co33 : Value).ownBlock) rfl rfl ?aP (fun k_ hk_ => ((Kd.Rm_ (ok' := fun k_ => ((fun _ => True)) k_ ∧ some k_ ≠ (u5 : Value).ownBlock) (Kd.R_apart' (HO349.out) (Kd.S_typed HO_5.out) (by decide)) (fun k_ hk => ⟨trivial, hk.2⟩))).1 k_ hk_.symm) ?aF ?aO ?aB ?aS ?aL ?_; (case aP => exact Kd.M_row (Kd.Rm_ (Kd.R_tight rfl (Kd.Rm_ (ok' := fun k_ => ((fun _ => True)) k_ ∧ some k_ ≠ (u5 : Value).ownBlock) (Kd.R_apart' (HO349.out) (Kd.S_typed HO_5.out) (by decide)) (fun k_ hk => ⟨trivial, hk.2⟩))) (fun _ h_ => h_))); (case aB => exact (by repeat (first | (with_reducible first | exact HB.out | apply Ya | apply Yn | apply Yw | refine Ys ?_ GE334.out | refine Ys ?_ GE339.out | refine Ys ?_ GE341.out) | exact HB.out))); (case aF => exact (fun _ _ => trivial)); (case aO => exact (by (with_reducible repeat (first | apply Kd.Sa_ | apply Kd.Sn_ | apply Kd.Sw_)); exact Kd.Sm_ HO_5.out (fun k_ hk => ⟨trivial, fun e_ => hk.2 e_⟩))); (case aS => exact (Yz (by repeat (first | (with_reducible first | exact HB.out | apply Ya | apply Yn | apply Yw | refine Ys ?_ GE334.out | refine Ys ?_ GE339.out | refine Ys ?_ GE341.out) | exact HB.out)))); (case aL => have := LMc21.out; omega); intro v351 w32 ho hb hg hat; rw [← Ny350.out] at ho; have n0_ := Az.mk (blk_grown (g := gb334) (o := .cells #[.slice (some ad343) l0_0.length c0_0, .slice (some ad338) l0_1.length c0_1, .int .i64 a0_2] 35 (0, 0)) (by (with_reducible repeat (first | refine Zn ?_ _ | refine Zw ?_ | refine Za ?_ _)); exact BK334.out) hg (Kd.S_ne HO_5.out BK334.out (by decide))); have n1_ := Az.mk (blk_grown (g := gb339) (o := .cells #[.slice (some ad340) ((rd_T74 l0_1 a1).f0).length c338_0, .slice (some ad342) ((rd_T74 l0_1 a1).f1).length c338_1, .slice A338_2 ((rd_T74 l0_1 a1).f2).length c338_2] 74 (0, 0)) (by (with_reducible repeat (first | refine Zn ?_ _ | refine Zw ?_ | refine Za ?_ _)); exact BK339.out) hg (Kd.S_ne HO_5.out BK339.out (by decide))); have n2_ := Az.mk (blk_grown (g := gb341) (o := .cells #[.bool true, .int .i64 ((rd_T87 ((rd_T74 l0_1 a1).f0) x19_1).f1), .bool ((rd_T87 ((rd_T74 l0_1 a1).f0) x19_1).f2)] 87 (0, 0)) (by (with_reducible repeat (first | refine Zn ?_ _ | refine Zw ?_ | refine Za ?_ _)); exact BK341.out) hg (Kd.S_ne HO_5.out BK341.out (by decide))); have n3_ := Az.mk (hb); have n4_ := Az.mk (ho); clear BK334; clear BK339; clear BK341; clear HB; clear HO_5; clear HO349; have BK334 := n0_; have BK339 := n1_; have BK341 := n2_; have HB := n3_; have HO352 := n4_; clear n0_ n1_ n2_ n3_ n4_; clear ho hb hg hat))
              go_roundg k1
              case measure => have := HK1.out; omega
              case rel => exact ⟨(y350), (wrap64 (x19_1 + 1)), (by first | rfl | (simp; done) | (simp [*]; done)), H', ⟨by have := HK1.out; omega⟩, ⟨by (with_reducible repeat (first | apply Kd.Sa_ | apply Kd.Sn_ | apply Kd.Sw_)); exact HO352.out⟩, ⟨by (with_reducible repeat (first | refine Zn ?_ _ | refine Zw ?_ | refine Za ?_ _)); exact BK334.out⟩, ⟨by (with_reducible repeat (first | refine Zn ?_ _ | refine Zw ?_ | refine Za ?_ _)); exact BK339.out⟩, ⟨by repeat (first | (with_reducible first | exact HB.out | apply Ya | apply Yn | apply Yw | refine Ys ?_ GE334.out | refine Ys ?_ GE339.out | refine Ys ?_ GE341.out) | exact HB.out)⟩⟩
             ·rw [if_neg c21] at H
              exact absurd H (by simp)
            ·rw [if_neg c20] at H
             exact absurd H (by simp)
           ·rw [if_neg c19] at H
            exact absurd H (by simp)
          ·rw [if_neg c18] at H
           exact absurd H (by simp)
         ·replace c17 := Bool.eq_false_iff.mpr c17
          subst c17
          have H1 : ((some (([] : List Int) : List Int)).bind fun y353 => (if y353.length + (rd_L1 ((rd_T74 l0_1 a1).f1) x19_1).length < 17592186044416 then (if x5_1.length < 5864062014805 then (impl_Host_see.l0 k1 (x5_1 ++ [(y353 ++ (rd_L1 ((rd_T74 l0_1 a1).f1) x19_1))]) ((rd_T74 l0_1 a1).f0) (((rd_T74 l0_1 a1).f0).length : Int) (wrap64 (x19_1 + 1)) l0_0 l0_1 a0_2 ((rd_T74 l0_1 a1).f0) ((rd_T74 l0_1 a1).f1) ((rd_T74 l0_1 a1).f2)) else (none)) else (none))) = some r := by rw [if_neg (show ¬ (false = true) by decide)] at H; exact H
          clear H
          have H := H1
          clear H1
          obtain ⟨y353, hy353⟩ : ∃ y_ : List Int, y_ = (([] : List Int)) := ⟨_, rfl⟩
          replace H : (if y353.length + (rd_L1 ((rd_T74 l0_1 a1).f1) x19_1).length < 17592186044416 then (if x5_1.length < 5864062014805 then (impl_Host_see.l0 k1 (x5_1 ++ [(y353 ++ (rd_L1 ((rd_T74 l0_1 a1).f1) x19_1))]) ((rd_T74 l0_1 a1).f0) (((rd_T74 l0_1 a1).f0).length : Int) (wrap64 (x19_1 + 1)) l0_0 l0_1 a0_2 ((rd_T74 l0_1 a1).f0) ((rd_T74 l0_1 a1).f1) ((rd_T74 l0_1 a1).f2)) else (none)) else (none)) = some r := by first | (rw [hy353]; with_reducible exact H) | (have H2_ := (Option.bind_some _ _).symm.trans H; rw [hy353]; with_reducible exact H2_) | (have H2_ := (Option.bind_some _ _).symm.trans H; with_reducible exact H2_) | with_reducible exact H | (rw [hy353]; exact H) | exact H
          have Ny353 := Az.mk hy353
          clear hy353
          by_cases c34 : y353.length + (rd_L1 ((rd_T74 l0_1 a1).f1) x19_1).length < 17592186044416
          ·rw [if_pos c34] at H
           have LMc34 := Az.mk c34
           clear c34
           obtain ⟨y356, hy356⟩ : ∃ y_ : List Int, y_ = (y353 ++ (rd_L1 ((rd_T74 l0_1 a1).f1) x19_1)) := ⟨_, rfl⟩
           replace H : (if x5_1.length < 5864062014805 then (impl_Host_see.l0 k1 (x5_1 ++ [y356]) ((rd_T74 l0_1 a1).f0) (((rd_T74 l0_1 a1).f0).length : Int) (wrap64 (x19_1 + 1)) l0_0 l0_1 a0_2 ((rd_T74 l0_1 a1).f0) ((rd_T74 l0_1 a1).f1) ((rd_T74 l0_1 a1).f2)) else (none)) = some r := by first | (rw [hy356]; with_reducible exact H) | (have H2_ := (Option.bind_some _ _).symm.trans H; rw [hy356]; with_reducible exact H2_) | (have H2_ := (Option.bind_some _ _).symm.trans H; with_reducible exact H2_) | with_reducible exact H | (rw [hy356]; exact H) | exact H
           have Ny356 := Az.mk hy356
           clear hy356
           by_cases c35 : x5_1.length < 5864062014805
           ·rw [if_pos c35] at H
            have LMc35 := Az.mk c35
            clear c35
            obtain ⟨y359, hy359⟩ : ∃ y_ : List (List Int), y_ = (x5_1 ++ [y356]) := ⟨_, rfl⟩
            replace H : (impl_Host_see.l0 k1 y359 ((rd_T74 l0_1 a1).f0) (((rd_T74 l0_1 a1).f0).length : Int) (wrap64 (x19_1 + 1)) l0_0 l0_1 a0_2 ((rd_T74 l0_1 a1).f0) ((rd_T74 l0_1 a1).f1) ((rd_T74 l0_1 a1).f2)) = some r := by first | (rw [hy359]; with_reducible exact H) | (have H2_ := (Option.bind_some _ _).symm.trans H; rw [hy359]; with_reducible exact H2_) | (have H2_ := (Option.bind_some _ _).symm.trans H; with_reducible exact H2_) | with_reducible exact H | (rw [hy359]; exact H) | exact H
            have Ny359 := Az.mk hy359
            clear hy359
            have H' := Az.mk H
            clear H
            have p340 : 0 ≤ (x19_1 : Int) := of_decide_eq_true (by first | (with_reducible assumption) | assumption)
            have q340 : x19_1 < (((rd_T74 l0_1 a1).f0).length : Int) := of_decide_eq_true (by first | (with_reducible assumption) | assumption)
            obtain ⟨ad340, e340, hx340_0, hx340_1, hx340_2⟩ := at_T87 HR338_0.out x19_1 p340 q340
            (try rw [← Nbq16.out] at hx340_0)
            (try rw [← Nbq16.out] at hx340_2)
            cases e340
            replace hx340_0 := (HB.out.cell (World.block_lt_of_cell? w _ hx340_0)).trans hx340_0
            replace hx340_1 := (HB.out.cell (World.block_lt_of_cell? w _ hx340_1)).trans hx340_1
            replace hx340_2 := (HB.out.cell (World.block_lt_of_cell? w _ hx340_2)).trans hx340_2
            replace p340 := eq_true p340
            replace q340 := eq_true q340
            go_wp2_with (first | ((with_reducible refine Yd (N := 8) rfl ?_); refine Yv ?hg (N := 8) ?hd (cs := #[.bool false, .int .i64 0, .bool false]) (t := 87) ?hr ?_; (case hd => rfl); (case hg => rfl); (case hr => first | (go_simp; done) | (go_simp; rfl)); intro gb341 hg w36 hbox hb; have n0_ := Az.mk (Kd.Sb_ (by (with_reducible repeat (first | apply Kd.Sa_ | apply Kd.Sn_ | apply Kd.Sw_)); exact HO_5.out) hb); have n1_ := Az.mk (Zb (g := gb334) (o := .cells #[.slice A0_0 l0_0.length c0_0, .slice (some ad338) l0_1.length c0_1, .int .i64 a0_2] 35 (0, 0)) (by (with_reducible repeat (first | refine Zn ?_ _ | refine Zw ?_ | refine Za ?_ _)); exact BK334.out) hb); have n2_ := Az.mk (Zb (g := gb339) (o := .cells #[.slice (some ad340) ((rd_T74 l0_1 a1).f0).length c338_0, .slice A338_1 ((rd_T74 l0_1 a1).f1).length c338_1, .slice A338_2 ((rd_T74 l0_1 a1).f2).length c338_2] 74 (0, 0)) (by (with_reducible repeat (first | refine Zn ?_ _ | refine Zw ?_ | refine Za ?_ _)); exact BK339.out) hb); have n3_ := Az.mk (Yt (by repeat (first | (with_reducible first | exact HB.out | apply Ya | apply Yn | apply Yw | refine Ys ?_ GE334.out | refine Ys ?_ GE339.out) | exact HB.out)) hb); have n4_ := Az.mk (hbox); have n5_ := Az.mk ((by rw [hg]; exact (Yz (by repeat (first | (with_reducible first | exact HB.out | apply Ya | apply Yn | apply Yw | refine Ys ?_ GE334.out | refine Ys ?_ GE339.out) | exact HB.out))) : w.heap.size ≤ gb341)); have n6_ := Az.mk ((by rw [hg]; exact (Yz (by repeat (first | (with_reducible first | exact HB.out | apply Ya | apply Yn | apply Yw | refine Ys ?_ GE334.out | refine Ys ?_ GE339.out) | exact HB.out))) : w.heap.size ≤ gb341)); have n7_ := Az.mk ((by rw [hg]; exact Nat.ne_of_lt (Zl (g := gb334) (o := .cells #[.slice A0_0 l0_0.length c0_0, .slice (some ad338) l0_1.length c0_1, .int .i64 a0_2] 35 (0, 0)) (by (with_reducible repeat (first | refine Zn ?_ _ | refine Zw ?_ | refine Za ?_ _)); exact BK334.out)) : gb334 ≠ gb341)); have n8_ := Az.mk ((by rw [hg]; exact Nat.ne_of_gt (Zl (g := gb334) (o := .cells #[.slice A0_0 l0_0.length c0_0, .slice (some ad338) l0_1.length c0_1, .int .i64 a0_2] 35 (0, 0)) (by (with_reducible repeat (first | refine Zn ?_ _ | refine Zw ?_ | refine Za ?_ _)); exact BK334.out)) : gb341 ≠ gb334)); have n9_ := Az.mk ((by rw [hg]; exact Nat.ne_of_lt (Zl (g := gb339) (o := .cells #[.slice (some ad340) ((rd_T74 l0_1 a1).f0).length c338_0, .slice A338_1 ((rd_T74 l0_1 a1).f1).length c338_1, .slice A338_2 ((rd_T74 l0_1 a1).f2).length c338_2] 74 (0, 0)) (by (with_reducible repeat (first | refine Zn ?_ _ | refine Zw ?_ | refine Za ?_ _)); exact BK339.out)) : gb339 ≠ gb341)); have n10_ := Az.mk ((by rw [hg]; exact Nat.ne_of_gt (Zl (g := gb339) (o := .cells #[.slice (some ad340) ((rd_T74 l0_1 a1).f0).length c338_0, .slice A338_1 ((rd_T74 l0_1 a1).f1).length c338_1, .slice A338_2 ((rd_T74 l0_1 a1).f2).length c338_2] 74 (0, 0)) (by (with_reducible repeat (first | refine Zn ?_ _ | refine Zw ?_ | refine Za ?_ _)); exact BK339.out)) : gb341 ≠ gb339)); clear HO_5; clear BK334; clear BK339; clear HB; have HO_5 := n0_; have BK334 := n1_; have BK339 := n2_; have HB := n3_; have BK341 := n4_; have GW341 := n5_; have GE341 := n6_; have NB334_341 := n7_; have NB341_334 := n8_; have NB339_341 := n9_; have NB341_339 := n10_; clear n0_ n1_ n2_ n3_ n4_ n5_ n6_ n7_ n8_ n9_ n10_; clear hb hbox hg; have hnb37 := NB341_334.out; have hnc37 := NB334_341.out; have hnb38 := NB341_339.out; have hnc38 := NB339_341.out; have hcz39_0 : w36.cell? ⟨gb341, 0, none⟩ = some (.bool false) := (Zc BK341.out 0).trans rfl; have hcz39_1 : w36.cell? ⟨gb341, 1, none⟩ = some (.int .i64 0) := (Zc BK341.out 1).trans rfl; have hcz39_2 : w36.cell? ⟨gb341, 2, none⟩ = some (.bool false) := (Zc BK341.out 2).trans rfl; have hfz39_0 := Zf BK341.out 0; have hfz39_1 := Zf BK341.out 1; have hfz39_2 := Zf BK341.out 2; have hnb40 := NB339_334.out; have hnc40 := NB334_339.out; have hcz41_0 : w36.cell? ⟨gb339, 0, none⟩ = some (.slice (some ad340) ((rd_T74 l0_1 a1).f0).length c338_0) := (Zc BK339.out 0).trans rfl; have hcz41_1 : w36.cell? ⟨gb339, 1, none⟩ = some (.slice A338_1 ((rd_T74 l0_1 a1).f1).length c338_1) := (Zc BK339.out 1).trans rfl; have hcz41_2 : w36.cell? ⟨gb339, 2, none⟩ = some (.slice A338_2 ((rd_T74 l0_1 a1).f2).length c338_2) := (Zc BK339.out 2).trans rfl; have hfz41_0 := Zf BK339.out 0; have hfz41_1 := Zf BK339.out 1; have hfz41_2 := Zf BK339.out 2; have p342 : 0 ≤ (x19_1 : Int) := of_decide_eq_true (by first | (with_reducible assumption) | assumption); have q342 : x19_1 < (((rd_T74 l0_1 a1).f1).length : Int) := of_decide_eq_true (by first | (with_reducible assumption) | assumption); obtain ⟨ad342, A342_0, c342_0, e342, hx342_0, hl342_0, hi342_0⟩ := at_L1 HR338_1.out x19_1 p342 q342; cases e342; have hn342_0 : ad342.block ≠ gb341 := Nat.ne_of_lt (Nat.lt_of_lt_of_le (by have := World.block_lt_of_cell? _ _ hx342_0; first | rwa [add_block] at this | exact this) GW341.out); have hn342_1 : ad342.block ≠ gb341 := Nat.ne_of_lt (Nat.lt_of_lt_of_le (by have := World.block_lt_of_cell? _ _ hx342_0; first | rwa [add_block] at this | exact this) GW341.out); have hn342_2 : ad342.block ≠ gb341 := Nat.ne_of_lt (Nat.lt_of_lt_of_le (by have := World.block_lt_of_cell? _ _ hx342_0; first | rwa [add_block] at this | exact this) GW341.out); replace hx342_0 := (HB.out.cell (World.block_lt_of_cell? w _ hx342_0)).trans hx342_0; have HR342_0 := Az.mk hi342_0; have HC342_0 := Az.mk hl342_0; clear hi342_0 hl342_0; replace hx342_0 := (cell_far (p := ⟨gb341, 0, none⟩) (by first | (rw [add_block]; exact hn342_0) | (show (Addr.add _ _).block ≠ _; rw [add_block]; exact hn342_0) | exact hn342_0) (.bool false)).trans hx342_0; replace hx342_0 := (cell_far (p := ⟨gb341, 1, none⟩) (by first | (rw [add_block]; exact hn342_1) | (show (Addr.add _ _).block ≠ _; rw [add_block]; exact hn342_1) | exact hn342_1) (.int .i64 ((rd_T87 ((rd_T74 l0_1 a1).f0) x19_1).f1))).trans hx342_0; replace hx342_0 := (cell_far (p := ⟨gb341, 2, none⟩) (by first | (rw [add_block]; exact hn342_2) | (show (Addr.add _ _).block ≠ _; rw [add_block]; exact hn342_2) | exact hn342_2) (.bool ((rd_T87 ((rd_T74 l0_1 a1).f0) x19_1).f2))).trans hx342_0; clear hn342_0; clear hn342_1; clear hn342_2; replace p342 := eq_true p342; replace q342 := eq_true q342) | ((with_reducible refine Yd (N := 38) rfl ?_); refine Kd.R_lit (Kd.int .i64) _ 3 ?hg (N := 38) ?hd (xs := ([] : List Int)) (inner := []) (ok := fun _ => True) (okp := fun _ => True) ?hr ?hp (fun _ hk => hk) trivial (Below.refl _ _) (Nat.le_refl _) (by simp) ?_; (case hd => rfl); (case hg => rfl); (case hr => first | (go_simp; done) | (go_simp; rfl)); (case hp => exact (Reps.none _ _)); intro v354 w42 ho43 hb hg_ hnew_; clear hg_ hnew_; (first | rw [← Ny353.out] at ho43 | (simp only [Int.reduceToNat] at ho43; rw [← Ny353.out] at ho43)); have n0_ := Az.mk (Kd.SE_ (by (with_reducible repeat (first | apply Kd.Sa_ | apply Kd.Sn_ | apply Kd.Sw_)); exact (Kd.Sm_ (Kd.Sf_ (p := ⟨gb341, 2, none⟩) (Kd.Sf_ (p := ⟨gb341, 1, none⟩) (Kd.Sf_ (p := ⟨gb341, 0, none⟩) (Kd.S_types HO_5.out BK341.out (by decide)) (fun _ hk => hk.2) (.bool false)) (fun _ hk => hk.2) (.int .i64 ((rd_T87 ((rd_T74 l0_1 a1).f0) x19_1).f1))) (fun _ hk => hk.2) (.bool ((rd_T87 ((rd_T74 l0_1 a1).f0) x19_1).f2))) (fun _ h_ => h_.1))) (Kd.R_base ho43) hb); have n1_ := Az.mk (Kd.Rl_ ho43 (Yz (by repeat (first | (with_reducible first | exact HB.out | apply Ya | apply Yn | apply Yw | refine Ys ?_ GE334.out | refine Ys ?_ GE339.out | refine Ys ?_ GE341.out) | exact HB.out)))); have n2_ := Az.mk (Zb (g := gb334) (o := .cells #[.slice A0_0 l0_0.length c0_0, .slice (some ad338) l0_1.length c0_1, .int .i64 a0_2] 35 (0, 0)) (by (with_reducible repeat (first | refine Zn ?_ _ | refine Zw ?_ | refine Za ?_ _)); refine blk_far ?_ NB334_341.out _; (with_reducible repeat (first | refine Zn ?_ _ | refine Zw ?_ | refine Za ?_ _)); refine blk_far ?_ NB334_341.out _; (with_reducible repeat (first | refine Zn ?_ _ | refine Zw ?_ | refine Za ?_ _)); refine blk_far ?_ NB334_341.out _; (with_reducible repeat (first | refine Zn ?_ _ | refine Zw ?_ | refine Za ?_ _)); exact BK334.out) hb); have n3_ := Az.mk (Zb (g := gb339) (o := .cells #[.slice (some ad340) ((rd_T74 l0_1 a1).f0).length c338_0, .slice (some ad342) ((rd_T74 l0_1 a1).f1).length c338_1, .slice A338_2 ((rd_T74 l0_1 a1).f2).length c338_2] 74 (0, 0)) (by (with_reducible repeat (first | refine Zn ?_ _ | refine Zw ?_ | refine Za ?_ _)); refine blk_far ?_ NB339_341.out _; (with_reducible repeat (first | refine Zn ?_ _ | refine Zw ?_ | refine Za ?_ _)); refine blk_far ?_ NB339_341.out _; (with_reducible repeat (first | refine Zn ?_ _ | refine Zw ?_ | refine Za ?_ _)); refine blk_far ?_ NB339_341.out _; (with_reducible repeat (first | refine Zn ?_ _ | refine Zw ?_ | refine Za ?_ _)); exact BK339.out) hb); have n4_ := Az.mk (Zb (g := gb341) (o := .cells #[.bool false, .int .i64 ((rd_T87 ((rd_T74 l0_1 a1).f0) x19_1).f1), .bool ((rd_T87 ((rd_T74 l0_1 a1).f0) x19_1).f2)] 87 (0, 0)) (by (with_reducible repeat (first | refine Zn ?_ _ | refine Zw ?_ | refine Za ?_ _)); refine Zp (cs := #[.bool false, .int .i64 ((rd_T87 ((rd_T74 l0_1 a1).f0) x19_1).f1), .bool false]) ?_ 2 _ rfl; (with_reducible repeat (first | refine Zn ?_ _ | refine Zw ?_ | refine Za ?_ _)); refine Zp (cs := #[.bool false, .int .i64 0, .bool false]) ?_ 1 _ rfl; (with_reducible repeat (first | refine Zn ?_ _ | refine Zw ?_ | refine Za ?_ _)); refine Zp (cs := #[.bool false, .int .i64 0, .bool false]) ?_ 0 _ rfl; (with_reducible repeat (first | refine Zn ?_ _ | refine Zw ?_ | refine Za ?_ _)); exact BK341.out) hb); have n5_ := Az.mk (Yt (by repeat (first | (with_reducible first | exact HB.out | apply Ya | apply Yn | apply Yw | refine Ys ?_ GE334.out | refine Ys ?_ GE339.out | refine Ys ?_ GE341.out) | exact HB.out)) hb); clear HO_5; clear BK334; clear BK339; clear BK341; clear HB; have HO_5 := n0_; have HO355 := n1_; have BK334 := n2_; have BK339 := n3_; have BK341 := n4_; have HB := n5_; clear n0_ n1_ n2_ n3_ n4_ n5_; clear hb ho43) | ((with_reducible refine gate_builtin (b := .append) (xs := #[.tmp 38, .tmp 39]) rfl ?_); at_builtin; refine Kd.R_append_rows (Kd.int .i64) (w0 := w) w.heap.size rfl (.tmp 38) (.tmp 39) 45 3 (.int .i64 0) 8 rfl Try.underlying45 info3 rfl (by decide) (by omega) v354 y353 (rd_L1 ((rd_T74 l0_1 a1).f1) x19_1) _ _ _ (fun _ => True) (fun _ => False) rfl rfl ?aO ?aR (fun _ _ h => h) (fun _ h => h.elim) ?aF ?aB ?aS ?aL ?_; (case aR => repeat (first | exact (Kd.Cb_ HR342_0.out HB.out) | exact HR342_0.out | (with_reducible refine Kd.Ca_ ?_ _) | (with_reducible refine Kd.Cn_ ?_ _) | (with_reducible refine Kd.Cw_ ?_))); (case aB => exact (by repeat (first | (with_reducible first | exact HB.out | apply Ya | apply Yn | apply Yw | refine Ys ?_ GE334.out | refine Ys ?_ GE339.out | refine Ys ?_ GE341.out) | exact HB.out))); (case aF => exact (fun _ _ => trivial)); (case aO => exact (by (with_reducible repeat (first | apply Kd.Ra_ | apply Kd.Rn_ | apply Kd.Rw_)); exact HO355.out)); (case aS => exact (Yz (by repeat (first | (with_reducible first | exact HB.out | apply Ya | apply Yn | apply Yw | refine Ys ?_ GE334.out | refine Ys ?_ GE339.out | refine Ys ?_ GE341.out) | exact HB.out)))); (case aL => have := LMc34.out; omega); intro v357 w44 ho hb hg hat; rw [← Ny356.out] at ho; have n0_ := Az.mk (Kd.S_after (ok := (fun _ => True)) (by (with_reducible repeat (first | apply Kd.Sa_ | apply Kd.Sn_ | apply Kd.Sw_)); exact HO_5.out) hg hat); have n1_ := Az.mk (blk_grown (g := gb334) (o := .cells #[.slice A0_0 l0_0.length c0_0, .slice (some ad338) l0_1.length c0_1, .int .i64 a0_2] 35 (0, 0)) (by (with_reducible repeat (first | refine Zn ?_ _ | refine Zw ?_ | refine Za ?_ _)); exact BK334.out) hg (Kd.R_ne HO355.out BK334.out (by decide))); have n2_ := Az.mk (blk_grown (g := gb339) (o := .cells #[.slice (some ad340) ((rd_T74 l0_1 a1).f0).length c338_0, .slice (some ad342) ((rd_T74 l0_1 a1).f1).length c338_1, .slice A338_2 ((rd_T74 l0_1 a1).f2).length c338_2] 74 (0, 0)) (by (with_reducible repeat (first | refine Zn ?_ _ | refine Zw ?_ | refine Za ?_ _)); exact BK339.out) hg (Kd.R_ne HO355.out BK339.out (by decide))); have n3_ := Az.mk (blk_grown (g := gb341) (o := .cells #[.bool false, .int .i64 ((rd_T87 ((rd_T74 l0_1 a1).f0) x19_1).f1), .bool ((rd_T87 ((rd_T74 l0_1 a1).f0) x19_1).f2)] 87 (0, 0)) (by (with_reducible repeat (first | refine Zn ?_ _ | refine Zw ?_ | refine Za ?_ _)); exact BK341.out) hg (Kd.R_ne HO355.out BK341.out (by decide))); have n4_ := Az.mk (hb); have n5_ := Az.mk (ho); clear HO_5; clear BK334; clear BK339; clear BK341; clear HB; clear HO355; have HO_5 := n0_; have BK334 := n1_; have BK339 := n2_; have BK341 := n3_; have HB := n4_; have HO358 := n5_; clear n0_ n1_ n2_ n3_ n4_ n5_; clear ho hb hg hat; obtain ⟨Ao46, co46, eo46⟩ := Kd.Rs_ HO358.out; subst eo46) | ((with_reducible refine gate_builtin (b := .append) (xs := #[.tmp 37, .tmp 41]) rfl ?_); at_builtin; refine Kd.S_append (Kd.slice 3 (Kd.int .i64)) (w0 := w) w.heap.size rfl (.tmp 37) (.tmp 41) 23 45 (.slice none 0 0) 24 rfl Try.underlying23 info45 rfl (by decide) (by omega) u5 x5_1 y356 [.slice Ao46 y356.length co46] (fun _ => True) (fun k_ => some k_ = (.slice Ao46 y356.length co46 : Value).ownBlock) rfl rfl ?aP (fun k_ hk_ => ((Kd.Rm_ (ok' := fun k_ => ((fun _ => True)) k_ ∧ some k_ ≠ (u5 : Value).ownBlock) (Kd.R_apart' (HO358.out) (Kd.S_typed HO_5.out) (by decide)) (fun k_ hk => ⟨trivial, hk.2⟩))).1 k_ hk_.symm) ?aF ?aO ?aB ?aS ?aL ?_; (case aP => exact Kd.M_row (Kd.Rm_ (Kd.R_tight rfl (Kd.Rm_ (ok' := fun k_ => ((fun _ => True)) k_ ∧ some k_ ≠ (u5 : Value).ownBlock) (Kd.R_apart' (HO358.out) (Kd.S_typed HO_5.out) (by decide)) (fun k_ hk => ⟨trivial, hk.2⟩))) (fun _ h_ => h_))); (case aB => exact (by repeat (first | (with_reducible first | exact HB.out | apply Ya | apply Yn | apply Yw | refine Ys ?_ GE334.out | refine Ys ?_ GE339.out | refine Ys ?_ GE341.out) | exact HB.out))); (case aF => exact (fun _ _ => trivial)); (case aO => exact (by (with_reducible repeat (first | apply Kd.Sa_ | apply Kd.Sn_ | apply Kd.Sw_)); exact Kd.Sm_ HO_5.out (fun k_ hk => ⟨trivial, fun e_ => hk.2 e_⟩))); (case aS => exact (Yz (by repeat (first | (with_reducible first | exact HB.out | apply Ya | apply Yn | apply Yw | refine Ys ?_ GE334.out | refine Ys ?_ GE339.out | refine Ys ?_ GE341.out) | exact HB.out)))); (case aL => have := LMc35.out; omega); intro v360 w45 ho hb hg hat; rw [← Ny359.out] at ho; have n0_ := Az.mk (blk_grown (g := gb334) (o := .cells #[.slice A0_0 l0_0.length c0_0, .slice (some ad338) l0_1.length c0_1, .int .i64 a0_2] 35 (0, 0)) (by (with_reducible repeat (first | refine Zn ?_ _ | refine Zw ?_ | refine Za ?_ _)); exact BK334.out) hg (Kd.S_ne HO_5.out BK334.out (by decide))); have n1_ := Az.mk (blk_grown (g := gb339) (o := .cells #[.slice (some ad340) ((rd_T74 l0_1 a1).f0).length c338_0, .slice (some ad342) ((rd_T74 l0_1 a1).f1).length c338_1, .slice A338_2 ((rd_T74 l0_1 a1).f2).length c338_2] 74 (0, 0)) (by (with_reducible repeat (first | refine Zn ?_ _ | refine Zw ?_ | refine Za ?_ _)); exact BK339.out) hg (Kd.S_ne HO_5.out BK339.out (by decide))); have n2_ := Az.mk (blk_grown (g := gb341) (o := .cells #[.bool false, .int .i64 ((rd_T87 ((rd_T74 l0_1 a1).f0) x19_1).f1), .bool ((rd_T87 ((rd_T74 l0_1 a1).f0) x19_1).f2)] 87 (0, 0)) (by (with_reducible repeat (first | refine Zn ?_ _ | refine Zw ?_ | refine Za ?_ _)); exact BK341.out) hg (Kd.S_ne HO_5.out BK341.out (by decide))); have n3_ := Az.mk (hb); have n4_ := Az.mk (ho); clear BK334; clear BK339; clear BK341; clear HB; clear HO_5; clear HO358; have BK334 := n0_; have BK339 := n1_; have BK341 := n2_; have HB := n3_; have HO361 := n4_; clear n0_ n1_ n2_ n3_ n4_; clear ho hb hg hat))
            go_roundg k1
            case measure => have := HK1.out; omega
            case rel => exact ⟨(y359), (wrap64 (x19_1 + 1)), (by first | rfl | (simp; done) | (simp [*]; done)), H', ⟨by have := HK1.out; omega⟩, ⟨by (with_reducible repeat (first | apply Kd.Sa_ | apply Kd.Sn_ | apply Kd.Sw_)); exact HO361.out⟩, ⟨by (with_reducible repeat (first | refine Zn ?_ _ | refine Zw ?_ | refine Za ?_ _)); exact BK334.out⟩, ⟨by (with_reducible repeat (first | refine Zn ?_ _ | refine Zw ?_ | refine Za ?_ _)); exact BK339.out⟩, ⟨by repeat (first | (with_reducible first | exact HB.out | apply Ya | apply Yn | apply Yw | refine Ys ?_ GE334.out | refine Ys ?_ GE339.out | refine Ys ?_ GE341.out) | exact HB.out)⟩⟩
           ·rw [if_neg c35] at H
            exact absurd H (by simp)
          ·rw [if_neg c34] at H
           exact absurd H (by simp)
        ·rw [if_neg c15] at H
         exact absurd H (by simp)
       ·rw [if_neg c14] at H
        exact absurd H (by simp)
      ·rw [if_neg c13] at H
       exact absurd H (by simp)
     ·rw [if_neg c12] at H
      have c12b0 : decide (x19_1 < (((rd_T74 l0_1 a1).f0).length : Int)) = false := decide_eq_false c12
      clear c12
      obtain rfl := Option.some.inj H
      go_wp2
      go_ret
      exact ⟨_, by first | rfl | (simp [errW_none, errW_some] <;> rfl) | (simp [*, errW_none, errW_some] <;> rfl), by (with_reducible repeat (first | apply Kd.Sa_ | apply Kd.Sn_ | apply Kd.Sw_)); exact HO_5.out, by repeat (first | (with_reducible first | exact HB.out | apply Ya | apply Yn | apply Yw | refine Ys ?_ GE334.out | refine Ys ?_ GE339.out) | exact HB.out)⟩
  ·rw [if_neg c4] at H
   exact absurd H (by simp)
 ·rw [if_neg c3] at H
  exact absurd H (by simp)

/-! ### impl_HostSee: function 25 -/
def impl_HostSee.f (k : Nat) (l0_0 : List (List Int)) (l0_1 : List (S74)) (a0_2 : Int) (a1 : Int) : Option ((List (List Int))) := (impl_HostOk.f k l0_0 l0_1 a0_2).bind fun t363 => (if t363 = true then ((impl_within.f a1 0 (wrap64 ((l0_1.length : Int) - 1))).bind fun t364 => (if t364 = true then ((impl_Host_see.f k l0_0 l0_1 a0_2 a1).bind fun t365 => (some t365)) else (some (([] : List (List Int)))))) else (some (([] : List (List Int)))))
set_option maxHeartbeats 8000000 in
set_option maxRecDepth 100000 in
theorem impl_HostSee.calls (k : Nat) (A0_0 : Option Addr) (c0_0 : Nat) (l0_0 : List (List Int)) (A0_1 : Option Addr) (c0_1 : Nat) (l0_1 : List (S74)) (a0_2 : Int) (a1 : Int) (r : List (List Int)) (w : World) (hr0_0 : Kd.C (Kd.slice 3 (Kd.int .i64)) w A0_0 l0_0.length l0_0) (hc0_0 : l0_0.length ≤ c0_0) (hr0_1 : Kd.C k74 w A0_1 l0_1.length l0_1) (hc0_1 : l0_1.length ≤ c0_1) (h : impl_HostSee.f k l0_0 l0_1 a0_2 a1 = some r) :
  Calls Try.prog 25 #[.agg #[.slice A0_0 l0_0.length c0_0, .slice A0_1 l0_1.length c0_1, .int .i64 a0_2], .int .i64 a1] w fun e w' => ∃ v0_ : Value, e = .returned (v0_) ∧ Kd.S (Kd.slice 3 (Kd.int .i64)) 45 w' w.heap.size (fun _ => True) v0_ r ∧ Below w.heap.size w w' := by
 have hu35 := Try.underlying35
 have HR0_0 := Az.mk hr0_0
 have HC0_0 := Az.mk hc0_0
 clear hr0_0 hc0_0
 have HR0_1 := Az.mk hr0_1
 have HC0_1 := Az.mk hc0_1
 clear hr0_1 hc0_1
 have HB := Az.mk (Below.refl w.heap.size w)
 have H : ((impl_HostOk.f k l0_0 l0_1 a0_2).bind fun t363 => (if t363 = true then ((impl_within.f a1 0 (wrap64 ((l0_1.length : Int) - 1))).bind fun t364 => (if t364 = true then ((impl_Host_see.f k l0_0 l0_1 a0_2 a1).bind fun t365 => (some t365)) else (some (([] : List (List Int)))))) else (some (([] : List (List Int)))))) = some r := h
 clear h
 replace H := Option.bind_eq_some_iff.mp H
 obtain ⟨t363, A30, H⟩ := H
 replace H : (if t363 = true then ((impl_within.f a1 0 (wrap64 ((l0_1.length : Int) - 1))).bind fun t364 => (if t364 = true then ((impl_Host_see.f k l0_0 l0_1 a0_2 a1).bind fun t365 => (some t365)) else (some (([] : List (List Int)))))) else (some (([] : List (List Int))))) = some r := H
 have A3 := Az.mk A30
 clear A30
 by_cases c4 : t363 = true
 ·subst c4
  have H1 : ((impl_within.f a1 0 (wrap64 ((l0_1.length : Int) - 1))).bind fun t364 => (if t364 = true then ((impl_Host_see.f k l0_0 l0_1 a0_2 a1).bind fun t365 => (some t365)) else (some (([] : List (List Int)))))) = some r := by rw [if_pos rfl] at H; exact H
  clear H
  have H := H1
  clear H1
  replace H := Option.bind_eq_some_iff.mp H
  obtain ⟨t364, A50, H⟩ := H
  replace H : (if t364 = true then ((impl_Host_see.f k l0_0 l0_1 a0_2 a1).bind fun t365 => (some t365)) else (some (([] : List (List Int))))) = some r := H
  have A5 := Az.mk A50
  clear A50
  by_cases c6 : t364 = true
  ·subst c6
   have H1 : ((impl_Host_see.f k l0_0 l0_1 a0_2 a1).bind fun t365 => (some t365)) = some r := by rw [if_pos rfl] at H; exact H
   clear H
   have H := H1
   clear H1
   replace H := Option.bind_eq_some_iff.mp H
   obtain ⟨t365, A70, H⟩ := H
   replace H : (some t365) = some r := H
   have A7 := Az.mk A70
   clear A70
   obtain rfl := Option.some.inj H
   go_enter Try.func25, Try.ntmps25
   go_wp2_with (first | ((with_reducible refine Yd (N := 2) rfl ?_); (try (refine Ye (by rfl) ?_; dsimp only)); refine Yv ?hg (N := 2) ?hd (cs := #[.slice A0_0 l0_0.length c0_0, .slice A0_1 l0_1.length c0_1, .int .i64 a0_2]) (t := 35) ?hr ?_; (case hd => rfl); (case hg => rfl); (case hr => first | (go_simp; done) | (go_simp; rfl)); intro gb362 hg w8 hbox hb; have n0_ := Az.mk (Yt (by repeat (first | (with_reducible first | exact HB.out | apply Ya | apply Yn | apply Yw) | exact HB.out)) hb); have n1_ := Az.mk (hbox); have n2_ := Az.mk ((by rw [hg]; exact (Yz (by repeat (first | (with_reducible first | exact HB.out | apply Ya | apply Yn | apply Yw) | exact HB.out))) : w.heap.size ≤ gb362)); have n3_ := Az.mk ((by rw [hg]; exact (Yz (by repeat (first | (with_reducible first | exact HB.out | apply Ya | apply Yn | apply Yw) | exact HB.out))) : w.heap.size ≤ gb362)); clear HB; have HB := n0_; have BK362 := n1_; have GW362 := n2_; have GE362 := n3_; clear n0_ n1_ n2_ n3_; clear hb hbox hg; have hcz9_0 : w8.cell? ⟨gb362, 0, none⟩ = some (.slice A0_0 l0_0.length c0_0) := (Zc BK362.out 0).trans rfl; have hcz9_1 : w8.cell? ⟨gb362, 1, none⟩ = some (.slice A0_1 l0_1.length c0_1) := (Zc BK362.out 1).trans rfl; have hcz9_2 : w8.cell? ⟨gb362, 2, none⟩ = some (.int .i64 a0_2) := (Zc BK362.out 2).trans rfl; have hfz9_0 := Zf BK362.out 0; have hfz9_1 := Zf BK362.out 1; have hfz9_2 := Zf BK362.out 2) | ((with_reducible refine Yc (f := 27) rfl ?_); refine Yg (some 6) rfl rfl Try.func27 (by kernel_rfl) rfl #[.agg #[.slice A0_0 l0_0.length c0_0, .slice A0_1 l0_1.length c0_1, .int .i64 a0_2]] rfl (by (try simp only [List.map_toArray, List.map_cons, List.map_nil]); first | done | rfl | (simp only [List.length_drop, List.length_take]; rfl)) ?_; (with_reducible refine (impl_HostOk.calls k _ _ l0_0 _ _ l0_1 a0_2 true _ ?side1 ?side2 ?side3 ?side4 A3.out).mono ?_); (case side1 => repeat (first | exact (Kd.Cb_ HR0_0.out HB.out) | exact HR0_0.out | (with_reducible refine Kd.Ca_ ?_ _) | (with_reducible refine Kd.Cn_ ?_ _) | (with_reducible refine Kd.Cw_ ?_))); (case side2 => exact HC0_0.out); (case side3 => repeat (first | exact (Kd.Cb_ HR0_1.out HB.out) | exact HR0_1.out | (with_reducible refine Kd.Ca_ ?_ _) | (with_reducible refine Kd.Cn_ ?_ _) | (with_reducible refine Kd.Cw_ ?_))); (case side4 => exact HC0_1.out); rintro e w10 ⟨rfl, hb⟩; refine ⟨_, rfl, ?_⟩; have n0_ := Az.mk (Zb (g := gb362) (o := .cells #[.slice A0_0 l0_0.length c0_0, .slice A0_1 l0_1.length c0_1, .int .i64 a0_2] 35 (0, 0)) (by (with_reducible repeat (first | refine Zn ?_ _ | refine Zw ?_ | refine Za ?_ _)); exact BK362.out) hb); have n1_ := Az.mk (Yt (by repeat (first | (with_reducible first | exact HB.out | apply Ya | apply Yn | apply Yw | refine Ys ?_ GE362.out) | exact HB.out)) hb); clear BK362; clear HB; have BK362 := n0_; have HB := n1_; clear n0_ n1_; (try clear hb); (try clear hb2); (try clear hk); (try clear hi); have hcz11_0 : w10.cell? ⟨gb362, 0, none⟩ = some (.slice A0_0 l0_0.length c0_0) := (Zc BK362.out 0).trans rfl; have hcz11_1 : w10.cell? ⟨gb362, 1, none⟩ = some (.slice A0_1 l0_1.length c0_1) := (Zc BK362.out 1).trans rfl; have hcz11_2 : w10.cell? ⟨gb362, 2, none⟩ = some (.int .i64 a0_2) := (Zc BK362.out 2).trans rfl; have hfz11_0 := Zf BK362.out 0; have hfz11_1 := Zf BK362.out 1; have hfz11_2 := Zf BK362.out 2) | (go_at_call 53; (with_reducible refine (impl_within.calls a1 0 (wrap64 ((l0_1.length : Int) - 1)) true _ A5.out).mono ?_); rintro e w' ⟨rfl, ⟨nd, rfl⟩⟩) | ((with_reducible refine Yc (f := 65) rfl ?_); refine Yg (some 20) rfl rfl Try.func65 (by kernel_rfl) rfl #[.agg #[.slice A0_0 l0_0.length c0_0, .slice A0_1 l0_1.length c0_1, .int .i64 a0_2], .int .i64 a1] rfl (by (try simp only [List.map_toArray, List.map_cons, List.map_nil]); first | done | rfl | (simp only [List.length_drop, List.length_take]; rfl)) ?_; (with_reducible refine (impl_Host_see.calls k _ _ l0_0 _ _ l0_1 a0_2 a1 t365 _ ?side1 ?side2 ?side3 ?side4 A7.out).mono ?_); (case side1 => repeat (first | exact (Kd.Cb_ HR0_0.out (by repeat (first | (with_reducible first | exact HB.out | apply Ya | apply Yn | apply Yw | refine Ys ?_ GE362.out) | exact HB.out))) | (with_reducible refine Kd.Ca_ ?_ _) | (with_reducible refine Kd.Cn_ ?_ _) | (with_reducible refine Kd.Cw_ ?_))); (case side2 => exact HC0_0.out); (case side3 => repeat (first | exact (Kd.Cb_ HR0_1.out (by repeat (first | (with_reducible first | exact HB.out | apply Ya | apply Yn | apply Yw | refine Ys ?_ GE362.out) | exact HB.out))) | (with_reducible refine Kd.Ca_ ?_ _) | (with_reducible refine Kd.Cn_ ?_ _) | (with_reducible refine Kd.Cw_ ?_))); (case side4 => exact HC0_1.out); rintro e w12 ⟨v366, rfl, ho0, hb⟩; refine ⟨_, rfl, ?_⟩; have n0_ := Az.mk (Kd.Sl_ ho0 (Yz (by repeat (first | (with_reducible first | exact HB.out | apply Ya | apply Yn | apply Yw | refine Ys ?_ GE362.out) | exact HB.out)))); have n1_ := Az.mk (Zb (g := gb362) (o := .cells #[.slice A0_0 l0_0.length c0_0, .slice A0_1 l0_1.length c0_1, .int .i64 a0_2] 35 (0, 0)) (by (with_reducible repeat (first | refine Zn ?_ _ | refine Zw ?_ | refine Za ?_ _)); exact BK362.out) hb); have n2_ := Az.mk (Yt (by repeat (first | (with_reducible first | exact HB.out | apply Ya | apply Yn | apply Yw | refine Ys ?_ GE362.out) | exact HB.out)) hb); clear BK362; clear HB; have HO367 := n0_; have BK362 := n1_; have HB := n2_; clear n0_ n1_ n2_; (try clear hb); (try clear hb2); (try clear hk); (try clear hi); (try clear ho0)))
   go_ret
   exact ⟨_, by first | rfl | (simp [errW_none, errW_some] <;> rfl) | (simp [*, errW_none, errW_some] <;> rfl), by (with_reducible repeat (first | apply Kd.Sa_ | apply Kd.Sn_ | apply Kd.Sw_)); exact HO367.out, by repeat (first | (with_reducible first | exact HB.out | apply Ya | apply Yn | apply Yw | refine Ys ?_ GE362.out) | exact HB.out)⟩
  ·replace c6 := Bool.eq_false_iff.mpr c6
   subst c6
   have H1 : (some (([] : List (List Int)))) = some r := by rw [if_neg (show ¬ (false = true) by decide)] at H; exact H
   clear H
   have H := H1
   clear H1
   obtain ⟨y368, hy368⟩ : ∃ y_ : List (List Int), y_ = (([] : List (List Int))) := ⟨_, rfl⟩
   replace H : (some y368) = some r := by first | (rw [hy368]; with_reducible exact H) | (have H2_ := (Option.bind_some _ _).symm.trans H; rw [hy368]; with_reducible exact H2_) | (have H2_ := (Option.bind_some _ _).symm.trans H; with_reducible exact H2_) | with_reducible exact H | (rw [hy368]; exact H) | exact H
   have Ny368 := Az.mk hy368
   clear hy368
   obtain rfl := Option.some.inj H
   go_enter Try.func25, Try.ntmps25
   go_wp2_with (first | ((with_reducible refine Yd (N := 2) rfl ?_); (try (refine Ye (by rfl) ?_; dsimp only)); refine Yv ?hg (N := 2) ?hd (cs := #[.slice A0_0 l0_0.length c0_0, .slice A0_1 l0_1.length c0_1, .int .i64 a0_2]) (t := 35) ?hr ?_; (case hd => rfl); (case hg => rfl); (case hr => first | (go_simp; done) | (go_simp; rfl)); intro gb362 hg w13 hbox hb; have n0_ := Az.mk (Yt (by repeat (first | (with_reducible first | exact HB.out | apply Ya | apply Yn | apply Yw) | exact HB.out)) hb); have n1_ := Az.mk (hbox); have n2_ := Az.mk ((by rw [hg]; exact (Yz (by repeat (first | (with_reducible first | exact HB.out | apply Ya | apply Yn | apply Yw) | exact HB.out))) : w.heap.size ≤ gb362)); have n3_ := Az.mk ((by rw [hg]; exact (Yz (by repeat (first | (with_reducible first | exact HB.out | apply Ya | apply Yn | apply Yw) | exact HB.out))) : w.heap.size ≤ gb362)); clear HB; have HB := n0_; have BK362 := n1_; have GW362 := n2_; have GE362 := n3_; clear n0_ n1_ n2_ n3_; clear hb hbox hg; have hcz14_0 : w13.cell? ⟨gb362, 0, none⟩ = some (.slice A0_0 l0_0.length c0_0) := (Zc BK362.out 0).trans rfl; have hcz14_1 : w13.cell? ⟨gb362, 1, none⟩ = some (.slice A0_1 l0_1.length c0_1) := (Zc BK362.out 1).trans rfl; have hcz14_2 : w13.cell? ⟨gb362, 2, none⟩ = some (.int .i64 a0_2) := (Zc BK362.out 2).trans rfl; have hfz14_0 := Zf BK362.out 0; have hfz14_1 := Zf BK362.out 1; have hfz14_2 := Zf BK362.out 2) | ((with_reducible refine Yc (f := 27) rfl ?_); refine Yg (some 6) rfl rfl Try.func27 (by kernel_rfl) rfl #[.agg #[.slice A0_0 l0_0.length c0_0, .slice A0_1 l0_1.length c0_1, .int .i64 a0_2]] rfl (by (try simp only [List.map_toArray, List.map_cons, List.map_nil]); first | done | rfl | (simp only [List.length_drop, List.length_take]; rfl)) ?_; (with_reducible refine (impl_HostOk.calls k _ _ l0_0 _ _ l0_1 a0_2 true _ ?side1 ?side2 ?side3 ?side4 A3.out).mono ?_); (case side1 => repeat (first | exact (Kd.Cb_ HR0_0.out HB.out) | exact HR0_0.out | (with_reducible refine Kd.Ca_ ?_ _) | (with_reducible refine Kd.Cn_ ?_ _) | (with_reducible refine Kd.Cw_ ?_))); (case side2 => exact HC0_0.out); (case side3 => repeat (first | exact (Kd.Cb_ HR0_1.out HB.out) | exact HR0_1.out | (with_reducible refine Kd.Ca_ ?_ _) | (with_reducible refine Kd.Cn_ ?_ _) | (with_reducible refine Kd.Cw_ ?_))); (case side4 => exact HC0_1.out); rintro e w15 ⟨rfl, hb⟩; refine ⟨_, rfl, ?_⟩; have n0_ := Az.mk (Zb (g := gb362) (o := .cells #[.slice A0_0 l0_0.length c0_0, .slice A0_1 l0_1.length c0_1, .int .i64 a0_2] 35 (0, 0)) (by (with_reducible repeat (first | refine Zn ?_ _ | refine Zw ?_ | refine Za ?_ _)); exact BK362.out) hb); have n1_ := Az.mk (Yt (by repeat (first | (with_reducible first | exact HB.out | apply Ya | apply Yn | apply Yw | refine Ys ?_ GE362.out) | exact HB.out)) hb); clear BK362; clear HB; have BK362 := n0_; have HB := n1_; clear n0_ n1_; (try clear hb); (try clear hb2); (try clear hk); (try clear hi); have hcz16_0 : w15.cell? ⟨gb362, 0, none⟩ = some (.slice A0_0 l0_0.length c0_0) := (Zc BK362.out 0).trans rfl; have hcz16_1 : w15.cell? ⟨gb362, 1, none⟩ = some (.slice A0_1 l0_1.length c0_1) := (Zc BK362.out 1).trans rfl; have hcz16_2 : w15.cell? ⟨gb362, 2, none⟩ = some (.int .i64 a0_2) := (Zc BK362.out 2).trans rfl; have hfz16_0 := Zf BK362.out 0; have hfz16_1 := Zf BK362.out 1; have hfz16_2 := Zf BK362.out 2) | (go_at_call 53; (with_reducible refine (impl_within.calls a1 0 (wrap64 ((l0_1.length : Int) - 1)) false _ A5.out).mono ?_); rintro e w' ⟨rfl, ⟨nd, rfl⟩⟩) | ((with_reducible refine Yd (N := 17) rfl ?_); (try (refine Ye (by rfl) ?_; dsimp only)); refine Kd.S_lit (Kd.slice 3 (Kd.int .i64)) _ 45 ?hg (N := 17) ?hd (xs := ([] : List (List Int))) (inner := []) (ok := fun _ => True) (okp := fun _ => True) ?hr ?hp (fun _ hk => hk) trivial (Below.refl _ _) (Nat.le_refl _) (by simp) ?_; (case hd => rfl); (case hg => rfl); (case hr => first | (go_simp; done) | (go_simp; rfl)); (case hp => exact (Reps.none _ _)); intro v369 w17 ho18 hb hg_ hnew_; clear hg_ hnew_; (first | rw [← Ny368.out] at ho18 | (simp only [Int.reduceToNat] at ho18; rw [← Ny368.out] at ho18)); have n0_ := Az.mk (Kd.Sl_ ho18 (Yz (by repeat (first | (with_reducible first | exact HB.out | apply Ya | apply Yn | apply Yw | refine Ys ?_ GE362.out) | exact HB.out)))); have n1_ := Az.mk (Zb (g := gb362) (o := .cells #[.slice A0_0 l0_0.length c0_0, .slice A0_1 l0_1.length c0_1, .int .i64 a0_2] 35 (0, 0)) (by (with_reducible repeat (first | refine Zn ?_ _ | refine Zw ?_ | refine Za ?_ _)); exact BK362.out) hb); have n2_ := Az.mk (Yt (by repeat (first | (with_reducible first | exact HB.out | apply Ya | apply Yn | apply Yw | refine Ys ?_ GE362.out) | exact HB.out)) hb); clear BK362; clear HB; have HO370 := n0_; have BK362 := n1_; have HB := n2_; clear n0_ n1_ n2_; clear hb ho18))
   go_ret
   exact ⟨_, by first | rfl | (simp [errW_none, errW_some] <;> rfl) | (simp [*, errW_none, errW_some] <;> rfl), by (with_reducible repeat (first | apply Kd.Sa_ | apply Kd.Sn_ | apply Kd.Sw_)); exact HO370.out, by repeat (first | (with_reducible first | exact HB.out | apply Ya | apply Yn | apply Yw | refine Ys ?_ GE362.out) | exact HB.out)⟩
 ·replace c4 := Bool.eq_false_iff.mpr c4
  subst c4
  have H1 : (some (([] : List (List Int)))) = some r := by rw [if_neg (show ¬ (false = true) by decide)] at H; exact H
  clear H
  have H := H1
  clear H1
  obtain ⟨y371, hy371⟩ : ∃ y_ : List (List Int), y_ = (([] : List (List Int))) := ⟨_, rfl⟩
  replace H : (some y371) = some r := by first | (rw [hy371]; with_reducible exact H) | (have H2_ := (Option.bind_some _ _).symm.trans H; rw [hy371]; with_reducible exact H2_) | (have H2_ := (Option.bind_some _ _).symm.trans H; with_reducible exact H2_) | with_reducible exact H | (rw [hy371]; exact H) | exact H
  have Ny371 := Az.mk hy371
  clear hy371
  obtain rfl := Option.some.inj H
  go_enter Try.func25, Try.ntmps25
  go_wp2_with (first | ((with_reducible refine Yd (N := 2) rfl ?_); (try (refine Ye (by rfl) ?_; dsimp only)); refine Yv ?hg (N := 2) ?hd (cs := #[.slice A0_0 l0_0.length c0_0, .slice A0_1 l0_1.length c0_1, .int .i64 a0_2]) (t := 35) ?hr ?_; (case hd => rfl); (case hg => rfl); (case hr => first | (go_simp; done) | (go_simp; rfl)); intro gb362 hg w19 hbox hb; have n0_ := Az.mk (Yt (by repeat (first | (with_reducible first | exact HB.out | apply Ya | apply Yn | apply Yw) | exact HB.out)) hb); have n1_ := Az.mk (hbox); have n2_ := Az.mk ((by rw [hg]; exact (Yz (by repeat (first | (with_reducible first | exact HB.out | apply Ya | apply Yn | apply Yw) | exact HB.out))) : w.heap.size ≤ gb362)); have n3_ := Az.mk ((by rw [hg]; exact (Yz (by repeat (first | (with_reducible first | exact HB.out | apply Ya | apply Yn | apply Yw) | exact HB.out))) : w.heap.size ≤ gb362)); clear HB; have HB := n0_; have BK362 := n1_; have GW362 := n2_; have GE362 := n3_; clear n0_ n1_ n2_ n3_; clear hb hbox hg; have hcz20_0 : w19.cell? ⟨gb362, 0, none⟩ = some (.slice A0_0 l0_0.length c0_0) := (Zc BK362.out 0).trans rfl; have hcz20_1 : w19.cell? ⟨gb362, 1, none⟩ = some (.slice A0_1 l0_1.length c0_1) := (Zc BK362.out 1).trans rfl; have hcz20_2 : w19.cell? ⟨gb362, 2, none⟩ = some (.int .i64 a0_2) := (Zc BK362.out 2).trans rfl; have hfz20_0 := Zf BK362.out 0; have hfz20_1 := Zf BK362.out 1; have hfz20_2 := Zf BK362.out 2) | ((with_reducible refine Yc (f := 27) rfl ?_); refine Yg (some 6) rfl rfl Try.func27 (by kernel_rfl) rfl #[.agg #[.slice A0_0 l0_0.length c0_0, .slice A0_1 l0_1.length c0_1, .int .i64 a0_2]] rfl (by (try simp only [List.map_toArray, List.map_cons, List.map_nil]); first | done | rfl | (simp only [List.length_drop, List.length_take]; rfl)) ?_; (with_reducible refine (impl_HostOk.calls k _ _ l0_0 _ _ l0_1 a0_2 false _ ?side1 ?side2 ?side3 ?side4 A3.out).mono ?_); (case side1 => repeat (first | exact (Kd.Cb_ HR0_0.out HB.out) | exact HR0_0.out | (with_reducible refine Kd.Ca_ ?_ _) | (with_reducible refine Kd.Cn_ ?_ _) | (with_reducible refine Kd.Cw_ ?_))); (case side2 => exact HC0_0.out); (case side3 => repeat (first | exact (Kd.Cb_ HR0_1.out HB.out) | exact HR0_1.out | (with_reducible refine Kd.Ca_ ?_ _) | (with_reducible refine Kd.Cn_ ?_ _) | (with_reducible refine Kd.Cw_ ?_))); (case side4 => exact HC0_1.out); rintro e w21 ⟨rfl, hb⟩; refine ⟨_, rfl, ?_⟩; have n0_ := Az.mk (Zb (g := gb362) (o := .cells #[.slice A0_0 l0_0.length c0_0, .slice A0_1 l0_1.length c0_1, .int .i64 a0_2] 35 (0, 0)) (by (with_reducible repeat (first | refine Zn ?_ _ | refine Zw ?_ | refine Za ?_ _)); exact BK362.out) hb); have n1_ := Az.mk (Yt (by repeat (first | (with_reducible first | exact HB.out | apply Ya | apply Yn | apply Yw | refine Ys ?_ GE362.out) | exact HB.out)) hb); clear BK362; clear HB; have BK362 := n0_; have HB := n1_; clear n0_ n1_; (try clear hb); (try clear hb2); (try clear hk); (try clear hi)) | ((with_reducible refine Yd (N := 17) rfl ?_); (try (refine Ye (by rfl) ?_; dsimp only)); refine Kd.S_lit (Kd.slice 3 (Kd.int .i64)) _ 45 ?hg (N := 17) ?hd (xs := ([] : List (List Int))) (inner := []) (ok := fun _ => True) (okp := fun _ => True) ?hr ?hp (fun _ hk => hk) trivial (Below.refl _ _) (Nat.le_refl _) (by simp) ?_; (case hd => rfl); (case hg => rfl); (case hr => first | (go_simp; done) | (go_simp; rfl)); (case hp => exact (Reps.none _ _)); intro v372 w22 ho23 hb hg_ hnew_; clear hg_ hnew_; (first | rw [← Ny371.out] at ho23 | (simp only [Int.reduceToNat] at ho23; rw [← Ny371.out] at ho23)); have n0_ := Az.mk (Kd.Sl_ ho23 (Yz (by repeat (first | (with_reducible first | exact HB.out | apply Ya | apply Yn | apply Yw | refine Ys ?_ GE362.out) | exact HB.out)))); have n1_ := Az.mk (Zb (g := gb362) (o := .cells #[.slice A0_0 l0_0.length c0_0, .slice A0_1 l0_1.length c0_1, .int .i64 a0_2] 35 (0, 0)) (by (with_reducible repeat (first | refine Zn ?_ _ | refine Zw ?_ | refine Za ?_ _)); exact BK362.out) hb); have n2_ := Az.mk (Yt (by repeat (first | (with_reducible first | exact HB.out | apply Ya | apply Yn | apply Yw | refine Ys ?_ GE362.out) | exact HB.out)) hb); clear BK362; clear HB; have HO373 := n0_; have BK362 := n1_; have HB := n2_; clear n0_ n1_ n2_; clear hb ho23))
  go_ret
  exact ⟨_, by first | rfl | (simp [errW_none, errW_some] <;> rfl) | (simp [*, errW_none, errW_some] <;> rfl), by (with_reducible repeat (first | apply Kd.Sa_ | apply Kd.Sn_ | apply Kd.Sw_)); exact HO373.out, by repeat (first | (with_reducible first | exact HB.out | apply Ya | apply Yn | apply Yw | refine Ys ?_ GE362.out) | exact HB.out)⟩

end Go.Proofs.Ytfamknibfokfmaa.QFnHostLoad
