/- Walks of this claim: each Go function that the law reaches comes to what the Lean function beside it says. Conditions: none beyond those that each theorem names. -/
import Derived.Test.YtfamknibfokfmaaVFnHostLoadx0
import Derived.Test.YtfamknibfokfmaaVFnHostLoadx3
import Derived.Test.YtfamknibfokfmaaVFnHostLoadx5
import Derived.Test.YtfamknibfokfmaaVFnHostLoadx8
import Derived.Test.YtfamknibfokfmaaVFnHostLoadx10
import Derived.Test.YtfamknibfokfmaaVFnHostLoadx12
import Derived.Test.YtfamknibfokfmaaVFnHostLoadx15
namespace Go.Proofs.Ytfamknibfokfmaa.QFnHostLoad
open Go.RowKit Go.Proofs.YtfamknibfokfmaaW.PrintWords Go.Proofs.YtfamknibfokfmaaW.PrintLast Go.Proofs.YtfamknibfokfmaaW.PrintMore
attribute [local go_sem] max2_int min2_int max_two min_two max_three min_three max_four min_four   -- for this text's walks alone
set_option linter.unusedVariables false
set_option linter.unusedSimpArgs false

/-! ### laws_FnHostLoad: function 7 -/
mutual
def laws_FnHostLoad.j0 : Nat → List (List Int) → Bool → Bool → Bool → List (List Int) → List (S74) → Int → List (List Int) → List (S74) → Int → Option (Bool)
 | 0, _, _, _, _, _, _, _, _, _, _ => none
 | k + 1, x3, x5, x7, x36, x386000, x386001, x386002, x395000, x395001, x395002 => if x36 = true then (if (x7 == x5) = true then ((laws_lkHost.f k x395000 x395001 x395002 x386000 x386001 x386002).bind fun t396 => (some t396)) else (some false)) else (laws_FnHostLoad.l0 k x3 0 x395000 x395001 x395002)
def laws_FnHostLoad.l0 : Nat → List (List Int) → Int → List (List Int) → List (S74) → Int → Option (Bool)
 | 0, _, _, _, _, _ => none
 | k + 1, x3, x8, x395000, x395001, x395002 => if x8 < (x395001.length : Int) then ((impl_HostSee.f k x395000 x395001 x395002 x8).bind fun t398 => (if 0 ≤ (wrap64 (x8 * 6)) then (if (wrap64 (x8 * 6)) ≤ (wrap64 ((wrap64 (x8 + 1)) * 6)) then (if (wrap64 ((wrap64 (x8 + 1)) * 6)) ≤ (x3.length : Int) then ((laws_lkMem.f k t398 ((x3.take ((wrap64 ((wrap64 (x8 + 1)) * 6)) : Int).toNat).drop ((wrap64 (x8 * 6)) : Int).toNat)).bind fun t405 => (if t405 = true then (laws_FnHostLoad.l0 k x3 (wrap64 (x8 + 1)) x395000 x395001 x395002) else (some false))) else (none)) else (none)) else (none))) else ((impl_HostOk.f k x395000 x395001 x395002).bind fun t397 => (if t397 = true then (some ((wrap64 ((x395001.length : Int) * 6)) == (x3.length : Int))) else (some false)))
end
def laws_FnHostLoad.f (k : Nat) (l0 : List Int) : Option (Bool) := if (l0.length : Int) > 1048576 then (some true) else ((spec_DrawHostLoad.f k l0).bind fun t374 => ((spec_HostLoad.f k t374).bind fun bt377 => ((impl_HostLoad.f k t374).bind fun bt386 => (if (bt386.2.2.2 != bt377.2.2.2) = true then (laws_FnHostLoad.j0 k t374 bt377.2.2.2 bt386.2.2.2 true bt377.1 bt377.2.1 bt377.2.2.1 bt386.1 bt386.2.1 bt386.2.2.1) else ((laws_lkHost.f k bt386.1 bt386.2.1 bt386.2.2.1 bt377.1 bt377.2.1 bt377.2.2.1).bind fun t395 => (if t395 = true then (laws_FnHostLoad.j0 k t374 bt377.2.2.2 bt386.2.2.2 (!bt386.2.2.2) bt377.1 bt377.2.1 bt377.2.2.1 bt386.1 bt386.2.1 bt386.2.2.1) else (laws_FnHostLoad.j0 k t374 bt377.2.2.2 bt386.2.2.2 true bt377.1 bt377.2.1 bt377.2.2.1 bt386.1 bt386.2.1 bt386.2.2.1)))))))
def laws_FnHostLoad.T11 : Bool × List (List Nat × List Nat) := (true, [([], []), ([], []), ([0, 1], [0, 1]), ([], []), ([], []), ([4], [4]), ([], []), ([6], [6]), ([7], [7]), ([3, 5, 8], [3, 5, 8]), ([2, 9, 2], [2, 9]), ([10], [10])])
def laws_FnHostLoad.B11 : List Nat := [0, 0, 3, 0, 0, 16, 0, 64, 192, 504, 1023, 2047]
theorem laws_FnHostLoad.tab11 : rtab .any (opsOf Try.f7 11) = laws_FnHostLoad.T11 := by kernel_rfl
theorem laws_FnHostLoad.bits11 : waitsOk laws_FnHostLoad.T11.2 laws_FnHostLoad.B11 = true := by kernel_rfl
set_option maxHeartbeats 8000000 in
set_option maxRecDepth 100000 in
theorem laws_FnHostLoad.calls (k : Nat) (A0 : Option Addr) (c0 : Nat) (l0 : List Int) (r : Bool) (w : World) (hr0 : Kd.C (Kd.int .u8) w A0 l0.length l0) (hc0 : l0.length ≤ c0) (h : laws_FnHostLoad.f k l0 = some r) :
  Calls Try.prog 7 #[.slice A0 l0.length c0] w fun e w' => e = .returned (.bool r) ∧ Below w.heap.size w w' := by
 have hu35 := Try.underlying35
 have HR0 := Az.mk hr0
 have HC0 := Az.mk hc0
 clear hr0 hc0
 have HB := Az.mk (Below.refl w.heap.size w)
 have H : (if (l0.length : Int) > 1048576 then (some true) else ((spec_DrawHostLoad.f k l0).bind fun t374 => ((spec_HostLoad.f k t374).bind fun bt377 => ((impl_HostLoad.f k t374).bind fun bt386 => (if (bt386.2.2.2 != bt377.2.2.2) = true then (laws_FnHostLoad.j0 k t374 bt377.2.2.2 bt386.2.2.2 true bt377.1 bt377.2.1 bt377.2.2.1 bt386.1 bt386.2.1 bt386.2.2.1) else ((laws_lkHost.f k bt386.1 bt386.2.1 bt386.2.2.1 bt377.1 bt377.2.1 bt377.2.2.1).bind fun t395 => (if t395 = true then (laws_FnHostLoad.j0 k t374 bt377.2.2.2 bt386.2.2.2 (!bt386.2.2.2) bt377.1 bt377.2.1 bt377.2.2.1 bt386.1 bt386.2.1 bt386.2.2.1) else (laws_FnHostLoad.j0 k t374 bt377.2.2.2 bt386.2.2.2 true bt377.1 bt377.2.1 bt377.2.2.1 bt386.1 bt386.2.1 bt386.2.2.1)))))))) = some r := h
 clear h
 by_cases c2 : (l0.length : Int) > 1048576
 ·rw [if_pos c2] at H
  have c2b0 : decide (1048576 < (l0.length : Int)) = true := decide_eq_true c2
  have c2b1 : decide (1048576 < l0.length) = true := decide_eq_true (by omega)
  clear c2
  obtain rfl := Option.some.inj H
  go_enter Try.func7, Try.ntmps7
  go_wp2
  go_ret
  exact ⟨by first | rfl | (simp [errW_none, errW_some] <;> rfl) | (simp [*, errW_none, errW_some] <;> rfl), by repeat (first | (with_reducible first | exact HB.out | apply Ya | apply Yn | apply Yw) | exact HB.out)⟩
 ·rw [if_neg c2] at H
  have c2b0 : decide (1048576 < (l0.length : Int)) = false := decide_eq_false c2
  have c2b1 : decide (1048576 < l0.length) = false := decide_eq_false (by omega)
  clear c2
  replace H := Option.bind_eq_some_iff.mp H
  obtain ⟨t374, A30, H⟩ := H
  replace H : ((spec_HostLoad.f k t374).bind fun bt377 => ((impl_HostLoad.f k t374).bind fun bt386 => (if (bt386.2.2.2 != bt377.2.2.2) = true then (laws_FnHostLoad.j0 k t374 bt377.2.2.2 bt386.2.2.2 true bt377.1 bt377.2.1 bt377.2.2.1 bt386.1 bt386.2.1 bt386.2.2.1) else ((laws_lkHost.f k bt386.1 bt386.2.1 bt386.2.2.1 bt377.1 bt377.2.1 bt377.2.2.1).bind fun t395 => (if t395 = true then (laws_FnHostLoad.j0 k t374 bt377.2.2.2 bt386.2.2.2 (!bt386.2.2.2) bt377.1 bt377.2.1 bt377.2.2.1 bt386.1 bt386.2.1 bt386.2.2.1) else (laws_FnHostLoad.j0 k t374 bt377.2.2.2 bt386.2.2.2 true bt377.1 bt377.2.1 bt377.2.2.1 bt386.1 bt386.2.1 bt386.2.2.1)))))) = some r := H
  have A3 := Az.mk A30
  clear A30
  replace H := Option.bind_eq_some_iff.mp H
  obtain ⟨⟨t377, t380, t383, t384⟩, A40, H⟩ := H
  replace H : ((impl_HostLoad.f k t374).bind fun bt386 => (if (bt386.2.2.2 != t384) = true then (laws_FnHostLoad.j0 k t374 t384 bt386.2.2.2 true t377 t380 t383 bt386.1 bt386.2.1 bt386.2.2.1) else ((laws_lkHost.f k bt386.1 bt386.2.1 bt386.2.2.1 t377 t380 t383).bind fun t395 => (if t395 = true then (laws_FnHostLoad.j0 k t374 t384 bt386.2.2.2 (!bt386.2.2.2) t377 t380 t383 bt386.1 bt386.2.1 bt386.2.2.1) else (laws_FnHostLoad.j0 k t374 t384 bt386.2.2.2 true t377 t380 t383 bt386.1 bt386.2.1 bt386.2.2.1))))) = some r := H
  have A4 := Az.mk A40
  clear A40
  replace H := Option.bind_eq_some_iff.mp H
  obtain ⟨⟨t386, t389, t392, t393⟩, A50, H⟩ := H
  replace H : (if (t393 != t384) = true then (laws_FnHostLoad.j0 k t374 t384 t393 true t377 t380 t383 t386 t389 t392) else ((laws_lkHost.f k t386 t389 t392 t377 t380 t383).bind fun t395 => (if t395 = true then (laws_FnHostLoad.j0 k t374 t384 t393 (!t393) t377 t380 t383 t386 t389 t392) else (laws_FnHostLoad.j0 k t374 t384 t393 true t377 t380 t383 t386 t389 t392)))) = some r := H
  have A5 := Az.mk A50
  clear A50
  have HC6 := Az.mk H
  clear H
  go_enter Try.func7, Try.ntmps7
  go_upto_region 6 with (first | ((with_reducible refine Yc (f := 18) rfl ?_); refine Yg (some 13) rfl rfl Try.func18 (by kernel_rfl) rfl #[.slice A0 l0.length c0] rfl (by (try simp only [List.map_toArray, List.map_cons, List.map_nil]); first | done | rfl | (simp only [List.length_drop, List.length_take]; rfl)) ?_; (with_reducible refine (spec_DrawHostLoad.calls k _ _ l0 t374 _ ?side1 ?side2 A3.out).mono ?_); (case side1 => repeat (first | exact HR0.out | (with_reducible refine Kd.Ca_ ?_ _) | (with_reducible refine Kd.Cn_ ?_ _) | (with_reducible refine Kd.Cw_ ?_))); (case side2 => exact HC0.out); rintro e w7 ⟨v375, rfl, ho0, hb⟩; refine ⟨_, rfl, ?_⟩; have n0_ := Az.mk (Kd.Q_lower ho0 (Yz (by repeat (first | (with_reducible first | exact HB.out | apply Ya | apply Yn | apply Yw) | exact HB.out)))); have n1_ := Az.mk (Yt (by repeat (first | (with_reducible first | exact HB.out | apply Ya | apply Yn | apply Yw) | exact HB.out)) hb); clear HB; have HO376 := n0_; have HB := n1_; clear n0_ n1_; (try clear hb); (try clear hb2); (try clear hk); (try clear hi); (try clear ho0); obtain ⟨Ao8, co8, eo8, _⟩ := Kd.Q_slice HO376.out; subst eo8) | ((with_reducible refine Yc (f := 19) rfl ?_); refine Yg (some 16) rfl rfl Try.func19 (by kernel_rfl) rfl #[.slice Ao8 t374.length co8] rfl (by (try simp only [List.map_toArray, List.map_cons, List.map_nil]); first | done | rfl | (simp only [List.length_drop, List.length_take]; rfl)) ?_; (with_reducible refine (spec_HostLoad.calls k _ _ t374 t377 t380 t383 t384 _ ?side1 ?side2 A4.out).mono ?_); (case side1 => repeat (first | exact (Kd.Q_reads' HO376.out).2.2 | (with_reducible refine Kd.Ca_ ?_ _) | (with_reducible refine Kd.Cn_ ?_ _) | (with_reducible refine Kd.Cw_ ?_))); (case side2 => exact (Kd.Q_reads' HO376.out).2.1); rintro e w9 ⟨v378, v381, rfl, ho0, ho1, hb⟩; refine ⟨_, rfl, ?_⟩; have n0_ := Az.mk (Kd.Q_elder' (by (with_reducible repeat (first | apply Kd.Qa_ | apply Kd.Qn_ | apply Kd.Qw_)); exact HO376.out) (Kd.S_base ho0) hb); have n1_ := Az.mk (Kd.Sl_ (Kd.S_new' ho0 (Kd.Q_lt (by (with_reducible repeat (first | apply Kd.Qa_ | apply Kd.Qn_ | apply Kd.Qw_)); exact HO376.out))) (Yz (by repeat (first | (with_reducible first | exact HB.out | apply Ya | apply Yn | apply Yw) | exact HB.out)))); have n2_ := Az.mk (Kd.Rl_ (Kd.R_new' ho1 (Kd.Q_lt (by (with_reducible repeat (first | apply Kd.Qa_ | apply Kd.Qn_ | apply Kd.Qw_)); exact HO376.out))) (Yz (by repeat (first | (with_reducible first | exact HB.out | apply Ya | apply Yn | apply Yw) | exact HB.out)))); have n3_ := Az.mk (Yt (by repeat (first | (with_reducible first | exact HB.out | apply Ya | apply Yn | apply Yw) | exact HB.out)) hb); clear HO376; clear HB; have HO376 := n0_; have HO379 := n1_; have HO382 := n2_; have HB := n3_; clear n0_ n1_ n2_ n3_; (try clear hb); (try clear hb2); (try clear hk); (try clear hi); (try clear ho0); (try clear ho1)) | ((with_reducible refine Yd (N := 4) rfl ?_); (try (refine Ye (by rfl) ?_; dsimp only)); refine Yv ?hg (N := 4) ?hd (cs := #[.slice none 0 0, .slice none 0 0, .int .i64 0]) (t := 35) ?hr ?_; (case hd => rfl); (case hg => rfl); (case hr => first | (go_simp; done) | (go_simp; rfl)); intro gb385 hg w10 hbox hb; have n0_ := Az.mk (Kd.Q_below (by (with_reducible repeat (first | apply Kd.Qa_ | apply Kd.Qn_ | apply Kd.Qw_)); exact HO376.out) hb); have n1_ := Az.mk (Kd.Sb_ (by (with_reducible repeat (first | apply Kd.Sa_ | apply Kd.Sn_ | apply Kd.Sw_)); exact HO379.out) hb); have n2_ := Az.mk (Kd.Rb_ (by (with_reducible repeat (first | apply Kd.Ra_ | apply Kd.Rn_ | apply Kd.Rw_)); exact HO382.out) hb); have n3_ := Az.mk (Yt (by repeat (first | (with_reducible first | exact HB.out | apply Ya | apply Yn | apply Yw) | exact HB.out)) hb); have n4_ := Az.mk (hbox); have n5_ := Az.mk ((by rw [hg]; exact (Yz (by repeat (first | (with_reducible first | exact HB.out | apply Ya | apply Yn | apply Yw) | exact HB.out))) : w.heap.size ≤ gb385)); have n6_ := Az.mk ((by rw [hg]; exact (Yz (by repeat (first | (with_reducible first | exact HB.out | apply Ya | apply Yn | apply Yw) | exact HB.out))) : w.heap.size ≤ gb385)); clear HO376; clear HO379; clear HO382; clear HB; have HO376 := n0_; have HO379 := n1_; have HO382 := n2_; have HB := n3_; have BK385 := n4_; have GW385 := n5_; have GE385 := n6_; clear n0_ n1_ n2_ n3_ n4_ n5_ n6_; clear hb hbox hg; obtain ⟨Ao11, co11, eo11⟩ := Kd.Ss_ HO379.out; subst eo11; have hcz12_0 : w10.cell? ⟨gb385, 0, none⟩ = some (.slice none 0 0) := (Zc BK385.out 0).trans rfl; have hcz12_1 : w10.cell? ⟨gb385, 1, none⟩ = some (.slice none 0 0) := (Zc BK385.out 1).trans rfl; have hcz12_2 : w10.cell? ⟨gb385, 2, none⟩ = some (.int .i64 0) := (Zc BK385.out 2).trans rfl; have hfz12_0 := Zf BK385.out 0; have hfz12_1 := Zf BK385.out 1; have hfz12_2 := Zf BK385.out 2; obtain ⟨Ao13, co13, eo13⟩ := Kd.Rs_ HO382.out; subst eo13) | ((with_reducible refine Yc (f := 20) rfl ?_); refine Yg (some 21) rfl rfl Try.func20 (by kernel_rfl) rfl #[.slice Ao8 t374.length co8] rfl (by (try simp only [List.map_toArray, List.map_cons, List.map_nil]); first | done | rfl | (simp only [List.length_drop, List.length_take]; rfl)) ?_; (with_reducible refine (impl_HostLoad.calls k _ _ t374 t386 t389 t392 t393 _ ?side1 ?side2 A5.out).mono ?_); (case side1 => refine (Kd.Q_reads' (e := 45) (base := w.heap.size) (ok := fun k_ => (True ∧ some k_ ≠ (.slice Ao11 t377.length co11 : Value).ownBlock)) (n := t374.length) (c := co8) ?_).2.2; exact (by (with_reducible repeat (first | apply Kd.Qa_ | apply Kd.Qn_ | apply Kd.Qw_)); exact (Kd.Qm_ (Kd.Qf_ (p := ⟨gb385, 2, none⟩) (Kd.Qf_ (p := ⟨gb385, 1, none⟩) (Kd.Qf_ (p := ⟨gb385, 0, none⟩) (Kd.Q_types HO376.out BK385.out (by decide)) (fun _ hk => hk.2) (.slice Ao11 t377.length co11)) (fun _ hk => hk.2) (.slice Ao13 t380.length co13)) (fun _ hk => hk.2) (.int .i64 t383)) (fun _ h_ => h_.1)))); (case side2 => exact (Kd.Q_reads' HO376.out).2.1); rintro e w14 ⟨v387, v390, rfl, ho0, ho1, hb⟩; refine ⟨_, rfl, ?_⟩; have n0_ := Az.mk (Kd.Q_elder' (by (with_reducible repeat (first | apply Kd.Qa_ | apply Kd.Qn_ | apply Kd.Qw_)); exact (Kd.Qm_ (Kd.Qf_ (p := ⟨gb385, 2, none⟩) (Kd.Qf_ (p := ⟨gb385, 1, none⟩) (Kd.Qf_ (p := ⟨gb385, 0, none⟩) (Kd.Q_types HO376.out BK385.out (by decide)) (fun _ hk => hk.2) (.slice Ao11 t377.length co11)) (fun _ hk => hk.2) (.slice Ao13 t380.length co13)) (fun _ hk => hk.2) (.int .i64 t383)) (fun _ h_ => h_.1))) (Kd.S_base ho0) hb); have n1_ := Az.mk (Kd.SE_ (by (with_reducible repeat (first | apply Kd.Sa_ | apply Kd.Sn_ | apply Kd.Sw_)); exact (Kd.Sm_ (Kd.Sf_ (p := ⟨gb385, 2, none⟩) (Kd.Sf_ (p := ⟨gb385, 1, none⟩) (Kd.Sf_ (p := ⟨gb385, 0, none⟩) (Kd.S_types HO379.out BK385.out (by decide)) (fun _ hk => hk.2) (.slice Ao11 t377.length co11)) (fun _ hk => hk.2) (.slice Ao13 t380.length co13)) (fun _ hk => hk.2) (.int .i64 t383)) (fun _ h_ => h_.1))) (Kd.S_base ho0) hb); have n2_ := Az.mk (Kd.Rm_ (Kd.R_told (Kd.R_told (Kd.R_old (by (with_reducible repeat (first | apply Kd.Ra_ | apply Kd.Rn_ | apply Kd.Rw_)); exact (Kd.Rm_ (Kd.Rf_ (p := ⟨gb385, 2, none⟩) (Kd.Rf_ (p := ⟨gb385, 1, none⟩) (Kd.Rf_ (p := ⟨gb385, 0, none⟩) (Kd.R_types HO382.out BK385.out (by decide)) (fun _ hk => hk.2) (.slice Ao11 t377.length co11)) (fun _ hk => hk.2) (.slice Ao13 t380.length co13)) (fun _ hk => hk.2) (.int .i64 t383)) (fun _ h_ => h_.1))) hb) (Kd.S_base ho0)) (Kd.R_base ho1)) (fun _ h_ => h_.1)); have n3_ := Az.mk (Kd.Sl_ (Kd.S_new' (Kd.S_new' ho0 (Kd.Q_lt (by (with_reducible repeat (first | apply Kd.Qa_ | apply Kd.Qn_ | apply Kd.Qw_)); exact (Kd.Qm_ (Kd.Qf_ (p := ⟨gb385, 2, none⟩) (Kd.Qf_ (p := ⟨gb385, 1, none⟩) (Kd.Qf_ (p := ⟨gb385, 0, none⟩) (Kd.Q_types HO376.out BK385.out (by decide)) (fun _ hk => hk.2) (.slice Ao11 t377.length co11)) (fun _ hk => hk.2) (.slice Ao13 t380.length co13)) (fun _ hk => hk.2) (.int .i64 t383)) (fun _ h_ => h_.1))))) (Kd.S_lt (by (with_reducible repeat (first | apply Kd.Sa_ | apply Kd.Sn_ | apply Kd.Sw_)); exact (Kd.Sm_ (Kd.Sf_ (p := ⟨gb385, 2, none⟩) (Kd.Sf_ (p := ⟨gb385, 1, none⟩) (Kd.Sf_ (p := ⟨gb385, 0, none⟩) (Kd.S_types HO379.out BK385.out (by decide)) (fun _ hk => hk.2) (.slice Ao11 t377.length co11)) (fun _ hk => hk.2) (.slice Ao13 t380.length co13)) (fun _ hk => hk.2) (.int .i64 t383)) (fun _ h_ => h_.1))))) (Yz (by repeat (first | (with_reducible first | exact HB.out | apply Ya | apply Yn | apply Yw | refine Ys ?_ GE385.out) | exact HB.out)))); have n4_ := Az.mk (Kd.Rl_ (Kd.R_new' (Kd.R_new' (Kd.R_new' ho1 (Kd.Q_lt (by (with_reducible repeat (first | apply Kd.Qa_ | apply Kd.Qn_ | apply Kd.Qw_)); exact (Kd.Qm_ (Kd.Qf_ (p := ⟨gb385, 2, none⟩) (Kd.Qf_ (p := ⟨gb385, 1, none⟩) (Kd.Qf_ (p := ⟨gb385, 0, none⟩) (Kd.Q_types HO376.out BK385.out (by decide)) (fun _ hk => hk.2) (.slice Ao11 t377.length co11)) (fun _ hk => hk.2) (.slice Ao13 t380.length co13)) (fun _ hk => hk.2) (.int .i64 t383)) (fun _ h_ => h_.1))))) (Kd.S_lt (by (with_reducible repeat (first | apply Kd.Sa_ | apply Kd.Sn_ | apply Kd.Sw_)); exact (Kd.Sm_ (Kd.Sf_ (p := ⟨gb385, 2, none⟩) (Kd.Sf_ (p := ⟨gb385, 1, none⟩) (Kd.Sf_ (p := ⟨gb385, 0, none⟩) (Kd.S_types HO379.out BK385.out (by decide)) (fun _ hk => hk.2) (.slice Ao11 t377.length co11)) (fun _ hk => hk.2) (.slice Ao13 t380.length co13)) (fun _ hk => hk.2) (.int .i64 t383)) (fun _ h_ => h_.1))))) (Kd.R_lt (by (with_reducible repeat (first | apply Kd.Ra_ | apply Kd.Rn_ | apply Kd.Rw_)); exact (Kd.Rm_ (Kd.Rf_ (p := ⟨gb385, 2, none⟩) (Kd.Rf_ (p := ⟨gb385, 1, none⟩) (Kd.Rf_ (p := ⟨gb385, 0, none⟩) (Kd.R_types HO382.out BK385.out (by decide)) (fun _ hk => hk.2) (.slice Ao11 t377.length co11)) (fun _ hk => hk.2) (.slice Ao13 t380.length co13)) (fun _ hk => hk.2) (.int .i64 t383)) (fun _ h_ => h_.1))))) (Yz (by repeat (first | (with_reducible first | exact HB.out | apply Ya | apply Yn | apply Yw | refine Ys ?_ GE385.out) | exact HB.out)))); have n5_ := Az.mk (Zb (g := gb385) (o := .cells #[.slice Ao11 t377.length co11, .slice Ao13 t380.length co13, .int .i64 t383] 35 (0, 0)) (by (with_reducible repeat (first | refine Zn ?_ _ | refine Zw ?_ | refine Za ?_ _)); refine Zp (cs := #[.slice Ao11 t377.length co11, .slice Ao13 t380.length co13, .int .i64 0]) ?_ 2 _ rfl; (with_reducible repeat (first | refine Zn ?_ _ | refine Zw ?_ | refine Za ?_ _)); refine Zp (cs := #[.slice Ao11 t377.length co11, .slice none 0 0, .int .i64 0]) ?_ 1 _ rfl; (with_reducible repeat (first | refine Zn ?_ _ | refine Zw ?_ | refine Za ?_ _)); refine Zp (cs := #[.slice none 0 0, .slice none 0 0, .int .i64 0]) ?_ 0 _ rfl; (with_reducible repeat (first | refine Zn ?_ _ | refine Zw ?_ | refine Za ?_ _)); exact BK385.out) hb); have n6_ := Az.mk (Yt (by repeat (first | (with_reducible first | exact HB.out | apply Ya | apply Yn | apply Yw | refine Ys ?_ GE385.out) | exact HB.out)) hb); clear HO376; clear HO379; clear HO382; clear BK385; clear HB; have HO376 := n0_; have HO379 := n1_; have HO382 := n2_; have HO388 := n3_; have HO391 := n4_; have BK385 := n5_; have HB := n6_; clear n0_ n1_ n2_ n3_ n4_ n5_ n6_; (try clear hb); (try clear hb2); (try clear hk); (try clear hi); (try clear ho0); (try clear ho1)) | ((with_reducible refine Yd (N := 6) rfl ?_); (try (refine Ye (by rfl) ?_; dsimp only)); refine Yv ?hg (N := 6) ?hd (cs := #[.slice none 0 0, .slice none 0 0, .int .i64 0]) (t := 35) ?hr ?_; (case hd => rfl); (case hg => rfl); (case hr => first | (go_simp; done) | (go_simp; rfl)); intro gb394 hg w15 hbox hb; have n0_ := Az.mk (Kd.Q_below (by (with_reducible repeat (first | apply Kd.Qa_ | apply Kd.Qn_ | apply Kd.Qw_)); exact HO376.out) hb); have n1_ := Az.mk (Kd.Sb_ (by (with_reducible repeat (first | apply Kd.Sa_ | apply Kd.Sn_ | apply Kd.Sw_)); exact HO379.out) hb); have n2_ := Az.mk (Kd.Rb_ (by (with_reducible repeat (first | apply Kd.Ra_ | apply Kd.Rn_ | apply Kd.Rw_)); exact HO382.out) hb); have n3_ := Az.mk (Kd.Sb_ (by (with_reducible repeat (first | apply Kd.Sa_ | apply Kd.Sn_ | apply Kd.Sw_)); exact HO388.out) hb); have n4_ := Az.mk (Kd.Rb_ (by (with_reducible repeat (first | apply Kd.Ra_ | apply Kd.Rn_ | apply Kd.Rw_)); exact HO391.out) hb); have n5_ := Az.mk (Zb (g := gb385) (o := .cells #[.slice Ao11 t377.length co11, .slice Ao13 t380.length co13, .int .i64 t383] 35 (0, 0)) (by (with_reducible repeat (first | refine Zn ?_ _ | refine Zw ?_ | refine Za ?_ _)); exact BK385.out) hb); have n6_ := Az.mk (Yt (by repeat (first | (with_reducible first | exact HB.out | apply Ya | apply Yn | apply Yw | refine Ys ?_ GE385.out) | exact HB.out)) hb); have n7_ := Az.mk (hbox); have n8_ := Az.mk ((by rw [hg]; exact (Yz (by repeat (first | (with_reducible first | exact HB.out | apply Ya | apply Yn | apply Yw | refine Ys ?_ GE385.out) | exact HB.out))) : w.heap.size ≤ gb394)); have n9_ := Az.mk ((by rw [hg]; exact (Yz (by repeat (first | (with_reducible first | exact HB.out | apply Ya | apply Yn | apply Yw | refine Ys ?_ GE385.out) | exact HB.out))) : w.heap.size ≤ gb394)); have n10_ := Az.mk ((by rw [hg]; exact Nat.ne_of_lt (Zl (g := gb385) (o := .cells #[.slice Ao11 t377.length co11, .slice Ao13 t380.length co13, .int .i64 t383] 35 (0, 0)) (by (with_reducible repeat (first | refine Zn ?_ _ | refine Zw ?_ | refine Za ?_ _)); exact BK385.out)) : gb385 ≠ gb394)); have n11_ := Az.mk ((by rw [hg]; exact Nat.ne_of_gt (Zl (g := gb385) (o := .cells #[.slice Ao11 t377.length co11, .slice Ao13 t380.length co13, .int .i64 t383] 35 (0, 0)) (by (with_reducible repeat (first | refine Zn ?_ _ | refine Zw ?_ | refine Za ?_ _)); exact BK385.out)) : gb394 ≠ gb385)); clear HO376; clear HO379; clear HO382; clear HO388; clear HO391; clear BK385; clear HB; have HO376 := n0_; have HO379 := n1_; have HO382 := n2_; have HO388 := n3_; have HO391 := n4_; have BK385 := n5_; have HB := n6_; have BK394 := n7_; have GW394 := n8_; have GE394 := n9_; have NB385_394 := n10_; have NB394_385 := n11_; clear n0_ n1_ n2_ n3_ n4_ n5_ n6_ n7_ n8_ n9_ n10_ n11_; clear hb hbox hg; obtain ⟨Ao16, co16, eo16⟩ := Kd.Ss_ HO388.out; subst eo16; have hnb17 := NB394_385.out; have hnc17 := NB385_394.out; have hcz18_0 : w15.cell? ⟨gb394, 0, none⟩ = some (.slice none 0 0) := (Zc BK394.out 0).trans rfl; have hcz18_1 : w15.cell? ⟨gb394, 1, none⟩ = some (.slice none 0 0) := (Zc BK394.out 1).trans rfl; have hcz18_2 : w15.cell? ⟨gb394, 2, none⟩ = some (.int .i64 0) := (Zc BK394.out 2).trans rfl; have hfz18_0 := Zf BK394.out 0; have hfz18_1 := Zf BK394.out 1; have hfz18_2 := Zf BK394.out 2; obtain ⟨Ao19, co19, eo19⟩ := Kd.Rs_ HO391.out; subst eo19))
  (try simp only [Act.put, List.setIfInBounds_toArray, List.set_cons_zero, List.set_cons_succ])
  go_cut [36] (fun v36 wc => ∃ (kq : Nat) (x36_5 : Bool), v36 = .bool x36_5 ∧ Az (laws_FnHostLoad.j0 kq t374 t384 t393 x36_5 t377 t380 t383 t386 t389 t392 = some r) ∧ Az (kq ≤ k) ∧ Az (Kd.Q (Kd.slice 3 (Kd.int .i64)) 45 wc w.heap.size (fun k_ => some k_ ≠ ((.slice Ao11 t377.length co11) : Value).ownBlock ∧ some k_ ≠ ((.slice Ao16 t386.length co16) : Value).ownBlock) (.slice Ao8 t374.length co8) t374) ∧ Az (Kd.S (Kd.slice 3 (Kd.int .i64)) 45 wc w.heap.size (fun k_ => some k_ ≠ ((.slice Ao8 t374.length co8) : Value).ownBlock ∧ some k_ ≠ ((.slice Ao16 t386.length co16) : Value).ownBlock) (.slice Ao11 t377.length co11) t377) ∧ Az (Kd.R k74 74 wc w.heap.size (fun k_ => some k_ ≠ ((.slice Ao8 t374.length co8) : Value).ownBlock ∧ some k_ ≠ ((.slice Ao11 t377.length co11) : Value).ownBlock ∧ some k_ ≠ ((.slice Ao16 t386.length co16) : Value).ownBlock ∧ some k_ ≠ ((.slice Ao19 t389.length co19) : Value).ownBlock) (.slice Ao13 t380.length co13) t380) ∧ Az (Kd.S (Kd.slice 3 (Kd.int .i64)) 45 wc w.heap.size (fun k_ => some k_ ≠ ((.slice Ao8 t374.length co8) : Value).ownBlock ∧ some k_ ≠ ((.slice Ao11 t377.length co11) : Value).ownBlock) (.slice Ao16 t386.length co16) t386) ∧ Az (Kd.R k74 74 wc w.heap.size (fun k_ => some k_ ≠ ((.slice Ao8 t374.length co8) : Value).ownBlock ∧ some k_ ≠ ((.slice Ao11 t377.length co11) : Value).ownBlock ∧ some k_ ≠ ((.slice Ao13 t380.length co13) : Value).ownBlock ∧ some k_ ≠ ((.slice Ao16 t386.length co16) : Value).ownBlock) (.slice Ao19 t389.length co19) t389) ∧ Az (wc.heap[gb385]? = some (.cells #[(.slice Ao11 t377.length co11), (.slice Ao13 t380.length co13), .int .i64 t383] 35 (0, 0))) ∧ Az (wc.heap[gb394]? = some (.cells #[(.slice Ao16 t386.length co16), (.slice Ao19 t389.length co19), .int .i64 t392] 35 (0, 0))) ∧ Az (Below w.heap.size w wc))
  case first =>
   have H := HC6.out
   clear HC6
   by_cases c20 : (t393 != t384) = true
   ·rw [if_pos c20] at H
    have c20b0 : (t393 != t384) = true := c20
    (try (have c20b1 : decide (t393 = t384) = false := by simpa using c20))
    (try (have c20b2 : (t393 == t384) = false := by simpa using c20))
    (try (have c20b3 : ¬ (t393 = t384) := by simpa using c20))
    clear c20
    (first | rw [c20b0] | (simp only [i64_w, i32_w]; rw [c20b0]) | skip)
    have H' := Az.mk H
    clear H
    go_wp2
    go_meet
    case rel => exact ⟨_, (true), (by first | rfl | (simp; done) | (simp [*]; done)), H', ⟨by first | omega | exact Nat.le_refl _⟩, ⟨by (with_reducible repeat (first | apply Kd.Qa_ | apply Kd.Qn_ | apply Kd.Qw_)); exact Kd.Qm_ (Kd.Qf_ (p := ⟨gb394, 2, none⟩) (Kd.Qf_ (p := ⟨gb394, 1, none⟩) (Kd.Qf_ (p := ⟨gb394, 0, none⟩) (Kd.Q_types HO376.out BK394.out (by decide)) (fun _ hk => hk.2) (.slice Ao16 t386.length co16)) (fun _ hk => hk.2) (.slice Ao19 t389.length co19)) (fun _ hk => hk.2) (.int .i64 t392)) (fun _ hk => ⟨hk.1.1.2, hk.1.2⟩)⟩, ⟨by (with_reducible repeat (first | apply Kd.Sa_ | apply Kd.Sn_ | apply Kd.Sw_)); exact Kd.Sm_ (Kd.Sf_ (p := ⟨gb394, 2, none⟩) (Kd.Sf_ (p := ⟨gb394, 1, none⟩) (Kd.Sf_ (p := ⟨gb394, 0, none⟩) (Kd.S_types HO379.out BK394.out (by decide)) (fun _ hk => hk.2) (.slice Ao16 t386.length co16)) (fun _ hk => hk.2) (.slice Ao19 t389.length co19)) (fun _ hk => hk.2) (.int .i64 t392)) (fun _ hk => ⟨hk.1.1.2, hk.1.2⟩)⟩, ⟨by (with_reducible repeat (first | apply Kd.Ra_ | apply Kd.Rn_ | apply Kd.Rw_)); exact Kd.Rm_ (Kd.Rf_ (p := ⟨gb394, 2, none⟩) (Kd.Rf_ (p := ⟨gb394, 1, none⟩) (Kd.Rf_ (p := ⟨gb394, 0, none⟩) (Kd.R_types HO382.out BK394.out (by decide)) (fun _ hk => hk.2) (.slice Ao16 t386.length co16)) (fun _ hk => hk.2) (.slice Ao19 t389.length co19)) (fun _ hk => hk.2) (.int .i64 t392)) (fun _ hk => ⟨hk.1.1.1.2, ⟨hk.1.1.1.1, ⟨hk.1.1.2, hk.1.2⟩⟩⟩)⟩, ⟨by (with_reducible repeat (first | apply Kd.Sa_ | apply Kd.Sn_ | apply Kd.Sw_)); exact Kd.Sm_ (Kd.Sf_ (p := ⟨gb394, 2, none⟩) (Kd.Sf_ (p := ⟨gb394, 1, none⟩) (Kd.Sf_ (p := ⟨gb394, 0, none⟩) (Kd.S_types HO388.out BK394.out (by decide)) (fun _ hk => hk.2) (.slice Ao16 t386.length co16)) (fun _ hk => hk.2) (.slice Ao19 t389.length co19)) (fun _ hk => hk.2) (.int .i64 t392)) (fun _ hk => ⟨hk.1.1.2, hk.1.2⟩)⟩, ⟨by (with_reducible repeat (first | apply Kd.Ra_ | apply Kd.Rn_ | apply Kd.Rw_)); exact Kd.Rm_ (Kd.Rf_ (p := ⟨gb394, 2, none⟩) (Kd.Rf_ (p := ⟨gb394, 1, none⟩) (Kd.Rf_ (p := ⟨gb394, 0, none⟩) (Kd.R_types HO391.out BK394.out (by decide)) (fun _ hk => hk.2) (.slice Ao16 t386.length co16)) (fun _ hk => hk.2) (.slice Ao19 t389.length co19)) (fun _ hk => hk.2) (.int .i64 t392)) (fun _ hk => ⟨hk.1.1.1.2, ⟨hk.1.1.2, ⟨hk.1.2, hk.1.1.1.1⟩⟩⟩)⟩, ⟨by (with_reducible repeat (first | refine Zn ?_ _ | refine Zw ?_ | refine Za ?_ _)); refine blk_far ?_ NB385_394.out _; (with_reducible repeat (first | refine Zn ?_ _ | refine Zw ?_ | refine Za ?_ _)); refine blk_far ?_ NB385_394.out _; (with_reducible repeat (first | refine Zn ?_ _ | refine Zw ?_ | refine Za ?_ _)); refine blk_far ?_ NB385_394.out _; (with_reducible repeat (first | refine Zn ?_ _ | refine Zw ?_ | refine Za ?_ _)); exact BK385.out⟩, ⟨by (with_reducible repeat (first | refine Zn ?_ _ | refine Zw ?_ | refine Za ?_ _)); refine Zp (cs := #[.slice Ao16 t386.length co16, .slice Ao19 t389.length co19, .int .i64 0]) ?_ 2 _ rfl; (with_reducible repeat (first | refine Zn ?_ _ | refine Zw ?_ | refine Za ?_ _)); refine Zp (cs := #[.slice Ao16 t386.length co16, .slice none 0 0, .int .i64 0]) ?_ 1 _ rfl; (with_reducible repeat (first | refine Zn ?_ _ | refine Zw ?_ | refine Za ?_ _)); refine Zp (cs := #[.slice none 0 0, .slice none 0 0, .int .i64 0]) ?_ 0 _ rfl; (with_reducible repeat (first | refine Zn ?_ _ | refine Zw ?_ | refine Za ?_ _)); exact BK394.out⟩, ⟨by repeat (first | (with_reducible first | exact HB.out | apply Ya | apply Yn | apply Yw | refine Ys ?_ GE385.out | refine Ys ?_ GE394.out) | exact HB.out)⟩⟩
   ·rw [if_neg c20] at H
    have c20b0 : (t393 != t384) = false := by simpa using c20
    (try (have c20b1 : decide (t393 = t384) = true := by simpa using c20))
    (try (have c20b2 : (t393 == t384) = true := by simpa using c20))
    clear c20
    (first | rw [c20b0] | (simp only [i64_w, i32_w]; rw [c20b0]) | skip)
    replace H := Option.bind_eq_some_iff.mp H
    obtain ⟨t395, A210, H⟩ := H
    replace H : (if t395 = true then (laws_FnHostLoad.j0 k t374 t384 t393 (!t393) t377 t380 t383 t386 t389 t392) else (laws_FnHostLoad.j0 k t374 t384 t393 true t377 t380 t383 t386 t389 t392)) = some r := H
    have A21 := Az.mk A210
    clear A210
    by_cases c22 : t395 = true
    ·subst c22
     have H1 : (laws_FnHostLoad.j0 k t374 t384 t393 (!t393) t377 t380 t383 t386 t389 t392) = some r := by rw [if_pos rfl] at H; exact H
     clear H
     have H := H1
     clear H1
     have H' := Az.mk H
     clear H
     have hnb23 := NB394_385.out
     have hnc23 := NB385_394.out
     have hcz24_0 : w15.cell? ⟨gb394, 0, none⟩ = some (.slice none 0 0) := (Zc BK394.out 0).trans rfl
     have hcz24_1 : w15.cell? ⟨gb394, 1, none⟩ = some (.slice none 0 0) := (Zc BK394.out 1).trans rfl
     have hcz24_2 : w15.cell? ⟨gb394, 2, none⟩ = some (.int .i64 0) := (Zc BK394.out 2).trans rfl
     have hfz24_0 := Zf BK394.out 0
     have hfz24_1 := Zf BK394.out 1
     have hfz24_2 := Zf BK394.out 2
     have hcz25_0 : w15.cell? ⟨gb385, 0, none⟩ = some (.slice Ao11 t377.length co11) := (Zc BK385.out 0).trans rfl
     have hcz25_1 : w15.cell? ⟨gb385, 1, none⟩ = some (.slice Ao13 t380.length co13) := (Zc BK385.out 1).trans rfl
     have hcz25_2 : w15.cell? ⟨gb385, 2, none⟩ = some (.int .i64 t383) := (Zc BK385.out 2).trans rfl
     have hfz25_0 := Zf BK385.out 0
     have hfz25_1 := Zf BK385.out 1
     have hfz25_2 := Zf BK385.out 2
     go_wp2_with (first | (go_at_call 21; (with_reducible refine (laws_lkHost.calls k _ _ t386 _ _ t389 t392 _ _ t377 _ _ t380 t383 true _ ?side1 ?side2 ?side3 ?side4 ?side5 ?side6 ?side7 ?side8 A21.out).mono ?_); (case side1 => refine (Kd.Sr_ (e := 45) (base := w.heap.size) (ok := fun k_ => ((True ∧ some k_ ≠ (.slice Ao8 t374.length co8 : Value).ownBlock) ∧ some k_ ≠ (.slice Ao11 t377.length co11 : Value).ownBlock)) (n := t386.length) (c := co16) ?_).2.2; exact (by (with_reducible repeat (first | apply Kd.Sa_ | apply Kd.Sn_ | apply Kd.Sw_)); exact (Kd.Sm_ (Kd.Sf_ (p := ⟨gb394, 2, none⟩) (Kd.Sf_ (p := ⟨gb394, 1, none⟩) (Kd.Sf_ (p := ⟨gb394, 0, none⟩) (Kd.S_types HO388.out BK394.out (by decide)) (fun _ hk => hk.2) (.slice Ao16 t386.length co16)) (fun _ hk => hk.2) (.slice Ao19 t389.length co19)) (fun _ hk => hk.2) (.int .i64 t392)) (fun _ h_ => h_.1)))); (case side2 => exact (Kd.Sr_ HO388.out).2.1); (case side3 => refine (Kd.Rr_ (e := 74) (base := w.heap.size) (ok := fun k_ => (((some k_ ≠ (.slice Ao16 t386.length co16 : Value).ownBlock ∧ some k_ ≠ (.slice Ao8 t374.length co8 : Value).ownBlock) ∧ some k_ ≠ (.slice Ao11 t377.length co11 : Value).ownBlock) ∧ some k_ ≠ (.slice Ao13 t380.length co13 : Value).ownBlock)) (n := t389.length) (c := co19) ?_).2.2; exact (by (with_reducible repeat (first | apply Kd.Ra_ | apply Kd.Rn_ | apply Kd.Rw_)); exact (Kd.Rm_ (Kd.Rf_ (p := ⟨gb394, 2, none⟩) (Kd.Rf_ (p := ⟨gb394, 1, none⟩) (Kd.Rf_ (p := ⟨gb394, 0, none⟩) (Kd.R_types HO391.out BK394.out (by decide)) (fun _ hk => hk.2) (.slice Ao16 t386.length co16)) (fun _ hk => hk.2) (.slice Ao19 t389.length co19)) (fun _ hk => hk.2) (.int .i64 t392)) (fun _ h_ => h_.1)))); (case side4 => exact (Kd.Rr_ HO391.out).2.1); (case side5 => refine (Kd.Sr_ (e := 45) (base := w.heap.size) (ok := fun k_ => ((True ∧ some k_ ≠ (.slice Ao8 t374.length co8 : Value).ownBlock) ∧ some k_ ≠ (.slice Ao16 t386.length co16 : Value).ownBlock)) (n := t377.length) (c := co11) ?_).2.2; exact (by (with_reducible repeat (first | apply Kd.Sa_ | apply Kd.Sn_ | apply Kd.Sw_)); exact (Kd.Sm_ (Kd.Sf_ (p := ⟨gb394, 2, none⟩) (Kd.Sf_ (p := ⟨gb394, 1, none⟩) (Kd.Sf_ (p := ⟨gb394, 0, none⟩) (Kd.S_types HO379.out BK394.out (by decide)) (fun _ hk => hk.2) (.slice Ao16 t386.length co16)) (fun _ hk => hk.2) (.slice Ao19 t389.length co19)) (fun _ hk => hk.2) (.int .i64 t392)) (fun _ h_ => h_.1)))); (case side6 => exact (Kd.Sr_ HO379.out).2.1); (case side7 => refine (Kd.Rr_ (e := 74) (base := w.heap.size) (ok := fun k_ => (((some k_ ≠ (.slice Ao11 t377.length co11 : Value).ownBlock ∧ some k_ ≠ (.slice Ao8 t374.length co8 : Value).ownBlock) ∧ some k_ ≠ (.slice Ao16 t386.length co16 : Value).ownBlock) ∧ some k_ ≠ (.slice Ao19 t389.length co19 : Value).ownBlock)) (n := t380.length) (c := co13) ?_).2.2; exact (by (with_reducible repeat (first | apply Kd.Ra_ | apply Kd.Rn_ | apply Kd.Rw_)); exact (Kd.Rm_ (Kd.Rf_ (p := ⟨gb394, 2, none⟩) (Kd.Rf_ (p := ⟨gb394, 1, none⟩) (Kd.Rf_ (p := ⟨gb394, 0, none⟩) (Kd.R_types HO382.out BK394.out (by decide)) (fun _ hk => hk.2) (.slice Ao16 t386.length co16)) (fun _ hk => hk.2) (.slice Ao19 t389.length co19)) (fun _ hk => hk.2) (.int .i64 t392)) (fun _ h_ => h_.1)))); (case side8 => exact (Kd.Rr_ HO382.out).2.1); rintro e w26 ⟨rfl, hb⟩; have n0_ := Az.mk (Kd.Q_below (by (with_reducible repeat (first | apply Kd.Qa_ | apply Kd.Qn_ | apply Kd.Qw_)); exact (Kd.Qm_ (Kd.Qf_ (p := ⟨gb394, 2, none⟩) (Kd.Qf_ (p := ⟨gb394, 1, none⟩) (Kd.Qf_ (p := ⟨gb394, 0, none⟩) (Kd.Q_types HO376.out BK394.out (by decide)) (fun _ hk => hk.2) (.slice Ao16 t386.length co16)) (fun _ hk => hk.2) (.slice Ao19 t389.length co19)) (fun _ hk => hk.2) (.int .i64 t392)) (fun _ h_ => h_.1))) hb); have n1_ := Az.mk (Kd.Sb_ (by (with_reducible repeat (first | apply Kd.Sa_ | apply Kd.Sn_ | apply Kd.Sw_)); exact (Kd.Sm_ (Kd.Sf_ (p := ⟨gb394, 2, none⟩) (Kd.Sf_ (p := ⟨gb394, 1, none⟩) (Kd.Sf_ (p := ⟨gb394, 0, none⟩) (Kd.S_types HO379.out BK394.out (by decide)) (fun _ hk => hk.2) (.slice Ao16 t386.length co16)) (fun _ hk => hk.2) (.slice Ao19 t389.length co19)) (fun _ hk => hk.2) (.int .i64 t392)) (fun _ h_ => h_.1))) hb); have n2_ := Az.mk (Kd.Rb_ (by (with_reducible repeat (first | apply Kd.Ra_ | apply Kd.Rn_ | apply Kd.Rw_)); exact (Kd.Rm_ (Kd.Rf_ (p := ⟨gb394, 2, none⟩) (Kd.Rf_ (p := ⟨gb394, 1, none⟩) (Kd.Rf_ (p := ⟨gb394, 0, none⟩) (Kd.R_types HO382.out BK394.out (by decide)) (fun _ hk => hk.2) (.slice Ao16 t386.length co16)) (fun _ hk => hk.2) (.slice Ao19 t389.length co19)) (fun _ hk => hk.2) (.int .i64 t392)) (fun _ h_ => h_.1))) hb); have n3_ := Az.mk (Kd.Sb_ (by (with_reducible repeat (first | apply Kd.Sa_ | apply Kd.Sn_ | apply Kd.Sw_)); exact (Kd.Sm_ (Kd.Sf_ (p := ⟨gb394, 2, none⟩) (Kd.Sf_ (p := ⟨gb394, 1, none⟩) (Kd.Sf_ (p := ⟨gb394, 0, none⟩) (Kd.S_types HO388.out BK394.out (by decide)) (fun _ hk => hk.2) (.slice Ao16 t386.length co16)) (fun _ hk => hk.2) (.slice Ao19 t389.length co19)) (fun _ hk => hk.2) (.int .i64 t392)) (fun _ h_ => h_.1))) hb); have n4_ := Az.mk (Kd.Rb_ (by (with_reducible repeat (first | apply Kd.Ra_ | apply Kd.Rn_ | apply Kd.Rw_)); exact (Kd.Rm_ (Kd.Rf_ (p := ⟨gb394, 2, none⟩) (Kd.Rf_ (p := ⟨gb394, 1, none⟩) (Kd.Rf_ (p := ⟨gb394, 0, none⟩) (Kd.R_types HO391.out BK394.out (by decide)) (fun _ hk => hk.2) (.slice Ao16 t386.length co16)) (fun _ hk => hk.2) (.slice Ao19 t389.length co19)) (fun _ hk => hk.2) (.int .i64 t392)) (fun _ h_ => h_.1))) hb); have n5_ := Az.mk (Zb (g := gb385) (o := .cells #[.slice Ao11 t377.length co11, .slice Ao13 t380.length co13, .int .i64 t383] 35 (0, 0)) (by (with_reducible repeat (first | refine Zn ?_ _ | refine Zw ?_ | refine Za ?_ _)); refine blk_far ?_ NB385_394.out _; (with_reducible repeat (first | refine Zn ?_ _ | refine Zw ?_ | refine Za ?_ _)); refine blk_far ?_ NB385_394.out _; (with_reducible repeat (first | refine Zn ?_ _ | refine Zw ?_ | refine Za ?_ _)); refine blk_far ?_ NB385_394.out _; (with_reducible repeat (first | refine Zn ?_ _ | refine Zw ?_ | refine Za ?_ _)); exact BK385.out) hb); have n6_ := Az.mk (Zb (g := gb394) (o := .cells #[.slice Ao16 t386.length co16, .slice Ao19 t389.length co19, .int .i64 t392] 35 (0, 0)) (by (with_reducible repeat (first | refine Zn ?_ _ | refine Zw ?_ | refine Za ?_ _)); refine Zp (cs := #[.slice Ao16 t386.length co16, .slice Ao19 t389.length co19, .int .i64 0]) ?_ 2 _ rfl; (with_reducible repeat (first | refine Zn ?_ _ | refine Zw ?_ | refine Za ?_ _)); refine Zp (cs := #[.slice Ao16 t386.length co16, .slice none 0 0, .int .i64 0]) ?_ 1 _ rfl; (with_reducible repeat (first | refine Zn ?_ _ | refine Zw ?_ | refine Za ?_ _)); refine Zp (cs := #[.slice none 0 0, .slice none 0 0, .int .i64 0]) ?_ 0 _ rfl; (with_reducible repeat (first | refine Zn ?_ _ | refine Zw ?_ | refine Za ?_ _)); exact BK394.out) hb); have n7_ := Az.mk (Yt (by repeat (first | (with_reducible first | exact HB.out | apply Ya | apply Yn | apply Yw | refine Ys ?_ GE385.out | refine Ys ?_ GE394.out) | exact HB.out)) hb); clear HO376; clear HO379; clear HO382; clear HO388; clear HO391; clear BK385; clear BK394; clear HB; have HO376 := n0_; have HO379 := n1_; have HO382 := n2_; have HO388 := n3_; have HO391 := n4_; have BK385 := n5_; have BK394 := n6_; have HB := n7_; clear n0_ n1_ n2_ n3_ n4_ n5_ n6_ n7_; (try clear hb); (try clear hb2); (try clear hk); (try clear hi)))
     go_meet
     case rel => exact ⟨_, (!t393), (by first | rfl | (simp; done) | (simp [*]; done)), H', ⟨by first | omega | exact Nat.le_refl _⟩, ⟨by (with_reducible repeat (first | apply Kd.Qa_ | apply Kd.Qn_ | apply Kd.Qw_)); exact Kd.Qm_ HO376.out (fun _ hk => ⟨hk.1.2, hk.2⟩)⟩, ⟨by (with_reducible repeat (first | apply Kd.Sa_ | apply Kd.Sn_ | apply Kd.Sw_)); exact Kd.Sm_ HO379.out (fun _ hk => ⟨hk.1.2, hk.2⟩)⟩, ⟨by (with_reducible repeat (first | apply Kd.Ra_ | apply Kd.Rn_ | apply Kd.Rw_)); exact Kd.Rm_ HO382.out (fun _ hk => ⟨hk.1.1.2, ⟨hk.1.1.1, ⟨hk.1.2, hk.2⟩⟩⟩)⟩, ⟨by (with_reducible repeat (first | apply Kd.Sa_ | apply Kd.Sn_ | apply Kd.Sw_)); exact Kd.Sm_ HO388.out (fun _ hk => ⟨hk.1.2, hk.2⟩)⟩, ⟨by (with_reducible repeat (first | apply Kd.Ra_ | apply Kd.Rn_ | apply Kd.Rw_)); exact Kd.Rm_ HO391.out (fun _ hk => ⟨hk.1.1.2, ⟨hk.1.2, ⟨hk.2, hk.1.1.1⟩⟩⟩)⟩, ⟨by (with_reducible repeat (first | refine Zn ?_ _ | refine Zw ?_ | refine Za ?_ _)); exact BK385.out⟩, ⟨by (with_reducible repeat (first | refine Zn ?_ _ | refine Zw ?_ | refine Za ?_ _)); exact BK394.out⟩, ⟨by repeat (first | (with_reducible first | exact HB.out | apply Ya | apply Yn | apply Yw | refine Ys ?_ GE385.out | refine Ys ?_ GE394.out) | exact HB.out)⟩⟩
    ·replace c22 := Bool.eq_false_iff.mpr c22
     subst c22
     have H1 : (laws_FnHostLoad.j0 k t374 t384 t393 true t377 t380 t383 t386 t389 t392) = some r := by rw [if_neg (show ¬ (false = true) by decide)] at H; exact H
     clear H
     have H := H1
     clear H1
     have H' := Az.mk H
     clear H
     have hnb27 := NB394_385.out
     have hnc27 := NB385_394.out
     have hcz28_0 : w15.cell? ⟨gb394, 0, none⟩ = some (.slice none 0 0) := (Zc BK394.out 0).trans rfl
     have hcz28_1 : w15.cell? ⟨gb394, 1, none⟩ = some (.slice none 0 0) := (Zc BK394.out 1).trans rfl
     have hcz28_2 : w15.cell? ⟨gb394, 2, none⟩ = some (.int .i64 0) := (Zc BK394.out 2).trans rfl
     have hfz28_0 := Zf BK394.out 0
     have hfz28_1 := Zf BK394.out 1
     have hfz28_2 := Zf BK394.out 2
     have hcz29_0 : w15.cell? ⟨gb385, 0, none⟩ = some (.slice Ao11 t377.length co11) := (Zc BK385.out 0).trans rfl
     have hcz29_1 : w15.cell? ⟨gb385, 1, none⟩ = some (.slice Ao13 t380.length co13) := (Zc BK385.out 1).trans rfl
     have hcz29_2 : w15.cell? ⟨gb385, 2, none⟩ = some (.int .i64 t383) := (Zc BK385.out 2).trans rfl
     have hfz29_0 := Zf BK385.out 0
     have hfz29_1 := Zf BK385.out 1
     have hfz29_2 := Zf BK385.out 2
     go_wp2_with (first | (go_at_call 21; (with_reducible refine (laws_lkHost.calls k _ _ t386 _ _ t389 t392 _ _ t377 _ _ t380 t383 false _ ?side1 ?side2 ?side3 ?side4 ?side5 ?side6 ?side7 ?side8 A21.out).mono ?_); (case side1 => refine (Kd.Sr_ (e := 45) (base := w.heap.size) (ok := fun k_ => ((True ∧ some k_ ≠ (.slice Ao8 t374.length co8 : Value).ownBlock) ∧ some k_ ≠ (.slice Ao11 t377.length co11 : Value).ownBlock)) (n := t386.length) (c := co16) ?_).2.2; exact (by (with_reducible repeat (first | apply Kd.Sa_ | apply Kd.Sn_ | apply Kd.Sw_)); exact (Kd.Sm_ (Kd.Sf_ (p := ⟨gb394, 2, none⟩) (Kd.Sf_ (p := ⟨gb394, 1, none⟩) (Kd.Sf_ (p := ⟨gb394, 0, none⟩) (Kd.S_types HO388.out BK394.out (by decide)) (fun _ hk => hk.2) (.slice Ao16 t386.length co16)) (fun _ hk => hk.2) (.slice Ao19 t389.length co19)) (fun _ hk => hk.2) (.int .i64 t392)) (fun _ h_ => h_.1)))); (case side2 => exact (Kd.Sr_ HO388.out).2.1); (case side3 => refine (Kd.Rr_ (e := 74) (base := w.heap.size) (ok := fun k_ => (((some k_ ≠ (.slice Ao16 t386.length co16 : Value).ownBlock ∧ some k_ ≠ (.slice Ao8 t374.length co8 : Value).ownBlock) ∧ some k_ ≠ (.slice Ao11 t377.length co11 : Value).ownBlock) ∧ some k_ ≠ (.slice Ao13 t380.length co13 : Value).ownBlock)) (n := t389.length) (c := co19) ?_).2.2; exact (by (with_reducible repeat (first | apply Kd.Ra_ | apply Kd.Rn_ | apply Kd.Rw_)); exact (Kd.Rm_ (Kd.Rf_ (p := ⟨gb394, 2, none⟩) (Kd.Rf_ (p := ⟨gb394, 1, none⟩) (Kd.Rf_ (p := ⟨gb394, 0, none⟩) (Kd.R_types HO391.out BK394.out (by decide)) (fun _ hk => hk.2) (.slice Ao16 t386.length co16)) (fun _ hk => hk.2) (.slice Ao19 t389.length co19)) (fun _ hk => hk.2) (.int .i64 t392)) (fun _ h_ => h_.1)))); (case side4 => exact (Kd.Rr_ HO391.out).2.1); (case side5 => refine (Kd.Sr_ (e := 45) (base := w.heap.size) (ok := fun k_ => ((True ∧ some k_ ≠ (.slice Ao8 t374.length co8 : Value).ownBlock) ∧ some k_ ≠ (.slice Ao16 t386.length co16 : Value).ownBlock)) (n := t377.length) (c := co11) ?_).2.2; exact (by (with_reducible repeat (first | apply Kd.Sa_ | apply Kd.Sn_ | apply Kd.Sw_)); exact (Kd.Sm_ (Kd.Sf_ (p := ⟨gb394, 2, none⟩) (Kd.Sf_ (p := ⟨gb394, 1, none⟩) (Kd.Sf_ (p := ⟨gb394, 0, none⟩) (Kd.S_types HO379.out BK394.out (by decide)) (fun _ hk => hk.2) (.slice Ao16 t386.length co16)) (fun _ hk => hk.2) (.slice Ao19 t389.length co19)) (fun _ hk => hk.2) (.int .i64 t392)) (fun _ h_ => h_.1)))); (case side6 => exact (Kd.Sr_ HO379.out).2.1); (case side7 => refine (Kd.Rr_ (e := 74) (base := w.heap.size) (ok := fun k_ => (((some k_ ≠ (.slice Ao11 t377.length co11 : Value).ownBlock ∧ some k_ ≠ (.slice Ao8 t374.length co8 : Value).ownBlock) ∧ some k_ ≠ (.slice Ao16 t386.length co16 : Value).ownBlock) ∧ some k_ ≠ (.slice Ao19 t389.length co19 : Value).ownBlock)) (n := t380.length) (c := co13) ?_).2.2; exact (by (with_reducible repeat (first | apply Kd.Ra_ | apply Kd.Rn_ | apply Kd.Rw_)); exact (Kd.Rm_ (Kd.Rf_ (p := ⟨gb394, 2, none⟩) (Kd.Rf_ (p := ⟨gb394, 1, none⟩) (Kd.Rf_ (p := ⟨gb394, 0, none⟩) (Kd.R_types HO382.out BK394.out (by decide)) (fun _ hk => hk.2) (.slice Ao16 t386.length co16)) (fun _ hk => hk.2) (.slice Ao19 t389.length co19)) (fun _ hk => hk.2) (.int .i64 t392)) (fun _ h_ => h_.1)))); (case side8 => exact (Kd.Rr_ HO382.out).2.1); rintro e w30 ⟨rfl, hb⟩; have n0_ := Az.mk (Kd.Q_below (by (with_reducible repeat (first | apply Kd.Qa_ | apply Kd.Qn_ | apply Kd.Qw_)); exact (Kd.Qm_ (Kd.Qf_ (p := ⟨gb394, 2, none⟩) (Kd.Qf_ (p := ⟨gb394, 1, none⟩) (Kd.Qf_ (p := ⟨gb394, 0, none⟩) (Kd.Q_types HO376.out BK394.out (by decide)) (fun _ hk => hk.2) (.slice Ao16 t386.length co16)) (fun _ hk => hk.2) (.slice Ao19 t389.length co19)) (fun _ hk => hk.2) (.int .i64 t392)) (fun _ h_ => h_.1))) hb); have n1_ := Az.mk (Kd.Sb_ (by (with_reducible repeat (first | apply Kd.Sa_ | apply Kd.Sn_ | apply Kd.Sw_)); exact (Kd.Sm_ (Kd.Sf_ (p := ⟨gb394, 2, none⟩) (Kd.Sf_ (p := ⟨gb394, 1, none⟩) (Kd.Sf_ (p := ⟨gb394, 0, none⟩) (Kd.S_types HO379.out BK394.out (by decide)) (fun _ hk => hk.2) (.slice Ao16 t386.length co16)) (fun _ hk => hk.2) (.slice Ao19 t389.length co19)) (fun _ hk => hk.2) (.int .i64 t392)) (fun _ h_ => h_.1))) hb); have n2_ := Az.mk (Kd.Rb_ (by (with_reducible repeat (first | apply Kd.Ra_ | apply Kd.Rn_ | apply Kd.Rw_)); exact (Kd.Rm_ (Kd.Rf_ (p := ⟨gb394, 2, none⟩) (Kd.Rf_ (p := ⟨gb394, 1, none⟩) (Kd.Rf_ (p := ⟨gb394, 0, none⟩) (Kd.R_types HO382.out BK394.out (by decide)) (fun _ hk => hk.2) (.slice Ao16 t386.length co16)) (fun _ hk => hk.2) (.slice Ao19 t389.length co19)) (fun _ hk => hk.2) (.int .i64 t392)) (fun _ h_ => h_.1))) hb); have n3_ := Az.mk (Kd.Sb_ (by (with_reducible repeat (first | apply Kd.Sa_ | apply Kd.Sn_ | apply Kd.Sw_)); exact (Kd.Sm_ (Kd.Sf_ (p := ⟨gb394, 2, none⟩) (Kd.Sf_ (p := ⟨gb394, 1, none⟩) (Kd.Sf_ (p := ⟨gb394, 0, none⟩) (Kd.S_types HO388.out BK394.out (by decide)) (fun _ hk => hk.2) (.slice Ao16 t386.length co16)) (fun _ hk => hk.2) (.slice Ao19 t389.length co19)) (fun _ hk => hk.2) (.int .i64 t392)) (fun _ h_ => h_.1))) hb); have n4_ := Az.mk (Kd.Rb_ (by (with_reducible repeat (first | apply Kd.Ra_ | apply Kd.Rn_ | apply Kd.Rw_)); exact (Kd.Rm_ (Kd.Rf_ (p := ⟨gb394, 2, none⟩) (Kd.Rf_ (p := ⟨gb394, 1, none⟩) (Kd.Rf_ (p := ⟨gb394, 0, none⟩) (Kd.R_types HO391.out BK394.out (by decide)) (fun _ hk => hk.2) (.slice Ao16 t386.length co16)) (fun _ hk => hk.2) (.slice Ao19 t389.length co19)) (fun _ hk => hk.2) (.int .i64 t392)) (fun _ h_ => h_.1))) hb); have n5_ := Az.mk (Zb (g := gb385) (o := .cells #[.slice Ao11 t377.length co11, .slice Ao13 t380.length co13, .int .i64 t383] 35 (0, 0)) (by (with_reducible repeat (first | refine Zn ?_ _ | refine Zw ?_ | refine Za ?_ _)); refine blk_far ?_ NB385_394.out _; (with_reducible repeat (first | refine Zn ?_ _ | refine Zw ?_ | refine Za ?_ _)); refine blk_far ?_ NB385_394.out _; (with_reducible repeat (first | refine Zn ?_ _ | refine Zw ?_ | refine Za ?_ _)); refine blk_far ?_ NB385_394.out _; (with_reducible repeat (first | refine Zn ?_ _ | refine Zw ?_ | refine Za ?_ _)); exact BK385.out) hb); have n6_ := Az.mk (Zb (g := gb394) (o := .cells #[.slice Ao16 t386.length co16, .slice Ao19 t389.length co19, .int .i64 t392] 35 (0, 0)) (by (with_reducible repeat (first | refine Zn ?_ _ | refine Zw ?_ | refine Za ?_ _)); refine Zp (cs := #[.slice Ao16 t386.length co16, .slice Ao19 t389.length co19, .int .i64 0]) ?_ 2 _ rfl; (with_reducible repeat (first | refine Zn ?_ _ | refine Zw ?_ | refine Za ?_ _)); refine Zp (cs := #[.slice Ao16 t386.length co16, .slice none 0 0, .int .i64 0]) ?_ 1 _ rfl; (with_reducible repeat (first | refine Zn ?_ _ | refine Zw ?_ | refine Za ?_ _)); refine Zp (cs := #[.slice none 0 0, .slice none 0 0, .int .i64 0]) ?_ 0 _ rfl; (with_reducible repeat (first | refine Zn ?_ _ | refine Zw ?_ | refine Za ?_ _)); exact BK394.out) hb); have n7_ := Az.mk (Yt (by repeat (first | (with_reducible first | exact HB.out | apply Ya | apply Yn | apply Yw | refine Ys ?_ GE385.out | refine Ys ?_ GE394.out) | exact HB.out)) hb); clear HO376; clear HO379; clear HO382; clear HO388; clear HO391; clear BK385; clear BK394; clear HB; have HO376 := n0_; have HO379 := n1_; have HO382 := n2_; have HO388 := n3_; have HO391 := n4_; have BK385 := n5_; have BK394 := n6_; have HB := n7_; clear n0_ n1_ n2_ n3_ n4_ n5_ n6_ n7_; (try clear hb); (try clear hb2); (try clear hk); (try clear hi)))
     go_meet
     case rel => exact ⟨_, (true), (by first | rfl | (simp; done) | (simp [*]; done)), H', ⟨by first | omega | exact Nat.le_refl _⟩, ⟨by (with_reducible repeat (first | apply Kd.Qa_ | apply Kd.Qn_ | apply Kd.Qw_)); exact Kd.Qm_ HO376.out (fun _ hk => ⟨hk.1.2, hk.2⟩)⟩, ⟨by (with_reducible repeat (first | apply Kd.Sa_ | apply Kd.Sn_ | apply Kd.Sw_)); exact Kd.Sm_ HO379.out (fun _ hk => ⟨hk.1.2, hk.2⟩)⟩, ⟨by (with_reducible repeat (first | apply Kd.Ra_ | apply Kd.Rn_ | apply Kd.Rw_)); exact Kd.Rm_ HO382.out (fun _ hk => ⟨hk.1.1.2, ⟨hk.1.1.1, ⟨hk.1.2, hk.2⟩⟩⟩)⟩, ⟨by (with_reducible repeat (first | apply Kd.Sa_ | apply Kd.Sn_ | apply Kd.Sw_)); exact Kd.Sm_ HO388.out (fun _ hk => ⟨hk.1.2, hk.2⟩)⟩, ⟨by (with_reducible repeat (first | apply Kd.Ra_ | apply Kd.Rn_ | apply Kd.Rw_)); exact Kd.Rm_ HO391.out (fun _ hk => ⟨hk.1.1.2, ⟨hk.1.2, ⟨hk.2, hk.1.1.1⟩⟩⟩)⟩, ⟨by (with_reducible repeat (first | refine Zn ?_ _ | refine Zw ?_ | refine Za ?_ _)); exact BK385.out⟩, ⟨by (with_reducible repeat (first | refine Zn ?_ _ | refine Zw ?_ | refine Za ?_ _)); exact BK394.out⟩, ⟨by repeat (first | (with_reducible first | exact HB.out | apply Ya | apply Yn | apply Yw | refine Ys ?_ GE385.out | refine Ys ?_ GE394.out) | exact HB.out)⟩⟩
  case rest =>
   clear HC6
   try clear c1
   try clear c2
   try clear c2b0
   try clear c2b1
   try clear p2
   try clear c7
   try clear c17
   try clear c18
   try clear c19
   try clear c20
   try clear c20b0
   try clear c20b1
   try clear c20b2
   try clear c22
   try clear c23
   try clear c27
   try clear hcz12_0
   try clear hcz12_1
   try clear hcz12_2
   try clear hcz18_0
   try clear hcz18_1
   try clear hcz18_2
   try clear hcz24_0
   try clear hcz24_1
   try clear hcz24_2
   try clear hcz25_0
   try clear hcz25_1
   try clear hcz25_2
   try clear hcz28_0
   try clear hcz28_1
   try clear hcz28_2
   try clear hcz29_0
   try clear hcz29_1
   try clear hcz29_2
   try clear hfz12_0
   try clear hfz12_1
   try clear hfz12_2
   try clear hfz18_0
   try clear hfz18_1
   try clear hfz18_2
   try clear hfz24_0
   try clear hfz24_1
   try clear hfz24_2
   try clear hfz25_0
   try clear hfz25_1
   try clear hfz25_2
   try clear hfz28_0
   try clear hfz28_1
   try clear hfz28_2
   try clear hfz29_0
   try clear hfz29_1
   try clear hfz29_2
   obtain ⟨kq, x36_5, rfl, HA, HJ5, HO_3, HO_386000, HO_386001, HO_395000, HO_395001, BK385, BK394, HB⟩ := hcut
   cases kq with
   | zero => exact absurd HA.out (by simp [laws_FnHostLoad.j0])
   | succ kj5 =>
    have H := HA.out
    clear HA
    simp only [laws_FnHostLoad.j0] at H
    by_cases c31 : x36_5 = true
    ·subst c31
     have H1 : (if (t393 == t384) = true then ((laws_lkHost.f kj5 t386 t389 t392 t377 t380 t383).bind fun t396 => (some t396)) else (some false)) = some r := by rw [if_pos rfl] at H; exact H
     clear H
     have H := H1
     clear H1
     by_cases c32 : (t393 == t384) = true
     ·rw [if_pos c32] at H
      have c32b0 : (t393 == t384) = true := c32
      (try (have c32b1 : decide (t393 = t384) = true := by simpa using c32))
      (try (have c32b2 : (t393 == t384) = true := by simpa using c32))
      clear c32
      replace H := Option.bind_eq_some_iff.mp H
      obtain ⟨t396, A330, H⟩ := H
      replace H : (some t396) = some r := H
      have A33 := Az.mk A330
      clear A330
      obtain rfl := Option.some.inj H
      have hnb34 := NB394_385.out
      have hnc34 := NB385_394.out
      have hcz35_0 : wc.cell? ⟨gb394, 0, none⟩ = some (.slice Ao16 t386.length co16) := (Zc BK394.out 0).trans rfl
      have hcz35_1 : wc.cell? ⟨gb394, 1, none⟩ = some (.slice Ao19 t389.length co19) := (Zc BK394.out 1).trans rfl
      have hcz35_2 : wc.cell? ⟨gb394, 2, none⟩ = some (.int .i64 t392) := (Zc BK394.out 2).trans rfl
      have hfz35_0 := Zf BK394.out 0
      have hfz35_1 := Zf BK394.out 1
      have hfz35_2 := Zf BK394.out 2
      have hcz36_0 : wc.cell? ⟨gb385, 0, none⟩ = some (.slice Ao11 t377.length co11) := (Zc BK385.out 0).trans rfl
      have hcz36_1 : wc.cell? ⟨gb385, 1, none⟩ = some (.slice Ao13 t380.length co13) := (Zc BK385.out 1).trans rfl
      have hcz36_2 : wc.cell? ⟨gb385, 2, none⟩ = some (.int .i64 t383) := (Zc BK385.out 2).trans rfl
      have hfz36_0 := Zf BK385.out 0
      have hfz36_1 := Zf BK385.out 1
      have hfz36_2 := Zf BK385.out 2
      go_wp2_with (first | (go_at_call 21; (with_reducible refine (laws_lkHost.calls kj5 _ _ t386 _ _ t389 t392 _ _ t377 _ _ t380 t383 t396 _ ?side1 ?side2 ?side3 ?side4 ?side5 ?side6 ?side7 ?side8 A33.out).mono ?_); (case side1 => repeat (first | exact (Kd.Sr_ HO_395000.out).2.2 | (with_reducible refine Kd.Ca_ ?_ _) | (with_reducible refine Kd.Cn_ ?_ _) | (with_reducible refine Kd.Cw_ ?_))); (case side2 => exact (Kd.Sr_ HO_395000.out).2.1); (case side3 => repeat (first | exact (Kd.Rr_ HO_395001.out).2.2 | (with_reducible refine Kd.Ca_ ?_ _) | (with_reducible refine Kd.Cn_ ?_ _) | (with_reducible refine Kd.Cw_ ?_))); (case side4 => exact (Kd.Rr_ HO_395001.out).2.1); (case side5 => repeat (first | exact (Kd.Sr_ HO_386000.out).2.2 | (with_reducible refine Kd.Ca_ ?_ _) | (with_reducible refine Kd.Cn_ ?_ _) | (with_reducible refine Kd.Cw_ ?_))); (case side6 => exact (Kd.Sr_ HO_386000.out).2.1); (case side7 => repeat (first | exact (Kd.Rr_ HO_386001.out).2.2 | (with_reducible refine Kd.Ca_ ?_ _) | (with_reducible refine Kd.Cn_ ?_ _) | (with_reducible refine Kd.Cw_ ?_))); (case side8 => exact (Kd.Rr_ HO_386001.out).2.1); rintro e w37 ⟨rfl, hb⟩; have n0_ := Az.mk (Kd.Q_below (by (with_reducible repeat (first | apply Kd.Qa_ | apply Kd.Qn_ | apply Kd.Qw_)); exact HO_3.out) hb); have n1_ := Az.mk (Kd.Sb_ (by (with_reducible repeat (first | apply Kd.Sa_ | apply Kd.Sn_ | apply Kd.Sw_)); exact HO_386000.out) hb); have n2_ := Az.mk (Kd.Rb_ (by (with_reducible repeat (first | apply Kd.Ra_ | apply Kd.Rn_ | apply Kd.Rw_)); exact HO_386001.out) hb); have n3_ := Az.mk (Kd.Sb_ (by (with_reducible repeat (first | apply Kd.Sa_ | apply Kd.Sn_ | apply Kd.Sw_)); exact HO_395000.out) hb); have n4_ := Az.mk (Kd.Rb_ (by (with_reducible repeat (first | apply Kd.Ra_ | apply Kd.Rn_ | apply Kd.Rw_)); exact HO_395001.out) hb); have n5_ := Az.mk (Zb (g := gb385) (o := .cells #[.slice Ao11 t377.length co11, .slice Ao13 t380.length co13, .int .i64 t383] 35 (0, 0)) (by (with_reducible repeat (first | refine Zn ?_ _ | refine Zw ?_ | refine Za ?_ _)); exact BK385.out) hb); have n6_ := Az.mk (Zb (g := gb394) (o := .cells #[.slice Ao16 t386.length co16, .slice Ao19 t389.length co19, .int .i64 t392] 35 (0, 0)) (by (with_reducible repeat (first | refine Zn ?_ _ | refine Zw ?_ | refine Za ?_ _)); exact BK394.out) hb); have n7_ := Az.mk (Yt (by repeat (first | (with_reducible first | exact HB.out | apply Ya | apply Yn | apply Yw | refine Ys ?_ GE385.out | refine Ys ?_ GE394.out) | exact HB.out)) hb); clear HO_3; clear HO_386000; clear HO_386001; clear HO_395000; clear HO_395001; clear BK385; clear BK394; clear HB; have HO_3 := n0_; have HO_386000 := n1_; have HO_386001 := n2_; have HO_395000 := n3_; have HO_395001 := n4_; have BK385 := n5_; have BK394 := n6_; have HB := n7_; clear n0_ n1_ n2_ n3_ n4_ n5_ n6_ n7_; (try clear hb); (try clear hb2); (try clear hk); (try clear hi)))
      go_ret
      exact ⟨by first | rfl | (simp [errW_none, errW_some] <;> rfl) | (simp [*, errW_none, errW_some] <;> rfl), by repeat (first | (with_reducible first | exact HB.out | apply Ya | apply Yn | apply Yw | refine Ys ?_ GE385.out | refine Ys ?_ GE394.out) | exact HB.out)⟩
     ·rw [if_neg c32] at H
      have c32b0 : (t393 == t384) = false := by simpa using c32
      (try (have c32b1 : decide (t393 = t384) = false := by simpa using c32))
      (try (have c32b2 : (t393 == t384) = false := by simpa using c32))
      (try (have c32b3 : ¬ (t393 = t384) := by simpa using c32))
      clear c32
      obtain rfl := Option.some.inj H
      go_wp2
      go_ret
      exact ⟨by first | rfl | (simp [errW_none, errW_some] <;> rfl) | (simp [*, errW_none, errW_some] <;> rfl), by repeat (first | (with_reducible first | exact HB.out | apply Ya | apply Yn | apply Yw | refine Ys ?_ GE385.out | refine Ys ?_ GE394.out) | exact HB.out)⟩
    ·replace c31 := Bool.eq_false_iff.mpr c31
     subst c31
     have H1 : (laws_FnHostLoad.l0 kj5 t374 0 t386 t389 t392) = some r := by rw [if_neg (show ¬ (false = true) by decide)] at H; exact H
     clear H
     have H := H1
     clear H1
     have H' := Az.mk H
     clear H
     go_wp2
     go_loopg [8] kj5 (fun kq v8 w' => ∃ (x8_2 : Int), v8 = .int .i64 x8_2 ∧ Az (laws_FnHostLoad.l0 kq t374 x8_2 t386 t389 t392 = some r) ∧ Az (kq ≤ kj5) ∧ Az (Kd.Q (Kd.slice 3 (Kd.int .i64)) 45 w' w.heap.size (fun k_ => some k_ ≠ ((.slice Ao11 t377.length co11) : Value).ownBlock ∧ some k_ ≠ ((.slice Ao16 t386.length co16) : Value).ownBlock) (.slice Ao8 t374.length co8) t374) ∧ Az (Kd.S (Kd.slice 3 (Kd.int .i64)) 45 w' w.heap.size (fun k_ => some k_ ≠ ((.slice Ao8 t374.length co8) : Value).ownBlock ∧ some k_ ≠ ((.slice Ao16 t386.length co16) : Value).ownBlock) (.slice Ao11 t377.length co11) t377) ∧ Az (Kd.R k74 74 w' w.heap.size (fun k_ => some k_ ≠ ((.slice Ao8 t374.length co8) : Value).ownBlock ∧ some k_ ≠ ((.slice Ao11 t377.length co11) : Value).ownBlock ∧ some k_ ≠ ((.slice Ao16 t386.length co16) : Value).ownBlock ∧ some k_ ≠ ((.slice Ao19 t389.length co19) : Value).ownBlock) (.slice Ao13 t380.length co13) t380) ∧ Az (Kd.S (Kd.slice 3 (Kd.int .i64)) 45 w' w.heap.size (fun k_ => some k_ ≠ ((.slice Ao8 t374.length co8) : Value).ownBlock ∧ some k_ ≠ ((.slice Ao11 t377.length co11) : Value).ownBlock) (.slice Ao16 t386.length co16) t386) ∧ Az (Kd.R k74 74 w' w.heap.size (fun k_ => some k_ ≠ ((.slice Ao8 t374.length co8) : Value).ownBlock ∧ some k_ ≠ ((.slice Ao11 t377.length co11) : Value).ownBlock ∧ some k_ ≠ ((.slice Ao13 t380.length co13) : Value).ownBlock ∧ some k_ ≠ ((.slice Ao16 t386.length co16) : Value).ownBlock) (.slice Ao19 t389.length co19) t389) ∧ Az (w'.heap[gb385]? = some (.cells #[(.slice Ao11 t377.length co11), (.slice Ao13 t380.length co13), .int .i64 t383] 35 (0, 0))) ∧ Az (w'.heap[gb394]? = some (.cells #[(.slice Ao16 t386.length co16), (.slice Ao19 t389.length co19), .int .i64 t392] 35 (0, 0))) ∧ Az (Below w.heap.size w w'))
     case atStart => exact ⟨(0), (by first | rfl | (simp; done) | (simp [*]; done)), H', ⟨Nat.le_refl _⟩, ⟨by (with_reducible repeat (first | apply Kd.Qa_ | apply Kd.Qn_ | apply Kd.Qw_)); exact HO_3.out⟩, ⟨by (with_reducible repeat (first | apply Kd.Sa_ | apply Kd.Sn_ | apply Kd.Sw_)); exact HO_386000.out⟩, ⟨by (with_reducible repeat (first | apply Kd.Ra_ | apply Kd.Rn_ | apply Kd.Rw_)); exact HO_386001.out⟩, ⟨by (with_reducible repeat (first | apply Kd.Sa_ | apply Kd.Sn_ | apply Kd.Sw_)); exact HO_395000.out⟩, ⟨by (with_reducible repeat (first | apply Kd.Ra_ | apply Kd.Rn_ | apply Kd.Rw_)); exact HO_395001.out⟩, ⟨by (with_reducible repeat (first | refine Zn ?_ _ | refine Zw ?_ | refine Za ?_ _)); exact BK385.out⟩, ⟨by (with_reducible repeat (first | refine Zn ?_ _ | refine Zw ?_ | refine Za ?_ _)); exact BK394.out⟩, ⟨by repeat (first | (with_reducible first | exact HB.out | apply Ya | apply Yn | apply Yw | refine Ys ?_ GE385.out | refine Ys ?_ GE394.out) | exact HB.out)⟩⟩
     case round =>
      clear H'
      try clear c1
      try clear c2
      try clear c2b0
      try clear c2b1
      try clear p2
      try clear c3
      try clear c7
      try clear c17
      try clear c18
      try clear c19
      try clear c20
      try clear c20b0
      try clear c20b1
      try clear c20b2
      try clear c22
      try clear c23
      try clear c27
      try clear c31
      try clear c32
      try clear c32b0
      try clear c32b1
      try clear c32b2
      try clear c34
      try clear hcz12_0
      try clear hcz12_1
      try clear hcz12_2
      try clear hcz18_0
      try clear hcz18_1
      try clear hcz18_2
      try clear hcz24_0
      try clear hcz24_1
      try clear hcz24_2
      try clear hcz25_0
      try clear hcz25_1
      try clear hcz25_2
      try clear hcz28_0
      try clear hcz28_1
      try clear hcz28_2
      try clear hcz29_0
      try clear hcz29_1
      try clear hcz29_2
      try clear hcz35_0
      try clear hcz35_1
      try clear hcz35_2
      try clear hcz36_0
      try clear hcz36_1
      try clear hcz36_2
      try clear hfz12_0
      try clear hfz12_1
      try clear hfz12_2
      try clear hfz18_0
      try clear hfz18_1
      try clear hfz18_2
      try clear hfz24_0
      try clear hfz24_1
      try clear hfz24_2
      try clear hfz25_0
      try clear hfz25_1
      try clear hfz25_2
      try clear hfz28_0
      try clear hfz28_1
      try clear hfz28_2
      try clear hfz29_0
      try clear hfz29_1
      try clear hfz29_2
      try clear hfz35_0
      try clear hfz35_1
      try clear hfz35_2
      try clear hfz36_0
      try clear hfz36_1
      try clear hfz36_2
      try clear p2
      obtain ⟨x8_2, rfl, HA, HK2, HO_3, HO_386000, HO_386001, HO_395000, HO_395001, BK385, BK394, HB⟩ := hrel
      cases gk with
      | zero => exact absurd HA.out (by simp [laws_FnHostLoad.l0])
      | succ k2 =>
       have H := HA.out
       clear HA
       simp only [laws_FnHostLoad.l0] at H
       by_cases c38 : x8_2 < (t389.length : Int)
       ·rw [if_pos c38] at H
        have c38b0 : decide (x8_2 < (t389.length : Int)) = true := decide_eq_true c38
        clear c38
        replace H := Option.bind_eq_some_iff.mp H
        obtain ⟨t398, A390, H⟩ := H
        replace H : (if 0 ≤ (wrap64 (x8_2 * 6)) then (if (wrap64 (x8_2 * 6)) ≤ (wrap64 ((wrap64 (x8_2 + 1)) * 6)) then (if (wrap64 ((wrap64 (x8_2 + 1)) * 6)) ≤ (t374.length : Int) then ((laws_lkMem.f k2 t398 ((t374.take ((wrap64 ((wrap64 (x8_2 + 1)) * 6)) : Int).toNat).drop ((wrap64 (x8_2 * 6)) : Int).toNat)).bind fun t405 => (if t405 = true then (laws_FnHostLoad.l0 k2 t374 (wrap64 (x8_2 + 1)) t386 t389 t392) else (some false))) else (none)) else (none)) else (none)) = some r := H
        have A39 := Az.mk A390
        clear A390
        obtain ⟨ji40, hji40⟩ : ∃ j_ : Int, (wrap64 (x8_2 * 6)) = j_ := ⟨_, rfl⟩
        replace H : (if 0 ≤ (ji40) then (if (ji40) ≤ (wrap64 ((wrap64 (x8_2 + 1)) * 6)) then (if (wrap64 ((wrap64 (x8_2 + 1)) * 6)) ≤ (t374.length : Int) then ((laws_lkMem.f k2 t398 ((t374.take ((wrap64 ((wrap64 (x8_2 + 1)) * 6)) : Int).toNat).drop ((ji40) : Int).toNat)).bind fun t405 => (if t405 = true then (laws_FnHostLoad.l0 k2 t374 (wrap64 (x8_2 + 1)) t386 t389 t392) else (some false))) else (none)) else (none)) else (none)) = some r := by first | (rw [hji40] at H; exact H) | (simp only [hji40] at H ⊢; exact H)
        (try rw [hji40] at A39)
        have hji40w : (IntKind.i64.wrap (x8_2 * 6)) = ji40 := (i64_w _).trans hji40
        by_cases c41 : 0 ≤ (ji40)
        ·rw [if_pos c41] at H
         have c41b0 := eq_true c41
         have c41b1 : decide (0 ≤ (ji40)) = true := decide_eq_true c41
         clear c41
         by_cases c42 : (ji40) ≤ (wrap64 ((wrap64 (x8_2 + 1)) * 6))
         ·rw [if_pos c42] at H
          have c42b0 := eq_true c42
          have c42b1 : decide ((ji40) ≤ (wrap64 ((wrap64 (x8_2 + 1)) * 6))) = true := decide_eq_true c42
          by_cases c43 : (wrap64 ((wrap64 (x8_2 + 1)) * 6)) ≤ (t374.length : Int)
          ·rw [if_pos c43] at H
           have c43b0 := eq_true c43
           have c43b1 : decide ((wrap64 ((wrap64 (x8_2 + 1)) * 6)) ≤ (t374.length : Int)) = true := decide_eq_true c43
           obtain ⟨y401, hy401⟩ : ∃ y_ : List (List Int), y_ = ((t374.take ((wrap64 ((wrap64 (x8_2 + 1)) * 6)) : Int).toNat).drop ((ji40) : Int).toNat) := ⟨_, rfl⟩
           replace H : ((laws_lkMem.f k2 t398 y401).bind fun t405 => (if t405 = true then (laws_FnHostLoad.l0 k2 t374 (wrap64 (x8_2 + 1)) t386 t389 t392) else (some false))) = some r := by first | (rw [hy401]; with_reducible exact H) | (have H2_ := (Option.bind_some _ _).symm.trans H; rw [hy401]; with_reducible exact H2_) | (have H2_ := (Option.bind_some _ _).symm.trans H; with_reducible exact H2_) | with_reducible exact H | (rw [hy401]; exact H) | exact H
           have Ny401 := Az.mk hy401
           clear hy401
           replace H := Option.bind_eq_some_iff.mp H
           obtain ⟨t405, A440, H⟩ := H
           replace H : (if t405 = true then (laws_FnHostLoad.l0 k2 t374 (wrap64 (x8_2 + 1)) t386 t389 t392) else (some false)) = some r := H
           have A44 := Az.mk A440
           clear A440
           by_cases c45 : t405 = true
           ·subst c45
            have H1 : (laws_FnHostLoad.l0 k2 t374 (wrap64 (x8_2 + 1)) t386 t389 t392) = some r := by rw [if_pos rfl] at H; exact H
            clear H
            have H := H1
            clear H1
            have H' := Az.mk H
            clear H
            have hnb46 := NB394_385.out
            have hnc46 := NB385_394.out
            have hcz47_0 : wr.cell? ⟨gb394, 0, none⟩ = some (.slice Ao16 t386.length co16) := (Zc BK394.out 0).trans rfl
            have hcz47_1 : wr.cell? ⟨gb394, 1, none⟩ = some (.slice Ao19 t389.length co19) := (Zc BK394.out 1).trans rfl
            have hcz47_2 : wr.cell? ⟨gb394, 2, none⟩ = some (.int .i64 t392) := (Zc BK394.out 2).trans rfl
            have hfz47_0 := Zf BK394.out 0
            have hfz47_1 := Zf BK394.out 1
            have hfz47_2 := Zf BK394.out 2
            try go_wp2
            have n0_ := Az.mk (Kd.Qw_ HO_3.out)
            have n1_ := Az.mk (Kd.Sw_ HO_386000.out)
            have n2_ := Az.mk (Kd.Rw_ HO_386001.out)
            have n3_ := Az.mk (Kd.Sw_ HO_395000.out)
            have n4_ := Az.mk (Kd.Rw_ HO_395001.out)
            have n5_ := Az.mk (Zw BK385.out)
            have n6_ := Az.mk (Zw BK394.out)
            have n7_ := Az.mk (Yw HB.out)
            clear HO_3
            clear HO_386000
            clear HO_386001
            clear HO_395000
            clear HO_395001
            clear BK385
            clear BK394
            clear HB
            have HO_3 := n0_
            have HO_386000 := n1_
            have HO_386001 := n2_
            have HO_395000 := n3_
            have HO_395001 := n4_
            have BK385 := n5_
            have BK394 := n6_
            have HB := n7_
            clear n0_ n1_ n2_ n3_ n4_ n5_ n6_ n7_
            have q49 : ((wrap64 ((wrap64 (x8_2 + 1)) * 6)) : Int) ≤ ((t374.length : Int) : Int) := of_decide_eq_true (by first | (with_reducible assumption) | assumption)
            obtain ⟨i049, hi049, _, hsz49, _⟩ := info_parts info45
            have hroom49 : t374.length ≤ co8 := (Kd.Q_reads' HO_3.out).2.1
            have hC49 : Kd.C (Kd.slice 3 (Kd.int .i64)) _ Ao8 t374.length t374 := (Kd.Q_reads' HO_3.out).2.2
            have ql49 : ((ji40) : Int) ≤ ((wrap64 ((wrap64 (x8_2 + 1)) * 6)) : Int) := of_decide_eq_true (by first | (with_reducible assumption) | assumption)
            have q049 : (0 : Int) ≤ ((ji40) : Int) := of_decide_eq_true (by first | (with_reducible assumption) | assumption)
            have hcut49 := cut_mid (P := Try.prog) 23 45 .i64 .i64 Try.underlying23 hi049 1 hsz49 Ao8 t374.length co8 (ji40) (wrap64 ((wrap64 (x8_2 + 1)) * 6)) q049 ql49 q49 hroom49
            have hr49 := Kd.C_mid (lo := ((ji40) : Int).toNat) (hi := ((wrap64 ((wrap64 (x8_2 + 1)) * 6)) : Int).toNat) (c := co8) hC49 (by omega) (by omega) hroom49
            obtain ⟨A49, hA49⟩ : ∃ A1, A1 = (if co8 = ((ji40) : Int).toNat then Ao8 else (Ao8 : Option Addr).map (·.add (((ji40) : Int).toNat * 1))) := ⟨_, rfl⟩
            obtain ⟨c49, hc49⟩ : ∃ c1, c1 = co8 - ((ji40) : Int).toNat := ⟨_, rfl⟩
            have hy49 : y401.length = ((wrap64 ((wrap64 (x8_2 + 1)) * 6)) : Int).toNat - ((ji40) : Int).toNat := (by rw [Ny401.out, List.length_drop, List.length_take] <;> omega)
            rw [show ((t374).take ((wrap64 ((wrap64 (x8_2 + 1)) * 6)) : Int).toNat).drop ((ji40) : Int).toNat = y401 from Ny401.out.symm] at hr49
            replace hr49 : Kd.C (Kd.slice 3 (Kd.int .i64)) _ A49 y401.length y401 := (by rw [hA49]; exact hr49)
            rw [← hy49, ← hA49, ← hc49] at hcut49
            have HR404 := Az.mk hr49
            have HC404 := Az.mk (show y401.length ≤ c49 from by rw [hy49, hc49]; exact Nat.sub_le_sub_right (Nat.le_trans (by omega) hroom49) _)
            clear hr49 hC49 hroom49 hi049 hsz49 hc49
            have KY49 := Az.mk hy49
            have KA49 := Az.mk hA49
            clear hy49 hA49
            have KL49 := Az.mk (show ((wrap64 ((wrap64 (x8_2 + 1)) * 6)) : Int).toNat ≤ t374.length from by omega)
            have KM49 := Az.mk (show ((ji40) : Int).toNat ≤ ((wrap64 ((wrap64 (x8_2 + 1)) * 6)) : Int).toNat from by omega)
            replace q49 := eq_true q49
            refine start_ (n := 12) (S := fun w' => w'.cell? ⟨gb394, 0, none⟩ = some (.slice Ao16 t386.length co16) ∧ w'.cell? ⟨gb394, 1, none⟩ = some (.slice Ao19 t389.length co19) ∧ w'.cell? ⟨gb394, 2, none⟩ = some (.int .i64 t392)) (ds := []) #[false, false, false, false, false, false, false, false, false, false, false, false] (by kernel_rfl) rfl rfl ⟨(Zc BK394.out 0).trans rfl, (Zc BK394.out 1).trans rfl, (Zc BK394.out 2).trans rfl⟩ (fun hHeld => ?_); refine with_tabW laws_FnHostLoad.tab11 laws_FnHostLoad.bits11 (fun HT_ HW_ => ?_)
            generalize wr.drew = w48 at HO_3 HO_386000 HO_386001 HO_395000 HO_395001 BK385 BK394 HB HR404 hHeld ⊢
            refine pure_ (i := 1) (N := some 53) (v := ?_) (a' := ?_) #[false, true, false, false, false, false, false, false, false, false, false, false] rfl rfl (any_of HT_.out (by kernel_rfl)) (fun _ _ _ h => h) (Or.inl ⟨by rfl, ?_⟩) ?_ ?_
            rotate_left
            ·intro w'
             go_simp
             with_reducible rfl
            rotate_left
            ·simp only [Act.put, List.setIfInBounds_toArray, List.set_cons_zero, List.set_cons_succ, i64_w, i32_w]
             rfl
            refine pure_ (i := 3) (N := some 55) (v := ?_) (a' := ?_) #[false, true, false, true, false, false, false, false, false, false, false, false] rfl rfl (any_of HT_.out (by kernel_rfl)) (fun _ _ _ h => h) (Or.inl ⟨by rfl, ?_⟩) ?_ ?_
            rotate_left
            ·intro w'
             go_simp
             with_reducible rfl
            rotate_left
            ·simp only [Act.put, List.setIfInBounds_toArray, List.set_cons_zero, List.set_cons_succ, i64_w, i32_w]
             rfl
            refine pure_ (i := 4) (N := some 56) (v := ?_) (a' := ?_) #[false, true, false, true, true, false, false, false, false, false, false, false] rfl rfl (any_of HT_.out (by kernel_rfl)) (fun _ _ _ h => h) (Or.inl ⟨by rfl, ?_⟩) ?_ ?_
            rotate_left
            ·intro w'
             go_simp
             with_reducible rfl
            rotate_left
            ·simp only [Act.put, List.setIfInBounds_toArray, List.set_cons_zero, List.set_cons_succ, i64_w, i32_w]
             rfl
            refine pure_ (i := 5) (N := some 57) (v := ?_) (a' := ?_) #[false, true, false, true, true, true, false, false, false, false, false, false] rfl rfl (any_of HT_.out (by kernel_rfl)) (fun _ _ _ h => h) (Or.inl ⟨by rfl, ?_⟩) ?_ ?_
            rotate_left
            ·intro w'
             go_simp
             with_reducible rfl
            rotate_left
            ·simp only [Act.put, List.setIfInBounds_toArray, List.set_cons_zero, List.set_cons_succ, i64_w, i32_w]
             rfl
            refine pure_ (i := 6) (N := some 58) (v := ?_) (a' := ?_) #[false, true, false, true, true, true, true, false, false, false, false, false] rfl rfl (any_of HT_.out (by kernel_rfl)) (fun _ _ _ h => h) (Or.inl ⟨by rfl, ?_⟩) ?_ ?_
            rotate_left
            ·intro w'
             go_simp
             with_reducible rfl
            rotate_left
            ·simp only [Act.put, List.setIfInBounds_toArray, List.set_cons_zero, List.set_cons_succ, i64_w, i32_w]
             rfl
            refine pure_ (i := 7) (N := some 59) (v := ?_) (a' := ?_) #[false, true, false, true, true, true, true, true, false, false, false, false] rfl rfl (any_of HT_.out (by kernel_rfl)) (fun _ _ _ h => h) (Or.inl ⟨by rfl, ?_⟩) ?_ ?_
            rotate_left
            ·intro w'
             go_simp
             with_reducible rfl
            rotate_left
            ·simp only [Act.put, List.setIfInBounds_toArray, List.set_cons_zero, List.set_cons_succ, i64_w, i32_w]
             rfl
            refine pure_ (i := 8) (N := some 60) (v := ?_) (a' := ?_) #[false, true, false, true, true, true, true, true, true, false, false, false] rfl rfl (any_of HT_.out (by kernel_rfl)) (fun _ _ _ h => h) (Or.inl ⟨by rfl, ?_⟩) ?_ ?_
            rotate_left
            ·intro w'
             go_simp
             with_reducible rfl
            rotate_left
            ·simp only [Act.put, List.setIfInBounds_toArray, List.set_cons_zero, List.set_cons_succ, i64_w, i32_w]
             rfl
            refine pure_ (i := 9) (N := some 61) (v := ?_) (a' := ?_) #[false, true, false, true, true, true, true, true, true, true, false, false] rfl rfl (any_of HT_.out (by kernel_rfl)) (fun _ _ _ h => h) (Or.inl ⟨by rfl, ?_⟩) ?_ ?_
            rotate_left
            ·intro w'
             go_simp
             with_reducible rfl
            rotate_left
            ·simp only [Act.put, List.setIfInBounds_toArray, List.set_cons_zero, List.set_cons_succ, i64_w, i32_w]
             rfl
            refine take_ (i := 0) (N := some 52) (v := ?_) (a' := ?_) #[true, true, false, true, true, true, true, true, true, true, false, false] rfl rfl (take_ofW HT_.out HW_.out (by kernel_rfl)) (fun _ _ _ h => h) (Or.inl ⟨by rfl, ?_⟩) hHeld ?_ ?_
            rotate_left
            ·rintro w' ⟨s0, s1, s2⟩
             go_simp
             with_reducible rfl
            rotate_left
            ·simp only [Act.put, List.setIfInBounds_toArray, List.set_cons_zero, List.set_cons_succ, i64_w, i32_w]
             rfl
            refine one_ (i := 2) (N := some 54) #[true, true, true, true, true, true, true, true, true, true, false, false] rfl rfl (one_of HT_.out (by kernel_rfl)) (by decide) (fun K hK => ?_)
            refine goes_ Try.func25 (by kernel_rfl) rfl #[.agg #[.slice Ao16 t386.length co16, .slice Ao19 t389.length co19, .int .i64 t392], .int .i64 x8_2] (by rfl) rfl rfl (by (try simp only [List.map_toArray, List.map_cons, List.map_nil]); first | done | rfl | (simp only [List.length_drop, List.length_take]; rfl)) ?_
            with_reducible refine (impl_HostSee.calls k2 _ _ t386 _ _ t389 t392 x8_2 t398 _ ?side1 ?side2 ?side3 ?side4 A39.out).mono ?_
            (case side1 => repeat (first | exact (Kd.Sr_ HO_395000.out).2.2 | (with_reducible refine Kd.Ca_ ?_ _) | (with_reducible refine Kd.Cn_ ?_ _) | (with_reducible refine Kd.Cw_ ?_)))
            (case side2 => exact (Kd.Sr_ HO_395000.out).2.1)
            (case side3 => repeat (first | exact (Kd.Rr_ HO_395001.out).2.2 | (with_reducible refine Kd.Ca_ ?_ _) | (with_reducible refine Kd.Cn_ ?_ _) | (with_reducible refine Kd.Cw_ ?_)))
            (case side4 => exact (Kd.Rr_ HO_395001.out).2.1)
            rintro e w50 ⟨v399, rfl, ho0, hb⟩
            refine ⟨_, rfl, ?_⟩
            have n0_ := Az.mk (Kd.Q_elder' (by (with_reducible repeat (first | apply Kd.Qa_ | apply Kd.Qn_ | apply Kd.Qw_)); exact HO_3.out) (Kd.S_base ho0) hb)
            have n1_ := Az.mk (Kd.SE_ (by (with_reducible repeat (first | apply Kd.Sa_ | apply Kd.Sn_ | apply Kd.Sw_)); exact HO_386000.out) (Kd.S_base ho0) hb)
            have n2_ := Az.mk (Kd.RE_ (by (with_reducible repeat (first | apply Kd.Ra_ | apply Kd.Rn_ | apply Kd.Rw_)); exact HO_386001.out) (Kd.S_base ho0) hb)
            have n3_ := Az.mk (Kd.SE_ (by (with_reducible repeat (first | apply Kd.Sa_ | apply Kd.Sn_ | apply Kd.Sw_)); exact HO_395000.out) (Kd.S_base ho0) hb)
            have n4_ := Az.mk (Kd.RE_ (by (with_reducible repeat (first | apply Kd.Ra_ | apply Kd.Rn_ | apply Kd.Rw_)); exact HO_395001.out) (Kd.S_base ho0) hb)
            have n5_ := Az.mk (Kd.Sl_ (Kd.S_new' (Kd.S_new' (Kd.S_new' ho0 (Kd.Q_lt (by (with_reducible repeat (first | apply Kd.Qa_ | apply Kd.Qn_ | apply Kd.Qw_)); exact HO_3.out))) (Kd.S_lt (by (with_reducible repeat (first | apply Kd.Sa_ | apply Kd.Sn_ | apply Kd.Sw_)); exact HO_386000.out))) (Kd.S_lt (by (with_reducible repeat (first | apply Kd.Sa_ | apply Kd.Sn_ | apply Kd.Sw_)); exact HO_395000.out))) (Yz (by repeat (first | (with_reducible first | exact HB.out | apply Ya | apply Yn | apply Yw | refine Ys ?_ GE385.out | refine Ys ?_ GE394.out) | exact HB.out))))
            have n6_ := Az.mk (Zb (g := gb385) (o := .cells #[.slice Ao11 t377.length co11, .slice Ao13 t380.length co13, .int .i64 t383] 35 (0, 0)) (by (with_reducible repeat (first | refine Zn ?_ _ | refine Zw ?_ | refine Za ?_ _)); exact BK385.out) hb)
            have n7_ := Az.mk (Zb (g := gb394) (o := .cells #[.slice Ao16 t386.length co16, .slice Ao19 t389.length co19, .int .i64 t392] 35 (0, 0)) (by (with_reducible repeat (first | refine Zn ?_ _ | refine Zw ?_ | refine Za ?_ _)); exact BK394.out) hb)
            have n8_ := Az.mk (Kd.Cb_ (by repeat (first | (with_reducible exact HR404.out) | (with_reducible refine Kd.Ca_ ?_ _) | (with_reducible refine Kd.Cn_ ?_ _) | (with_reducible refine Kd.Cw_ ?_) | exact HR404.out)) hb)
            have n9_ := Az.mk (Yt (by repeat (first | (with_reducible first | exact HB.out | apply Ya | apply Yn | apply Yw | refine Ys ?_ GE385.out | refine Ys ?_ GE394.out) | exact HB.out)) hb)
            clear HO_3
            clear HO_386000
            clear HO_386001
            clear HO_395000
            clear HO_395001
            clear BK385
            clear BK394
            clear HR404
            clear HB
            have HO_3 := n0_
            have HO_386000 := n1_
            have HO_386001 := n2_
            have HO_395000 := n3_
            have HO_395001 := n4_
            have HO400 := n5_
            have BK385 := n6_
            have BK394 := n7_
            have HR404 := n8_
            have HB := n9_
            clear n0_ n1_ n2_ n3_ n4_ n5_ n6_ n7_ n8_ n9_
            (try clear hb)
            (try clear hb2)
            (try clear hk)
            (try clear hi)
            (try clear ho0)
            obtain ⟨Ao51, co51, eo51⟩ := Kd.Ss_ HO400.out
            (first | subst eo51 | (injection eo51 with f1_ f2_ f3_; have f4_ := f1_.symm; have f5_ := f3_.symm; clear f1_ f2_ f3_; subst f4_; subst f5_))
            refine hK.out _ _ ⟨(Zc BK394.out 0).trans rfl, (Zc BK394.out 1).trans rfl, (Zc BK394.out 2).trans rfl⟩ (fun hHeld => ?_)
            clear hK K
            refine norm_ (a' := ?_) ?_ ?_
            rotate_left
            ·show Act.put _ (some 54) _ = _
             simp only [Act.put, List.setIfInBounds_toArray, List.set_cons_zero, List.set_cons_succ, i64_w, i32_w]
             rfl
            refine one_ (i := 10) (N := some 62) #[true, true, true, true, true, true, true, true, true, true, true, false] rfl rfl (one_of HT_.out (by kernel_rfl)) (by decide) (fun K hK => ?_)
            refine goes_ Try.func17 (by kernel_rfl) rfl #[.slice Ao51 t398.length co51, .slice A49 y401.length c49] (by rfl) rfl rfl (by (try simp only [List.map_toArray, List.map_cons, List.map_nil]); first | done | rfl | (simp only [List.length_drop, List.length_take]; rfl)) ?_
            with_reducible refine (laws_lkMem.calls k2 _ _ t398 _ _ y401 true _ ?side1 ?side2 ?side3 ?side4 A44.out).mono ?_
            (case side1 => repeat (first | exact (Kd.Sr_ HO400.out).2.2 | (with_reducible refine Kd.Ca_ ?_ _) | (with_reducible refine Kd.Cn_ ?_ _) | (with_reducible refine Kd.Cw_ ?_)))
            (case side2 => exact (Kd.Sr_ HO400.out).2.1)
            (case side3 => repeat (first | exact (by repeat (first | (with_reducible exact HR404.out) | (with_reducible refine Kd.Ca_ ?_ _) | (with_reducible refine Kd.Cn_ ?_ _) | (with_reducible refine Kd.Cw_ ?_) | exact HR404.out)) | (with_reducible refine Kd.Ca_ ?_ _) | (with_reducible refine Kd.Cn_ ?_ _) | (with_reducible refine Kd.Cw_ ?_)))
            (case side4 => exact HC404.out)
            rintro e w' ⟨rfl, ⟨nd, rfl⟩⟩
            refine ⟨_, rfl, ?_⟩
            refine hK.out _ _ ⟨(Zc BK394.out 0).trans rfl, (Zc BK394.out 1).trans rfl, (Zc BK394.out 2).trans rfl⟩ (fun hHeld => ?_)
            clear hK K
            refine norm_ (a' := ?_) ?_ ?_
            rotate_left
            ·show Act.put _ (some 62) _ = _
             simp only [Act.put, List.setIfInBounds_toArray, List.set_cons_zero, List.set_cons_succ, i64_w, i32_w]
             rfl
            refine pure_ (i := 11) (N := some 63) (v := ?_) (a' := ?_) #[true, true, true, true, true, true, true, true, true, true, true, true] rfl rfl (any_of HT_.out (by kernel_rfl)) (fun _ _ _ h => h) (Or.inl ⟨by rfl, ?_⟩) ?_ ?_
            rotate_left
            ·intro w'
             go_simp
             with_reducible rfl
            rotate_left
            ·simp only [Act.put, List.setIfInBounds_toArray, List.set_cons_zero, List.set_cons_succ, i64_w, i32_w]
             rfl
            refine done_ (done_of HT_.out (by kernel_rfl)) ?_
            try go_wp2
            go_roundg k2
            case measure => have := HJ5.out; have := HK2.out; omega
            case rel => exact ⟨(wrap64 (x8_2 + 1)), (by first | rfl | (simp; done) | (simp [*]; done)), H', ⟨by have := HJ5.out; have := HK2.out; omega⟩, ⟨by (with_reducible repeat (first | apply Kd.Qa_ | apply Kd.Qn_ | apply Kd.Qw_)); exact Kd.Qm_ HO_3.out (fun _ hk => ⟨hk.1.1, hk.1.2⟩)⟩, ⟨by (with_reducible repeat (first | apply Kd.Sa_ | apply Kd.Sn_ | apply Kd.Sw_)); exact Kd.Sm_ HO_386000.out (fun _ hk => ⟨hk.1.1, hk.1.2⟩)⟩, ⟨by (with_reducible repeat (first | apply Kd.Ra_ | apply Kd.Rn_ | apply Kd.Rw_)); exact Kd.Rm_ HO_386001.out (fun _ hk => ⟨hk.1.1, ⟨hk.1.2.1, ⟨hk.1.2.2.1, hk.1.2.2.2⟩⟩⟩)⟩, ⟨by (with_reducible repeat (first | apply Kd.Sa_ | apply Kd.Sn_ | apply Kd.Sw_)); exact Kd.Sm_ HO_395000.out (fun _ hk => ⟨hk.1.1, hk.1.2⟩)⟩, ⟨by (with_reducible repeat (first | apply Kd.Ra_ | apply Kd.Rn_ | apply Kd.Rw_)); exact Kd.Rm_ HO_395001.out (fun _ hk => ⟨hk.1.1, ⟨hk.1.2.1, ⟨hk.1.2.2.1, hk.1.2.2.2⟩⟩⟩)⟩, ⟨by (with_reducible repeat (first | refine Zn ?_ _ | refine Zw ?_ | refine Za ?_ _)); exact BK385.out⟩, ⟨by (with_reducible repeat (first | refine Zn ?_ _ | refine Zw ?_ | refine Za ?_ _)); exact BK394.out⟩, ⟨by repeat (first | (with_reducible first | exact HB.out | apply Ya | apply Yn | apply Yw | refine Ys ?_ GE385.out | refine Ys ?_ GE394.out) | exact HB.out)⟩⟩
           ·replace c45 := Bool.eq_false_iff.mpr c45
            subst c45
            have H1 : (some false) = some r := by rw [if_neg (show ¬ (false = true) by decide)] at H; exact H
            clear H
            have H := H1
            clear H1
            obtain rfl := Option.some.inj H
            have hnb52 := NB394_385.out
            have hnc52 := NB385_394.out
            have hcz53_0 : wr.cell? ⟨gb394, 0, none⟩ = some (.slice Ao16 t386.length co16) := (Zc BK394.out 0).trans rfl
            have hcz53_1 : wr.cell? ⟨gb394, 1, none⟩ = some (.slice Ao19 t389.length co19) := (Zc BK394.out 1).trans rfl
            have hcz53_2 : wr.cell? ⟨gb394, 2, none⟩ = some (.int .i64 t392) := (Zc BK394.out 2).trans rfl
            have hfz53_0 := Zf BK394.out 0
            have hfz53_1 := Zf BK394.out 1
            have hfz53_2 := Zf BK394.out 2
            try go_wp2
            have n0_ := Az.mk (Kd.Qw_ HO_3.out)
            have n1_ := Az.mk (Kd.Sw_ HO_386000.out)
            have n2_ := Az.mk (Kd.Rw_ HO_386001.out)
            have n3_ := Az.mk (Kd.Sw_ HO_395000.out)
            have n4_ := Az.mk (Kd.Rw_ HO_395001.out)
            have n5_ := Az.mk (Zw BK385.out)
            have n6_ := Az.mk (Zw BK394.out)
            have n7_ := Az.mk (Yw HB.out)
            clear HO_3
            clear HO_386000
            clear HO_386001
            clear HO_395000
            clear HO_395001
            clear BK385
            clear BK394
            clear HB
            have HO_3 := n0_
            have HO_386000 := n1_
            have HO_386001 := n2_
            have HO_395000 := n3_
            have HO_395001 := n4_
            have BK385 := n5_
            have BK394 := n6_
            have HB := n7_
            clear n0_ n1_ n2_ n3_ n4_ n5_ n6_ n7_
            have q55 : ((wrap64 ((wrap64 (x8_2 + 1)) * 6)) : Int) ≤ ((t374.length : Int) : Int) := of_decide_eq_true (by first | (with_reducible assumption) | assumption)
            obtain ⟨i055, hi055, _, hsz55, _⟩ := info_parts info45
            have hroom55 : t374.length ≤ co8 := (Kd.Q_reads' HO_3.out).2.1
            have hC55 : Kd.C (Kd.slice 3 (Kd.int .i64)) _ Ao8 t374.length t374 := (Kd.Q_reads' HO_3.out).2.2
            have ql55 : ((ji40) : Int) ≤ ((wrap64 ((wrap64 (x8_2 + 1)) * 6)) : Int) := of_decide_eq_true (by first | (with_reducible assumption) | assumption)
            have q055 : (0 : Int) ≤ ((ji40) : Int) := of_decide_eq_true (by first | (with_reducible assumption) | assumption)
            have hcut55 := cut_mid (P := Try.prog) 23 45 .i64 .i64 Try.underlying23 hi055 1 hsz55 Ao8 t374.length co8 (ji40) (wrap64 ((wrap64 (x8_2 + 1)) * 6)) q055 ql55 q55 hroom55
            have hr55 := Kd.C_mid (lo := ((ji40) : Int).toNat) (hi := ((wrap64 ((wrap64 (x8_2 + 1)) * 6)) : Int).toNat) (c := co8) hC55 (by omega) (by omega) hroom55
            obtain ⟨A55, hA55⟩ : ∃ A1, A1 = (if co8 = ((ji40) : Int).toNat then Ao8 else (Ao8 : Option Addr).map (·.add (((ji40) : Int).toNat * 1))) := ⟨_, rfl⟩
            obtain ⟨c55, hc55⟩ : ∃ c1, c1 = co8 - ((ji40) : Int).toNat := ⟨_, rfl⟩
            have hy55 : y401.length = ((wrap64 ((wrap64 (x8_2 + 1)) * 6)) : Int).toNat - ((ji40) : Int).toNat := (by rw [Ny401.out, List.length_drop, List.length_take] <;> omega)
            rw [show ((t374).take ((wrap64 ((wrap64 (x8_2 + 1)) * 6)) : Int).toNat).drop ((ji40) : Int).toNat = y401 from Ny401.out.symm] at hr55
            replace hr55 : Kd.C (Kd.slice 3 (Kd.int .i64)) _ A55 y401.length y401 := (by rw [hA55]; exact hr55)
            rw [← hy55, ← hA55, ← hc55] at hcut55
            have HR404 := Az.mk hr55
            have HC404 := Az.mk (show y401.length ≤ c55 from by rw [hy55, hc55]; exact Nat.sub_le_sub_right (Nat.le_trans (by omega) hroom55) _)
            clear hr55 hC55 hroom55 hi055 hsz55 hc55
            have KY55 := Az.mk hy55
            have KA55 := Az.mk hA55
            clear hy55 hA55
            have KL55 := Az.mk (show ((wrap64 ((wrap64 (x8_2 + 1)) * 6)) : Int).toNat ≤ t374.length from by omega)
            have KM55 := Az.mk (show ((ji40) : Int).toNat ≤ ((wrap64 ((wrap64 (x8_2 + 1)) * 6)) : Int).toNat from by omega)
            replace q55 := eq_true q55
            refine start_ (n := 12) (S := fun w' => w'.cell? ⟨gb394, 0, none⟩ = some (.slice Ao16 t386.length co16) ∧ w'.cell? ⟨gb394, 1, none⟩ = some (.slice Ao19 t389.length co19) ∧ w'.cell? ⟨gb394, 2, none⟩ = some (.int .i64 t392)) (ds := []) #[false, false, false, false, false, false, false, false, false, false, false, false] (by kernel_rfl) rfl rfl ⟨(Zc BK394.out 0).trans rfl, (Zc BK394.out 1).trans rfl, (Zc BK394.out 2).trans rfl⟩ (fun hHeld => ?_); refine with_tabW laws_FnHostLoad.tab11 laws_FnHostLoad.bits11 (fun HT_ HW_ => ?_)
            generalize wr.drew = w54 at HO_3 HO_386000 HO_386001 HO_395000 HO_395001 BK385 BK394 HB HR404 hHeld ⊢
            refine pure_ (i := 1) (N := some 53) (v := ?_) (a' := ?_) #[false, true, false, false, false, false, false, false, false, false, false, false] rfl rfl (any_of HT_.out (by kernel_rfl)) (fun _ _ _ h => h) (Or.inl ⟨by rfl, ?_⟩) ?_ ?_
            rotate_left
            ·intro w'
             go_simp
             with_reducible rfl
            rotate_left
            ·simp only [Act.put, List.setIfInBounds_toArray, List.set_cons_zero, List.set_cons_succ, i64_w, i32_w]
             rfl
            refine pure_ (i := 3) (N := some 55) (v := ?_) (a' := ?_) #[false, true, false, true, false, false, false, false, false, false, false, false] rfl rfl (any_of HT_.out (by kernel_rfl)) (fun _ _ _ h => h) (Or.inl ⟨by rfl, ?_⟩) ?_ ?_
            rotate_left
            ·intro w'
             go_simp
             with_reducible rfl
            rotate_left
            ·simp only [Act.put, List.setIfInBounds_toArray, List.set_cons_zero, List.set_cons_succ, i64_w, i32_w]
             rfl
            refine pure_ (i := 4) (N := some 56) (v := ?_) (a' := ?_) #[false, true, false, true, true, false, false, false, false, false, false, false] rfl rfl (any_of HT_.out (by kernel_rfl)) (fun _ _ _ h => h) (Or.inl ⟨by rfl, ?_⟩) ?_ ?_
            rotate_left
            ·intro w'
             go_simp
             with_reducible rfl
            rotate_left
            ·simp only [Act.put, List.setIfInBounds_toArray, List.set_cons_zero, List.set_cons_succ, i64_w, i32_w]
             rfl
            refine pure_ (i := 5) (N := some 57) (v := ?_) (a' := ?_) #[false, true, false, true, true, true, false, false, false, false, false, false] rfl rfl (any_of HT_.out (by kernel_rfl)) (fun _ _ _ h => h) (Or.inl ⟨by rfl, ?_⟩) ?_ ?_
            rotate_left
            ·intro w'
             go_simp
             with_reducible rfl
            rotate_left
            ·simp only [Act.put, List.setIfInBounds_toArray, List.set_cons_zero, List.set_cons_succ, i64_w, i32_w]
             rfl
            refine pure_ (i := 6) (N := some 58) (v := ?_) (a' := ?_) #[false, true, false, true, true, true, true, false, false, false, false, false] rfl rfl (any_of HT_.out (by kernel_rfl)) (fun _ _ _ h => h) (Or.inl ⟨by rfl, ?_⟩) ?_ ?_
            rotate_left
            ·intro w'
             go_simp
             with_reducible rfl
            rotate_left
            ·simp only [Act.put, List.setIfInBounds_toArray, List.set_cons_zero, List.set_cons_succ, i64_w, i32_w]
             rfl
            refine pure_ (i := 7) (N := some 59) (v := ?_) (a' := ?_) #[false, true, false, true, true, true, true, true, false, false, false, false] rfl rfl (any_of HT_.out (by kernel_rfl)) (fun _ _ _ h => h) (Or.inl ⟨by rfl, ?_⟩) ?_ ?_
            rotate_left
            ·intro w'
             go_simp
             with_reducible rfl
            rotate_left
            ·simp only [Act.put, List.setIfInBounds_toArray, List.set_cons_zero, List.set_cons_succ, i64_w, i32_w]
             rfl
            refine pure_ (i := 8) (N := some 60) (v := ?_) (a' := ?_) #[false, true, false, true, true, true, true, true, true, false, false, false] rfl rfl (any_of HT_.out (by kernel_rfl)) (fun _ _ _ h => h) (Or.inl ⟨by rfl, ?_⟩) ?_ ?_
            rotate_left
            ·intro w'
             go_simp
             with_reducible rfl
            rotate_left
            ·simp only [Act.put, List.setIfInBounds_toArray, List.set_cons_zero, List.set_cons_succ, i64_w, i32_w]
             rfl
            refine pure_ (i := 9) (N := some 61) (v := ?_) (a' := ?_) #[false, true, false, true, true, true, true, true, true, true, false, false] rfl rfl (any_of HT_.out (by kernel_rfl)) (fun _ _ _ h => h) (Or.inl ⟨by rfl, ?_⟩) ?_ ?_
            rotate_left
            ·intro w'
             go_simp
             with_reducible rfl
            rotate_left
            ·simp only [Act.put, List.setIfInBounds_toArray, List.set_cons_zero, List.set_cons_succ, i64_w, i32_w]
             rfl
            refine take_ (i := 0) (N := some 52) (v := ?_) (a' := ?_) #[true, true, false, true, true, true, true, true, true, true, false, false] rfl rfl (take_ofW HT_.out HW_.out (by kernel_rfl)) (fun _ _ _ h => h) (Or.inl ⟨by rfl, ?_⟩) hHeld ?_ ?_
            rotate_left
            ·rintro w' ⟨s0, s1, s2⟩
             go_simp
             with_reducible rfl
            rotate_left
            ·simp only [Act.put, List.setIfInBounds_toArray, List.set_cons_zero, List.set_cons_succ, i64_w, i32_w]
             rfl
            refine one_ (i := 2) (N := some 54) #[true, true, true, true, true, true, true, true, true, true, false, false] rfl rfl (one_of HT_.out (by kernel_rfl)) (by decide) (fun K hK => ?_)
            refine goes_ Try.func25 (by kernel_rfl) rfl #[.agg #[.slice Ao16 t386.length co16, .slice Ao19 t389.length co19, .int .i64 t392], .int .i64 x8_2] (by rfl) rfl rfl (by (try simp only [List.map_toArray, List.map_cons, List.map_nil]); first | done | rfl | (simp only [List.length_drop, List.length_take]; rfl)) ?_
            with_reducible refine (impl_HostSee.calls k2 _ _ t386 _ _ t389 t392 x8_2 t398 _ ?side1 ?side2 ?side3 ?side4 A39.out).mono ?_
            (case side1 => repeat (first | exact (Kd.Sr_ HO_395000.out).2.2 | (with_reducible refine Kd.Ca_ ?_ _) | (with_reducible refine Kd.Cn_ ?_ _) | (with_reducible refine Kd.Cw_ ?_)))
            (case side2 => exact (Kd.Sr_ HO_395000.out).2.1)
            (case side3 => repeat (first | exact (Kd.Rr_ HO_395001.out).2.2 | (with_reducible refine Kd.Ca_ ?_ _) | (with_reducible refine Kd.Cn_ ?_ _) | (with_reducible refine Kd.Cw_ ?_)))
            (case side4 => exact (Kd.Rr_ HO_395001.out).2.1)
            rintro e w56 ⟨v399, rfl, ho0, hb⟩
            refine ⟨_, rfl, ?_⟩
            have n0_ := Az.mk (Kd.Q_elder' (by (with_reducible repeat (first | apply Kd.Qa_ | apply Kd.Qn_ | apply Kd.Qw_)); exact HO_3.out) (Kd.S_base ho0) hb)
            have n1_ := Az.mk (Kd.SE_ (by (with_reducible repeat (first | apply Kd.Sa_ | apply Kd.Sn_ | apply Kd.Sw_)); exact HO_386000.out) (Kd.S_base ho0) hb)
            have n2_ := Az.mk (Kd.RE_ (by (with_reducible repeat (first | apply Kd.Ra_ | apply Kd.Rn_ | apply Kd.Rw_)); exact HO_386001.out) (Kd.S_base ho0) hb)
            have n3_ := Az.mk (Kd.SE_ (by (with_reducible repeat (first | apply Kd.Sa_ | apply Kd.Sn_ | apply Kd.Sw_)); exact HO_395000.out) (Kd.S_base ho0) hb)
            have n4_ := Az.mk (Kd.RE_ (by (with_reducible repeat (first | apply Kd.Ra_ | apply Kd.Rn_ | apply Kd.Rw_)); exact HO_395001.out) (Kd.S_base ho0) hb)
            have n5_ := Az.mk (Kd.Sl_ (Kd.S_new' (Kd.S_new' (Kd.S_new' ho0 (Kd.Q_lt (by (with_reducible repeat (first | apply Kd.Qa_ | apply Kd.Qn_ | apply Kd.Qw_)); exact HO_3.out))) (Kd.S_lt (by (with_reducible repeat (first | apply Kd.Sa_ | apply Kd.Sn_ | apply Kd.Sw_)); exact HO_386000.out))) (Kd.S_lt (by (with_reducible repeat (first | apply Kd.Sa_ | apply Kd.Sn_ | apply Kd.Sw_)); exact HO_395000.out))) (Yz (by repeat (first | (with_reducible first | exact HB.out | apply Ya | apply Yn | apply Yw | refine Ys ?_ GE385.out | refine Ys ?_ GE394.out) | exact HB.out))))
            have n6_ := Az.mk (Zb (g := gb385) (o := .cells #[.slice Ao11 t377.length co11, .slice Ao13 t380.length co13, .int .i64 t383] 35 (0, 0)) (by (with_reducible repeat (first | refine Zn ?_ _ | refine Zw ?_ | refine Za ?_ _)); exact BK385.out) hb)
            have n7_ := Az.mk (Zb (g := gb394) (o := .cells #[.slice Ao16 t386.length co16, .slice Ao19 t389.length co19, .int .i64 t392] 35 (0, 0)) (by (with_reducible repeat (first | refine Zn ?_ _ | refine Zw ?_ | refine Za ?_ _)); exact BK394.out) hb)
            have n8_ := Az.mk (Kd.Cb_ (by repeat (first | (with_reducible exact HR404.out) | (with_reducible refine Kd.Ca_ ?_ _) | (with_reducible refine Kd.Cn_ ?_ _) | (with_reducible refine Kd.Cw_ ?_) | exact HR404.out)) hb)
            have n9_ := Az.mk (Yt (by repeat (first | (with_reducible first | exact HB.out | apply Ya | apply Yn | apply Yw | refine Ys ?_ GE385.out | refine Ys ?_ GE394.out) | exact HB.out)) hb)
            clear HO_3
            clear HO_386000
            clear HO_386001
            clear HO_395000
            clear HO_395001
            clear BK385
            clear BK394
            clear HR404
            clear HB
            have HO_3 := n0_
            have HO_386000 := n1_
            have HO_386001 := n2_
            have HO_395000 := n3_
            have HO_395001 := n4_
            have HO400 := n5_
            have BK385 := n6_
            have BK394 := n7_
            have HR404 := n8_
            have HB := n9_
            clear n0_ n1_ n2_ n3_ n4_ n5_ n6_ n7_ n8_ n9_
            (try clear hb)
            (try clear hb2)
            (try clear hk)
            (try clear hi)
            (try clear ho0)
            obtain ⟨Ao57, co57, eo57⟩ := Kd.Ss_ HO400.out
            (first | subst eo57 | (injection eo57 with f1_ f2_ f3_; have f4_ := f1_.symm; have f5_ := f3_.symm; clear f1_ f2_ f3_; subst f4_; subst f5_))
            refine hK.out _ _ ⟨(Zc BK394.out 0).trans rfl, (Zc BK394.out 1).trans rfl, (Zc BK394.out 2).trans rfl⟩ (fun hHeld => ?_)
            clear hK K
            refine norm_ (a' := ?_) ?_ ?_
            rotate_left
            ·show Act.put _ (some 54) _ = _
             simp only [Act.put, List.setIfInBounds_toArray, List.set_cons_zero, List.set_cons_succ, i64_w, i32_w]
             rfl
            refine one_ (i := 10) (N := some 62) #[true, true, true, true, true, true, true, true, true, true, true, false] rfl rfl (one_of HT_.out (by kernel_rfl)) (by decide) (fun K hK => ?_)
            refine goes_ Try.func17 (by kernel_rfl) rfl #[.slice Ao57 t398.length co57, .slice A55 y401.length c55] (by rfl) rfl rfl (by (try simp only [List.map_toArray, List.map_cons, List.map_nil]); first | done | rfl | (simp only [List.length_drop, List.length_take]; rfl)) ?_
            with_reducible refine (laws_lkMem.calls k2 _ _ t398 _ _ y401 false _ ?side1 ?side2 ?side3 ?side4 A44.out).mono ?_
            (case side1 => repeat (first | exact (Kd.Sr_ HO400.out).2.2 | (with_reducible refine Kd.Ca_ ?_ _) | (with_reducible refine Kd.Cn_ ?_ _) | (with_reducible refine Kd.Cw_ ?_)))
            (case side2 => exact (Kd.Sr_ HO400.out).2.1)
            (case side3 => repeat (first | exact (by repeat (first | (with_reducible exact HR404.out) | (with_reducible refine Kd.Ca_ ?_ _) | (with_reducible refine Kd.Cn_ ?_ _) | (with_reducible refine Kd.Cw_ ?_) | exact HR404.out)) | (with_reducible refine Kd.Ca_ ?_ _) | (with_reducible refine Kd.Cn_ ?_ _) | (with_reducible refine Kd.Cw_ ?_)))
            (case side4 => exact HC404.out)
            rintro e w' ⟨rfl, ⟨nd, rfl⟩⟩
            refine ⟨_, rfl, ?_⟩
            refine hK.out _ _ ⟨(Zc BK394.out 0).trans rfl, (Zc BK394.out 1).trans rfl, (Zc BK394.out 2).trans rfl⟩ (fun hHeld => ?_)
            clear hK K
            refine norm_ (a' := ?_) ?_ ?_
            rotate_left
            ·show Act.put _ (some 62) _ = _
             simp only [Act.put, List.setIfInBounds_toArray, List.set_cons_zero, List.set_cons_succ, i64_w, i32_w]
             rfl
            refine pure_ (i := 11) (N := some 63) (v := ?_) (a' := ?_) #[true, true, true, true, true, true, true, true, true, true, true, true] rfl rfl (any_of HT_.out (by kernel_rfl)) (fun _ _ _ h => h) (Or.inl ⟨by rfl, ?_⟩) ?_ ?_
            rotate_left
            ·intro w'
             go_simp
             with_reducible rfl
            rotate_left
            ·simp only [Act.put, List.setIfInBounds_toArray, List.set_cons_zero, List.set_cons_succ, i64_w, i32_w]
             rfl
            refine done_ (done_of HT_.out (by kernel_rfl)) ?_
            try go_wp2
            go_ret
            exact ⟨by first | rfl | (simp [errW_none, errW_some] <;> rfl) | (simp only [← hji40]; first | rfl | (simp [errW_none, errW_some] <;> rfl)) | (simp [*, errW_none, errW_some] <;> rfl), by repeat (first | (with_reducible first | exact HB.out | apply Ya | apply Yn | apply Yw | refine Ys ?_ GE385.out | refine Ys ?_ GE394.out) | exact HB.out)⟩
          ·rw [if_neg c43] at H
           exact absurd H (by simp)
         ·rw [if_neg c42] at H
          exact absurd H (by simp)
        ·rw [if_neg c41] at H
         exact absurd H (by simp)
       ·rw [if_neg c38] at H
        have c38b0 : decide (x8_2 < (t389.length : Int)) = false := decide_eq_false c38
        clear c38
        replace H := Option.bind_eq_some_iff.mp H
        obtain ⟨t397, A580, H⟩ := H
        replace H : (if t397 = true then (some ((wrap64 ((t389.length : Int) * 6)) == (t374.length : Int))) else (some false)) = some r := H
        have A58 := Az.mk A580
        clear A580
        by_cases c59 : t397 = true
        ·subst c59
         have H1 : (some ((wrap64 ((t389.length : Int) * 6)) == (t374.length : Int))) = some r := by rw [if_pos rfl] at H; exact H
         clear H
         have H := H1
         clear H1
         obtain rfl := Option.some.inj H
         have hnb60 := NB394_385.out
         have hnc60 := NB385_394.out
         have hcz61_0 : wr.cell? ⟨gb394, 0, none⟩ = some (.slice Ao16 t386.length co16) := (Zc BK394.out 0).trans rfl
         have hcz61_1 : wr.cell? ⟨gb394, 1, none⟩ = some (.slice Ao19 t389.length co19) := (Zc BK394.out 1).trans rfl
         have hcz61_2 : wr.cell? ⟨gb394, 2, none⟩ = some (.int .i64 t392) := (Zc BK394.out 2).trans rfl
         have hfz61_0 := Zf BK394.out 0
         have hfz61_1 := Zf BK394.out 1
         have hfz61_2 := Zf BK394.out 2
         go_wp2_with (first | ((with_reducible refine Yc (f := 27) rfl ?_); refine Yg (some 65) rfl rfl Try.func27 (by kernel_rfl) rfl #[.agg #[.slice Ao16 t386.length co16, .slice Ao19 t389.length co19, .int .i64 t392]] rfl (by (try simp only [List.map_toArray, List.map_cons, List.map_nil]); first | done | rfl | (simp only [List.length_drop, List.length_take]; rfl)) ?_; (with_reducible refine (impl_HostOk.calls k2 _ _ t386 _ _ t389 t392 true _ ?side1 ?side2 ?side3 ?side4 A58.out).mono ?_); (case side1 => repeat (first | exact (Kd.Sr_ HO_395000.out).2.2 | (with_reducible refine Kd.Ca_ ?_ _) | (with_reducible refine Kd.Cn_ ?_ _) | (with_reducible refine Kd.Cw_ ?_))); (case side2 => exact (Kd.Sr_ HO_395000.out).2.1); (case side3 => repeat (first | exact (Kd.Rr_ HO_395001.out).2.2 | (with_reducible refine Kd.Ca_ ?_ _) | (with_reducible refine Kd.Cn_ ?_ _) | (with_reducible refine Kd.Cw_ ?_))); (case side4 => exact (Kd.Rr_ HO_395001.out).2.1); rintro e w62 ⟨rfl, hb⟩; refine ⟨_, rfl, ?_⟩; have n0_ := Az.mk (Kd.Q_below (by (with_reducible repeat (first | apply Kd.Qa_ | apply Kd.Qn_ | apply Kd.Qw_)); exact HO_3.out) hb); have n1_ := Az.mk (Kd.Sb_ (by (with_reducible repeat (first | apply Kd.Sa_ | apply Kd.Sn_ | apply Kd.Sw_)); exact HO_386000.out) hb); have n2_ := Az.mk (Kd.Rb_ (by (with_reducible repeat (first | apply Kd.Ra_ | apply Kd.Rn_ | apply Kd.Rw_)); exact HO_386001.out) hb); have n3_ := Az.mk (Kd.Sb_ (by (with_reducible repeat (first | apply Kd.Sa_ | apply Kd.Sn_ | apply Kd.Sw_)); exact HO_395000.out) hb); have n4_ := Az.mk (Kd.Rb_ (by (with_reducible repeat (first | apply Kd.Ra_ | apply Kd.Rn_ | apply Kd.Rw_)); exact HO_395001.out) hb); have n5_ := Az.mk (Zb (g := gb385) (o := .cells #[.slice Ao11 t377.length co11, .slice Ao13 t380.length co13, .int .i64 t383] 35 (0, 0)) (by (with_reducible repeat (first | refine Zn ?_ _ | refine Zw ?_ | refine Za ?_ _)); exact BK385.out) hb); have n6_ := Az.mk (Zb (g := gb394) (o := .cells #[.slice Ao16 t386.length co16, .slice Ao19 t389.length co19, .int .i64 t392] 35 (0, 0)) (by (with_reducible repeat (first | refine Zn ?_ _ | refine Zw ?_ | refine Za ?_ _)); exact BK394.out) hb); have n7_ := Az.mk (Yt (by repeat (first | (with_reducible first | exact HB.out | apply Ya | apply Yn | apply Yw | refine Ys ?_ GE385.out | refine Ys ?_ GE394.out) | exact HB.out)) hb); clear HO_3; clear HO_386000; clear HO_386001; clear HO_395000; clear HO_395001; clear BK385; clear BK394; clear HB; have HO_3 := n0_; have HO_386000 := n1_; have HO_386001 := n2_; have HO_395000 := n3_; have HO_395001 := n4_; have BK385 := n5_; have BK394 := n6_; have HB := n7_; clear n0_ n1_ n2_ n3_ n4_ n5_ n6_ n7_; (try clear hb); (try clear hb2); (try clear hk); (try clear hi); have hcz63_0 : w62.cell? ⟨gb394, 0, none⟩ = some (.slice Ao16 t386.length co16) := (Zc BK394.out 0).trans rfl; have hcz63_1 : w62.cell? ⟨gb394, 1, none⟩ = some (.slice Ao19 t389.length co19) := (Zc BK394.out 1).trans rfl; have hcz63_2 : w62.cell? ⟨gb394, 2, none⟩ = some (.int .i64 t392) := (Zc BK394.out 2).trans rfl; have hfz63_0 := Zf BK394.out 0; have hfz63_1 := Zf BK394.out 1; have hfz63_2 := Zf BK394.out 2))
         go_ret
         exact ⟨by first | rfl | (simp [errW_none, errW_some] <;> rfl) | (simp [*, errW_none, errW_some] <;> rfl), by repeat (first | (with_reducible first | exact HB.out | apply Ya | apply Yn | apply Yw | refine Ys ?_ GE385.out | refine Ys ?_ GE394.out) | exact HB.out)⟩
        ·replace c59 := Bool.eq_false_iff.mpr c59
         subst c59
         have H1 : (some false) = some r := by rw [if_neg (show ¬ (false = true) by decide)] at H; exact H
         clear H
         have H := H1
         clear H1
         obtain rfl := Option.some.inj H
         have hnb64 := NB394_385.out
         have hnc64 := NB385_394.out
         have hcz65_0 : wr.cell? ⟨gb394, 0, none⟩ = some (.slice Ao16 t386.length co16) := (Zc BK394.out 0).trans rfl
         have hcz65_1 : wr.cell? ⟨gb394, 1, none⟩ = some (.slice Ao19 t389.length co19) := (Zc BK394.out 1).trans rfl
         have hcz65_2 : wr.cell? ⟨gb394, 2, none⟩ = some (.int .i64 t392) := (Zc BK394.out 2).trans rfl
         have hfz65_0 := Zf BK394.out 0
         have hfz65_1 := Zf BK394.out 1
         have hfz65_2 := Zf BK394.out 2
         go_wp2_with (first | ((with_reducible refine Yc (f := 27) rfl ?_); refine Yg (some 65) rfl rfl Try.func27 (by kernel_rfl) rfl #[.agg #[.slice Ao16 t386.length co16, .slice Ao19 t389.length co19, .int .i64 t392]] rfl (by (try simp only [List.map_toArray, List.map_cons, List.map_nil]); first | done | rfl | (simp only [List.length_drop, List.length_take]; rfl)) ?_; (with_reducible refine (impl_HostOk.calls k2 _ _ t386 _ _ t389 t392 false _ ?side1 ?side2 ?side3 ?side4 A58.out).mono ?_); (case side1 => repeat (first | exact (Kd.Sr_ HO_395000.out).2.2 | (with_reducible refine Kd.Ca_ ?_ _) | (with_reducible refine Kd.Cn_ ?_ _) | (with_reducible refine Kd.Cw_ ?_))); (case side2 => exact (Kd.Sr_ HO_395000.out).2.1); (case side3 => repeat (first | exact (Kd.Rr_ HO_395001.out).2.2 | (with_reducible refine Kd.Ca_ ?_ _) | (with_reducible refine Kd.Cn_ ?_ _) | (with_reducible refine Kd.Cw_ ?_))); (case side4 => exact (Kd.Rr_ HO_395001.out).2.1); rintro e w66 ⟨rfl, hb⟩; refine ⟨_, rfl, ?_⟩; have n0_ := Az.mk (Kd.Q_below (by (with_reducible repeat (first | apply Kd.Qa_ | apply Kd.Qn_ | apply Kd.Qw_)); exact HO_3.out) hb); have n1_ := Az.mk (Kd.Sb_ (by (with_reducible repeat (first | apply Kd.Sa_ | apply Kd.Sn_ | apply Kd.Sw_)); exact HO_386000.out) hb); have n2_ := Az.mk (Kd.Rb_ (by (with_reducible repeat (first | apply Kd.Ra_ | apply Kd.Rn_ | apply Kd.Rw_)); exact HO_386001.out) hb); have n3_ := Az.mk (Kd.Sb_ (by (with_reducible repeat (first | apply Kd.Sa_ | apply Kd.Sn_ | apply Kd.Sw_)); exact HO_395000.out) hb); have n4_ := Az.mk (Kd.Rb_ (by (with_reducible repeat (first | apply Kd.Ra_ | apply Kd.Rn_ | apply Kd.Rw_)); exact HO_395001.out) hb); have n5_ := Az.mk (Zb (g := gb385) (o := .cells #[.slice Ao11 t377.length co11, .slice Ao13 t380.length co13, .int .i64 t383] 35 (0, 0)) (by (with_reducible repeat (first | refine Zn ?_ _ | refine Zw ?_ | refine Za ?_ _)); exact BK385.out) hb); have n6_ := Az.mk (Zb (g := gb394) (o := .cells #[.slice Ao16 t386.length co16, .slice Ao19 t389.length co19, .int .i64 t392] 35 (0, 0)) (by (with_reducible repeat (first | refine Zn ?_ _ | refine Zw ?_ | refine Za ?_ _)); exact BK394.out) hb); have n7_ := Az.mk (Yt (by repeat (first | (with_reducible first | exact HB.out | apply Ya | apply Yn | apply Yw | refine Ys ?_ GE385.out | refine Ys ?_ GE394.out) | exact HB.out)) hb); clear HO_3; clear HO_386000; clear HO_386001; clear HO_395000; clear HO_395001; clear BK385; clear BK394; clear HB; have HO_3 := n0_; have HO_386000 := n1_; have HO_386001 := n2_; have HO_395000 := n3_; have HO_395001 := n4_; have BK385 := n5_; have BK394 := n6_; have HB := n7_; clear n0_ n1_ n2_ n3_ n4_ n5_ n6_ n7_; (try clear hb); (try clear hb2); (try clear hk); (try clear hi)))
         go_ret
         exact ⟨by first | rfl | (simp [errW_none, errW_some] <;> rfl) | (simp [*, errW_none, errW_some] <;> rfl), by repeat (first | (with_reducible first | exact HB.out | apply Ya | apply Yn | apply Yw | refine Ys ?_ GE385.out | refine Ys ?_ GE394.out) | exact HB.out)⟩

/-- THE ONE PURE STATEMENT of laws_FnHostLoad: yours. -/
def laws_FnHostLoad.Pure : Prop := ∀ (l0 : List Int), l0.length ≤ maxLen → l0.length * 1 ≤ 140737488351232 → (∀ x ∈ l0, (Lit.int .u8 x).wf = true) → ∃ k, laws_FnHostLoad.f k l0 = some true
theorem laws_FnHostLoad.walk (P : laws_FnHostLoad.Pure) (a0 : Option Addr) (len0 cap0 : Nat) (z0 : List Int) (w : World) (w0 : (a0 = none ∧ len0 = 0 ∧ cap0 = 0 ∧ z0 = []) ∨ ∃ x, a0 = some x ∧ len0 ≤ cap0 ∧ cap0 ≤ maxLen ∧ z0.length = cap0 ∧ (∀ i, i < z0.length → w.cell? (x.add i) = some (.int .u8 (z0.getD i 0))) ∧ ∀ n ∈ z0, (Lit.int .u8 n).wf = true) (y0 : len0 * 1 ≤ 140737488351232) :
  Calls Try.prog 7 #[.slice a0 len0 cap0] w fun e w' => e = .returned (.bool true) ∧ Below w.heap.size w w' := by
 obtain ⟨l0, rfl, hr0, hm0, hw0, hc0⟩ := ReadsInt.ofRowC w0
 obtain ⟨k, h⟩ := P l0 hm0 y0 hw0
 refine (laws_FnHostLoad.calls k _ _ l0 true w (Kd.C_of_reads (d := (0 : Int)) (h1 := fun _ => rfl) hr0) hc0 h).mono ?_
 rintro e w' ⟨rfl, hd⟩
 exact ⟨rfl, hd⟩

end Go.Proofs.Ytfamknibfokfmaa.QFnHostLoad
