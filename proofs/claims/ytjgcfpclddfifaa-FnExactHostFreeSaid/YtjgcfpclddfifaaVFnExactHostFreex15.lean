/- Walks of this claim: each Go function that the law reaches comes to what the Lean function beside it says. Conditions: none beyond those that each theorem names. -/
import Derived.Test.YtjgcfpclddfifaaVFnExactHostFreex0
import Derived.Test.YtjgcfpclddfifaaVFnExactHostFreex3
import Derived.Test.YtjgcfpclddfifaaVFnExactHostFreex5
import Derived.Test.YtjgcfpclddfifaaVFnExactHostFreex6
import Derived.Test.YtjgcfpclddfifaaVFnExactHostFreex7
import Derived.Test.YtjgcfpclddfifaaVFnExactHostFreex10
import Derived.Test.YtjgcfpclddfifaaVFnExactHostFreex11
import Derived.Test.YtjgcfpclddfifaaVFnExactHostFreex14
namespace Go.Proofs.Ytjgcfpclddfifaa.QFnExactHostFree
open Go.RowKit Go.Proofs.YtjgcfpclddfifaaW.PrintWords Go.Proofs.YtjgcfpclddfifaaW.PrintLast Go.Proofs.YtjgcfpclddfifaaW.PrintMore
attribute [local go_sem] max2_int min2_int max_two min_two max_three min_three max_four min_four   -- for this text's walks alone
set_option linter.unusedVariables false
set_option linter.unusedSimpArgs false

/-! ### laws_FnExactHostFree: function 6 -/
theorem ivR {α : Type} {d : Kd α} {e : Nat} {w1 : World} {N b0 : Nat} {v : Value} {xs : List α} {ok : Nat → Prop} (ho : d.R e w1 N ok v xs) (h0 : b0 ≤ N) : d.R e w1 b0 (fun k => N ≤ k ∧ k < w1.heap.size) v xs := Kd.Rm_ (Kd.Rl_ (Kd.Rd_ ho) h0) (fun k hk => ⟨hk.2.1, hk.2.2.1⟩)
theorem ivSP {α : Type} {d : Kd α} {e : Nat} {w1 : World} {N b0 : Nat} {v : Value} {xs : List α} {ok : Nat → Prop} (ho : Kd.S d e w1 N ok v xs) (h0 : b0 ≤ N) : Kd.S d e w1 b0 (fun k => (N ≤ k ∧ k < w1.heap.size) ∧ ok k) v xs := Kd.Sm_ (Kd.S_lower (Kd.S_bound ho) h0) (fun k hk => ⟨⟨hk.2.1, hk.2.2.1⟩, hk.1⟩)
theorem kept_put3 (W : World) (g : Nat) (x y z : Value) : Kept W (((W.setCell ⟨g, 0, none⟩ x).setCell ⟨g, 1, none⟩ y).setCell ⟨g, 2, none⟩ z) (fun k => k = g) := by
 refine Kept.setCell (S := fun k => k = g) (p := ⟨g, 2, none⟩) ?_ (.inl rfl) z
 refine Kept.setCell (S := fun k => k = g) (p := ⟨g, 1, none⟩) ?_ (.inl rfl) y
 refine Kept.setCell (S := fun k => k = g) (p := ⟨g, 0, none⟩) ?_ (.inl rfl) x
 exact Kept.refl W _
def laws_FnExactHostFree.f (k : Nat) (l0_0 : List (List Int)) (l0_1 : List (S80)) (a0_2 : Int) : Option Bool := ((laws_szHost.f k l0_0 l0_1 a0_2 1048576).bind fun z1 => (if z1 < 0 then (some true) else ((laws_toHost.f k l0_0 l0_1 a0_2).bind fun z3 => ((spec_HostFree.f k z3.1 z3.2.1 z3.2.2).bind fun z4 => ((laws_toHost.f k l0_0 l0_1 a0_2).bind fun z5 => ((impl_HostFree.f k z5.1 z5.2.1 z5.2.2).bind fun z7 => ((laws_eqIntS.f k z7 z4).bind fun z9 => (if z9 = true then ((laws_toHost.f k l0_0 l0_1 a0_2).bind fun z13 => ((laws_eqHost.f k z5.1 z5.2.1 z5.2.2 z13.1 z13.2.1 z13.2.2).bind fun z14 => (if z14 = true then ((laws_markHost.f k z5.1 z5.2.1 z5.2.2 1).bind fun z16 => (if z16.1 < 0 then (some false) else ((laws_eqIntS.f k z7 z4).bind fun z19 => (if z19 = true then ((laws_markIntS.f k z7 1).bind fun z21 => ((laws_heldIntS.f k z21.2 1).bind fun z22 => (if z22 < 0 then (some false) else (if z22 = z21.1 then ((laws_toHost.f k l0_0 l0_1 a0_2).bind fun z26 => ((impl_HostFree.f k z26.1 z26.2.1 z26.2.2).bind fun z27 => ((laws_eqIntS.f k z27 z4).bind fun z29 => (if z29 = true then ((laws_heldIntS.f k z21.2 1).bind fun z31 => (if z31 < 0 then (some false) else (if z31 = z21.1 then (some true) else (some false)))) else (some false))))) else (some false))))) else (some false))))) else (some false)))) else (some false)))))))))
set_option maxHeartbeats 32000000 in
set_option maxRecDepth 100000 in
theorem laws_FnExactHostFree.calls (k : Nat) (A0_0 : Option Addr) (c0_0 : Nat) (l0_0 : List (List Int)) (A0_1 : Option Addr) (c0_1 : Nat) (l0_1 : List (S80)) (a0_2 : Int) (r : Bool) (w : World) (hr0_0 : Kd.C (Kd.slice 3 (Kd.int .i64)) w A0_0 l0_0.length l0_0) (hc0_0 : l0_0.length ≤ c0_0) (hr0_1 : Kd.C k80 w A0_1 l0_1.length l0_1) (hc0_1 : l0_1.length ≤ c0_1) (h : laws_FnExactHostFree.f k l0_0 l0_1 a0_2 = some r) :
  Calls Try.prog 6 #[.agg #[.slice A0_0 l0_0.length c0_0, .slice A0_1 l0_1.length c0_1, .int .i64 a0_2]] w fun e w' => e = .returned (.bool r) ∧ Below w.heap.size w w' := by
 have hu31 := Try.underlying31
 have hu43 := Try.underlying43
 have HR0_0 := Az.mk hr0_0
 have HC0_0 := Az.mk hc0_0
 clear hr0_0 hc0_0
 have HR0_1 := Az.mk hr0_1
 have HC0_1 := Az.mk hc0_1
 clear hr0_1 hc0_1
 have HB := Az.mk (Below.refl w.heap.size w)
 have H := h
 clear h
 unfold laws_FnExactHostFree.f at H
 replace H := Option.bind_eq_some_iff.mp H
 obtain ⟨z0, FQ10, H⟩ := H
 try dsimp only at H
 try dsimp only at FQ10
 have FQ1 := Az.mk FQ10
 clear FQ10
 by_cases cq2 : z0 < 0
 ·rw [if_pos cq2] at H
  have cq2b : decide (z0 < 0) = true := decide_eq_true cq2
  clear cq2
  obtain rfl := Option.some.inj H
  go_enter Try.func6, Try.ntmps6
  go_wp2_with (first | ((with_reducible refine Yd (N := 1) rfl ?_); refine Yv ?hg (N := 1) ?hd (cs := #[.slice A0_0 l0_0.length c0_0, .slice A0_1 l0_1.length c0_1, .int .i64 a0_2]) (t := 43) ?hr ?_; (case hd => rfl); (case hg => rfl); (case hr => first | (go_simp; done) | (go_simp; rfl)); intro gb1 hg w_0 hbox hb; have n0_ := Az.mk (Yt (by repeat (first | (with_reducible first | exact HB.out | apply Ya | apply Yn | apply Yw) | exact HB.out)) hb); have n1_ := Az.mk hbox; have n2_ := Az.mk (show w.heap.size ≤ gb1 by rw [hg]; exact Nat.le_refl _); have n3_ := Az.mk (show gb1 < w_0.heap.size from Zl hbox); have n4_ := Az.mk (show w.heap.size ≤ w_0.heap.size from hb.size); clear HB; have HB := n0_; have BK1 := n1_; have GA1 := n2_; have GZ1 := n3_; have HS_0 := n4_; clear n0_ n1_ n2_ n3_ n4_; clear hg hbox hb; have hz1_0 : w_0.cell? ⟨gb1, 0, none⟩ = some (.slice A0_0 l0_0.length c0_0) := (Zc BK1.out 0).trans rfl; have hz1_1 : w_0.cell? ⟨gb1, 1, none⟩ = some (.slice A0_1 l0_1.length c0_1) := (Zc BK1.out 1).trans rfl; have hz1_2 : w_0.cell? ⟨gb1, 2, none⟩ = some (.int .i64 a0_2) := (Zc BK1.out 2).trans rfl; have hf1_0 := Zf BK1.out 0; have hf1_1 := Zf BK1.out 1; have hf1_2 := Zf BK1.out 2) | ((with_reducible refine Yc (f := 22) rfl ?_); refine Yg (some 13) rfl rfl Try.func22 (by kernel_rfl) rfl #[.agg #[.slice A0_0 l0_0.length c0_0, .slice A0_1 l0_1.length c0_1, .int .i64 a0_2], .int .i64 1048576] rfl (by (try simp only [List.map_toArray, List.map_cons, List.map_nil]); first | done | rfl) ?_; (with_reducible refine (laws_szHost.calls k _ _ l0_0 _ _ l0_1 a0_2 1048576 z0 _ ?side1 ?side2 ?side3 ?side4 FQ1.out).mono ?_); (case side1 => exact (Kd.Cb_ HR0_0.out (by repeat (first | (with_reducible first | exact HB.out | apply Ya | apply Yn | apply Yw) | exact HB.out)))); (case side2 => exact HC0_0.out); (case side3 => exact (Kd.Cb_ HR0_1.out (by repeat (first | (with_reducible first | exact HB.out | apply Ya | apply Yn | apply Yw) | exact HB.out)))); (case side4 => exact HC0_1.out); rintro e w_1 ⟨rfl, hb⟩; refine ⟨_, rfl, ?_⟩; clear hz1_0 hf1_0 hz1_1 hf1_1 hz1_2 hf1_2; have n0_ := Az.mk (Zb BK1.out hb); have n1_ := Az.mk (show w_0.heap.size ≤ w_1.heap.size from hb.size); have n2_ := Az.mk (Yt (by repeat (first | (with_reducible first | exact HB.out | apply Ya | apply Yn | apply Yw) | exact HB.out)) hb); clear BK1 HB; have BK1 := n0_; have HS_1 := n1_; have HB := n2_; clear n0_ n1_ n2_; (try clear hb); (try clear ho0_); (try clear ho1_); (try clear hs0_); (try clear hs1_); have hz1_0 : w_1.cell? ⟨gb1, 0, none⟩ = some (.slice A0_0 l0_0.length c0_0) := (Zc BK1.out 0).trans rfl; have hz1_1 : w_1.cell? ⟨gb1, 1, none⟩ = some (.slice A0_1 l0_1.length c0_1) := (Zc BK1.out 1).trans rfl; have hz1_2 : w_1.cell? ⟨gb1, 2, none⟩ = some (.int .i64 a0_2) := (Zc BK1.out 2).trans rfl; have hf1_0 := Zf BK1.out 0; have hf1_1 := Zf BK1.out 1; have hf1_2 := Zf BK1.out 2))
  go_ret
  exact ⟨by first | rfl | (simp [*]; done), by repeat (first | (with_reducible first | exact HB.out | apply Ya | apply Yn | apply Yw) | exact HB.out)⟩
 ·rw [if_neg cq2] at H
  have cq2b : decide (z0 < 0) = false := decide_eq_false cq2
  clear cq2
  replace H := Option.bind_eq_some_iff.mp H
  obtain ⟨⟨b0_0, b0_1, b0_2⟩, FQ30, H⟩ := H
  try dsimp only at H
  try dsimp only at FQ30
  have FQ3 := Az.mk FQ30
  clear FQ30
  replace H := Option.bind_eq_some_iff.mp H
  obtain ⟨u, FQ40, H⟩ := H
  try dsimp only at H
  try dsimp only at FQ40
  have FQ4 := Az.mk FQ40
  clear FQ40
  replace H := Option.bind_eq_some_iff.mp H
  obtain ⟨⟨x0_0, x0_1, x0_2⟩, FQ50, H⟩ := H
  try dsimp only at H
  try dsimp only at FQ50
  have FQ5 := Az.mk FQ50
  clear FQ50
  replace H := Option.bind_eq_some_iff.mp H
  obtain ⟨g, FQ70, H⟩ := H
  try dsimp only at H
  try dsimp only at FQ70
  have FQ7 := Az.mk FQ70
  clear FQ70
  have HX := Az.mk H
  clear H
  go_enter Try.func6, Try.ntmps6
  go_upto_region 8 with (first | ((with_reducible refine Yd (N := 1) rfl ?_); refine Yv ?hg (N := 1) ?hd (cs := #[.slice A0_0 l0_0.length c0_0, .slice A0_1 l0_1.length c0_1, .int .i64 a0_2]) (t := 43) ?hr ?_; (case hd => rfl); (case hg => rfl); (case hr => first | (go_simp; done) | (go_simp; rfl)); intro gb1 hg w_0 hbox hb; have n0_ := Az.mk (Yt (by repeat (first | (with_reducible first | exact HB.out | apply Ya | apply Yn | apply Yw) | exact HB.out)) hb); have n1_ := Az.mk hbox; have n2_ := Az.mk (show w.heap.size ≤ gb1 by rw [hg]; exact Nat.le_refl _); have n3_ := Az.mk (show gb1 < w_0.heap.size from Zl hbox); have n4_ := Az.mk (show w.heap.size ≤ w_0.heap.size from hb.size); clear HB; have HB := n0_; have BK1 := n1_; have GA1 := n2_; have GZ1 := n3_; have HS_0 := n4_; clear n0_ n1_ n2_ n3_ n4_; clear hg hbox hb; have hz1_0 : w_0.cell? ⟨gb1, 0, none⟩ = some (.slice A0_0 l0_0.length c0_0) := (Zc BK1.out 0).trans rfl; have hz1_1 : w_0.cell? ⟨gb1, 1, none⟩ = some (.slice A0_1 l0_1.length c0_1) := (Zc BK1.out 1).trans rfl; have hz1_2 : w_0.cell? ⟨gb1, 2, none⟩ = some (.int .i64 a0_2) := (Zc BK1.out 2).trans rfl; have hf1_0 := Zf BK1.out 0; have hf1_1 := Zf BK1.out 1; have hf1_2 := Zf BK1.out 2) | ((with_reducible refine Yc (f := 22) rfl ?_); refine Yg (some 13) rfl rfl Try.func22 (by kernel_rfl) rfl #[.agg #[.slice A0_0 l0_0.length c0_0, .slice A0_1 l0_1.length c0_1, .int .i64 a0_2], .int .i64 1048576] rfl (by (try simp only [List.map_toArray, List.map_cons, List.map_nil]); first | done | rfl) ?_; (with_reducible refine (laws_szHost.calls k _ _ l0_0 _ _ l0_1 a0_2 1048576 z0 _ ?side1 ?side2 ?side3 ?side4 FQ1.out).mono ?_); (case side1 => exact (Kd.Cb_ HR0_0.out (by repeat (first | (with_reducible first | exact HB.out | apply Ya | apply Yn | apply Yw) | exact HB.out)))); (case side2 => exact HC0_0.out); (case side3 => exact (Kd.Cb_ HR0_1.out (by repeat (first | (with_reducible first | exact HB.out | apply Ya | apply Yn | apply Yw) | exact HB.out)))); (case side4 => exact HC0_1.out); rintro e w_1 ⟨rfl, hb⟩; refine ⟨_, rfl, ?_⟩; clear hz1_0 hf1_0 hz1_1 hf1_1 hz1_2 hf1_2; have n0_ := Az.mk (Zb BK1.out hb); have n1_ := Az.mk (show w_0.heap.size ≤ w_1.heap.size from hb.size); have n2_ := Az.mk (Yt (by repeat (first | (with_reducible first | exact HB.out | apply Ya | apply Yn | apply Yw) | exact HB.out)) hb); clear BK1 HB; have BK1 := n0_; have HS_1 := n1_; have HB := n2_; clear n0_ n1_ n2_; (try clear hb); (try clear ho0_); (try clear ho1_); (try clear hs0_); (try clear hs1_); have hz1_0 : w_1.cell? ⟨gb1, 0, none⟩ = some (.slice A0_0 l0_0.length c0_0) := (Zc BK1.out 0).trans rfl; have hz1_1 : w_1.cell? ⟨gb1, 1, none⟩ = some (.slice A0_1 l0_1.length c0_1) := (Zc BK1.out 1).trans rfl; have hz1_2 : w_1.cell? ⟨gb1, 2, none⟩ = some (.int .i64 a0_2) := (Zc BK1.out 2).trans rfl; have hf1_0 := Zf BK1.out 0; have hf1_1 := Zf BK1.out 1; have hf1_2 := Zf BK1.out 2) | ((with_reducible refine Yc (f := 24) rfl ?_); refine Yg (some 17) rfl rfl Try.func24 (by kernel_rfl) rfl #[.agg #[.slice A0_0 l0_0.length c0_0, .slice A0_1 l0_1.length c0_1, .int .i64 a0_2]] rfl (by (try simp only [List.map_toArray, List.map_cons, List.map_nil]); first | done | rfl) ?_; (with_reducible refine (laws_toHost.callsS k _ _ l0_0 _ _ l0_1 a0_2 b0_0 b0_1 b0_2 _ ?side1 ?side2 ?side3 ?side4 FQ3.out).mono ?_); (case side1 => exact (Kd.Cb_ HR0_0.out (by repeat (first | (with_reducible first | exact HB.out | apply Ya | apply Yn | apply Yw) | exact HB.out)))); (case side2 => exact HC0_0.out); (case side3 => exact (Kd.Cb_ HR0_1.out (by repeat (first | (with_reducible first | exact HB.out | apply Ya | apply Yn | apply Yw) | exact HB.out)))); (case side4 => exact HC0_1.out); rintro e w_3 ⟨v_b0_0, v_b0_1, rfl, ⟨Pb0_, hs0_, hs1_⟩, hb⟩; refine ⟨_, rfl, ?_⟩; clear hz1_0 hf1_0 hz1_1 hf1_1 hz1_2 hf1_2; have n0_ := Az.mk (Zb BK1.out hb); have n1_ := Az.mk (show Kd.S (Kd.slice 3 (Kd.int .i64)) 45 w_3 w.heap.size (fun k_ => (w_1.heap.size ≤ k_ ∧ k_ < w_3.heap.size) ∧ Pb0_ k_) v_b0_0 b0_0 from ivSP hs0_ (Yz (by repeat (first | (with_reducible first | exact HB.out | apply Ya | apply Yn | apply Yw) | exact HB.out)))); have n2_ := Az.mk (show Kd.S k61s 61 w_3 w.heap.size (fun k_ => (w_1.heap.size ≤ k_ ∧ k_ < w_3.heap.size) ∧ ¬ Pb0_ k_) v_b0_1 b0_1 from ivSP hs1_ (Yz (by repeat (first | (with_reducible first | exact HB.out | apply Ya | apply Yn | apply Yw) | exact HB.out)))); have n3_ := Az.mk (show w_1.heap.size ≤ w_3.heap.size from hb.size); have n4_ := Az.mk (Yt (by repeat (first | (with_reducible first | exact HB.out | apply Ya | apply Yn | apply Yw) | exact HB.out)) hb); clear BK1 HB; have BK1 := n0_; have HO_b0_0 := n1_; have HO_b0_1 := n2_; have HS_3 := n3_; have HB := n4_; clear n0_ n1_ n2_ n3_ n4_; (try clear hb); (try clear ho0_); (try clear ho1_); (try clear hs0_); (try clear hs1_); obtain ⟨Ao_b0_0, co_b0_0, eo_b0_0⟩ := Kd.Ss_ HO_b0_0.out; subst eo_b0_0; obtain ⟨Ao_b0_1, co_b0_1, eo_b0_1⟩ := Kd.Ss_ HO_b0_1.out; subst eo_b0_1; have hz1_0 : w_3.cell? ⟨gb1, 0, none⟩ = some (.slice A0_0 l0_0.length c0_0) := (Zc BK1.out 0).trans rfl; have hz1_1 : w_3.cell? ⟨gb1, 1, none⟩ = some (.slice A0_1 l0_1.length c0_1) := (Zc BK1.out 1).trans rfl; have hz1_2 : w_3.cell? ⟨gb1, 2, none⟩ = some (.int .i64 a0_2) := (Zc BK1.out 2).trans rfl; have hf1_0 := Zf BK1.out 0; have hf1_1 := Zf BK1.out 1; have hf1_2 := Zf BK1.out 2) | ((with_reducible refine Yc (f := 23) rfl ?_); refine Yg (some 18) rfl rfl Try.func23 (by kernel_rfl) rfl #[.agg #[.slice Ao_b0_0 b0_0.length co_b0_0, .slice Ao_b0_1 b0_1.length co_b0_1, .int .i64 b0_2]] rfl (by (try simp only [List.map_toArray, List.map_cons, List.map_nil]); first | done | rfl) ?_; (with_reducible refine (spec_HostFree.calls k _ _ b0_0 _ _ b0_1 b0_2 u _ ?side1 ?side2 ?side3 ?side4 FQ4.out).mono ?_); (case side1 => exact (Kd.Sr_ HO_b0_0.out).2.2); (case side2 => exact (Kd.Sr_ HO_b0_0.out).2.1); (case side3 => exact (k61s_reads HO_b0_1.out).2.2); (case side4 => exact (k61s_reads HO_b0_1.out).2.1); rintro e w_4 ⟨v_u, rfl, ho0_, hb⟩; refine ⟨_, rfl, ?_⟩; clear hz1_0 hf1_0 hz1_1 hf1_1 hz1_2 hf1_2; clear HO_b0_0 HO_b0_1; have n0_ := Az.mk (Zb BK1.out hb); have n1_ := Az.mk (show Kd.R (Kd.int .i64) 3 w_4 w.heap.size (fun k_ => w_3.heap.size ≤ k_ ∧ k_ < w_4.heap.size) v_u u from ivR ho0_ (Yz (by repeat (first | (with_reducible first | exact HB.out | apply Ya | apply Yn | apply Yw) | exact HB.out)))); have n2_ := Az.mk (show w_3.heap.size ≤ w_4.heap.size from hb.size); have n3_ := Az.mk (Yt (by repeat (first | (with_reducible first | exact HB.out | apply Ya | apply Yn | apply Yw) | exact HB.out)) hb); clear BK1 HB; have BK1 := n0_; have HO_u := n1_; have HS_4 := n2_; have HB := n3_; clear n0_ n1_ n2_ n3_; (try clear hb); (try clear ho0_); (try clear ho1_); (try clear hs0_); (try clear hs1_); obtain ⟨Ao_u, co_u, eo_u⟩ := Kd.Rs_ HO_u.out; subst eo_u; have hz1_0 : w_4.cell? ⟨gb1, 0, none⟩ = some (.slice A0_0 l0_0.length c0_0) := (Zc BK1.out 0).trans rfl; have hz1_1 : w_4.cell? ⟨gb1, 1, none⟩ = some (.slice A0_1 l0_1.length c0_1) := (Zc BK1.out 1).trans rfl; have hz1_2 : w_4.cell? ⟨gb1, 2, none⟩ = some (.int .i64 a0_2) := (Zc BK1.out 2).trans rfl; have hf1_0 := Zf BK1.out 0; have hf1_1 := Zf BK1.out 1; have hf1_2 := Zf BK1.out 2) | ((with_reducible refine Yc (f := 24) rfl ?_); refine Yg (some 20) rfl rfl Try.func24 (by kernel_rfl) rfl #[.agg #[.slice A0_0 l0_0.length c0_0, .slice A0_1 l0_1.length c0_1, .int .i64 a0_2]] rfl (by (try simp only [List.map_toArray, List.map_cons, List.map_nil]); first | done | rfl) ?_; (with_reducible refine (laws_toHost.callsS k _ _ l0_0 _ _ l0_1 a0_2 x0_0 x0_1 x0_2 _ ?side1 ?side2 ?side3 ?side4 FQ5.out).mono ?_); (case side1 => exact (Kd.Cb_ HR0_0.out (by repeat (first | (with_reducible first | exact HB.out | apply Ya | apply Yn | apply Yw) | exact HB.out)))); (case side2 => exact HC0_0.out); (case side3 => exact (Kd.Cb_ HR0_1.out (by repeat (first | (with_reducible first | exact HB.out | apply Ya | apply Yn | apply Yw) | exact HB.out)))); (case side4 => exact HC0_1.out); rintro e w_5 ⟨v_x0_0, v_x0_1, rfl, ⟨Px0_, hs0_, hs1_⟩, hb⟩; refine ⟨_, rfl, ?_⟩; clear hz1_0 hf1_0 hz1_1 hf1_1 hz1_2 hf1_2; have n0_ := Az.mk (Kd.Rb_ HO_u.out hb); have n1_ := Az.mk (Zb BK1.out hb); have n2_ := Az.mk (show Kd.S (Kd.slice 3 (Kd.int .i64)) 45 w_5 w.heap.size (fun k_ => (w_4.heap.size ≤ k_ ∧ k_ < w_5.heap.size) ∧ Px0_ k_) v_x0_0 x0_0 from ivSP hs0_ (Yz (by repeat (first | (with_reducible first | exact HB.out | apply Ya | apply Yn | apply Yw) | exact HB.out)))); have n3_ := Az.mk (show Kd.S k61s 61 w_5 w.heap.size (fun k_ => (w_4.heap.size ≤ k_ ∧ k_ < w_5.heap.size) ∧ ¬ Px0_ k_) v_x0_1 x0_1 from ivSP hs1_ (Yz (by repeat (first | (with_reducible first | exact HB.out | apply Ya | apply Yn | apply Yw) | exact HB.out)))); have n4_ := Az.mk (show w_4.heap.size ≤ w_5.heap.size from hb.size); have n5_ := Az.mk (Yt (by repeat (first | (with_reducible first | exact HB.out | apply Ya | apply Yn | apply Yw) | exact HB.out)) hb); clear HO_u BK1 HB; have HO_u := n0_; have BK1 := n1_; have HO_x0_0 := n2_; have HO_x0_1 := n3_; have HS_5 := n4_; have HB := n5_; clear n0_ n1_ n2_ n3_ n4_ n5_; (try clear hb); (try clear ho0_); (try clear ho1_); (try clear hs0_); (try clear hs1_); obtain ⟨Ao_x0_0, co_x0_0, eo_x0_0⟩ := Kd.Ss_ HO_x0_0.out; subst eo_x0_0; obtain ⟨Ao_x0_1, co_x0_1, eo_x0_1⟩ := Kd.Ss_ HO_x0_1.out; subst eo_x0_1; have hz1_0 : w_5.cell? ⟨gb1, 0, none⟩ = some (.slice A0_0 l0_0.length c0_0) := (Zc BK1.out 0).trans rfl; have hz1_1 : w_5.cell? ⟨gb1, 1, none⟩ = some (.slice A0_1 l0_1.length c0_1) := (Zc BK1.out 1).trans rfl; have hz1_2 : w_5.cell? ⟨gb1, 2, none⟩ = some (.int .i64 a0_2) := (Zc BK1.out 2).trans rfl; have hf1_0 := Zf BK1.out 0; have hf1_1 := Zf BK1.out 1; have hf1_2 := Zf BK1.out 2) | ((with_reducible refine Yd (N := 5) rfl ?_); refine Yv ?hg (N := 5) ?hd (cs := #[.slice none 0 0, .slice none 0 0, .int .i64 0]) (t := 31) ?hr ?_; (case hd => rfl); (case hg => rfl); (case hr => first | (go_simp; done) | (go_simp; rfl)); intro gb5 hg w_6a hbox hb; clear hz1_0 hf1_0 hz1_1 hf1_1 hz1_2 hf1_2; have n0_ := Az.mk (Kd.R_kept HO_u.out (Kept.of_below hb (fun _ => False)) (fun k_ h1_ h2_ => h2_.elim)); have n1_ := Az.mk (Kd.S_kept HO_x0_0.out (Kept.of_below hb (fun _ => False)) (fun k_ h1_ h2_ => h2_.elim)); have n2_ := Az.mk (Kd.S_kept HO_x0_1.out (Kept.of_below hb (fun _ => False)) (fun k_ h1_ h2_ => h2_.elim)); have n3_ := Az.mk (blk_kept BK1.out (Kept.of_below hb (fun _ => False)) (fun h2_ => h2_.elim)); have n4_ := Az.mk (Yt (by repeat (first | (with_reducible first | exact HB.out | apply Ya | apply Yn | apply Yw) | exact HB.out)) hb); have n5_ := Az.mk hbox; have n6_ := Az.mk (show w_5.heap.size ≤ gb5 by rw [hg]; exact Nat.le_refl _); have n7_ := Az.mk (show gb5 < w_6a.heap.size from Zl hbox); have n8_ := Az.mk (show w.heap.size ≤ gb5 by rw [hg]; exact Yz (by repeat (first | (with_reducible first | exact HB.out | apply Ya | apply Yn | apply Yw) | exact HB.out))); have n9_ := Az.mk (show w_5.heap.size ≤ w_6a.heap.size from hb.size); clear HO_u HO_x0_0 HO_x0_1 BK1 HB; have HO_u := n0_; have HO_x0_0 := n1_; have HO_x0_1 := n2_; have BK1 := n3_; have HB := n4_; have BK5 := n5_; have GA5 := n6_; have GZ5 := n7_; have GE5 := n8_; have HS_6a := n9_; clear n0_ n1_ n2_ n3_ n4_ n5_ n6_ n7_ n8_ n9_; clear hg hbox hb; have hz1_0 : w_6a.cell? ⟨gb1, 0, none⟩ = some (.slice A0_0 l0_0.length c0_0) := (Zc BK1.out 0).trans rfl; have hz1_1 : w_6a.cell? ⟨gb1, 1, none⟩ = some (.slice A0_1 l0_1.length c0_1) := (Zc BK1.out 1).trans rfl; have hz1_2 : w_6a.cell? ⟨gb1, 2, none⟩ = some (.int .i64 a0_2) := (Zc BK1.out 2).trans rfl; have hf1_0 := Zf BK1.out 0; have hf1_1 := Zf BK1.out 1; have hf1_2 := Zf BK1.out 2; have hz5_0 : w_6a.cell? ⟨gb5, 0, none⟩ = some (.slice none 0 0) := (Zc BK5.out 0).trans rfl; have hz5_1 : w_6a.cell? ⟨gb5, 1, none⟩ = some (.slice none 0 0) := (Zc BK5.out 1).trans rfl; have hz5_2 : w_6a.cell? ⟨gb5, 2, none⟩ = some (.int .i64 0) := (Zc BK5.out 2).trans rfl; have hf5_0 := Zf BK5.out 0; have hf5_1 := Zf BK5.out 1; have hf5_2 := Zf BK5.out 2) | ((with_reducible refine gate_store (t := 31) (p := 5) rfl ?_); refine store_event (t := 31) (p := 5) (v := ?vo_6) (w1 := (((w_6a.setCell ⟨gb5, 0, none⟩ (.slice Ao_x0_0 x0_0.length co_x0_0)).setCell ⟨gb5, 1, none⟩ (.slice Ao_x0_1 x0_1.length co_x0_1)).setCell ⟨gb5, 2, none⟩ (.int .i64 x0_2))) ?hg ?ho ?hn ?hr ?_; (case ho => rfl); (case hg => rfl); (case hn => rfl); (case hr => first | (go_simp; done) | (go_simp; rfl)); intro w_6 hw_; have hk_ : Kept w_6a w_6 (fun k_ => k_ = gb5) := (by rw [hw_]; exact kept_put3 _ _ _ _ _); clear hz1_0 hf1_0 hz1_1 hf1_1 hz1_2 hf1_2 hz5_0 hf5_0 hz5_1 hf5_1 hz5_2 hf5_2; have n0_ := Az.mk (Kd.R_kept HO_u.out hk_ (fun k_ h1_ h2_ => by obtain ⟨a_, b_⟩ := h1_; have h3_ := h2_; subst h3_; have c_ := GA5.out; have d_ := GZ5.out; have s0_ := HS_0.out; have s1_ := HS_1.out; have s2_ := HS_3.out; have s3_ := HS_4.out; have s4_ := HS_5.out; have s5_ := HS_6a.out; omega)); have n1_ := Az.mk (Kd.S_kept HO_x0_0.out hk_ (fun k_ h1_ h2_ => by obtain ⟨⟨a_, b_⟩, _⟩ := h1_; have h3_ := h2_; subst h3_; have c_ := GA5.out; have d_ := GZ5.out; have s0_ := HS_0.out; have s1_ := HS_1.out; have s2_ := HS_3.out; have s3_ := HS_4.out; have s4_ := HS_5.out; have s5_ := HS_6a.out; omega)); have n2_ := Az.mk (Kd.S_kept HO_x0_1.out hk_ (fun k_ h1_ h2_ => by obtain ⟨⟨a_, b_⟩, _⟩ := h1_; have h3_ := h2_; subst h3_; have c_ := GA5.out; have d_ := GZ5.out; have s0_ := HS_0.out; have s1_ := HS_1.out; have s2_ := HS_3.out; have s3_ := HS_4.out; have s4_ := HS_5.out; have s5_ := HS_6a.out; omega)); have n3_ := Az.mk (blk_kept BK1.out hk_ (fun h2_ => by have a_ := GA1.out; have b_ := GZ1.out; have h3_ : gb1 = gb5 := h2_; have c_ := GA5.out; have d_ := GZ5.out; have s0_ := HS_0.out; have s1_ := HS_1.out; have s2_ := HS_3.out; have s3_ := HS_4.out; have s4_ := HS_5.out; have s5_ := HS_6a.out; omega)); have n4_ := Az.mk (show w_6.heap[gb5]? = some (.cells #[.slice Ao_x0_0 x0_0.length co_x0_0, .slice Ao_x0_1 x0_1.length co_x0_1, .int .i64 x0_2] 31 (0, 0)) by rw [hw_]; exact Zp (cs := #[.slice Ao_x0_0 x0_0.length co_x0_0, .slice Ao_x0_1 x0_1.length co_x0_1, .int .i64 0]) (Zp (cs := #[.slice Ao_x0_0 x0_0.length co_x0_0, .slice none 0 0, .int .i64 0]) (Zp (cs := #[.slice none 0 0, .slice none 0 0, .int .i64 0]) BK5.out 0 _ rfl) 1 _ rfl) 2 _ rfl); have n5_ := Az.mk (show Below w.heap.size w w_6 by rw [hw_]; exact Ys (Ys (Ys HB.out GE5.out) GE5.out) GE5.out); have n6_ := Az.mk (show w_6a.heap.size ≤ w_6.heap.size from hk_.1); clear HO_u HO_x0_0 HO_x0_1 BK1 BK5 HB; have HO_u := n0_; have HO_x0_0 := n1_; have HO_x0_1 := n2_; have BK1 := n3_; have BK5 := n4_; have HB := n5_; have HS_6 := n6_; clear n0_ n1_ n2_ n3_ n4_ n5_ n6_; clear hk_ hw_; have hz1_0 : w_6.cell? ⟨gb1, 0, none⟩ = some (.slice A0_0 l0_0.length c0_0) := (Zc BK1.out 0).trans rfl; have hz1_1 : w_6.cell? ⟨gb1, 1, none⟩ = some (.slice A0_1 l0_1.length c0_1) := (Zc BK1.out 1).trans rfl; have hz1_2 : w_6.cell? ⟨gb1, 2, none⟩ = some (.int .i64 a0_2) := (Zc BK1.out 2).trans rfl; have hf1_0 := Zf BK1.out 0; have hf1_1 := Zf BK1.out 1; have hf1_2 := Zf BK1.out 2; have hz5_0 : w_6.cell? ⟨gb5, 0, none⟩ = some (.slice Ao_x0_0 x0_0.length co_x0_0) := (Zc BK5.out 0).trans rfl; have hz5_1 : w_6.cell? ⟨gb5, 1, none⟩ = some (.slice Ao_x0_1 x0_1.length co_x0_1) := (Zc BK5.out 1).trans rfl; have hz5_2 : w_6.cell? ⟨gb5, 2, none⟩ = some (.int .i64 x0_2) := (Zc BK5.out 2).trans rfl; have hf5_0 := Zf BK5.out 0; have hf5_1 := Zf BK5.out 1; have hf5_2 := Zf BK5.out 2) | ((with_reducible refine Yc (f := 25) rfl ?_); refine Yg (some 22) rfl rfl Try.func25 (by kernel_rfl) rfl #[.agg #[.slice Ao_x0_0 x0_0.length co_x0_0, .slice Ao_x0_1 x0_1.length co_x0_1, .int .i64 x0_2]] rfl (by (try simp only [List.map_toArray, List.map_cons, List.map_nil]); first | done | rfl) ?_; (with_reducible refine (impl_HostFree.calls k _ _ x0_0 _ _ x0_1 x0_2 g _ ?side1 ?side2 ?side3 ?side4 FQ7.out).mono ?_); (case side1 => exact (Kd.Sr_ HO_x0_0.out).2.2); (case side2 => exact (Kd.Sr_ HO_x0_0.out).2.1); (case side3 => exact (k61s_reads HO_x0_1.out).2.2); (case side4 => exact (k61s_reads HO_x0_1.out).2.1); rintro e w_7 ⟨v_g, rfl, ho0_, hb⟩; refine ⟨_, rfl, ?_⟩; clear hz1_0 hf1_0 hz1_1 hf1_1 hz1_2 hf1_2 hz5_0 hf5_0 hz5_1 hf5_1 hz5_2 hf5_2; have n0_ := Az.mk (Kd.Rb_ HO_u.out hb); have n1_ := Az.mk (Kd.Sb_ HO_x0_0.out hb); have n2_ := Az.mk (Kd.Sb_ HO_x0_1.out hb); have n3_ := Az.mk (Zb BK1.out hb); have n4_ := Az.mk (Zb BK5.out hb); have n5_ := Az.mk (show Kd.R (Kd.int .i64) 3 w_7 w.heap.size (fun k_ => w_6.heap.size ≤ k_ ∧ k_ < w_7.heap.size) v_g g from ivR ho0_ (Yz (by repeat (first | (with_reducible first | exact HB.out | apply Ya | apply Yn | apply Yw) | exact HB.out)))); have n6_ := Az.mk (show w_6.heap.size ≤ w_7.heap.size from hb.size); have n7_ := Az.mk (Yt (by repeat (first | (with_reducible first | exact HB.out | apply Ya | apply Yn | apply Yw) | exact HB.out)) hb); clear HO_u HO_x0_0 HO_x0_1 BK1 BK5 HB; have HO_u := n0_; have HO_x0_0 := n1_; have HO_x0_1 := n2_; have BK1 := n3_; have BK5 := n4_; have HO_g := n5_; have HS_7 := n6_; have HB := n7_; clear n0_ n1_ n2_ n3_ n4_ n5_ n6_ n7_; (try clear hb); (try clear ho0_); (try clear ho1_); (try clear hs0_); (try clear hs1_); obtain ⟨Ao_g, co_g, eo_g⟩ := Kd.Rs_ HO_g.out; subst eo_g; have hz1_0 : w_7.cell? ⟨gb1, 0, none⟩ = some (.slice A0_0 l0_0.length c0_0) := (Zc BK1.out 0).trans rfl; have hz1_1 : w_7.cell? ⟨gb1, 1, none⟩ = some (.slice A0_1 l0_1.length c0_1) := (Zc BK1.out 1).trans rfl; have hz1_2 : w_7.cell? ⟨gb1, 2, none⟩ = some (.int .i64 a0_2) := (Zc BK1.out 2).trans rfl; have hf1_0 := Zf BK1.out 0; have hf1_1 := Zf BK1.out 1; have hf1_2 := Zf BK1.out 2; have hz5_0 : w_7.cell? ⟨gb5, 0, none⟩ = some (.slice Ao_x0_0 x0_0.length co_x0_0) := (Zc BK5.out 0).trans rfl; have hz5_1 : w_7.cell? ⟨gb5, 1, none⟩ = some (.slice Ao_x0_1 x0_1.length co_x0_1) := (Zc BK5.out 1).trans rfl; have hz5_2 : w_7.cell? ⟨gb5, 2, none⟩ = some (.int .i64 x0_2) := (Zc BK5.out 2).trans rfl; have hf5_0 := Zf BK5.out 0; have hf5_1 := Zf BK5.out 1; have hf5_2 := Zf BK5.out 2))
  (try simp only [Act.put, List.setIfInBounds_toArray, List.set_cons_zero, List.set_cons_succ])
  have H := HX.out
  clear HX
  replace H := Option.bind_eq_some_iff.mp H
  obtain ⟨e1, FQ90, H⟩ := H
  try dsimp only at H
  try dsimp only at FQ90
  have FQ9 := Az.mk FQ90
  clear FQ90
  by_cases cq10 : e1 = true
  ·subst cq10
   replace H := (if_pos rfl).symm.trans H
   have HX := Az.mk H
   clear H
   go_upto_region 10 with (first | ((with_reducible refine Yc (f := 26) rfl ?_); refine Yg (some 25) rfl rfl Try.func26 (by kernel_rfl) rfl #[.slice Ao_g g.length co_g, .slice Ao_u u.length co_u] rfl (by (try simp only [List.map_toArray, List.map_cons, List.map_nil]); first | done | rfl) ?_; (with_reducible refine (laws_eqIntS.calls k _ _ g _ _ u true _ ?side1 ?side2 ?side3 ?side4 FQ9.out).mono ?_); (case side1 => exact (Kd.Rr_ HO_g.out).2.2); (case side2 => exact (Kd.Rr_ HO_g.out).2.1); (case side3 => exact (Kd.Rr_ HO_u.out).2.2); (case side4 => exact (Kd.Rr_ HO_u.out).2.1); rintro e w_9 ⟨rfl, hd_⟩; refine ⟨_, rfl, ?_⟩; have hb := Drawn0.below hd_; clear hd_; clear hz1_0 hf1_0 hz1_1 hf1_1 hz1_2 hf1_2 hz5_0 hf5_0 hz5_1 hf5_1 hz5_2 hf5_2; have n0_ := Az.mk (Kd.Rb_ HO_u.out hb); have n1_ := Az.mk (Kd.Sb_ HO_x0_0.out hb); have n2_ := Az.mk (Kd.Sb_ HO_x0_1.out hb); have n3_ := Az.mk (Kd.Rb_ HO_g.out hb); have n4_ := Az.mk (Zb BK1.out hb); have n5_ := Az.mk (Zb BK5.out hb); have n6_ := Az.mk (show w_7.heap.size ≤ w_9.heap.size from hb.size); have n7_ := Az.mk (Yt (by repeat (first | (with_reducible first | exact HB.out | apply Ya | apply Yn | apply Yw) | exact HB.out)) hb); clear HO_u HO_x0_0 HO_x0_1 HO_g BK1 BK5 HB; have HO_u := n0_; have HO_x0_0 := n1_; have HO_x0_1 := n2_; have HO_g := n3_; have BK1 := n4_; have BK5 := n5_; have HS_9 := n6_; have HB := n7_; clear n0_ n1_ n2_ n3_ n4_ n5_ n6_ n7_; (try clear hb); (try clear ho0_); (try clear ho1_); (try clear hs0_); (try clear hs1_); have hz1_0 : w_9.cell? ⟨gb1, 0, none⟩ = some (.slice A0_0 l0_0.length c0_0) := (Zc BK1.out 0).trans rfl; have hz1_1 : w_9.cell? ⟨gb1, 1, none⟩ = some (.slice A0_1 l0_1.length c0_1) := (Zc BK1.out 1).trans rfl; have hz1_2 : w_9.cell? ⟨gb1, 2, none⟩ = some (.int .i64 a0_2) := (Zc BK1.out 2).trans rfl; have hf1_0 := Zf BK1.out 0; have hf1_1 := Zf BK1.out 1; have hf1_2 := Zf BK1.out 2; have hz5_0 : w_9.cell? ⟨gb5, 0, none⟩ = some (.slice Ao_x0_0 x0_0.length co_x0_0) := (Zc BK5.out 0).trans rfl; have hz5_1 : w_9.cell? ⟨gb5, 1, none⟩ = some (.slice Ao_x0_1 x0_1.length co_x0_1) := (Zc BK5.out 1).trans rfl; have hz5_2 : w_9.cell? ⟨gb5, 2, none⟩ = some (.int .i64 x0_2) := (Zc BK5.out 2).trans rfl; have hf5_0 := Zf BK5.out 0; have hf5_1 := Zf BK5.out 1; have hf5_2 := Zf BK5.out 2))
   (try simp only [Act.put, List.setIfInBounds_toArray, List.set_cons_zero, List.set_cons_succ])
   have H := HX.out
   clear HX
   replace H := Option.bind_eq_some_iff.mp H
   obtain ⟨⟨d0_0, d0_1, d0_2⟩, FQ130, H⟩ := H
   try dsimp only at H
   try dsimp only at FQ130
   have FQ13 := Az.mk FQ130
   clear FQ130
   replace H := Option.bind_eq_some_iff.mp H
   obtain ⟨e2, FQ140, H⟩ := H
   try dsimp only at H
   try dsimp only at FQ140
   have FQ14 := Az.mk FQ140
   clear FQ140
   have HX := Az.mk H
   clear H
   refine start_ (n := 5) (S := fun w' => w'.cell? ⟨gb5, 0, none⟩ = some (.slice Ao_x0_0 x0_0.length co_x0_0) ∧ w'.cell? ⟨gb5, 1, none⟩ = some (.slice Ao_x0_1 x0_1.length co_x0_1) ∧ w'.cell? ⟨gb5, 2, none⟩ = some (.int .i64 x0_2) ∧ w'.cell? ⟨gb1, 0, none⟩ = some (.slice A0_0 l0_0.length c0_0) ∧ w'.cell? ⟨gb1, 1, none⟩ = some (.slice A0_1 l0_1.length c0_1) ∧ w'.cell? ⟨gb1, 2, none⟩ = some (.int .i64 a0_2)) (ds := []) #[false, false, false, false, false] (by kernel_rfl) rfl rfl ⟨(Zc BK5.out 0).trans rfl, (Zc BK5.out 1).trans rfl, (Zc BK5.out 2).trans rfl, (Zc BK1.out 0).trans rfl, (Zc BK1.out 1).trans rfl, (Zc BK1.out 2).trans rfl⟩ (fun hHeld => ?_)
   clear hz1_0 hf1_0 hz1_1 hf1_1 hz1_2 hf1_2 hz5_0 hf5_0 hz5_1 hf5_1 hz5_2 hf5_2
   have n0_ := Az.mk (Kd.Rw_ HO_u.out)
   have n1_ := Az.mk (Kd.Sw_ HO_x0_0.out)
   have n2_ := Az.mk (Kd.Sw_ HO_x0_1.out)
   have n3_ := Az.mk (Kd.Rw_ HO_g.out)
   have n4_ := Az.mk (Zw BK1.out)
   have n5_ := Az.mk (Zw BK5.out)
   have n6_ := Az.mk (Yw HB.out)
   have n7_ := Az.mk (show w_9.heap.size ≤ w_9.drew.heap.size from Nat.le_refl _)
   clear HO_u HO_x0_0 HO_x0_1 HO_g BK1 BK5 HB
   have HO_u := n0_
   have HO_x0_0 := n1_
   have HO_x0_1 := n2_
   have HO_g := n3_
   have BK1 := n4_
   have BK5 := n5_
   have HB := n6_
   have HS_12o := n7_
   clear n0_ n1_ n2_ n3_ n4_ n5_ n6_ n7_
   generalize w_9.drew = w_12o at HO_u HO_x0_0 HO_x0_1 HO_g BK1 BK5 HB HS_12o hHeld ⊢
   refine take_ (i := 0) (N := some 27) (v := ?_) (a' := ?_) #[true, false, false, false, false] rfl rfl (by kernel_rfl) (fun _ _ _ h => h) (Or.inl ⟨by rfl, ?_⟩) hHeld ?_ ?_
   rotate_left
   ·rintro w' ⟨s0, s1, s2, s3, s4, s5⟩
    go_simp
    with_reducible rfl
   rotate_left
   ·simp only [Act.put, List.setIfInBounds_toArray, List.set_cons_zero, List.set_cons_succ, i64_w, i32_w]
    rfl
   refine take_ (i := 1) (N := some 28) (v := ?_) (a' := ?_) #[true, true, false, false, false] rfl rfl (by kernel_rfl) (fun _ _ _ h => h) (Or.inl ⟨by rfl, ?_⟩) hHeld ?_ ?_
   rotate_left
   ·rintro w' ⟨s0, s1, s2, s3, s4, s5⟩
    go_simp
    with_reducible rfl
   rotate_left
   ·simp only [Act.put, List.setIfInBounds_toArray, List.set_cons_zero, List.set_cons_succ, i64_w, i32_w]
    rfl
   have hz1_0 : w_12o.cell? ⟨gb1, 0, none⟩ = some (.slice A0_0 l0_0.length c0_0) := (Zc BK1.out 0).trans rfl
   have hz1_1 : w_12o.cell? ⟨gb1, 1, none⟩ = some (.slice A0_1 l0_1.length c0_1) := (Zc BK1.out 1).trans rfl
   have hz1_2 : w_12o.cell? ⟨gb1, 2, none⟩ = some (.int .i64 a0_2) := (Zc BK1.out 2).trans rfl
   have hf1_0 := Zf BK1.out 0
   have hf1_1 := Zf BK1.out 1
   have hf1_2 := Zf BK1.out 2
   have hz5_0 : w_12o.cell? ⟨gb5, 0, none⟩ = some (.slice Ao_x0_0 x0_0.length co_x0_0) := (Zc BK5.out 0).trans rfl
   have hz5_1 : w_12o.cell? ⟨gb5, 1, none⟩ = some (.slice Ao_x0_1 x0_1.length co_x0_1) := (Zc BK5.out 1).trans rfl
   have hz5_2 : w_12o.cell? ⟨gb5, 2, none⟩ = some (.int .i64 x0_2) := (Zc BK5.out 2).trans rfl
   have hf5_0 := Zf BK5.out 0
   have hf5_1 := Zf BK5.out 1
   have hf5_2 := Zf BK5.out 2
   refine one_ (i := 2) (N := some 29) #[true, true, true, false, false] rfl rfl (by kernel_rfl) (by decide) (fun K hK => ?_)
   refine goes_ Try.func24 (by kernel_rfl) rfl #[.agg #[.slice A0_0 l0_0.length c0_0, .slice A0_1 l0_1.length c0_1, .int .i64 a0_2]] (by rfl) rfl rfl (by (try simp only [List.map_toArray, List.map_cons, List.map_nil]); first | done | rfl | (simp only [List.length_drop, List.length_take]; rfl)) ?_
   (with_reducible refine (laws_toHost.callsS k _ _ l0_0 _ _ l0_1 a0_2 d0_0 d0_1 d0_2 _ ?side1 ?side2 ?side3 ?side4 FQ13.out).mono ?_)
   (case side1 => exact (Kd.Cb_ HR0_0.out (by repeat (first | (with_reducible first | exact HB.out | apply Ya | apply Yn | apply Yw) | exact HB.out))))
   (case side2 => exact HC0_0.out)
   (case side3 => exact (Kd.Cb_ HR0_1.out (by repeat (first | (with_reducible first | exact HB.out | apply Ya | apply Yn | apply Yw) | exact HB.out))))
   (case side4 => exact HC0_1.out)
   rintro e w_13 ⟨v_d0_0, v_d0_1, rfl, ⟨Pd0_, hs0_, hs1_⟩, hb⟩
   refine ⟨_, rfl, ?_⟩
   clear hz1_0 hf1_0 hz1_1 hf1_1 hz1_2 hf1_2 hz5_0 hf5_0 hz5_1 hf5_1 hz5_2 hf5_2
   have n0_ := Az.mk (Kd.Rb_ HO_u.out hb)
   have n1_ := Az.mk (Kd.Sb_ HO_x0_0.out hb)
   have n2_ := Az.mk (Kd.Sb_ HO_x0_1.out hb)
   have n3_ := Az.mk (Kd.Rb_ HO_g.out hb)
   have n4_ := Az.mk (Zb BK1.out hb)
   have n5_ := Az.mk (Zb BK5.out hb)
   have n6_ := Az.mk (show Kd.S (Kd.slice 3 (Kd.int .i64)) 45 w_13 w.heap.size (fun k_ => (w_12o.heap.size ≤ k_ ∧ k_ < w_13.heap.size) ∧ Pd0_ k_) v_d0_0 d0_0 from ivSP hs0_ (Yz (by repeat (first | (with_reducible first | exact HB.out | apply Ya | apply Yn | apply Yw) | exact HB.out))))
   have n7_ := Az.mk (show Kd.S k61s 61 w_13 w.heap.size (fun k_ => (w_12o.heap.size ≤ k_ ∧ k_ < w_13.heap.size) ∧ ¬ Pd0_ k_) v_d0_1 d0_1 from ivSP hs1_ (Yz (by repeat (first | (with_reducible first | exact HB.out | apply Ya | apply Yn | apply Yw) | exact HB.out))))
   have n8_ := Az.mk (show w_12o.heap.size ≤ w_13.heap.size from hb.size)
   have n9_ := Az.mk (Yt (by repeat (first | (with_reducible first | exact HB.out | apply Ya | apply Yn | apply Yw) | exact HB.out)) hb)
   clear HO_u HO_x0_0 HO_x0_1 HO_g BK1 BK5 HB
   have HO_u := n0_
   have HO_x0_0 := n1_
   have HO_x0_1 := n2_
   have HO_g := n3_
   have BK1 := n4_
   have BK5 := n5_
   have HO_d0_0 := n6_
   have HO_d0_1 := n7_
   have HS_13 := n8_
   have HB := n9_
   clear n0_ n1_ n2_ n3_ n4_ n5_ n6_ n7_ n8_ n9_
   (try clear hb); (try clear ho0_); (try clear ho1_); (try clear hs0_); (try clear hs1_)
   obtain ⟨Ao_d0_0, co_d0_0, eo_d0_0⟩ := Kd.Ss_ HO_d0_0.out; subst eo_d0_0
   obtain ⟨Ao_d0_1, co_d0_1, eo_d0_1⟩ := Kd.Ss_ HO_d0_1.out; subst eo_d0_1
   have hz1_0 : w_13.cell? ⟨gb1, 0, none⟩ = some (.slice A0_0 l0_0.length c0_0) := (Zc BK1.out 0).trans rfl
   have hz1_1 : w_13.cell? ⟨gb1, 1, none⟩ = some (.slice A0_1 l0_1.length c0_1) := (Zc BK1.out 1).trans rfl
   have hz1_2 : w_13.cell? ⟨gb1, 2, none⟩ = some (.int .i64 a0_2) := (Zc BK1.out 2).trans rfl
   have hf1_0 := Zf BK1.out 0
   have hf1_1 := Zf BK1.out 1
   have hf1_2 := Zf BK1.out 2
   have hz5_0 : w_13.cell? ⟨gb5, 0, none⟩ = some (.slice Ao_x0_0 x0_0.length co_x0_0) := (Zc BK5.out 0).trans rfl
   have hz5_1 : w_13.cell? ⟨gb5, 1, none⟩ = some (.slice Ao_x0_1 x0_1.length co_x0_1) := (Zc BK5.out 1).trans rfl
   have hz5_2 : w_13.cell? ⟨gb5, 2, none⟩ = some (.int .i64 x0_2) := (Zc BK5.out 2).trans rfl
   have hf5_0 := Zf BK5.out 0
   have hf5_1 := Zf BK5.out 1
   have hf5_2 := Zf BK5.out 2
   refine hK.out _ _ ⟨(Zc BK5.out 0).trans rfl, (Zc BK5.out 1).trans rfl, (Zc BK5.out 2).trans rfl, (Zc BK1.out 0).trans rfl, (Zc BK1.out 1).trans rfl, (Zc BK1.out 2).trans rfl⟩ (fun hHeld => ?_)
   clear hK K
   refine norm_ (a' := ?_) ?_ ?_
   rotate_left
   ·show Act.put _ (some 29) _ = _
    simp only [Act.put, List.setIfInBounds_toArray, List.set_cons_zero, List.set_cons_succ, i64_w, i32_w]
    rfl
   refine one_ (i := 3) (N := some 30) #[true, true, true, true, false] rfl rfl (by kernel_rfl) (by decide) (fun K hK => ?_)
   refine goes_ Try.func13 (by kernel_rfl) rfl #[.agg #[.slice Ao_x0_0 x0_0.length co_x0_0, .slice Ao_x0_1 x0_1.length co_x0_1, .int .i64 x0_2], .agg #[.slice Ao_d0_0 d0_0.length co_d0_0, .slice Ao_d0_1 d0_1.length co_d0_1, .int .i64 d0_2]] (by rfl) rfl rfl (by (try simp only [List.map_toArray, List.map_cons, List.map_nil]); first | done | rfl | (simp only [List.length_drop, List.length_take]; rfl)) ?_
   (with_reducible refine (laws_eqHost.calls k _ _ x0_0 _ _ x0_1 x0_2 _ _ d0_0 _ _ d0_1 d0_2 e2 _ ?side1 ?side2 ?side3 ?side4 ?side5 ?side6 ?side7 ?side8 FQ14.out).mono ?_)
   (case side1 => exact (Kd.Sr_ HO_x0_0.out).2.2)
   (case side2 => exact (Kd.Sr_ HO_x0_0.out).2.1)
   (case side3 => exact (k61s_reads HO_x0_1.out).2.2)
   (case side4 => exact (k61s_reads HO_x0_1.out).2.1)
   (case side5 => exact (Kd.Sr_ HO_d0_0.out).2.2)
   (case side6 => exact (Kd.Sr_ HO_d0_0.out).2.1)
   (case side7 => exact (k61s_reads HO_d0_1.out).2.2)
   (case side8 => exact (k61s_reads HO_d0_1.out).2.1)
   rintro e w_14 ⟨rfl, hb⟩
   refine ⟨_, rfl, ?_⟩
   clear hz1_0 hf1_0 hz1_1 hf1_1 hz1_2 hf1_2 hz5_0 hf5_0 hz5_1 hf5_1 hz5_2 hf5_2
   clear HO_d0_0 HO_d0_1
   have n0_ := Az.mk (Kd.Rb_ HO_u.out hb)
   have n1_ := Az.mk (Kd.Sb_ HO_x0_0.out hb)
   have n2_ := Az.mk (Kd.Sb_ HO_x0_1.out hb)
   have n3_ := Az.mk (Kd.Rb_ HO_g.out hb)
   have n4_ := Az.mk (Zb BK1.out hb)
   have n5_ := Az.mk (Zb BK5.out hb)
   have n6_ := Az.mk (show w_13.heap.size ≤ w_14.heap.size from hb.size)
   have n7_ := Az.mk (Yt (by repeat (first | (with_reducible first | exact HB.out | apply Ya | apply Yn | apply Yw) | exact HB.out)) hb)
   clear HO_u HO_x0_0 HO_x0_1 HO_g BK1 BK5 HB
   have HO_u := n0_
   have HO_x0_0 := n1_
   have HO_x0_1 := n2_
   have HO_g := n3_
   have BK1 := n4_
   have BK5 := n5_
   have HS_14 := n6_
   have HB := n7_
   clear n0_ n1_ n2_ n3_ n4_ n5_ n6_ n7_
   (try clear hb); (try clear ho0_); (try clear ho1_); (try clear hs0_); (try clear hs1_)
   have hz1_0 : w_14.cell? ⟨gb1, 0, none⟩ = some (.slice A0_0 l0_0.length c0_0) := (Zc BK1.out 0).trans rfl
   have hz1_1 : w_14.cell? ⟨gb1, 1, none⟩ = some (.slice A0_1 l0_1.length c0_1) := (Zc BK1.out 1).trans rfl
   have hz1_2 : w_14.cell? ⟨gb1, 2, none⟩ = some (.int .i64 a0_2) := (Zc BK1.out 2).trans rfl
   have hf1_0 := Zf BK1.out 0
   have hf1_1 := Zf BK1.out 1
   have hf1_2 := Zf BK1.out 2
   have hz5_0 : w_14.cell? ⟨gb5, 0, none⟩ = some (.slice Ao_x0_0 x0_0.length co_x0_0) := (Zc BK5.out 0).trans rfl
   have hz5_1 : w_14.cell? ⟨gb5, 1, none⟩ = some (.slice Ao_x0_1 x0_1.length co_x0_1) := (Zc BK5.out 1).trans rfl
   have hz5_2 : w_14.cell? ⟨gb5, 2, none⟩ = some (.int .i64 x0_2) := (Zc BK5.out 2).trans rfl
   have hf5_0 := Zf BK5.out 0
   have hf5_1 := Zf BK5.out 1
   have hf5_2 := Zf BK5.out 2
   refine hK.out _ _ ⟨(Zc BK5.out 0).trans rfl, (Zc BK5.out 1).trans rfl, (Zc BK5.out 2).trans rfl, (Zc BK1.out 0).trans rfl, (Zc BK1.out 1).trans rfl, (Zc BK1.out 2).trans rfl⟩ (fun hHeld => ?_)
   clear hK K
   refine norm_ (a' := ?_) ?_ ?_
   rotate_left
   ·show Act.put _ (some 30) _ = _
    simp only [Act.put, List.setIfInBounds_toArray, List.set_cons_zero, List.set_cons_succ, i64_w, i32_w]
    rfl
   refine pure_ (i := 4) (N := some 31) (v := ?_) (a' := ?_) #[true, true, true, true, true] rfl rfl (by kernel_rfl) (fun _ _ _ h => h) (Or.inl ⟨by rfl, ?_⟩) ?_ ?_
   rotate_left
   ·intro w'
    go_simp
    with_reducible rfl
   rotate_left
   ·simp only [Act.put, List.setIfInBounds_toArray, List.set_cons_zero, List.set_cons_succ, i64_w, i32_w]
    rfl
   refine done_ (by kernel_rfl) ?_
   have H := HX.out
   clear HX
   by_cases cq15 : e2 = true
   ·subst cq15
    replace H := (if_pos rfl).symm.trans H
    replace H := Option.bind_eq_some_iff.mp H
    obtain ⟨⟨k1, x1_0, x1_1⟩, FQ160, H⟩ := H
    try dsimp only at H
    try dsimp only at FQ160
    have FQ16 := Az.mk FQ160
    clear FQ160
    have HX := Az.mk H
    clear H
    go_upto_region 14 with (first | ((with_reducible refine Yc (f := 14) rfl ?_); refine Yg (some 34) rfl rfl Try.func14 (by kernel_rfl) rfl #[.agg #[.slice Ao_x0_0 x0_0.length co_x0_0, .slice Ao_x0_1 x0_1.length co_x0_1, .int .i64 x0_2], .int .i64 1] rfl (by (try simp only [List.map_toArray, List.map_cons, List.map_nil]); first | done | rfl) ?_; (with_reducible refine (laws_markHost.calls k (fun k_ => (w_4.heap.size ≤ k_ ∧ k_ < w_5.heap.size) ∧ Px0_ k_) (fun k_ => (w_4.heap.size ≤ k_ ∧ k_ < w_5.heap.size) ∧ ¬ Px0_ k_) _ _ x0_0 x0_1 x0_2 1 k1 x1_0 x1_1 w _ ?sideH ?sideB ?side1 ?side2 FQ16.out).mono ?_); (case sideH => exact fun _ h1_ h2_ => h2_.2 h1_.2); (case sideB => exact (by repeat (first | (with_reducible first | exact HB.out | apply Ya | apply Yn | apply Yw) | exact HB.out))); (case side1 => exact HO_x0_0.out); (case side2 => exact HO_x0_1.out); rintro e w_16 ⟨rfl, hr0_, hr1_, hb, hk_⟩; refine ⟨_, rfl, ?_⟩; clear hz1_0 hf1_0 hz1_1 hf1_1 hz1_2 hf1_2 hz5_0 hf5_0 hz5_1 hf5_1 hz5_2 hf5_2; have n0_ := Az.mk (Kd.R_kept HO_u.out hk_ (fun k_ h1_ h2_ => by obtain ⟨a_, b_⟩ := h1_; have h3_ : (w_4.heap.size ≤ k_ ∧ k_ < w_5.heap.size) := h2_.elim (fun z_ => z_.1) (fun z_ => z_.1); obtain ⟨c_, d_⟩ := h3_; have s0_ := HS_0.out; have s1_ := HS_1.out; have s2_ := HS_3.out; have s3_ := HS_4.out; have s4_ := HS_5.out; have s5_ := HS_6a.out; have s6_ := HS_6.out; have s7_ := HS_7.out; have s8_ := HS_9.out; have s9_ := HS_12o.out; have s10_ := HS_13.out; have s11_ := HS_14.out; omega)); have n1_ := Az.mk (Kd.R_kept HO_g.out hk_ (fun k_ h1_ h2_ => by obtain ⟨a_, b_⟩ := h1_; have h3_ : (w_4.heap.size ≤ k_ ∧ k_ < w_5.heap.size) := h2_.elim (fun z_ => z_.1) (fun z_ => z_.1); obtain ⟨c_, d_⟩ := h3_; have s0_ := HS_0.out; have s1_ := HS_1.out; have s2_ := HS_3.out; have s3_ := HS_4.out; have s4_ := HS_5.out; have s5_ := HS_6a.out; have s6_ := HS_6.out; have s7_ := HS_7.out; have s8_ := HS_9.out; have s9_ := HS_12o.out; have s10_ := HS_13.out; have s11_ := HS_14.out; omega)); have n2_ := Az.mk (blk_kept BK1.out hk_ (fun h2_ => by have a_ := GA1.out; have b_ := GZ1.out; have h3_ : (w_4.heap.size ≤ gb1 ∧ gb1 < w_5.heap.size) := h2_.elim (fun z_ => z_.1) (fun z_ => z_.1); obtain ⟨c_, d_⟩ := h3_; have s0_ := HS_0.out; have s1_ := HS_1.out; have s2_ := HS_3.out; have s3_ := HS_4.out; have s4_ := HS_5.out; have s5_ := HS_6a.out; have s6_ := HS_6.out; have s7_ := HS_7.out; have s8_ := HS_9.out; have s9_ := HS_12o.out; have s10_ := HS_13.out; have s11_ := HS_14.out; omega)); have n3_ := Az.mk (blk_kept BK5.out hk_ (fun h2_ => by have a_ := GA5.out; have b_ := GZ5.out; have h3_ : (w_4.heap.size ≤ gb5 ∧ gb5 < w_5.heap.size) := h2_.elim (fun z_ => z_.1) (fun z_ => z_.1); obtain ⟨c_, d_⟩ := h3_; have s0_ := HS_0.out; have s1_ := HS_1.out; have s2_ := HS_3.out; have s3_ := HS_4.out; have s4_ := HS_5.out; have s5_ := HS_6a.out; have s6_ := HS_6.out; have s7_ := HS_7.out; have s8_ := HS_9.out; have s9_ := HS_12o.out; have s10_ := HS_13.out; have s11_ := HS_14.out; omega)); have n4_ := Az.mk hr0_; have n5_ := Az.mk (show x0_0.length = x1_0.length from (Kd.Sr_ n4_.out).1); have n6_ := Az.mk hr1_; have n7_ := Az.mk (show x0_1.length = x1_1.length from (k61s_reads n6_.out).1); have n8_ := Az.mk hb; have n9_ := Az.mk (show w_14.heap.size ≤ w_16.heap.size from hk_.1); clear HO_u HO_g BK1 BK5 HO_x0_0 HO_x0_1 HB; have HO_u := n0_; have HO_g := n1_; have BK1 := n2_; have BK5 := n3_; have HO_x0_0 := n4_; have HL_HO_x0_0 := n5_; have HO_x0_1 := n6_; have HL_HO_x0_1 := n7_; have HB := n8_; have HS_16 := n9_; clear n0_ n1_ n2_ n3_ n4_ n5_ n6_ n7_ n8_ n9_; (try clear hb); (try clear hk_); (try clear hr0_); (try clear hr1_); have hz1_0 : w_16.cell? ⟨gb1, 0, none⟩ = some (.slice A0_0 l0_0.length c0_0) := (Zc BK1.out 0).trans rfl; have hz1_1 : w_16.cell? ⟨gb1, 1, none⟩ = some (.slice A0_1 l0_1.length c0_1) := (Zc BK1.out 1).trans rfl; have hz1_2 : w_16.cell? ⟨gb1, 2, none⟩ = some (.int .i64 a0_2) := (Zc BK1.out 2).trans rfl; have hf1_0 := Zf BK1.out 0; have hf1_1 := Zf BK1.out 1; have hf1_2 := Zf BK1.out 2; have hz5_0 : w_16.cell? ⟨gb5, 0, none⟩ = some (.slice Ao_x0_0 x0_0.length co_x0_0) := (Zc BK5.out 0).trans rfl; have hz5_1 : w_16.cell? ⟨gb5, 1, none⟩ = some (.slice Ao_x0_1 x0_1.length co_x0_1) := (Zc BK5.out 1).trans rfl; have hz5_2 : w_16.cell? ⟨gb5, 2, none⟩ = some (.int .i64 x0_2) := (Zc BK5.out 2).trans rfl; have hf5_0 := Zf BK5.out 0; have hf5_1 := Zf BK5.out 1; have hf5_2 := Zf BK5.out 2))
    (try simp only [Act.put, List.setIfInBounds_toArray, List.set_cons_zero, List.set_cons_succ])
    have H := HX.out
    clear HX
    by_cases cq18 : k1 < 0
    ·rw [if_pos cq18] at H
     have cq18b : decide (k1 < 0) = true := decide_eq_true cq18
     clear cq18
     obtain rfl := Option.some.inj H
     go_wp2
     go_ret
     exact ⟨by first | rfl | (simp [*]; done), by repeat (first | (with_reducible first | exact HB.out | apply Ya | apply Yn | apply Yw) | exact HB.out)⟩
    ·rw [if_neg cq18] at H
     have cq18b : decide (k1 < 0) = false := decide_eq_false cq18
     clear cq18
     replace H := Option.bind_eq_some_iff.mp H
     obtain ⟨e3, FQ190, H⟩ := H
     try dsimp only at H
     try dsimp only at FQ190
     have FQ19 := Az.mk FQ190
     clear FQ190
     by_cases cq20 : e3 = true
     ·subst cq20
      replace H := (if_pos rfl).symm.trans H
      replace H := Option.bind_eq_some_iff.mp H
      obtain ⟨⟨m1, gm⟩, FQ210, H⟩ := H
      try dsimp only at H
      try dsimp only at FQ210
      have FQ21 := Az.mk FQ210
      clear FQ210
      replace H := Option.bind_eq_some_iff.mp H
      obtain ⟨q1, FQ220, H⟩ := H
      try dsimp only at H
      try dsimp only at FQ220
      have FQ22 := Az.mk FQ220
      clear FQ220
      have HX := Az.mk H
      clear H
      go_upto_region 20 with (first | (go_at_call 26; (with_reducible refine (laws_eqIntS.calls k _ _ g _ _ u true _ ?side1 ?side2 ?side3 ?side4 FQ19.out).mono ?_); (case side1 => exact (Kd.Rr_ HO_g.out).2.2); (case side2 => exact (Kd.Rr_ HO_g.out).2.1); (case side3 => exact (Kd.Rr_ HO_u.out).2.2); (case side4 => exact (Kd.Rr_ HO_u.out).2.1); rintro e w_19 ⟨rfl, hd_⟩; have hb := Drawn0.below hd_; clear hd_; clear hz1_0 hf1_0 hz1_1 hf1_1 hz1_2 hf1_2 hz5_0 hf5_0 hz5_1 hf5_1 hz5_2 hf5_2; clear HO_x0_0 HO_x0_1 BK5 GA5 GZ5; have n0_ := Az.mk (Kd.Rb_ HO_u.out hb); have n1_ := Az.mk (Kd.Rb_ HO_g.out hb); have n2_ := Az.mk (Zb BK1.out hb); have n3_ := Az.mk (show w_16.heap.size ≤ w_19.heap.size from hb.size); have n4_ := Az.mk (Yt (by repeat (first | (with_reducible first | exact HB.out | apply Ya | apply Yn | apply Yw) | exact HB.out)) hb); clear HO_u HO_g BK1 HB; have HO_u := n0_; have HO_g := n1_; have BK1 := n2_; have HS_19 := n3_; have HB := n4_; clear n0_ n1_ n2_ n3_ n4_; (try clear hb); (try clear ho0_); (try clear ho1_); (try clear hs0_); (try clear hs1_); have hz1_0 : w_19.cell? ⟨gb1, 0, none⟩ = some (.slice A0_0 l0_0.length c0_0) := (Zc BK1.out 0).trans rfl; have hz1_1 : w_19.cell? ⟨gb1, 1, none⟩ = some (.slice A0_1 l0_1.length c0_1) := (Zc BK1.out 1).trans rfl; have hz1_2 : w_19.cell? ⟨gb1, 2, none⟩ = some (.int .i64 a0_2) := (Zc BK1.out 2).trans rfl; have hf1_0 := Zf BK1.out 0; have hf1_1 := Zf BK1.out 1; have hf1_2 := Zf BK1.out 2) | ((with_reducible refine Yc (f := 27) rfl ?_); refine Yg (some 45) rfl rfl Try.func27 (by kernel_rfl) rfl #[.slice Ao_g g.length co_g, .int .i64 1] rfl (by (try simp only [List.map_toArray, List.map_cons, List.map_nil]); first | done | rfl) ?_; (with_reducible refine (laws_markIntS.calls k (fun k_ => w_6.heap.size ≤ k_ ∧ k_ < w_7.heap.size) _ g 1 m1 gm w _ ?sideB ?side1 FQ21.out).mono ?_); (case sideB => exact (by repeat (first | (with_reducible first | exact HB.out | apply Ya | apply Yn | apply Yw) | exact HB.out))); (case side1 => exact HO_g.out); rintro e w_21 ⟨rfl, hr0_, hb, hk_⟩; refine ⟨_, rfl, ?_⟩; clear hz1_0 hf1_0 hz1_1 hf1_1 hz1_2 hf1_2; have n0_ := Az.mk (Kd.R_kept HO_u.out hk_ (fun k_ h1_ h2_ => by obtain ⟨a_, b_⟩ := h1_; have h3_ : (w_6.heap.size ≤ k_ ∧ k_ < w_7.heap.size) := h2_; obtain ⟨c_, d_⟩ := h3_; have s0_ := HS_0.out; have s1_ := HS_1.out; have s2_ := HS_3.out; have s3_ := HS_4.out; have s4_ := HS_5.out; have s5_ := HS_6a.out; have s6_ := HS_6.out; have s7_ := HS_7.out; have s8_ := HS_9.out; have s9_ := HS_12o.out; have s10_ := HS_13.out; have s11_ := HS_14.out; have s12_ := HS_16.out; have s13_ := HS_19.out; omega)); have n1_ := Az.mk (blk_kept BK1.out hk_ (fun h2_ => by have a_ := GA1.out; have b_ := GZ1.out; have h3_ : (w_6.heap.size ≤ gb1 ∧ gb1 < w_7.heap.size) := h2_; obtain ⟨c_, d_⟩ := h3_; have s0_ := HS_0.out; have s1_ := HS_1.out; have s2_ := HS_3.out; have s3_ := HS_4.out; have s4_ := HS_5.out; have s5_ := HS_6a.out; have s6_ := HS_6.out; have s7_ := HS_7.out; have s8_ := HS_9.out; have s9_ := HS_12o.out; have s10_ := HS_13.out; have s11_ := HS_14.out; have s12_ := HS_16.out; have s13_ := HS_19.out; omega)); have n2_ := Az.mk (Kd.R_reok rfl hr0_ (fun k_ e_ => HO_g.out.1 k_ e_)); have n3_ := Az.mk (show g.length = gm.length from (Kd.Rr_ n2_.out).1); have n4_ := Az.mk hb; have n5_ := Az.mk (show w_19.heap.size ≤ w_21.heap.size from hk_.1); clear HO_u BK1 HO_g HB; have HO_u := n0_; have BK1 := n1_; have HO_g := n2_; have HL_HO_g := n3_; have HB := n4_; have HS_21 := n5_; clear n0_ n1_ n2_ n3_ n4_ n5_; (try clear hb); (try clear hk_); (try clear hr0_); have hz1_0 : w_21.cell? ⟨gb1, 0, none⟩ = some (.slice A0_0 l0_0.length c0_0) := (Zc BK1.out 0).trans rfl; have hz1_1 : w_21.cell? ⟨gb1, 1, none⟩ = some (.slice A0_1 l0_1.length c0_1) := (Zc BK1.out 1).trans rfl; have hz1_2 : w_21.cell? ⟨gb1, 2, none⟩ = some (.int .i64 a0_2) := (Zc BK1.out 2).trans rfl; have hf1_0 := Zf BK1.out 0; have hf1_1 := Zf BK1.out 1; have hf1_2 := Zf BK1.out 2) | ((with_reducible refine Yc (f := 28) rfl ?_); refine Yg (some 48) rfl rfl Try.func28 (by kernel_rfl) rfl #[.slice Ao_g gm.length co_g, .int .i64 1] rfl (by (try simp only [List.map_toArray, List.map_cons, List.map_nil]); first | done | rfl | (rw [HL_HO_g.out] <;> rfl)) ?_; (with_reducible refine (laws_heldIntS.calls k _ _ gm 1 q1 _ ?side1 ?side2 FQ22.out).mono ?_); (case side1 => exact (Kd.Rr_ HO_g.out).2.2); (case side2 => exact (Nat.le_trans (Nat.le_of_eq HL_HO_g.out.symm) (Kd.Rr_ HO_g.out).2.1)); rintro e w_22 ⟨rfl, hd_⟩; refine ⟨_, rfl, ?_⟩; have hb := Drawn0.below hd_; clear hd_; clear hz1_0 hf1_0 hz1_1 hf1_1 hz1_2 hf1_2; have n0_ := Az.mk (Kd.Rb_ HO_u.out hb); have n1_ := Az.mk (Kd.Rb_ HO_g.out hb); have n2_ := Az.mk (Zb BK1.out hb); have n3_ := Az.mk (show w_21.heap.size ≤ w_22.heap.size from hb.size); have n4_ := Az.mk (Yt (by repeat (first | (with_reducible first | exact HB.out | apply Ya | apply Yn | apply Yw) | exact HB.out)) hb); clear HO_u HO_g BK1 HB; have HO_u := n0_; have HO_g := n1_; have BK1 := n2_; have HS_22 := n3_; have HB := n4_; clear n0_ n1_ n2_ n3_ n4_; (try clear hb); (try clear ho0_); (try clear ho1_); (try clear hs0_); (try clear hs1_); have hz1_0 : w_22.cell? ⟨gb1, 0, none⟩ = some (.slice A0_0 l0_0.length c0_0) := (Zc BK1.out 0).trans rfl; have hz1_1 : w_22.cell? ⟨gb1, 1, none⟩ = some (.slice A0_1 l0_1.length c0_1) := (Zc BK1.out 1).trans rfl; have hz1_2 : w_22.cell? ⟨gb1, 2, none⟩ = some (.int .i64 a0_2) := (Zc BK1.out 2).trans rfl; have hf1_0 := Zf BK1.out 0; have hf1_1 := Zf BK1.out 1; have hf1_2 := Zf BK1.out 2))
      (try simp only [Act.put, List.setIfInBounds_toArray, List.set_cons_zero, List.set_cons_succ])
      have H := HX.out
      clear HX
      by_cases cq24 : q1 < 0
      ·rw [if_pos cq24] at H
       have cq24b : decide (q1 < 0) = true := decide_eq_true cq24
       clear cq24
       obtain rfl := Option.some.inj H
       go_wp2
       go_ret
       exact ⟨by first | rfl | (simp [*]; done), by repeat (first | (with_reducible first | exact HB.out | apply Ya | apply Yn | apply Yw) | exact HB.out)⟩
      ·rw [if_neg cq24] at H
       have cq24b : decide (q1 < 0) = false := decide_eq_false cq24
       clear cq24
       by_cases cq25 : q1 = m1
       ·rw [if_pos cq25] at H
        have cq25b : (q1 == m1) = true := beq_iff_eq.mpr cq25
        have cq25n : (q1 != m1) = false := bne_eq_false_iff_eq.mpr cq25
        clear cq25
        replace H := Option.bind_eq_some_iff.mp H
        obtain ⟨⟨d1_0, d1_1, d1_2⟩, FQ260, H⟩ := H
        try dsimp only at H
        try dsimp only at FQ260
        have FQ26 := Az.mk FQ260
        clear FQ260
        replace H := Option.bind_eq_some_iff.mp H
        obtain ⟨h, FQ270, H⟩ := H
        try dsimp only at H
        try dsimp only at FQ270
        have FQ27 := Az.mk FQ270
        clear FQ270
        have HX := Az.mk H
        clear H
        go_upto_region 25 with (first | ((with_reducible refine Yc (f := 24) rfl ?_); refine Yg (some 55) rfl rfl Try.func24 (by kernel_rfl) rfl #[.agg #[.slice A0_0 l0_0.length c0_0, .slice A0_1 l0_1.length c0_1, .int .i64 a0_2]] rfl (by (try simp only [List.map_toArray, List.map_cons, List.map_nil]); first | done | rfl) ?_; (with_reducible refine (laws_toHost.callsS k _ _ l0_0 _ _ l0_1 a0_2 d1_0 d1_1 d1_2 _ ?side1 ?side2 ?side3 ?side4 FQ26.out).mono ?_); (case side1 => exact (Kd.Cb_ HR0_0.out (by repeat (first | (with_reducible first | exact HB.out | apply Ya | apply Yn | apply Yw) | exact HB.out)))); (case side2 => exact HC0_0.out); (case side3 => exact (Kd.Cb_ HR0_1.out (by repeat (first | (with_reducible first | exact HB.out | apply Ya | apply Yn | apply Yw) | exact HB.out)))); (case side4 => exact HC0_1.out); rintro e w_26 ⟨v_d1_0, v_d1_1, rfl, ⟨Pd1_, hs0_, hs1_⟩, hb⟩; refine ⟨_, rfl, ?_⟩; clear hz1_0 hf1_0 hz1_1 hf1_1 hz1_2 hf1_2; clear BK1 GA1 GZ1; have n0_ := Az.mk (Kd.Rb_ HO_u.out hb); have n1_ := Az.mk (Kd.Rb_ HO_g.out hb); have n2_ := Az.mk (show Kd.S (Kd.slice 3 (Kd.int .i64)) 45 w_26 w.heap.size (fun k_ => (w_22.heap.size ≤ k_ ∧ k_ < w_26.heap.size) ∧ Pd1_ k_) v_d1_0 d1_0 from ivSP hs0_ (Yz (by repeat (first | (with_reducible first | exact HB.out | apply Ya | apply Yn | apply Yw) | exact HB.out)))); have n3_ := Az.mk (show Kd.S k61s 61 w_26 w.heap.size (fun k_ => (w_22.heap.size ≤ k_ ∧ k_ < w_26.heap.size) ∧ ¬ Pd1_ k_) v_d1_1 d1_1 from ivSP hs1_ (Yz (by repeat (first | (with_reducible first | exact HB.out | apply Ya | apply Yn | apply Yw) | exact HB.out)))); have n4_ := Az.mk (show w_22.heap.size ≤ w_26.heap.size from hb.size); have n5_ := Az.mk (Yt (by repeat (first | (with_reducible first | exact HB.out | apply Ya | apply Yn | apply Yw) | exact HB.out)) hb); clear HO_u HO_g HB; have HO_u := n0_; have HO_g := n1_; have HO_d1_0 := n2_; have HO_d1_1 := n3_; have HS_26 := n4_; have HB := n5_; clear n0_ n1_ n2_ n3_ n4_ n5_; (try clear hb); (try clear ho0_); (try clear ho1_); (try clear hs0_); (try clear hs1_); obtain ⟨Ao_d1_0, co_d1_0, eo_d1_0⟩ := Kd.Ss_ HO_d1_0.out; subst eo_d1_0; obtain ⟨Ao_d1_1, co_d1_1, eo_d1_1⟩ := Kd.Ss_ HO_d1_1.out; subst eo_d1_1) | ((with_reducible refine Yc (f := 25) rfl ?_); refine Yg (some 56) rfl rfl Try.func25 (by kernel_rfl) rfl #[.agg #[.slice Ao_d1_0 d1_0.length co_d1_0, .slice Ao_d1_1 d1_1.length co_d1_1, .int .i64 d1_2]] rfl (by (try simp only [List.map_toArray, List.map_cons, List.map_nil]); first | done | rfl) ?_; (with_reducible refine (impl_HostFree.calls k _ _ d1_0 _ _ d1_1 d1_2 h _ ?side1 ?side2 ?side3 ?side4 FQ27.out).mono ?_); (case side1 => exact (Kd.Sr_ HO_d1_0.out).2.2); (case side2 => exact (Kd.Sr_ HO_d1_0.out).2.1); (case side3 => exact (k61s_reads HO_d1_1.out).2.2); (case side4 => exact (k61s_reads HO_d1_1.out).2.1); rintro e w_27 ⟨v_h, rfl, ho0_, hb⟩; refine ⟨_, rfl, ?_⟩; clear HO_d1_0 HO_d1_1; have n0_ := Az.mk (Kd.Rb_ HO_u.out hb); have n1_ := Az.mk (Kd.Rb_ HO_g.out hb); have n2_ := Az.mk (show Kd.R (Kd.int .i64) 3 w_27 w.heap.size (fun k_ => w_26.heap.size ≤ k_ ∧ k_ < w_27.heap.size) v_h h from ivR ho0_ (Yz (by repeat (first | (with_reducible first | exact HB.out | apply Ya | apply Yn | apply Yw) | exact HB.out)))); have n3_ := Az.mk (show w_26.heap.size ≤ w_27.heap.size from hb.size); have n4_ := Az.mk (Yt (by repeat (first | (with_reducible first | exact HB.out | apply Ya | apply Yn | apply Yw) | exact HB.out)) hb); clear HO_u HO_g HB; have HO_u := n0_; have HO_g := n1_; have HO_h := n2_; have HS_27 := n3_; have HB := n4_; clear n0_ n1_ n2_ n3_ n4_; (try clear hb); (try clear ho0_); (try clear ho1_); (try clear hs0_); (try clear hs1_); obtain ⟨Ao_h, co_h, eo_h⟩ := Kd.Rs_ HO_h.out; subst eo_h))
        (try simp only [Act.put, List.setIfInBounds_toArray, List.set_cons_zero, List.set_cons_succ])
        have H := HX.out
        clear HX
        replace H := Option.bind_eq_some_iff.mp H
        obtain ⟨e4, FQ290, H⟩ := H
        try dsimp only at H
        try dsimp only at FQ290
        have FQ29 := Az.mk FQ290
        clear FQ290
        by_cases cq30 : e4 = true
        ·subst cq30
         replace H := (if_pos rfl).symm.trans H
         replace H := Option.bind_eq_some_iff.mp H
         obtain ⟨q2, FQ310, H⟩ := H
         try dsimp only at H
         try dsimp only at FQ310
         have FQ31 := Az.mk FQ310
         clear FQ310
         have HX := Az.mk H
         clear H
         go_upto_region 29 with (first | ((with_reducible refine Yc (f := 26) rfl ?_); refine Yg (some 59) rfl rfl Try.func26 (by kernel_rfl) rfl #[.slice Ao_h h.length co_h, .slice Ao_u u.length co_u] rfl (by (try simp only [List.map_toArray, List.map_cons, List.map_nil]); first | done | rfl) ?_; (with_reducible refine (laws_eqIntS.calls k _ _ h _ _ u true _ ?side1 ?side2 ?side3 ?side4 FQ29.out).mono ?_); (case side1 => exact (Kd.Rr_ HO_h.out).2.2); (case side2 => exact (Kd.Rr_ HO_h.out).2.1); (case side3 => exact (Kd.Rr_ HO_u.out).2.2); (case side4 => exact (Kd.Rr_ HO_u.out).2.1); rintro e w_29 ⟨rfl, hd_⟩; refine ⟨_, rfl, ?_⟩; have hb := Drawn0.below hd_; clear hd_; clear HO_u HO_h; have n0_ := Az.mk (Kd.Rb_ HO_g.out hb); have n1_ := Az.mk (show w_27.heap.size ≤ w_29.heap.size from hb.size); have n2_ := Az.mk (Yt (by repeat (first | (with_reducible first | exact HB.out | apply Ya | apply Yn | apply Yw) | exact HB.out)) hb); clear HO_g HB; have HO_g := n0_; have HS_29 := n1_; have HB := n2_; clear n0_ n1_ n2_; (try clear hb); (try clear ho0_); (try clear ho1_); (try clear hs0_); (try clear hs1_)) | ((with_reducible refine Yc (f := 28) rfl ?_); refine Yg (some 63) rfl rfl Try.func28 (by kernel_rfl) rfl #[.slice Ao_g gm.length co_g, .int .i64 1] rfl (by (try simp only [List.map_toArray, List.map_cons, List.map_nil]); first | done | rfl | (rw [HL_HO_g.out] <;> rfl)) ?_; (with_reducible refine (laws_heldIntS.calls k _ _ gm 1 q2 _ ?side1 ?side2 FQ31.out).mono ?_); (case side1 => exact (Kd.Rr_ HO_g.out).2.2); (case side2 => exact (Nat.le_trans (Nat.le_of_eq HL_HO_g.out.symm) (Kd.Rr_ HO_g.out).2.1)); rintro e w_31 ⟨rfl, hd_⟩; refine ⟨_, rfl, ?_⟩; have hb := Drawn0.below hd_; clear hd_; clear HO_g; have n0_ := Az.mk (show w_29.heap.size ≤ w_31.heap.size from hb.size); have n1_ := Az.mk (Yt (by repeat (first | (with_reducible first | exact HB.out | apply Ya | apply Yn | apply Yw) | exact HB.out)) hb); clear HB; have HS_31 := n0_; have HB := n1_; clear n0_ n1_; (try clear hb); (try clear ho0_); (try clear ho1_); (try clear hs0_); (try clear hs1_)))
         (try simp only [Act.put, List.setIfInBounds_toArray, List.set_cons_zero, List.set_cons_succ])
         have H := HX.out
         clear HX
         by_cases cq33 : q2 < 0
         ·rw [if_pos cq33] at H
          have cq33b : decide (q2 < 0) = true := decide_eq_true cq33
          clear cq33
          obtain rfl := Option.some.inj H
          go_wp2
          go_ret
          exact ⟨by first | rfl | (simp [*]; done), by repeat (first | (with_reducible first | exact HB.out | apply Ya | apply Yn | apply Yw) | exact HB.out)⟩
         ·rw [if_neg cq33] at H
          have cq33b : decide (q2 < 0) = false := decide_eq_false cq33
          clear cq33
          by_cases cq34 : q2 = m1
          ·rw [if_pos cq34] at H
           have cq34b : (q2 == m1) = true := beq_iff_eq.mpr cq34
           have cq34n : (q2 != m1) = false := bne_eq_false_iff_eq.mpr cq34
           clear cq34
           obtain rfl := Option.some.inj H
           go_wp2
           go_ret
           exact ⟨by first | rfl | (simp [*]; done), by repeat (first | (with_reducible first | exact HB.out | apply Ya | apply Yn | apply Yw) | exact HB.out)⟩
          ·rw [if_neg cq34] at H
           have cq34b : (q2 == m1) = false := beq_eq_false_iff_ne.mpr cq34
           have cq34n : (q2 != m1) = true := bne_iff_ne.mpr cq34
           clear cq34
           obtain rfl := Option.some.inj H
           go_wp2
           go_ret
           exact ⟨by first | rfl | (simp [*]; done), by repeat (first | (with_reducible first | exact HB.out | apply Ya | apply Yn | apply Yw) | exact HB.out)⟩
        ·replace cq30 := Bool.eq_false_iff.mpr cq30
         subst cq30
         replace H := (if_neg (show ¬ (false = true) by decide)).symm.trans H
         obtain rfl := Option.some.inj H
         go_wp2_with (first | ((with_reducible refine Yc (f := 26) rfl ?_); refine Yg (some 59) rfl rfl Try.func26 (by kernel_rfl) rfl #[.slice Ao_h h.length co_h, .slice Ao_u u.length co_u] rfl (by (try simp only [List.map_toArray, List.map_cons, List.map_nil]); first | done | rfl) ?_; (with_reducible refine (laws_eqIntS.calls k _ _ h _ _ u false _ ?side1 ?side2 ?side3 ?side4 FQ29.out).mono ?_); (case side1 => exact (Kd.Rr_ HO_h.out).2.2); (case side2 => exact (Kd.Rr_ HO_h.out).2.1); (case side3 => exact (Kd.Rr_ HO_u.out).2.2); (case side4 => exact (Kd.Rr_ HO_u.out).2.1); rintro e w_29 ⟨rfl, hd_⟩; refine ⟨_, rfl, ?_⟩; have hb := Drawn0.below hd_; clear hd_; clear HO_u HO_h; have n0_ := Az.mk (Kd.Rb_ HO_g.out hb); have n1_ := Az.mk (show w_27.heap.size ≤ w_29.heap.size from hb.size); have n2_ := Az.mk (Yt (by repeat (first | (with_reducible first | exact HB.out | apply Ya | apply Yn | apply Yw) | exact HB.out)) hb); clear HO_g HB; have HO_g := n0_; have HS_29 := n1_; have HB := n2_; clear n0_ n1_ n2_; (try clear hb); (try clear ho0_); (try clear ho1_); (try clear hs0_); (try clear hs1_)))
         go_ret
         exact ⟨by first | rfl | (simp [*]; done), by repeat (first | (with_reducible first | exact HB.out | apply Ya | apply Yn | apply Yw) | exact HB.out)⟩
       ·rw [if_neg cq25] at H
        have cq25b : (q1 == m1) = false := beq_eq_false_iff_ne.mpr cq25
        have cq25n : (q1 != m1) = true := bne_iff_ne.mpr cq25
        clear cq25
        obtain rfl := Option.some.inj H
        go_wp2
        go_ret
        exact ⟨by first | rfl | (simp [*]; done), by repeat (first | (with_reducible first | exact HB.out | apply Ya | apply Yn | apply Yw) | exact HB.out)⟩
     ·replace cq20 := Bool.eq_false_iff.mpr cq20
      subst cq20
      replace H := (if_neg (show ¬ (false = true) by decide)).symm.trans H
      obtain rfl := Option.some.inj H
      go_wp2_with (first | (go_at_call 26; (with_reducible refine (laws_eqIntS.calls k _ _ g _ _ u false _ ?side1 ?side2 ?side3 ?side4 FQ19.out).mono ?_); (case side1 => exact (Kd.Rr_ HO_g.out).2.2); (case side2 => exact (Kd.Rr_ HO_g.out).2.1); (case side3 => exact (Kd.Rr_ HO_u.out).2.2); (case side4 => exact (Kd.Rr_ HO_u.out).2.1); rintro e w_19 ⟨rfl, hd_⟩; have hb := Drawn0.below hd_; clear hd_; clear hz1_0 hf1_0 hz1_1 hf1_1 hz1_2 hf1_2 hz5_0 hf5_0 hz5_1 hf5_1 hz5_2 hf5_2; clear HO_x0_0 HO_x0_1 BK5 GA5 GZ5; have n0_ := Az.mk (Kd.Rb_ HO_u.out hb); have n1_ := Az.mk (Kd.Rb_ HO_g.out hb); have n2_ := Az.mk (Zb BK1.out hb); have n3_ := Az.mk (show w_16.heap.size ≤ w_19.heap.size from hb.size); have n4_ := Az.mk (Yt (by repeat (first | (with_reducible first | exact HB.out | apply Ya | apply Yn | apply Yw) | exact HB.out)) hb); clear HO_u HO_g BK1 HB; have HO_u := n0_; have HO_g := n1_; have BK1 := n2_; have HS_19 := n3_; have HB := n4_; clear n0_ n1_ n2_ n3_ n4_; (try clear hb); (try clear ho0_); (try clear ho1_); (try clear hs0_); (try clear hs1_); have hz1_0 : w_19.cell? ⟨gb1, 0, none⟩ = some (.slice A0_0 l0_0.length c0_0) := (Zc BK1.out 0).trans rfl; have hz1_1 : w_19.cell? ⟨gb1, 1, none⟩ = some (.slice A0_1 l0_1.length c0_1) := (Zc BK1.out 1).trans rfl; have hz1_2 : w_19.cell? ⟨gb1, 2, none⟩ = some (.int .i64 a0_2) := (Zc BK1.out 2).trans rfl; have hf1_0 := Zf BK1.out 0; have hf1_1 := Zf BK1.out 1; have hf1_2 := Zf BK1.out 2))
      go_ret
      exact ⟨by first | rfl | (simp [*]; done), by repeat (first | (with_reducible first | exact HB.out | apply Ya | apply Yn | apply Yw) | exact HB.out)⟩
   ·replace cq15 := Bool.eq_false_iff.mpr cq15
    subst cq15
    replace H := (if_neg (show ¬ (false = true) by decide)).symm.trans H
    obtain rfl := Option.some.inj H
    go_wp2
    go_ret
    exact ⟨by first | rfl | (simp [*]; done), by repeat (first | (with_reducible first | exact HB.out | apply Ya | apply Yn | apply Yw) | exact HB.out)⟩
  ·replace cq10 := Bool.eq_false_iff.mpr cq10
   subst cq10
   replace H := (if_neg (show ¬ (false = true) by decide)).symm.trans H
   obtain rfl := Option.some.inj H
   go_wp2_with (first | ((with_reducible refine Yc (f := 26) rfl ?_); refine Yg (some 25) rfl rfl Try.func26 (by kernel_rfl) rfl #[.slice Ao_g g.length co_g, .slice Ao_u u.length co_u] rfl (by (try simp only [List.map_toArray, List.map_cons, List.map_nil]); first | done | rfl) ?_; (with_reducible refine (laws_eqIntS.calls k _ _ g _ _ u false _ ?side1 ?side2 ?side3 ?side4 FQ9.out).mono ?_); (case side1 => exact (Kd.Rr_ HO_g.out).2.2); (case side2 => exact (Kd.Rr_ HO_g.out).2.1); (case side3 => exact (Kd.Rr_ HO_u.out).2.2); (case side4 => exact (Kd.Rr_ HO_u.out).2.1); rintro e w_9 ⟨rfl, hd_⟩; refine ⟨_, rfl, ?_⟩; have hb := Drawn0.below hd_; clear hd_; clear hz1_0 hf1_0 hz1_1 hf1_1 hz1_2 hf1_2 hz5_0 hf5_0 hz5_1 hf5_1 hz5_2 hf5_2; have n0_ := Az.mk (Kd.Rb_ HO_u.out hb); have n1_ := Az.mk (Kd.Sb_ HO_x0_0.out hb); have n2_ := Az.mk (Kd.Sb_ HO_x0_1.out hb); have n3_ := Az.mk (Kd.Rb_ HO_g.out hb); have n4_ := Az.mk (Zb BK1.out hb); have n5_ := Az.mk (Zb BK5.out hb); have n6_ := Az.mk (show w_7.heap.size ≤ w_9.heap.size from hb.size); have n7_ := Az.mk (Yt (by repeat (first | (with_reducible first | exact HB.out | apply Ya | apply Yn | apply Yw) | exact HB.out)) hb); clear HO_u HO_x0_0 HO_x0_1 HO_g BK1 BK5 HB; have HO_u := n0_; have HO_x0_0 := n1_; have HO_x0_1 := n2_; have HO_g := n3_; have BK1 := n4_; have BK5 := n5_; have HS_9 := n6_; have HB := n7_; clear n0_ n1_ n2_ n3_ n4_ n5_ n6_ n7_; (try clear hb); (try clear ho0_); (try clear ho1_); (try clear hs0_); (try clear hs1_); have hz1_0 : w_9.cell? ⟨gb1, 0, none⟩ = some (.slice A0_0 l0_0.length c0_0) := (Zc BK1.out 0).trans rfl; have hz1_1 : w_9.cell? ⟨gb1, 1, none⟩ = some (.slice A0_1 l0_1.length c0_1) := (Zc BK1.out 1).trans rfl; have hz1_2 : w_9.cell? ⟨gb1, 2, none⟩ = some (.int .i64 a0_2) := (Zc BK1.out 2).trans rfl; have hf1_0 := Zf BK1.out 0; have hf1_1 := Zf BK1.out 1; have hf1_2 := Zf BK1.out 2; have hz5_0 : w_9.cell? ⟨gb5, 0, none⟩ = some (.slice Ao_x0_0 x0_0.length co_x0_0) := (Zc BK5.out 0).trans rfl; have hz5_1 : w_9.cell? ⟨gb5, 1, none⟩ = some (.slice Ao_x0_1 x0_1.length co_x0_1) := (Zc BK5.out 1).trans rfl; have hz5_2 : w_9.cell? ⟨gb5, 2, none⟩ = some (.int .i64 x0_2) := (Zc BK5.out 2).trans rfl; have hf5_0 := Zf BK5.out 0; have hf5_1 := Zf BK5.out 1; have hf5_2 := Zf BK5.out 2))
   go_ret
   exact ⟨by first | rfl | (simp [*]; done), by repeat (first | (with_reducible first | exact HB.out | apply Ya | apply Yn | apply Yw) | exact HB.out)⟩

end Go.Proofs.Ytjgcfpclddfifaa.QFnExactHostFree
