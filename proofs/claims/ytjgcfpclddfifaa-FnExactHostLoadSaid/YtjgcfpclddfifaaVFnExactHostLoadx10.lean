/- Walks of this claim: each Go function that the law reaches comes to what the Lean function beside it says. Conditions: none beyond those that each theorem names. -/
import Derived.Test.YtjgcfpclddfifaaVFnExactHostLoadx0
import Derived.Test.YtjgcfpclddfifaaVFnExactHostLoadx8
import Derived.Test.YtjgcfpclddfifaaVFnExactHostLoadx9
namespace Go.Proofs.Ytjgcfpclddfifaa.QFnExactHostLoad
open Go.RowKit Go.Proofs.YtjgcfpclddfifaaW.PrintWords Go.Proofs.YtjgcfpclddfifaaW.PrintLast Go.Proofs.YtjgcfpclddfifaaW.PrintMore
attribute [local go_sem] max2_int min2_int max_two min_two max_three min_three max_four min_four   -- for this text's walks alone
set_option linter.unusedVariables false
set_option linter.unusedSimpArgs false

/-- The frames' blocks are those of P; what is not P is free for the guests. -/
theorem partF {w : World} {b : Nat} {v u : Value} {xs : List (List Int)} {ys : List S61} {ok ok' : Nat → Prop} (h : Kd.S (Kd.slice 3 (Kd.int .i64)) 45 w b ok v xs) (h' : k61.R 61 w b ok' u ys) (he : ys = []) :
  ∃ P : Nat → Prop, (∀ k, P k → k < w.heap.size) ∧ Kd.S (Kd.slice 3 (Kd.int .i64)) 45 w b P v xs ∧ Kd.S k61s 61 w b (fun k => ¬ P k) u ys := by
 refine ⟨fun k => k < w.heap.size ∧ some k ≠ u.ownBlock, fun k hk => hk.1, Kd.Sm_ (Kd.S_bound (Kd.S_apart' h (Kd.R_typed h') (by decide))) (fun k hk => ⟨hk.2.2.1, hk.1.2⟩), ?_⟩
 subst he
 obtain ⟨_, inner, ho, hr⟩ := h'
 exact ⟨fun _ => 0, fun k hk hp => hp.2 hk.symm, inner, ho, hr.1, fun j p hj => by simp at hj⟩
/-! ### impl_HostLoad: function 19 -/
mutual
def impl_HostLoad.j0 : Nat → List (List Int) → Int → Bool → Option ((List (List Int)) × (List (S61)) × Int × Bool)
 | 0, _, _, _ => none
 | k + 1, x0, x4, x24 => if x24 = true then (some (([] : List (List Int)), ([] : List (S61)), 0, false)) else (impl_HostLoad.l0 k x0 x4 0 (([] : List (List Int))) (([] : List (S61))) 0)
def impl_HostLoad.l0 : Nat → List (List Int) → Int → Int → List (List Int) → List (S61) → Int → Option ((List (List Int)) × (List (S61)) × Int × Bool)
 | 0, _, _, _, _, _, _ => none
 | k + 1, x0, x4, x29, x262000, x262001, x262002 => if x29 < 8 then (if 4 ≤ 35184372088832 then (if x262000.length < 5864062014805 then (impl_HostLoad.l0 k x0 x4 (wrap64 (x29 + 1)) (x262000 ++ [(List.replicate 4 0)]) x262001 x262002) else (none)) else (none)) else (impl_HostLoad.l1 k x0 x4 0 x262000 x262001 x262002)
def impl_HostLoad.l1 : Nat → List (List Int) → Int → Int → List (List Int) → List (S61) → Int → Option ((List (List Int)) × (List (S61)) × Int × Bool)
 | 0, _, _, _, _, _, _ => none
 | k + 1, x0, x38, x39, x262000, x262001, x262002 => if x39 < x38 then (if 6 ≤ 11728124029610 then (if 0 ≤ (wrap64 (x39 * 6)) then (if (wrap64 (x39 * 6)) ≤ (wrap64 ((wrap64 (x39 + 1)) * 6)) then (if (wrap64 ((wrap64 (x39 + 1)) * 6)) ≤ (x0.length : Int) then ((impl_cloneMem.f k ((x0.take ((wrap64 ((wrap64 (x39 + 1)) * 6)) : Int).toNat).drop ((wrap64 (x39 * 6)) : Int).toNat)).bind fun t275 => (if 6 ≤ 8796093022208 then (if x262001.length < 1954687338268 then (impl_HostLoad.l1 k x0 x38 (wrap64 (x39 + 1)) x262000 (x262001 ++ [(⟨(List.replicate 6 z83), t275, (List.replicate 6 z86)⟩ : S61)]) x262002) else (none)) else (none))) else (none)) else (none)) else (none)) else (none)) else (some (x262000, x262001, x262002, true))
end
def impl_HostLoad.f (k : Nat) (l0 : List (List Int)) : Option ((List (List Int)) × (List (S61)) × Int × Bool) := (impl_MemOk.f k l0).bind fun t253 => (if t253 = true then ((impl_within.f (wrap64 ((l0.length : Int) / 6)) 1 2).bind fun t254 => (if t254 = true then (impl_HostLoad.j0 k l0 (wrap64 ((l0.length : Int) / 6)) ((l0.length : Int) != (wrap64 ((wrap64 ((l0.length : Int) / 6)) * 6)))) else (impl_HostLoad.j0 k l0 (wrap64 ((l0.length : Int) / 6)) true))) else (impl_HostLoad.j0 k l0 (wrap64 ((l0.length : Int) / 6)) true))
def impl_HostLoad.T12 : Bool × List (List Nat × List Nat) := (true, [([], []), ([0], [0]), ([], []), ([], []), ([], []), ([4], [4]), ([], []), ([6], [6]), ([7], [7]), ([3, 5, 8], [3, 5, 8]), ([9], [9]), ([], []), ([2, 10, 11], [2, 10, 11]), ([12], [12]), ([1, 13, 10], [1, 13]), ([0, 1, 2, 3, 4, 5, 6, 7, 8, 9, 10, 11, 12, 13, 14], []), ([15, 14, 14, 0, 1, 2, 3, 4, 5, 6, 7, 8, 9, 10, 11, 12, 13, 14], [14, 15])])
def impl_HostLoad.B12 : List Nat := [0, 1, 0, 0, 0, 16, 0, 64, 192, 504, 1016, 0, 4092, 8188, 16383, 32767, 65535]
theorem impl_HostLoad.tab12 : rtab .any (opsOf Try.f19 12) = impl_HostLoad.T12 := by kernel_rfl
theorem impl_HostLoad.bits12 : waitsOk impl_HostLoad.T12.2 impl_HostLoad.B12 = true := by kernel_rfl
set_option maxHeartbeats 8000000 in
set_option maxRecDepth 100000 in
theorem impl_HostLoad.callsS (k : Nat) (A0 : Option Addr) (c0 : Nat) (l0 : List (List Int)) (r1 : List (List Int)) (r2 : List (S61)) (r3 : Int) (r4 : Bool) (w : World) (hr0 : Kd.C (Kd.slice 3 (Kd.int .i64)) w A0 l0.length l0) (hc0 : l0.length ≤ c0) (h : impl_HostLoad.f k l0 = some (r1, r2, r3, r4)) :
  Calls Try.prog 19 #[.slice A0 l0.length c0] w fun e w' => ∃ v0_ v1_ : Value, e = .returned (.tuple #[.agg #[v0_, v1_, .int .i64 r3], .bool r4]) ∧ (∃ P_ : Nat → Prop, Kd.S (Kd.slice 3 (Kd.int .i64)) 45 w' w.heap.size P_ v0_ r1 ∧ Kd.S k61s 61 w' w.heap.size (fun k_ => ¬ P_ k_) v1_ r2) ∧ Below w.heap.size w w' := by
 have hu31 := Try.underlying31
 have hu61 := Try.underlying61
 have HR0 := Az.mk hr0
 have HC0 := Az.mk hc0
 clear hr0 hc0
 have HB := Az.mk (Below.refl w.heap.size w)
 have H : ((impl_MemOk.f k l0).bind fun t253 => (if t253 = true then ((impl_within.f (wrap64 ((l0.length : Int) / 6)) 1 2).bind fun t254 => (if t254 = true then (impl_HostLoad.j0 k l0 (wrap64 ((l0.length : Int) / 6)) ((l0.length : Int) != (wrap64 ((wrap64 ((l0.length : Int) / 6)) * 6)))) else (impl_HostLoad.j0 k l0 (wrap64 ((l0.length : Int) / 6)) true))) else (impl_HostLoad.j0 k l0 (wrap64 ((l0.length : Int) / 6)) true))) = some (r1, r2, r3, r4) := h
 clear h
 have HC2 := Az.mk H
 clear H
 go_enter Try.func19, Try.ntmps19
 go_upto_region 2 with (first | ((with_reducible refine Yd (N := 2) rfl ?_); (try (refine gate_guard (by rfl) ?_; dsimp only)); refine Yv ?hg (N := 2) ?hd (cs := #[.slice none 0 0, .slice none 0 0, .int .i64 0]) (t := 31) ?hr ?_; (case hd => rfl); (case hg => rfl); (case hr => first | (go_simp; done) | (go_simp; rfl)); intro gb252 hg w3 hbox hb; have n0_ := Az.mk (Yt (by repeat (first | (with_reducible first | exact HB.out | apply Ya | apply Yn | apply Yw) | exact HB.out)) hb); have n1_ := Az.mk (hbox); have n2_ := Az.mk ((by rw [hg]; exact (Yz (by repeat (first | (with_reducible first | exact HB.out | apply Ya | apply Yn | apply Yw) | exact HB.out))) : w.heap.size ≤ gb252)); have n3_ := Az.mk ((by rw [hg]; exact (Yz (by repeat (first | (with_reducible first | exact HB.out | apply Ya | apply Yn | apply Yw) | exact HB.out))) : w.heap.size ≤ gb252)); clear HB; have HB := n0_; have BK252 := n1_; have GW252 := n2_; have GE252 := n3_; clear n0_ n1_ n2_ n3_; clear hb hbox hg))
 (try simp only [Act.put, List.setIfInBounds_toArray, List.set_cons_zero, List.set_cons_succ])
 go_cut [24] (fun v24 wc => ∃ (kq : Nat) (x24_1 : Bool), v24 = .bool x24_1 ∧ Az (impl_HostLoad.j0 kq l0 (wrap64 ((l0.length : Int) / 6)) x24_1 = some (r1, r2, r3, r4)) ∧ Az (kq ≤ k) ∧ Az (wc.heap[gb252]? = some (.cells #[(.slice none 0 0), (.slice none 0 0), .int .i64 0] 31 (0, 0))) ∧ Az (Below w.heap.size w wc))
 case first =>
  have H := HC2.out
  clear HC2
  replace H := Option.bind_eq_some_iff.mp H
  obtain ⟨t253, A40, H⟩ := H
  replace H : (if t253 = true then ((impl_within.f (wrap64 ((l0.length : Int) / 6)) 1 2).bind fun t254 => (if t254 = true then (impl_HostLoad.j0 k l0 (wrap64 ((l0.length : Int) / 6)) ((l0.length : Int) != (wrap64 ((wrap64 ((l0.length : Int) / 6)) * 6)))) else (impl_HostLoad.j0 k l0 (wrap64 ((l0.length : Int) / 6)) true))) else (impl_HostLoad.j0 k l0 (wrap64 ((l0.length : Int) / 6)) true)) = some (r1, r2, r3, r4) := H
  have A4 := Az.mk A40
  clear A40
  by_cases c5 : t253 = true
  ·subst c5
   have H1 : ((impl_within.f (wrap64 ((l0.length : Int) / 6)) 1 2).bind fun t254 => (if t254 = true then (impl_HostLoad.j0 k l0 (wrap64 ((l0.length : Int) / 6)) ((l0.length : Int) != (wrap64 ((wrap64 ((l0.length : Int) / 6)) * 6)))) else (impl_HostLoad.j0 k l0 (wrap64 ((l0.length : Int) / 6)) true))) = some (r1, r2, r3, r4) := by rw [if_pos rfl] at H; exact H
   clear H
   have H := H1
   clear H1
   replace H := Option.bind_eq_some_iff.mp H
   obtain ⟨t254, A60, H⟩ := H
   replace H : (if t254 = true then (impl_HostLoad.j0 k l0 (wrap64 ((l0.length : Int) / 6)) ((l0.length : Int) != (wrap64 ((wrap64 ((l0.length : Int) / 6)) * 6)))) else (impl_HostLoad.j0 k l0 (wrap64 ((l0.length : Int) / 6)) true)) = some (r1, r2, r3, r4) := H
   have A6 := Az.mk A60
   clear A60
   by_cases c7 : t254 = true
   ·subst c7
    have H1 : (impl_HostLoad.j0 k l0 (wrap64 ((l0.length : Int) / 6)) ((l0.length : Int) != (wrap64 ((wrap64 ((l0.length : Int) / 6)) * 6)))) = some (r1, r2, r3, r4) := by rw [if_pos rfl] at H; exact H
    clear H
    have H := H1
    clear H1
    have H' := Az.mk H
    clear H
    go_wp2_with (first | ((with_reducible refine Yc (f := 8) rfl ?_); refine Yg (some 11) rfl rfl Try.func8 (by kernel_rfl) rfl #[.slice A0 l0.length c0] rfl (by (try simp only [List.map_toArray, List.map_cons, List.map_nil]); first | done | rfl | (simp only [List.length_drop, List.length_take]; rfl)) ?_; (with_reducible refine (impl_MemOk.calls k _ _ l0 true _ ?side1 ?side2 A4.out).mono ?_); (case side1 => repeat (first | exact (Kd.Cb_ HR0.out HB.out) | exact HR0.out | (with_reducible refine Kd.Ca_ ?_ _) | (with_reducible refine Kd.Cn_ ?_ _) | (with_reducible refine Kd.Cw_ ?_))); (case side2 => exact HC0.out); rintro e w' ⟨rfl, ⟨nd, rfl⟩⟩; refine ⟨_, rfl, ?_⟩) | (go_at_call 34; (with_reducible refine (impl_within.calls (wrap64 ((l0.length : Int) / 6)) 1 2 true _ A6.out).mono ?_); rintro e w' ⟨rfl, ⟨nd, rfl⟩⟩))
    go_meet
    case rel => exact ⟨_, (((l0.length : Int) != (wrap64 ((wrap64 ((l0.length : Int) / 6)) * 6)))), (by first | rfl | (simp; done) | (simp [*]; done)), H', ⟨by first | omega | exact Nat.le_refl _⟩, ⟨by (with_reducible repeat (first | refine Zn ?_ _ | refine Zw ?_ | refine Za ?_ _)); exact BK252.out⟩, ⟨by repeat (first | (with_reducible first | exact HB.out | apply Ya | apply Yn | apply Yw | refine Ys ?_ GE252.out) | exact HB.out)⟩⟩
   ·replace c7 := Bool.eq_false_iff.mpr c7
    subst c7
    have H1 : (impl_HostLoad.j0 k l0 (wrap64 ((l0.length : Int) / 6)) true) = some (r1, r2, r3, r4) := by rw [if_neg (show ¬ (false = true) by decide)] at H; exact H
    clear H
    have H := H1
    clear H1
    have H' := Az.mk H
    clear H
    go_wp2_with (first | ((with_reducible refine Yc (f := 8) rfl ?_); refine Yg (some 11) rfl rfl Try.func8 (by kernel_rfl) rfl #[.slice A0 l0.length c0] rfl (by (try simp only [List.map_toArray, List.map_cons, List.map_nil]); first | done | rfl | (simp only [List.length_drop, List.length_take]; rfl)) ?_; (with_reducible refine (impl_MemOk.calls k _ _ l0 true _ ?side1 ?side2 A4.out).mono ?_); (case side1 => repeat (first | exact (Kd.Cb_ HR0.out HB.out) | exact HR0.out | (with_reducible refine Kd.Ca_ ?_ _) | (with_reducible refine Kd.Cn_ ?_ _) | (with_reducible refine Kd.Cw_ ?_))); (case side2 => exact HC0.out); rintro e w' ⟨rfl, ⟨nd, rfl⟩⟩; refine ⟨_, rfl, ?_⟩) | (go_at_call 34; (with_reducible refine (impl_within.calls (wrap64 ((l0.length : Int) / 6)) 1 2 false _ A6.out).mono ?_); rintro e w' ⟨rfl, ⟨nd, rfl⟩⟩))
    go_meet
    case rel => exact ⟨_, (true), (by first | rfl | (simp; done) | (simp [*]; done)), H', ⟨by first | omega | exact Nat.le_refl _⟩, ⟨by (with_reducible repeat (first | refine Zn ?_ _ | refine Zw ?_ | refine Za ?_ _)); exact BK252.out⟩, ⟨by repeat (first | (with_reducible first | exact HB.out | apply Ya | apply Yn | apply Yw | refine Ys ?_ GE252.out) | exact HB.out)⟩⟩
  ·replace c5 := Bool.eq_false_iff.mpr c5
   subst c5
   have H1 : (impl_HostLoad.j0 k l0 (wrap64 ((l0.length : Int) / 6)) true) = some (r1, r2, r3, r4) := by rw [if_neg (show ¬ (false = true) by decide)] at H; exact H
   clear H
   have H := H1
   clear H1
   have H' := Az.mk H
   clear H
   go_wp2_with (first | ((with_reducible refine Yc (f := 8) rfl ?_); refine Yg (some 11) rfl rfl Try.func8 (by kernel_rfl) rfl #[.slice A0 l0.length c0] rfl (by (try simp only [List.map_toArray, List.map_cons, List.map_nil]); first | done | rfl | (simp only [List.length_drop, List.length_take]; rfl)) ?_; (with_reducible refine (impl_MemOk.calls k _ _ l0 false _ ?side1 ?side2 A4.out).mono ?_); (case side1 => repeat (first | exact (Kd.Cb_ HR0.out HB.out) | exact HR0.out | (with_reducible refine Kd.Ca_ ?_ _) | (with_reducible refine Kd.Cn_ ?_ _) | (with_reducible refine Kd.Cw_ ?_))); (case side2 => exact HC0.out); rintro e w' ⟨rfl, ⟨nd, rfl⟩⟩; refine ⟨_, rfl, ?_⟩))
   go_meet
   case rel => exact ⟨_, (true), (by first | rfl | (simp; done) | (simp [*]; done)), H', ⟨by first | omega | exact Nat.le_refl _⟩, ⟨by (with_reducible repeat (first | refine Zn ?_ _ | refine Zw ?_ | refine Za ?_ _)); exact BK252.out⟩, ⟨by repeat (first | (with_reducible first | exact HB.out | apply Ya | apply Yn | apply Yw | refine Ys ?_ GE252.out) | exact HB.out)⟩⟩
 case rest =>
  clear HC2
  try clear c1
  try clear p2
  try clear c5
  try clear p6
  try clear c7
  obtain ⟨kq, x24_1, rfl, HA, HJ1, BK252, HB⟩ := hcut
  cases kq with
  | zero => exact absurd HA.out (by simp [impl_HostLoad.j0])
  | succ kj1 =>
   have H := HA.out
   clear HA
   simp only [impl_HostLoad.j0] at H
   by_cases c8 : x24_1 = true
   ·subst c8
    have H1 : (some (([] : List (List Int)), ([] : List (S61)), 0, false)) = some (r1, r2, r3, r4) := by rw [if_pos rfl] at H; exact H
    clear H
    have H := H1
    clear H1
    simp only [Option.some.injEq, Prod.mk.injEq] at H
    obtain ⟨rfl, rfl, rfl, rfl⟩ := H
    have hcz9_0 : wc.cell? ⟨gb252, 0, none⟩ = some (.slice none 0 0) := (Zc BK252.out 0).trans rfl
    have hcz9_1 : wc.cell? ⟨gb252, 1, none⟩ = some (.slice none 0 0) := (Zc BK252.out 1).trans rfl
    have hcz9_2 : wc.cell? ⟨gb252, 2, none⟩ = some (.int .i64 0) := (Zc BK252.out 2).trans rfl
    have hfz9_0 := Zf BK252.out 0
    have hfz9_1 := Zf BK252.out 1
    have hfz9_2 := Zf BK252.out 2
    go_wp2
    refine bodyPost_ret (results_ct rfl _ _ gb252 31 #[.slice none 0 0, .slice none 0 0, .int .i64 0] (0, 0) _ rfl (by (with_reducible repeat (first | refine Zn ?_ _ | refine Zw ?_ | refine Za ?_ _)); refine Zp (cs := #[.slice none 0 0, .slice none 0 0, .int .i64 0]) ?_ 2 _ rfl; (with_reducible repeat (first | refine Zn ?_ _ | refine Zw ?_ | refine Za ?_ _)); refine Zp (cs := #[.slice none 0 0, .slice none 0 0, .int .i64 0]) ?_ 1 _ rfl; (with_reducible repeat (first | refine Zn ?_ _ | refine Zw ?_ | refine Za ?_ _)); refine Zp (cs := #[.slice none 0 0, .slice none 0 0, .int .i64 0]) ?_ 0 _ rfl; (with_reducible repeat (first | refine Zn ?_ _ | refine Zw ?_ | refine Za ?_ _)); exact BK252.out) Try.underlying31 rfl (by kernel_rfl)) rfl ?_
    exact ⟨_, _, by first | rfl | (simp [errW_none, errW_some] <;> rfl) | (simp [*, errW_none, errW_some] <;> rfl), ⟨fun _ => True, Kd.S_nil _ _ _ _ _, Kd.S_nil _ _ _ _ _⟩, by repeat (first | (with_reducible first | exact HB.out | apply Ya | apply Yn | apply Yw | refine Ys ?_ GE252.out) | exact HB.out)⟩
   ·replace c8 := Bool.eq_false_iff.mpr c8
    subst c8
    have H1 : (impl_HostLoad.l0 kj1 l0 (wrap64 ((l0.length : Int) / 6)) 0 (([] : List (List Int))) (([] : List (S61))) 0) = some (r1, r2, r3, r4) := by rw [if_neg (show ¬ (false = true) by decide)] at H; exact H
    clear H
    have H := H1
    clear H1
    obtain ⟨y255, hy255⟩ : ∃ y_ : List (List Int), y_ = (([] : List (List Int))) := ⟨_, rfl⟩
    replace H : (impl_HostLoad.l0 kj1 l0 (wrap64 ((l0.length : Int) / 6)) 0 y255 (([] : List (S61))) 0) = some (r1, r2, r3, r4) := by first | (rw [hy255]; with_reducible exact H) | (have H2_ := (Option.bind_some _ _).symm.trans H; rw [hy255]; with_reducible exact H2_) | (have H2_ := (Option.bind_some _ _).symm.trans H; with_reducible exact H2_) | with_reducible exact H | (rw [hy255]; exact H) | exact H
    have Ny255 := Az.mk hy255
    clear hy255
    obtain ⟨y258, hy258⟩ : ∃ y_ : List (S61), y_ = (([] : List (S61))) := ⟨_, rfl⟩
    replace H : (impl_HostLoad.l0 kj1 l0 (wrap64 ((l0.length : Int) / 6)) 0 y255 y258 0) = some (r1, r2, r3, r4) := by first | (rw [hy258]; with_reducible exact H) | (have H2_ := (Option.bind_some _ _).symm.trans H; rw [hy258]; with_reducible exact H2_) | (have H2_ := (Option.bind_some _ _).symm.trans H; with_reducible exact H2_) | with_reducible exact H | (rw [hy258]; exact H) | exact H
    have Ny258 := Az.mk hy258
    clear hy258
    have H' := Az.mk H
    clear H
    go_wp2_with (first | ((with_reducible refine Yd (N := 26) rfl ?_); (try (refine gate_guard (by rfl) ?_; dsimp only)); refine Kd.S_lit (Kd.slice 3 (Kd.int .i64)) _ 45 ?hg (N := 26) ?hd (xs := ([] : List (List Int))) (inner := []) (ok := fun _ => True) (okp := fun _ => True) ?hr ?hp (fun _ hk => hk) trivial (Below.refl _ _) (Nat.le_refl _) (by simp) ?_; (case hd => rfl); (case hg => rfl); (case hr => first | (go_simp; done) | (go_simp; rfl)); (case hp => exact (Reps.none _ _)); intro v256 w10 ho11 hb hg_ hnew_; clear hg_ hnew_; (first | rw [← Ny255.out] at ho11 | (simp only [Int.reduceToNat] at ho11; rw [← Ny255.out] at ho11)); have n0_ := Az.mk (Kd.Sl_ ho11 (Yz (by repeat (first | (with_reducible first | exact HB.out | apply Ya | apply Yn | apply Yw | refine Ys ?_ GE252.out) | exact HB.out)))); have n1_ := Az.mk (Zb (g := gb252) (o := .cells #[.slice none 0 0, .slice none 0 0, .int .i64 0] 31 (0, 0)) (by (with_reducible repeat (first | refine Zn ?_ _ | refine Zw ?_ | refine Za ?_ _)); exact BK252.out) hb); have n2_ := Az.mk (Yt (by repeat (first | (with_reducible first | exact HB.out | apply Ya | apply Yn | apply Yw | refine Ys ?_ GE252.out) | exact HB.out)) hb); clear BK252; clear HB; have HO257 := n0_; have BK252 := n1_; have HB := n2_; clear n0_ n1_ n2_; clear hb ho11) | ((with_reducible refine Yd (N := 27) rfl ?_); (try (refine gate_guard (by rfl) ?_; dsimp only)); refine Kd.R_lit k61 _ 61 ?hg (N := 27) ?hd (xs := ([] : List (S61))) (inner := []) (ok := fun _ => True) (okp := fun _ => True) ?hr ?hp (fun _ hk => hk) trivial (Below.refl _ _) (Nat.le_refl _) (by simp) ?_; (case hd => rfl); (case hg => rfl); (case hr => first | (go_simp; done) | (go_simp; rfl)); (case hp => exact (Reps.none _ _)); intro v259 w12 ho13 hb hg_ hnew_; clear hg_ hnew_; (first | rw [← Ny258.out] at ho13 | (simp only [Int.reduceToNat] at ho13; rw [← Ny258.out] at ho13)); have n0_ := Az.mk (Kd.Sb_ (by (with_reducible repeat (first | apply Kd.Sa_ | apply Kd.Sn_ | apply Kd.Sw_)); exact HO257.out) hb); have n1_ := Az.mk (Kd.Rl_ (Kd.R_new' ho13 (Kd.S_lt (by (with_reducible repeat (first | apply Kd.Sa_ | apply Kd.Sn_ | apply Kd.Sw_)); exact HO257.out))) (Yz (by repeat (first | (with_reducible first | exact HB.out | apply Ya | apply Yn | apply Yw | refine Ys ?_ GE252.out) | exact HB.out)))); have n2_ := Az.mk (Zb (g := gb252) (o := .cells #[.slice none 0 0, .slice none 0 0, .int .i64 0] 31 (0, 0)) (by (with_reducible repeat (first | refine Zn ?_ _ | refine Zw ?_ | refine Za ?_ _)); exact BK252.out) hb); have n3_ := Az.mk (Yt (by repeat (first | (with_reducible first | exact HB.out | apply Ya | apply Yn | apply Yw | refine Ys ?_ GE252.out) | exact HB.out)) hb); clear HO257; clear BK252; clear HB; have HO257 := n0_; have HO260 := n1_; have BK252 := n2_; have HB := n3_; clear n0_ n1_ n2_ n3_; clear hb ho13; obtain ⟨Ao14, co14, eo14⟩ := Kd.Rs_ HO260.out; subst eo14; obtain ⟨Ao15, co15, eo15⟩ := Kd.Ss_ HO257.out; subst eo15) | ((with_reducible refine Yd (N := 5) rfl ?_); (try (refine gate_guard (by rfl) ?_; dsimp only)); refine Yv ?hg (N := 5) ?hd (cs := #[.slice none 0 0, .slice none 0 0, .int .i64 0]) (t := 31) ?hr ?_; (case hd => rfl); (case hg => rfl); (case hr => first | (go_simp; done) | (go_simp; rfl)); intro gb261 hg w16 hbox hb; have n0_ := Az.mk (Kd.Sb_ (by (with_reducible repeat (first | apply Kd.Sa_ | apply Kd.Sn_ | apply Kd.Sw_)); exact HO257.out) hb); have n1_ := Az.mk (Kd.Rb_ (by (with_reducible repeat (first | apply Kd.Ra_ | apply Kd.Rn_ | apply Kd.Rw_)); exact HO260.out) hb); have n2_ := Az.mk (Zb (g := gb252) (o := .cells #[.slice none 0 0, .slice none 0 0, .int .i64 0] 31 (0, 0)) (by (with_reducible repeat (first | refine Zn ?_ _ | refine Zw ?_ | refine Za ?_ _)); exact BK252.out) hb); have n3_ := Az.mk (Yt (by repeat (first | (with_reducible first | exact HB.out | apply Ya | apply Yn | apply Yw | refine Ys ?_ GE252.out) | exact HB.out)) hb); have n4_ := Az.mk (hbox); have n5_ := Az.mk ((by rw [hg]; exact (Yz (by repeat (first | (with_reducible first | exact HB.out | apply Ya | apply Yn | apply Yw | refine Ys ?_ GE252.out) | exact HB.out))) : w.heap.size ≤ gb261)); have n6_ := Az.mk ((by rw [hg]; exact (Yz (by repeat (first | (with_reducible first | exact HB.out | apply Ya | apply Yn | apply Yw | refine Ys ?_ GE252.out) | exact HB.out))) : w.heap.size ≤ gb261)); have n7_ := Az.mk ((by rw [hg]; exact Nat.ne_of_lt (Zl (g := gb252) (o := .cells #[.slice none 0 0, .slice none 0 0, .int .i64 0] 31 (0, 0)) (by (with_reducible repeat (first | refine Zn ?_ _ | refine Zw ?_ | refine Za ?_ _)); exact BK252.out)) : gb252 ≠ gb261)); have n8_ := Az.mk ((by rw [hg]; exact Nat.ne_of_gt (Zl (g := gb252) (o := .cells #[.slice none 0 0, .slice none 0 0, .int .i64 0] 31 (0, 0)) (by (with_reducible repeat (first | refine Zn ?_ _ | refine Zw ?_ | refine Za ?_ _)); exact BK252.out)) : gb261 ≠ gb252)); clear HO257; clear HO260; clear BK252; clear HB; have HO257 := n0_; have HO260 := n1_; have BK252 := n2_; have HB := n3_; have BK261 := n4_; have GW261 := n5_; have GE261 := n6_; have NB252_261 := n7_; have NB261_252 := n8_; clear n0_ n1_ n2_ n3_ n4_ n5_ n6_ n7_ n8_; clear hb hbox hg; have hnb17 := NB261_252.out; have hnc17 := NB252_261.out; have hcz18_0 : w16.cell? ⟨gb261, 0, none⟩ = some (.slice none 0 0) := (Zc BK261.out 0).trans rfl; have hcz18_1 : w16.cell? ⟨gb261, 1, none⟩ = some (.slice none 0 0) := (Zc BK261.out 1).trans rfl; have hcz18_2 : w16.cell? ⟨gb261, 2, none⟩ = some (.int .i64 0) := (Zc BK261.out 2).trans rfl; have hfz18_0 := Zf BK261.out 0; have hfz18_1 := Zf BK261.out 1; have hfz18_2 := Zf BK261.out 2))
    go_loopg [29] kj1 (fun kq v29 w' => ∃ (x29_2 : Int) (x262000_2 : List (List Int)) (u262000 : Value), v29 = .int .i64 x29_2 ∧ Az (impl_HostLoad.l0 kq l0 (wrap64 ((l0.length : Int) / 6)) x29_2 x262000_2 y258 0 = some (r1, r2, r3, r4)) ∧ Az (kq ≤ kj1) ∧ Az (Kd.S (Kd.slice 3 (Kd.int .i64)) 45 w' w.heap.size (fun _ => True) u262000 x262000_2) ∧ Az (Kd.R k61 61 w' w.heap.size (fun k_ => some k_ ≠ (u262000 : Value).ownBlock) (.slice Ao14 y258.length co14) y258) ∧ Az (w'.heap[gb252]? = some (.cells #[(.slice none 0 0), (.slice none 0 0), .int .i64 0] 31 (0, 0))) ∧ Az (w'.heap[gb261]? = some (.cells #[u262000, (.slice Ao14 y258.length co14), .int .i64 0] 31 (0, 0))) ∧ Az (Below w.heap.size w w'))
    case atStart => exact ⟨(0), (y255), (.slice Ao15 y255.length co15), (by first | rfl | (simp; done) | (simp [*]; done)), H', ⟨Nat.le_refl _⟩, ⟨by (with_reducible repeat (first | apply Kd.Sa_ | apply Kd.Sn_ | apply Kd.Sw_)); exact Kd.Sm_ (Kd.Sf_ (p := ⟨gb261, 2, none⟩) (Kd.Sf_ (p := ⟨gb261, 1, none⟩) (Kd.Sf_ (p := ⟨gb261, 0, none⟩) (Kd.S_types HO257.out BK261.out (by decide)) (fun _ hk => hk.2) (.slice Ao15 y255.length co15)) (fun _ hk => hk.2) (.slice Ao14 y258.length co14)) (fun _ hk => hk.2) (.int .i64 0)) (fun _ hk => trivial)⟩, ⟨by (with_reducible repeat (first | apply Kd.Ra_ | apply Kd.Rn_ | apply Kd.Rw_)); exact Kd.Rm_ (Kd.Rf_ (p := ⟨gb261, 2, none⟩) (Kd.Rf_ (p := ⟨gb261, 1, none⟩) (Kd.Rf_ (p := ⟨gb261, 0, none⟩) (Kd.R_types HO260.out BK261.out (by decide)) (fun _ hk => hk.2) (.slice Ao15 y255.length co15)) (fun _ hk => hk.2) (.slice Ao14 y258.length co14)) (fun _ hk => hk.2) (.int .i64 0)) (fun _ hk => hk.1.2)⟩, ⟨by (with_reducible repeat (first | refine Zn ?_ _ | refine Zw ?_ | refine Za ?_ _)); refine blk_far ?_ NB252_261.out _; (with_reducible repeat (first | refine Zn ?_ _ | refine Zw ?_ | refine Za ?_ _)); refine blk_far ?_ NB252_261.out _; (with_reducible repeat (first | refine Zn ?_ _ | refine Zw ?_ | refine Za ?_ _)); refine blk_far ?_ NB252_261.out _; (with_reducible repeat (first | refine Zn ?_ _ | refine Zw ?_ | refine Za ?_ _)); exact BK252.out⟩, ⟨by (with_reducible repeat (first | refine Zn ?_ _ | refine Zw ?_ | refine Za ?_ _)); refine Zp (cs := #[.slice Ao15 y255.length co15, .slice Ao14 y258.length co14, .int .i64 0]) ?_ 2 _ rfl; (with_reducible repeat (first | refine Zn ?_ _ | refine Zw ?_ | refine Za ?_ _)); refine Zp (cs := #[.slice Ao15 y255.length co15, .slice none 0 0, .int .i64 0]) ?_ 1 _ rfl; (with_reducible repeat (first | refine Zn ?_ _ | refine Zw ?_ | refine Za ?_ _)); refine Zp (cs := #[.slice none 0 0, .slice none 0 0, .int .i64 0]) ?_ 0 _ rfl; (with_reducible repeat (first | refine Zn ?_ _ | refine Zw ?_ | refine Za ?_ _)); exact BK261.out⟩, ⟨by repeat (first | (with_reducible first | exact HB.out | apply Ya | apply Yn | apply Yw | refine Ys ?_ GE252.out | refine Ys ?_ GE261.out) | exact HB.out)⟩⟩
    case round =>
     clear H'
     try clear c1
     try clear p2
     try clear c5
     try clear p6
     try clear c7
     try clear c8
     try clear c17
     try clear hcz18_0
     try clear hcz18_1
     try clear hcz18_2
     try clear hcz9_0
     try clear hcz9_1
     try clear hcz9_2
     try clear hfz18_0
     try clear hfz18_1
     try clear hfz18_2
     try clear hfz9_0
     try clear hfz9_1
     try clear hfz9_2
     try clear p2
     try clear p6
     obtain ⟨x29_2, x262000_2, u262000, rfl, HA, HK2, HO_262000, HO_262001, BK252, BK261, HB⟩ := hrel
     cases gk with
     | zero => exact absurd HA.out (by simp [impl_HostLoad.l0])
     | succ k2 =>
      have H := HA.out
      clear HA
      simp only [impl_HostLoad.l0] at H
      by_cases c19 : x29_2 < 8
      ·rw [if_pos c19] at H
       have c19b0 : decide (x29_2 < 8) = true := decide_eq_true c19
       clear c19
       by_cases c20 : 4 ≤ 35184372088832
       ·rw [if_pos c20] at H
        have c20b0 := eq_true c20
        have c20b1 : decide (4 ≤ 35184372088832) = true := decide_eq_true c20
        clear c20
        obtain ⟨y262, hy262⟩ : ∃ y_ : List Int, y_ = (List.replicate 4 0) := ⟨_, rfl⟩
        replace H : (if x262000_2.length < 5864062014805 then (impl_HostLoad.l0 k2 l0 (wrap64 ((l0.length : Int) / 6)) (wrap64 (x29_2 + 1)) (x262000_2 ++ [y262]) y258 0) else (none)) = some (r1, r2, r3, r4) := by first | (rw [hy262]; with_reducible exact H) | (have H2_ := (Option.bind_some _ _).symm.trans H; rw [hy262]; with_reducible exact H2_) | (have H2_ := (Option.bind_some _ _).symm.trans H; with_reducible exact H2_) | with_reducible exact H | (rw [hy262]; exact H) | exact H
        have Ny262 := Az.mk hy262
        clear hy262
        by_cases c21 : x262000_2.length < 5864062014805
        ·rw [if_pos c21] at H
         have LMc21 := Az.mk c21
         clear c21
         obtain ⟨y265, hy265⟩ : ∃ y_ : List (List Int), y_ = (x262000_2 ++ [y262]) := ⟨_, rfl⟩
         replace H : (impl_HostLoad.l0 k2 l0 (wrap64 ((l0.length : Int) / 6)) (wrap64 (x29_2 + 1)) y265 y258 0) = some (r1, r2, r3, r4) := by first | (rw [hy265]; with_reducible exact H) | (have H2_ := (Option.bind_some _ _).symm.trans H; rw [hy265]; with_reducible exact H2_) | (have H2_ := (Option.bind_some _ _).symm.trans H; with_reducible exact H2_) | with_reducible exact H | (rw [hy265]; exact H) | exact H
         have Ny265 := Az.mk hy265
         clear hy265
         have H' := Az.mk H
         clear H
         try go_wp2
         have n0_ := Az.mk (Kd.Sw_ HO_262000.out)
         have n1_ := Az.mk (Kd.Rw_ HO_262001.out)
         have n2_ := Az.mk (Zw BK252.out)
         have n3_ := Az.mk (Zw BK261.out)
         have n4_ := Az.mk (Yw HB.out)
         clear HO_262000
         clear HO_262001
         clear BK252
         clear BK261
         clear HB
         have HO_262000 := n0_
         have HO_262001 := n1_
         have BK252 := n2_
         have BK261 := n3_
         have HB := n4_
         clear n0_ n1_ n2_ n3_ n4_
         refine start_ (n := 7) (S := fun w' => w'.cell? ⟨gb261, 0, none⟩ = some (u262000) ∧ w'.cell? ⟨gb261, 1, none⟩ = some (.slice Ao14 y258.length co14) ∧ w'.cell? ⟨gb261, 2, none⟩ = some (.int .i64 0)) (ds := [6]) #[false, false, false, false, false, false, false] (by kernel_rfl) rfl rfl ⟨(Zc BK261.out 0).trans rfl, (Zc BK261.out 1).trans rfl, (Zc BK261.out 2).trans rfl⟩ (fun hHeld => ?_)
         generalize wr.drew = w22 at HO_262000 HO_262001 BK252 BK261 HB hHeld ⊢
         refine pure_ (i := 0) (N := some 31) (v := ?_) (a' := ?_) #[true, false, false, false, false, false, false] rfl rfl (by kernel_rfl) (fun _ _ _ h => h) (Or.inl ⟨by rfl, ?_⟩) ?_ ?_
         rotate_left
         ·intro w'
          go_simp
          with_reducible rfl
         rotate_left
         ·simp only [Act.put, List.setIfInBounds_toArray, List.set_cons_zero, List.set_cons_succ, i64_w, i32_w]
          rfl
         refine take_ (i := 1) (N := some 32) (v := ?_) (a' := ?_) #[true, true, false, false, false, false, false] rfl rfl (by kernel_rfl) (fun _ _ _ h => h) (Or.inl ⟨by rfl, ?_⟩) hHeld ?_ ?_
         rotate_left
         ·rintro w' ⟨s0, s1, s2⟩
          go_simp
          with_reducible rfl
         rotate_left
         ·simp only [Act.put, List.setIfInBounds_toArray, List.set_cons_zero, List.set_cons_succ, i64_w, i32_w]
          rfl
         refine one_ (i := 2) (N := some 33) #[true, true, true, false, false, false, false] rfl rfl (by kernel_rfl) (by decide) (fun K hK => ?_)
         refine Kd.R_make_step (Kd.int .i64) _ 3 (by rfl) (N := 33) rfl 45 _ _ rfl 4 rfl rfl Try.underlying45 (.int .i64 0) 8 info3 rfl (by decide) (by omega) 0 (ok := fun _ => True) (okp := fun _ => True) rfl (fun _ hk => hk) trivial (by omega) (by omega) (Below.refl _ _) (Nat.le_refl _) ?_
         intro v263 w23 ho24 hb hg_ hnew_
         clear hg_ hnew_
         (first | rw [← Ny262.out] at ho24 | (simp only [Int.reduceToNat] at ho24; rw [← Ny262.out] at ho24))
         have n0_ := Az.mk (Kd.S_elder' (by (with_reducible repeat (first | apply Kd.Sa_ | apply Kd.Sn_ | apply Kd.Sw_)); exact HO_262000.out) (Kd.R_base ho24) hb)
         have n1_ := Az.mk (Kd.RE_ (by (with_reducible repeat (first | apply Kd.Ra_ | apply Kd.Rn_ | apply Kd.Rw_)); exact HO_262001.out) (Kd.R_base ho24) hb)
         have n2_ := Az.mk (Kd.Rl_ ho24 (Yz (by repeat (first | (with_reducible first | exact HB.out | apply Ya | apply Yn | apply Yw | refine Ys ?_ GE252.out | refine Ys ?_ GE261.out) | exact HB.out))))
         have n3_ := Az.mk (Zb (g := gb252) (o := .cells #[.slice none 0 0, .slice none 0 0, .int .i64 0] 31 (0, 0)) (by (with_reducible repeat (first | refine Zn ?_ _ | refine Zw ?_ | refine Za ?_ _)); exact BK252.out) hb)
         have n4_ := Az.mk (Zb (g := gb261) (o := .cells #[u262000, .slice Ao14 y258.length co14, .int .i64 0] 31 (0, 0)) (by (with_reducible repeat (first | refine Zn ?_ _ | refine Zw ?_ | refine Za ?_ _)); exact BK261.out) hb)
         have n5_ := Az.mk (Yt (by repeat (first | (with_reducible first | exact HB.out | apply Ya | apply Yn | apply Yw | refine Ys ?_ GE252.out | refine Ys ?_ GE261.out) | exact HB.out)) hb)
         clear HO_262000
         clear HO_262001
         clear BK252
         clear BK261
         clear HB
         have HO_262000 := n0_
         have HO_262001 := n1_
         have HO264 := n2_
         have BK252 := n3_
         have BK261 := n4_
         have HB := n5_
         clear n0_ n1_ n2_ n3_ n4_ n5_
         clear hb ho24
         obtain ⟨Ao26, co26, eo26⟩ := Kd.Rs_ HO264.out
         (first | subst eo26 | (injection eo26 with f1_ f2_ f3_; have f4_ := f1_.symm; have f5_ := f3_.symm; clear f1_ f2_ f3_; subst f4_; subst f5_))
         refine hK.out _ _ ⟨(Zc BK261.out 0).trans rfl, (Zc BK261.out 1).trans rfl, (Zc BK261.out 2).trans rfl⟩ (fun hHeld => ?_)
         clear hK K
         refine norm_ (a' := ?_) ?_ ?_
         rotate_left
         ·show Act.put _ (some 33) _ = _
          simp only [Act.put, List.setIfInBounds_toArray, List.set_cons_zero, List.set_cons_succ, i64_w, i32_w]
          rfl
         refine one_ (i := 3) (N := some 34) #[true, true, true, true, false, false, false] rfl rfl (by kernel_rfl) (by decide) (fun K hK => ?_)
         refine value_ (w1 := ?_) (v := ?_) (by rfl) rfl ?_ ?_
         rotate_left 2
         ·go_simp
          constructor
          ·rfl
          ·rfl
         refine hK.out _ _ ⟨(Zc (Za BK261.out _) 0).trans rfl, (Zc (Za BK261.out _) 1).trans rfl, (Zc (Za BK261.out _) 2).trans rfl⟩ (fun hHeld => ?_)
         clear hK K
         refine norm_ (a' := ?_) ?_ ?_
         rotate_left
         ·show Act.put _ (some 34) _ = _
          simp only [Act.put, List.setIfInBounds_toArray, List.set_cons_zero, List.set_cons_succ, i64_w, i32_w]
          rfl
         refine one_ (i := 4) (N := some 35) #[true, true, true, true, true, false, false] rfl rfl (by kernel_rfl) (by decide) (fun K hK => ?_)
         refine Kd.S_append_step (Kd.slice 3 (Kd.int .i64)) (w0 := w) w.heap.size (by rfl) (.tmp 32) (.tmp 34) 23 45 (.slice none 0 0) 24 rfl Try.underlying23 info45 rfl (by decide) (by omega) u262000 x262000_2 y262 [.slice Ao26 y262.length co26] (fun _ => True) (fun k_ => some k_ = (.slice Ao26 y262.length co26 : Value).ownBlock) rfl rfl ?aP (fun k_ hk_ => ((Kd.Rm_ (ok' := fun k_ => ((fun _ => True)) k_ ∧ some k_ ≠ (u262000 : Value).ownBlock) (Kd.R_apart' (HO264.out) (Kd.S_typed HO_262000.out) (by decide)) (fun k_ hk => ⟨trivial, hk.2⟩))).1 k_ hk_.symm) ?aF ?aO ?aB ?aS ?aL ?_
         (case aP => exact Kd.M_row (Kd.Rm_ (Kd.R_tight rfl (Kd.Rm_ (ok' := fun k_ => ((fun _ => True)) k_ ∧ some k_ ≠ (u262000 : Value).ownBlock) (Kd.R_apart' (HO264.out) (Kd.S_typed HO_262000.out) (by decide)) (fun k_ hk => ⟨trivial, hk.2⟩))) (fun _ h_ => h_)))
         (case aB => exact (by repeat (first | (with_reducible first | exact HB.out | apply Ya | apply Yn | apply Yw | refine Ys ?_ GE252.out | refine Ys ?_ GE261.out) | exact HB.out)))
         (case aF => exact (fun _ _ => trivial))
         (case aO => exact (by (with_reducible repeat (first | apply Kd.Sa_ | apply Kd.Sn_ | apply Kd.Sw_)); exact Kd.Sm_ HO_262000.out (fun k_ hk => ⟨trivial, fun e_ => hk.2 e_⟩)))
         (case aS => exact (Yz (by repeat (first | (with_reducible first | exact HB.out | apply Ya | apply Yn | apply Yw | refine Ys ?_ GE252.out | refine Ys ?_ GE261.out) | exact HB.out))))
         (case aL => have := LMc21.out; omega)
         intro v266 w25 ho hb hg hat
         rw [← Ny265.out] at ho
         have n0_ := Az.mk (Kd.R_after (ok := (fun k_ => some k_ ≠ (.slice Ao26 y262.length co26 : Value).ownBlock)) (by (with_reducible repeat (first | apply Kd.Ra_ | apply Kd.Rn_ | apply Kd.Rw_)); exact Kd.Rm_ HO_262001.out (fun _ hk => ⟨hk.2, hk.1⟩)) hg hat)
         have n1_ := Az.mk (blk_grown (g := gb252) (o := .cells #[.slice none 0 0, .slice none 0 0, .int .i64 0] 31 (0, 0)) (by (with_reducible repeat (first | refine Zn ?_ _ | refine Zw ?_ | refine Za ?_ _)); exact BK252.out) hg (Kd.S_ne HO_262000.out BK252.out (by decide)))
         have n2_ := Az.mk (blk_grown (g := gb261) (o := .cells #[u262000, .slice Ao14 y258.length co14, .int .i64 0] 31 (0, 0)) (by (with_reducible repeat (first | refine Zn ?_ _ | refine Zw ?_ | refine Za ?_ _)); exact BK261.out) hg (Kd.S_ne HO_262000.out BK261.out (by decide)))
         have n3_ := Az.mk (hb)
         have n4_ := Az.mk (ho)
         clear HO_262001
         clear BK252
         clear BK261
         clear HB
         clear HO_262000
         clear HO264
         have HO_262001 := n0_
         have BK252 := n1_
         have BK261 := n2_
         have HB := n3_
         have HO267 := n4_
         clear n0_ n1_ n2_ n3_ n4_
         clear ho hb hg hat
         obtain ⟨Ao27, co27, eo27⟩ := Kd.Ss_ HO267.out
         (first | subst eo27 | (injection eo27 with f1_ f2_ f3_; have f4_ := f1_.symm; have f5_ := f3_.symm; clear f1_ f2_ f3_; subst f4_; subst f5_))
         refine hK.out _ _ ⟨(Zc BK261.out 0).trans rfl, (Zc BK261.out 1).trans rfl, (Zc BK261.out 2).trans rfl⟩ (fun hHeld => ?_)
         clear hK K
         refine norm_ (a' := ?_) ?_ ?_
         rotate_left
         ·show Act.put _ (some 35) _ = _
          simp only [Act.put, List.setIfInBounds_toArray, List.set_cons_zero, List.set_cons_succ, i64_w, i32_w]
          rfl
         refine pure_ (i := 5) (N := some 36) (v := ?_) (a' := ?_) #[true, true, true, true, true, true, false] rfl rfl (by kernel_rfl) (fun _ _ _ h => h) (Or.inl ⟨by rfl, ?_⟩) ?_ ?_
         rotate_left
         ·intro w'
          go_simp
          with_reducible rfl
         rotate_left
         ·simp only [Act.put, List.setIfInBounds_toArray, List.set_cons_zero, List.set_cons_succ, i64_w, i32_w]
          rfl
         refine last_ (i := 6) (N := none) #[true, true, true, true, true, true, true] rfl rfl (by kernel_rfl) (by decide) (fun K hK => ?_)
         have hs28 : w25.cell? ⟨gb261, 0, none⟩ = some (u262000) := (Zc BK261.out 0).trans rfl
         have hfs28 := Zf BK261.out 0
         have hns28_0 := NB252_261.out
         have hms28_0 := NB261_252.out
         refine skip_ (w1 := ?_) (by rfl) rfl ?_ ?_
         rotate_left
         ·go_simp
          rfl
         refine hK.out _ _ ?_
         clear hK K
         refine done_ (by kernel_rfl) ?_
         try go_wp2
         go_roundg k2
         case measure => have := HJ1.out; have := HK2.out; omega
         case rel => exact ⟨(wrap64 (x29_2 + 1)), (y265), (.slice Ao27 y265.length co27), (by first | rfl | (simp; done) | (simp [*]; done)), H', ⟨by have := HJ1.out; have := HK2.out; omega⟩, ⟨by (with_reducible repeat (first | apply Kd.Sa_ | apply Kd.Sn_ | apply Kd.Sw_)); exact Kd.Sm_ (Kd.Sf_ (p := ⟨gb261, 0, none⟩) (Kd.S_types HO267.out BK261.out (by decide)) (fun _ hk => hk.2) (.slice Ao27 y265.length co27)) (fun _ hk => trivial)⟩, ⟨by (with_reducible repeat (first | apply Kd.Ra_ | apply Kd.Rn_ | apply Kd.Rw_)); exact Kd.Rm_ (Kd.Rf_ (p := ⟨gb261, 0, none⟩) (Kd.R_types HO_262001.out BK261.out (by decide)) (fun _ hk => hk.2) (.slice Ao27 y265.length co27)) (fun _ hk => hk.1.2)⟩, ⟨by (with_reducible repeat (first | refine Zn ?_ _ | refine Zw ?_ | refine Za ?_ _)); refine blk_far ?_ NB252_261.out _; (with_reducible repeat (first | refine Zn ?_ _ | refine Zw ?_ | refine Za ?_ _)); exact BK252.out⟩, ⟨by (with_reducible repeat (first | refine Zn ?_ _ | refine Zw ?_ | refine Za ?_ _)); refine Zp (cs := #[u262000, .slice Ao14 y258.length co14, .int .i64 0]) ?_ 0 _ rfl; (with_reducible repeat (first | refine Zn ?_ _ | refine Zw ?_ | refine Za ?_ _)); exact BK261.out⟩, ⟨by repeat (first | (with_reducible first | exact HB.out | apply Ya | apply Yn | apply Yw | refine Ys ?_ GE252.out | refine Ys ?_ GE261.out) | exact HB.out)⟩⟩
        ·rw [if_neg c21] at H
         exact absurd H (by simp)
       ·rw [if_neg c20] at H
        exact absurd H (by simp)
      ·rw [if_neg c19] at H
       have c19b0 : decide (x29_2 < 8) = false := decide_eq_false c19
       clear c19
       have H' := Az.mk H
       clear H
       obtain ⟨P_, hP_, hF_, hG_⟩ := partF HO_262000.out HO_262001.out Ny258.out
       have HFs := Az.mk hF_
       have HGs := Az.mk hG_
       have HPs := Az.mk hP_
       clear hP_ hF_ hG_
       go_wp2
       go_loopg [39] k2 (fun kq v39 w' => ∃ (x39_3 : Int) (x262001_3 : List (S61)) (u262001 : Value), v39 = .int .i64 x39_3 ∧ Az (impl_HostLoad.l1 kq l0 (wrap64 ((l0.length : Int) / 6)) x39_3 x262000_2 x262001_3 0 = some (r1, r2, r3, r4)) ∧ Az (kq ≤ k2) ∧ Az (Kd.S (Kd.slice 3 (Kd.int .i64)) 45 w' w.heap.size (fun _ => True) u262000 x262000_2) ∧ Az (Kd.R k61 61 w' w.heap.size (fun k_ => some k_ ≠ (u262000 : Value).ownBlock) u262001 x262001_3) ∧ Az (w'.heap[gb252]? = some (.cells #[(.slice none 0 0), (.slice none 0 0), .int .i64 0] 31 (0, 0))) ∧ Az (w'.heap[gb261]? = some (.cells #[u262000, u262001, .int .i64 0] 31 (0, 0))) ∧ Az (Below w.heap.size w w') ∧ Az (Kd.S (Kd.slice 3 (Kd.int .i64)) 45 w' w.heap.size P_ u262000 x262000_2) ∧ Az (Kd.S k61s 61 w' w.heap.size (fun k_ => ¬ P_ k_) u262001 x262001_3) ∧ Az (∀ k_, P_ k_ → k_ < w'.heap.size))
       case atStart => exact ⟨(0), (y258), (.slice Ao14 y258.length co14), (by first | rfl | (simp; done) | (simp [*]; done)), H', ⟨Nat.le_refl _⟩, ⟨by (with_reducible repeat (first | apply Kd.Sa_ | apply Kd.Sn_ | apply Kd.Sw_)); exact HO_262000.out⟩, ⟨by (with_reducible repeat (first | apply Kd.Ra_ | apply Kd.Rn_ | apply Kd.Rw_)); exact HO_262001.out⟩, ⟨by (with_reducible repeat (first | refine Zn ?_ _ | refine Zw ?_ | refine Za ?_ _)); exact BK252.out⟩, ⟨by (with_reducible repeat (first | refine Zn ?_ _ | refine Zw ?_ | refine Za ?_ _)); exact BK261.out⟩, ⟨by repeat (first | (with_reducible first | exact HB.out | apply Ya | apply Yn | apply Yw | refine Ys ?_ GE252.out | refine Ys ?_ GE261.out) | exact HB.out)⟩, ⟨by (with_reducible repeat (first | apply Kd.Sa_ | apply Kd.Sn_ | apply Kd.Sw_)); exact HFs.out⟩, ⟨by (with_reducible repeat (first | apply Kd.Sa_ | apply Kd.Sn_ | apply Kd.Sw_)); exact HGs.out⟩, ⟨HPs.out⟩⟩
       case round =>
        clear H'
        try clear c1
        try clear c2
        try clear p2
        try clear c5
        try clear p6
        try clear c7
        try clear c8
        try clear c17
        try clear c19
        try clear c19b0
        try clear c20
        try clear c20b0
        try clear c20b1
        try clear c21
        try clear hcz18_0
        try clear hcz18_1
        try clear hcz18_2
        try clear hcz9_0
        try clear hcz9_1
        try clear hcz9_2
        try clear hfz18_0
        try clear hfz18_1
        try clear hfz18_2
        try clear hfz9_0
        try clear hfz9_1
        try clear hfz9_2
        try clear p2
        try clear p6
        obtain ⟨x39_3, x262001_3, u262001, rfl, HA, HK3, HO_262000, HO_262001, BK252, BK261, HB, HFs, HGs, HPs⟩ := hrel
        cases gk with
        | zero => exact absurd HA.out (by simp [impl_HostLoad.l1])
        | succ k3 =>
         have H := HA.out
         clear HA
         simp only [impl_HostLoad.l1] at H
         by_cases c29 : x39_3 < (wrap64 ((l0.length : Int) / 6))
         ·rw [if_pos c29] at H
          have c29b0 : decide (x39_3 < (wrap64 ((l0.length : Int) / 6))) = true := decide_eq_true c29
          clear c29
          by_cases c30 : 6 ≤ 11728124029610
          ·rw [if_pos c30] at H
           have c30b0 := eq_true c30
           have c30b1 : decide (6 ≤ 11728124029610) = true := decide_eq_true c30
           clear c30
           obtain ⟨y268, hy268⟩ : ∃ y_ : List (S83), y_ = (List.replicate 6 z83) := ⟨_, rfl⟩
           replace H : (if 0 ≤ (wrap64 (x39_3 * 6)) then (if (wrap64 (x39_3 * 6)) ≤ (wrap64 ((wrap64 (x39_3 + 1)) * 6)) then (if (wrap64 ((wrap64 (x39_3 + 1)) * 6)) ≤ (l0.length : Int) then ((impl_cloneMem.f k3 ((l0.take ((wrap64 ((wrap64 (x39_3 + 1)) * 6)) : Int).toNat).drop ((wrap64 (x39_3 * 6)) : Int).toNat)).bind fun t275 => (if 6 ≤ 8796093022208 then (if x262001_3.length < 1954687338268 then (impl_HostLoad.l1 k3 l0 (wrap64 ((l0.length : Int) / 6)) (wrap64 (x39_3 + 1)) x262000_2 (x262001_3 ++ [(⟨y268, t275, (List.replicate 6 z86)⟩ : S61)]) 0) else (none)) else (none))) else (none)) else (none)) else (none)) = some (r1, r2, r3, r4) := by first | (rw [hy268]; with_reducible exact H) | (have H2_ := (Option.bind_some _ _).symm.trans H; rw [hy268]; with_reducible exact H2_) | (have H2_ := (Option.bind_some _ _).symm.trans H; with_reducible exact H2_) | with_reducible exact H | (rw [hy268]; exact H) | exact H
           have Ny268 := Az.mk hy268
           clear hy268
           obtain ⟨ji31, hji31⟩ : ∃ j_ : Int, (wrap64 (x39_3 * 6)) = j_ := ⟨_, rfl⟩
           replace H : (if 0 ≤ (ji31) then (if (ji31) ≤ (wrap64 ((wrap64 (x39_3 + 1)) * 6)) then (if (wrap64 ((wrap64 (x39_3 + 1)) * 6)) ≤ (l0.length : Int) then ((impl_cloneMem.f k3 ((l0.take ((wrap64 ((wrap64 (x39_3 + 1)) * 6)) : Int).toNat).drop ((ji31) : Int).toNat)).bind fun t275 => (if 6 ≤ 8796093022208 then (if x262001_3.length < 1954687338268 then (impl_HostLoad.l1 k3 l0 (wrap64 ((l0.length : Int) / 6)) (wrap64 (x39_3 + 1)) x262000_2 (x262001_3 ++ [(⟨y268, t275, (List.replicate 6 z86)⟩ : S61)]) 0) else (none)) else (none))) else (none)) else (none)) else (none)) = some (r1, r2, r3, r4) := by first | (rw [hji31] at H; exact H) | (simp only [hji31] at H ⊢; exact H)
           have hji31w : (IntKind.i64.wrap (x39_3 * 6)) = ji31 := (i64_w _).trans hji31
           by_cases c32 : 0 ≤ (ji31)
           ·rw [if_pos c32] at H
            have c32b0 := eq_true c32
            have c32b1 : decide (0 ≤ (ji31)) = true := decide_eq_true c32
            clear c32
            by_cases c33 : (ji31) ≤ (wrap64 ((wrap64 (x39_3 + 1)) * 6))
            ·rw [if_pos c33] at H
             have c33b0 := eq_true c33
             have c33b1 : decide ((ji31) ≤ (wrap64 ((wrap64 (x39_3 + 1)) * 6))) = true := decide_eq_true c33
             by_cases c34 : (wrap64 ((wrap64 (x39_3 + 1)) * 6)) ≤ (l0.length : Int)
             ·rw [if_pos c34] at H
              have c34b0 := eq_true c34
              have c34b1 : decide ((wrap64 ((wrap64 (x39_3 + 1)) * 6)) ≤ (l0.length : Int)) = true := decide_eq_true c34
              obtain ⟨y271, hy271⟩ : ∃ y_ : List (List Int), y_ = ((l0.take ((wrap64 ((wrap64 (x39_3 + 1)) * 6)) : Int).toNat).drop ((ji31) : Int).toNat) := ⟨_, rfl⟩
              replace H : ((impl_cloneMem.f k3 y271).bind fun t275 => (if 6 ≤ 8796093022208 then (if x262001_3.length < 1954687338268 then (impl_HostLoad.l1 k3 l0 (wrap64 ((l0.length : Int) / 6)) (wrap64 (x39_3 + 1)) x262000_2 (x262001_3 ++ [(⟨y268, t275, (List.replicate 6 z86)⟩ : S61)]) 0) else (none)) else (none))) = some (r1, r2, r3, r4) := by first | (rw [hy271]; with_reducible exact H) | (have H2_ := (Option.bind_some _ _).symm.trans H; rw [hy271]; with_reducible exact H2_) | (have H2_ := (Option.bind_some _ _).symm.trans H; with_reducible exact H2_) | with_reducible exact H | (rw [hy271]; exact H) | exact H
              have Ny271 := Az.mk hy271
              clear hy271
              replace H := Option.bind_eq_some_iff.mp H
              obtain ⟨t275, A350, H⟩ := H
              replace H : (if 6 ≤ 8796093022208 then (if x262001_3.length < 1954687338268 then (impl_HostLoad.l1 k3 l0 (wrap64 ((l0.length : Int) / 6)) (wrap64 (x39_3 + 1)) x262000_2 (x262001_3 ++ [(⟨y268, t275, (List.replicate 6 z86)⟩ : S61)]) 0) else (none)) else (none)) = some (r1, r2, r3, r4) := H
              have A35 := Az.mk A350
              clear A350
              by_cases c36 : 6 ≤ 8796093022208
              ·rw [if_pos c36] at H
               have c36b0 := eq_true c36
               have c36b1 : decide (6 ≤ 8796093022208) = true := decide_eq_true c36
               clear c36
               obtain ⟨y278, hy278⟩ : ∃ y_ : List (S86), y_ = (List.replicate 6 z86) := ⟨_, rfl⟩
               replace H : (if x262001_3.length < 1954687338268 then (impl_HostLoad.l1 k3 l0 (wrap64 ((l0.length : Int) / 6)) (wrap64 (x39_3 + 1)) x262000_2 (x262001_3 ++ [(⟨y268, t275, y278⟩ : S61)]) 0) else (none)) = some (r1, r2, r3, r4) := by first | (rw [hy278]; with_reducible exact H) | (have H2_ := (Option.bind_some _ _).symm.trans H; rw [hy278]; with_reducible exact H2_) | (have H2_ := (Option.bind_some _ _).symm.trans H; with_reducible exact H2_) | with_reducible exact H | (rw [hy278]; exact H) | exact H
               have Ny278 := Az.mk hy278
               clear hy278
               by_cases c37 : x262001_3.length < 1954687338268
               ·rw [if_pos c37] at H
                have LMc37 := Az.mk c37
                clear c37
                obtain ⟨y281, hy281⟩ : ∃ y_ : List (S61), y_ = (x262001_3 ++ [(⟨y268, t275, y278⟩ : S61)]) := ⟨_, rfl⟩
                replace H : (impl_HostLoad.l1 k3 l0 (wrap64 ((l0.length : Int) / 6)) (wrap64 (x39_3 + 1)) x262000_2 y281 0) = some (r1, r2, r3, r4) := by first | (rw [hy281]; with_reducible exact H) | (have H2_ := (Option.bind_some _ _).symm.trans H; rw [hy281]; with_reducible exact H2_) | (have H2_ := (Option.bind_some _ _).symm.trans H; with_reducible exact H2_) | with_reducible exact H | (rw [hy281]; exact H) | exact H
                have Ny281 := Az.mk hy281
                clear hy281
                have H' := Az.mk H
                clear H
                obtain ⟨Ao38, co38, eo38⟩ := Kd.Rs_ HO_262001.out
                subst eo38
                try go_wp2
                have n0_ := Az.mk (Kd.Sw_ HO_262000.out)
                have n1_ := Az.mk (Kd.Rw_ HO_262001.out)
                have n2_ := Az.mk (Zw BK252.out)
                have n3_ := Az.mk (Zw BK261.out)
                have n4_ := Az.mk (Yw HB.out)
                clear HO_262000
                clear HO_262001
                clear BK252
                clear BK261
                clear HB
                have HO_262000 := n0_
                have HO_262001 := n1_
                have BK252 := n2_
                have BK261 := n3_
                have HB := n4_
                clear n0_ n1_ n2_ n3_ n4_
                have q40 : ((wrap64 ((wrap64 (x39_3 + 1)) * 6)) : Int) ≤ ((l0.length : Int) : Int) := of_decide_eq_true (by first | (with_reducible assumption) | assumption)
                obtain ⟨i040, hi040, _, hsz40, _⟩ := info_parts info45
                have hroom40 : l0.length ≤ c0 := HC0.out
                have hC40 : Kd.C (Kd.slice 3 (Kd.int .i64)) _ A0 l0.length l0 := HR0.out
                have ql40 : ((ji31) : Int) ≤ ((wrap64 ((wrap64 (x39_3 + 1)) * 6)) : Int) := of_decide_eq_true (by first | (with_reducible assumption) | assumption)
                have q040 : (0 : Int) ≤ ((ji31) : Int) := of_decide_eq_true (by first | (with_reducible assumption) | assumption)
                have hcut40 := cut_mid (P := Try.prog) 23 45 .i64 .i64 Try.underlying23 hi040 1 hsz40 A0 l0.length c0 (ji31) (wrap64 ((wrap64 (x39_3 + 1)) * 6)) q040 ql40 q40 hroom40
                have hr40 := Kd.C_mid (lo := ((ji31) : Int).toNat) (hi := ((wrap64 ((wrap64 (x39_3 + 1)) * 6)) : Int).toNat) (c := c0) hC40 (by omega) (by omega) hroom40
                obtain ⟨A40, hA40⟩ : ∃ A1, A1 = (if c0 = ((ji31) : Int).toNat then A0 else (A0 : Option Addr).map (·.add (((ji31) : Int).toNat * 1))) := ⟨_, rfl⟩
                obtain ⟨c40, hc40⟩ : ∃ c1, c1 = c0 - ((ji31) : Int).toNat := ⟨_, rfl⟩
                have hy40 : y271.length = ((wrap64 ((wrap64 (x39_3 + 1)) * 6)) : Int).toNat - ((ji31) : Int).toNat := (by rw [Ny271.out, List.length_drop, List.length_take] <;> omega)
                rw [show ((l0).take ((wrap64 ((wrap64 (x39_3 + 1)) * 6)) : Int).toNat).drop ((ji31) : Int).toNat = y271 from Ny271.out.symm] at hr40
                replace hr40 : Kd.C (Kd.slice 3 (Kd.int .i64)) _ A40 y271.length y271 := (by rw [hA40]; exact hr40)
                rw [← hy40, ← hA40, ← hc40] at hcut40
                have HR274 := Az.mk hr40
                have HC274 := Az.mk (show y271.length ≤ c40 from by rw [hy40, hc40]; exact Nat.sub_le_sub_right (Nat.le_trans (by omega) hroom40) _)
                clear hr40 hC40 hroom40 hi040 hsz40 hc40
                have KY40 := Az.mk hy40
                have KA40 := Az.mk hA40
                clear hy40 hA40
                replace q40 := eq_true q40
                refine start_ (n := 17) (S := fun w' => w'.cell? ⟨gb261, 0, none⟩ = some (u262000) ∧ w'.cell? ⟨gb261, 1, none⟩ = some (.slice Ao38 x262001_3.length co38) ∧ w'.cell? ⟨gb261, 2, none⟩ = some (.int .i64 0)) (ds := [16]) #[false, false, false, false, false, false, false, false, false, false, false, false, false, false, false, false, false] (by kernel_rfl) rfl rfl ⟨(Zc BK261.out 0).trans rfl, (Zc BK261.out 1).trans rfl, (Zc BK261.out 2).trans rfl⟩ (fun hHeld => ?_); refine with_tabW impl_HostLoad.tab12 impl_HostLoad.bits12 (fun HT_ HW_ => ?_)
                have nF_ := Az.mk (Kd.Sw_ HFs.out)
                have nG_ := Az.mk (Kd.Sw_ HGs.out)
                have nP_ := Az.mk (show ∀ k_, P_ k_ → k_ < wr.drew.heap.size from HPs.out)
                clear HFs HGs HPs
                have HFs := nF_
                have HGs := nG_
                have HPs := nP_
                clear nF_ nG_ nP_
                generalize wr.drew = w39 at HO_262000 HO_262001 BK252 BK261 HB HFs HGs HPs HR274 hHeld ⊢
                have HBo := HB
                clear HB
                have HB := Az.mk (Below.refl w39.heap.size w39)
                refine pure_ (i := 0) (N := some 42) (v := ?_) (a' := ?_) #[true, false, false, false, false, false, false, false, false, false, false, false, false, false, false, false, false] rfl rfl (any_of HT_.out (by kernel_rfl)) (fun _ _ _ h => h) (Or.inl ⟨by rfl, ?_⟩) ?_ ?_
                rotate_left
                ·intro w'
                 go_simp
                 with_reducible rfl
                rotate_left
                ·simp only [Act.put, List.setIfInBounds_toArray, List.set_cons_zero, List.set_cons_succ, i64_w, i32_w]
                 rfl
                refine pure_ (i := 3) (N := some 45) (v := ?_) (a' := ?_) #[true, false, false, true, false, false, false, false, false, false, false, false, false, false, false, false, false] rfl rfl (any_of HT_.out (by kernel_rfl)) (fun _ _ _ h => h) (Or.inl ⟨by rfl, ?_⟩) ?_ ?_
                rotate_left
                ·intro w'
                 go_simp
                 with_reducible rfl
                rotate_left
                ·simp only [Act.put, List.setIfInBounds_toArray, List.set_cons_zero, List.set_cons_succ, i64_w, i32_w]
                 rfl
                refine pure_ (i := 4) (N := some 46) (v := ?_) (a' := ?_) #[true, false, false, true, true, false, false, false, false, false, false, false, false, false, false, false, false] rfl rfl (any_of HT_.out (by kernel_rfl)) (fun _ _ _ h => h) (Or.inl ⟨by rfl, ?_⟩) ?_ ?_
                rotate_left
                ·intro w'
                 go_simp
                 with_reducible rfl
                rotate_left
                ·simp only [Act.put, List.setIfInBounds_toArray, List.set_cons_zero, List.set_cons_succ, i64_w, i32_w]
                 rfl
                refine pure_ (i := 5) (N := some 47) (v := ?_) (a' := ?_) #[true, false, false, true, true, true, false, false, false, false, false, false, false, false, false, false, false] rfl rfl (any_of HT_.out (by kernel_rfl)) (fun _ _ _ h => h) (Or.inl ⟨by rfl, ?_⟩) ?_ ?_
                rotate_left
                ·intro w'
                 go_simp
                 with_reducible rfl
                rotate_left
                ·simp only [Act.put, List.setIfInBounds_toArray, List.set_cons_zero, List.set_cons_succ, i64_w, i32_w]
                 rfl
                refine pure_ (i := 6) (N := some 48) (v := ?_) (a' := ?_) #[true, false, false, true, true, true, true, false, false, false, false, false, false, false, false, false, false] rfl rfl (any_of HT_.out (by kernel_rfl)) (fun _ _ _ h => h) (Or.inl ⟨by rfl, ?_⟩) ?_ ?_
                rotate_left
                ·intro w'
                 go_simp
                 with_reducible rfl
                rotate_left
                ·simp only [Act.put, List.setIfInBounds_toArray, List.set_cons_zero, List.set_cons_succ, i64_w, i32_w]
                 rfl
                refine pure_ (i := 7) (N := some 49) (v := ?_) (a' := ?_) #[true, false, false, true, true, true, true, true, false, false, false, false, false, false, false, false, false] rfl rfl (any_of HT_.out (by kernel_rfl)) (fun _ _ _ h => h) (Or.inl ⟨by rfl, ?_⟩) ?_ ?_
                rotate_left
                ·intro w'
                 go_simp
                 with_reducible rfl
                rotate_left
                ·simp only [Act.put, List.setIfInBounds_toArray, List.set_cons_zero, List.set_cons_succ, i64_w, i32_w]
                 rfl
                refine pure_ (i := 8) (N := some 50) (v := ?_) (a' := ?_) #[true, false, false, true, true, true, true, true, true, false, false, false, false, false, false, false, false] rfl rfl (any_of HT_.out (by kernel_rfl)) (fun _ _ _ h => h) (Or.inl ⟨by rfl, ?_⟩) ?_ ?_
                rotate_left
                ·intro w'
                 go_simp
                 with_reducible rfl
                rotate_left
                ·simp only [Act.put, List.setIfInBounds_toArray, List.set_cons_zero, List.set_cons_succ, i64_w, i32_w]
                 rfl
                refine pure_ (i := 9) (N := some 51) (v := ?_) (a' := ?_) #[true, false, false, true, true, true, true, true, true, true, false, false, false, false, false, false, false] rfl rfl (any_of HT_.out (by kernel_rfl)) (fun _ _ _ h => h) (Or.inl ⟨by rfl, ?_⟩) ?_ ?_
                rotate_left
                ·intro w'
                 go_simp
                 with_reducible rfl
                rotate_left
                ·simp only [Act.put, List.setIfInBounds_toArray, List.set_cons_zero, List.set_cons_succ, i64_w, i32_w]
                 rfl
                refine take_ (i := 1) (N := some 43) (v := ?_) (a' := ?_) #[true, true, false, true, true, true, true, true, true, true, false, false, false, false, false, false, false] rfl rfl (take_ofW HT_.out HW_.out (by kernel_rfl)) (fun _ _ _ h => h) (Or.inl ⟨by rfl, ?_⟩) hHeld ?_ ?_
                rotate_left
                ·rintro w' ⟨s0, s1, s2⟩
                 go_simp
                 with_reducible rfl
                rotate_left
                ·simp only [Act.put, List.setIfInBounds_toArray, List.set_cons_zero, List.set_cons_succ, i64_w, i32_w]
                 rfl
                refine join_ (σ := Value × Value × Value) 5 #[true, true, true, true, true, true, true, true, true, true, true, true, false, false, false, false, false] (fun s_ => [(44, s_.1), (52, s_.2.1), (53, s_.2.2)]) (fun s_ w' => (w'.cell? ⟨gb261, 0, none⟩ = some (u262000) ∧ w'.cell? ⟨gb261, 1, none⟩ = some (.slice Ao38 x262001_3.length co38) ∧ w'.cell? ⟨gb261, 2, none⟩ = some (.int .i64 0)) ∧ (Kd.R k83 83 w' w39.heap.size (fun _ => True) s_.1 y268) ∧ (Kd.S (Kd.slice 3 (Kd.int .i64)) 45 w' w39.heap.size (fun k_ => some k_ ≠ (u262000 : Value).ownBlock) s_.2.1 t275) ∧ (Kd.R k86 86 w' w39.heap.size (fun _ => True) s_.2.2 y278) ∧ (Kd.S (Kd.slice 3 (Kd.int .i64)) 45 w' w.heap.size (fun k_ => some k_ ≠ (s_.2.1 : Value).ownBlock) u262000 x262000_2) ∧ (Kd.R k61 61 w' w.heap.size (fun k_ => some k_ ≠ (s_.1 : Value).ownBlock ∧ some k_ ≠ (s_.2.1 : Value).ownBlock ∧ some k_ ≠ (s_.2.2 : Value).ownBlock ∧ some k_ ≠ (u262000 : Value).ownBlock) (.slice Ao38 x262001_3.length co38) x262001_3) ∧ (w'.heap[gb252]? = some (.cells #[.slice none 0 0, .slice none 0 0, .int .i64 0] 31 (0, 0))) ∧ (w'.heap[gb261]? = some (.cells #[u262000, .slice Ao38 x262001_3.length co38, .int .i64 0] 31 (0, 0))) ∧ (Below w39.heap.size w39 w')) ?_ ?_
                rotate_left
                ·intro hJ2_10_11
                 refine join_ (σ := Value × Value) 6 #[true, true, true, true, true, true, true, true, true, true, true, false, false, false, false, false, false] (fun s_ => [(44, s_.1), (52, s_.2)]) (fun s_ w' => (w'.cell? ⟨gb261, 0, none⟩ = some (u262000) ∧ w'.cell? ⟨gb261, 1, none⟩ = some (.slice Ao38 x262001_3.length co38) ∧ w'.cell? ⟨gb261, 2, none⟩ = some (.int .i64 0)) ∧ (Kd.R k83 83 w' w39.heap.size (fun _ => True) s_.1 y268) ∧ (Kd.S (Kd.slice 3 (Kd.int .i64)) 45 w' w39.heap.size (fun k_ => some k_ ≠ (u262000 : Value).ownBlock) s_.2 t275) ∧ (Kd.S (Kd.slice 3 (Kd.int .i64)) 45 w' w.heap.size (fun k_ => some k_ ≠ (s_.2 : Value).ownBlock) u262000 x262000_2) ∧ (Kd.R k61 61 w' w.heap.size (fun k_ => some k_ ≠ (s_.1 : Value).ownBlock ∧ some k_ ≠ (s_.2 : Value).ownBlock ∧ some k_ ≠ (u262000 : Value).ownBlock) (.slice Ao38 x262001_3.length co38) x262001_3) ∧ (w'.heap[gb252]? = some (.cells #[.slice none 0 0, .slice none 0 0, .int .i64 0] 31 (0, 0))) ∧ (w'.heap[gb261]? = some (.cells #[u262000, .slice Ao38 x262001_3.length co38, .int .i64 0] 31 (0, 0))) ∧ (Below w39.heap.size w39 w')) ?_ ?_
                 rotate_left
                 ·intro hJ2_10
                  refine join_ (σ := Value × Value) 6 #[true, true, true, true, true, true, true, true, true, true, false, true, false, false, false, false, false] (fun s_ => [(44, s_.1), (53, s_.2)]) (fun s_ w' => (w'.cell? ⟨gb261, 0, none⟩ = some (u262000) ∧ w'.cell? ⟨gb261, 1, none⟩ = some (.slice Ao38 x262001_3.length co38) ∧ w'.cell? ⟨gb261, 2, none⟩ = some (.int .i64 0)) ∧ (Kd.R k83 83 w' w39.heap.size (fun _ => True) s_.1 y268) ∧ (Kd.R k86 86 w' w39.heap.size (fun _ => True) s_.2 y278) ∧ (Kd.S (Kd.slice 3 (Kd.int .i64)) 45 w' w.heap.size (fun _ => True) u262000 x262000_2) ∧ (Kd.R k61 61 w' w.heap.size (fun k_ => some k_ ≠ (s_.1 : Value).ownBlock ∧ some k_ ≠ (s_.2 : Value).ownBlock ∧ some k_ ≠ (u262000 : Value).ownBlock) (.slice Ao38 x262001_3.length co38) x262001_3) ∧ (w'.heap[gb252]? = some (.cells #[.slice none 0 0, .slice none 0 0, .int .i64 0] 31 (0, 0))) ∧ (w'.heap[gb261]? = some (.cells #[u262000, .slice Ao38 x262001_3.length co38, .int .i64 0] 31 (0, 0))) ∧ (Below w39.heap.size w39 w')) ?_ ?_
                  rotate_left
                  ·intro hJ2_11
                   refine join_ (σ := Value × Value) 6 #[true, true, false, true, true, true, true, true, true, true, true, true, false, false, false, false, false] (fun s_ => [(52, s_.1), (53, s_.2)]) (fun s_ w' => (w'.cell? ⟨gb261, 0, none⟩ = some (u262000) ∧ w'.cell? ⟨gb261, 1, none⟩ = some (.slice Ao38 x262001_3.length co38) ∧ w'.cell? ⟨gb261, 2, none⟩ = some (.int .i64 0)) ∧ (Kd.S (Kd.slice 3 (Kd.int .i64)) 45 w' w39.heap.size (fun k_ => some k_ ≠ (u262000 : Value).ownBlock) s_.1 t275) ∧ (Kd.R k86 86 w' w39.heap.size (fun _ => True) s_.2 y278) ∧ (Kd.S (Kd.slice 3 (Kd.int .i64)) 45 w' w.heap.size (fun k_ => some k_ ≠ (s_.1 : Value).ownBlock) u262000 x262000_2) ∧ (Kd.R k61 61 w' w.heap.size (fun k_ => some k_ ≠ (s_.1 : Value).ownBlock ∧ some k_ ≠ (s_.2 : Value).ownBlock ∧ some k_ ≠ (u262000 : Value).ownBlock) (.slice Ao38 x262001_3.length co38) x262001_3) ∧ (w'.heap[gb252]? = some (.cells #[.slice none 0 0, .slice none 0 0, .int .i64 0] 31 (0, 0))) ∧ (w'.heap[gb261]? = some (.cells #[u262000, .slice Ao38 x262001_3.length co38, .int .i64 0] 31 (0, 0))) ∧ (Below w39.heap.size w39 w')) ?_ ?_
                   rotate_left
                   ·intro hJ10_11
                    refine join_ (σ := Value) 7 #[true, true, true, true, true, true, true, true, true, true, false, false, false, false, false, false, false] (fun s_ => [(44, s_)]) (fun s_ w' => (w'.cell? ⟨gb261, 0, none⟩ = some (u262000) ∧ w'.cell? ⟨gb261, 1, none⟩ = some (.slice Ao38 x262001_3.length co38) ∧ w'.cell? ⟨gb261, 2, none⟩ = some (.int .i64 0)) ∧ (Kd.R k83 83 w' w39.heap.size (fun _ => True) s_ y268) ∧ (Kd.S (Kd.slice 3 (Kd.int .i64)) 45 w' w.heap.size (fun _ => True) u262000 x262000_2) ∧ (Kd.R k61 61 w' w.heap.size (fun k_ => some k_ ≠ (s_ : Value).ownBlock ∧ some k_ ≠ (u262000 : Value).ownBlock) (.slice Ao38 x262001_3.length co38) x262001_3) ∧ (w'.heap[gb252]? = some (.cells #[.slice none 0 0, .slice none 0 0, .int .i64 0] 31 (0, 0))) ∧ (w'.heap[gb261]? = some (.cells #[u262000, .slice Ao38 x262001_3.length co38, .int .i64 0] 31 (0, 0))) ∧ (Below w39.heap.size w39 w')) ?_ ?_
                    rotate_left
                    ·intro hJ2
                     refine join_ (σ := Value) 7 #[true, true, false, true, true, true, true, true, true, true, true, false, false, false, false, false, false] (fun s_ => [(52, s_)]) (fun s_ w' => (w'.cell? ⟨gb261, 0, none⟩ = some (u262000) ∧ w'.cell? ⟨gb261, 1, none⟩ = some (.slice Ao38 x262001_3.length co38) ∧ w'.cell? ⟨gb261, 2, none⟩ = some (.int .i64 0)) ∧ (Kd.S (Kd.slice 3 (Kd.int .i64)) 45 w' w39.heap.size (fun k_ => some k_ ≠ (u262000 : Value).ownBlock) s_ t275) ∧ (Kd.S (Kd.slice 3 (Kd.int .i64)) 45 w' w.heap.size (fun k_ => some k_ ≠ (s_ : Value).ownBlock) u262000 x262000_2) ∧ (Kd.R k61 61 w' w.heap.size (fun k_ => some k_ ≠ (s_ : Value).ownBlock ∧ some k_ ≠ (u262000 : Value).ownBlock) (.slice Ao38 x262001_3.length co38) x262001_3) ∧ (w'.heap[gb252]? = some (.cells #[.slice none 0 0, .slice none 0 0, .int .i64 0] 31 (0, 0))) ∧ (w'.heap[gb261]? = some (.cells #[u262000, .slice Ao38 x262001_3.length co38, .int .i64 0] 31 (0, 0))) ∧ (Below w39.heap.size w39 w')) ?_ ?_
                     rotate_left
                     ·intro hJ10
                      refine join_ (σ := Value) 7 #[true, true, false, true, true, true, true, true, true, true, false, true, false, false, false, false, false] (fun s_ => [(53, s_)]) (fun s_ w' => (w'.cell? ⟨gb261, 0, none⟩ = some (u262000) ∧ w'.cell? ⟨gb261, 1, none⟩ = some (.slice Ao38 x262001_3.length co38) ∧ w'.cell? ⟨gb261, 2, none⟩ = some (.int .i64 0)) ∧ (Kd.R k86 86 w' w39.heap.size (fun _ => True) s_ y278) ∧ (Kd.S (Kd.slice 3 (Kd.int .i64)) 45 w' w.heap.size (fun _ => True) u262000 x262000_2) ∧ (Kd.R k61 61 w' w.heap.size (fun k_ => some k_ ≠ (s_ : Value).ownBlock ∧ some k_ ≠ (u262000 : Value).ownBlock) (.slice Ao38 x262001_3.length co38) x262001_3) ∧ (w'.heap[gb252]? = some (.cells #[.slice none 0 0, .slice none 0 0, .int .i64 0] 31 (0, 0))) ∧ (w'.heap[gb261]? = some (.cells #[u262000, .slice Ao38 x262001_3.length co38, .int .i64 0] 31 (0, 0))) ∧ (Below w39.heap.size w39 w')) ?_ ?_
                      rotate_left
                      ·intro hJ11
                       refine three_ (i := 2) (j := 10) (k := 11) (Ni := some 44) (Nj := some 52) (Nk := some 53) #[true, true, true, true, true, true, true, true, true, true, false, false, false, false, false, false, false] #[true, true, false, true, true, true, true, true, true, true, true, false, false, false, false, false, false] #[true, true, false, true, true, true, true, true, true, true, false, true, false, false, false, false, false] rfl rfl rfl rfl rfl rfl (three_of HT_.out (by kernel_rfl)) (by decide) (by decide) (by decide) (fun K hK => ?_) (fun K hK => ?_) (fun K hK => ?_)
                       ·skip
                        refine Kd.R_make_step k83 _ 83 (by rfl) (N := 44) rfl 58 _ _ rfl 6 rfl rfl Try.underlying58 (.agg #[(.bool false), (.int .i64 0), (.bool false)]) 24 info83 rfl (by decide) (by omega) z83 (ok := fun _ => True) (okp := fun _ => True) (k83_mkM _ _ _ z83 ) (fun _ hk => hk) trivial (by omega) (by omega) (Below.refl _ _) (Nat.le_refl _) ?_
                        intro v269 w41 ho42 hb hg_ hnew_
                        clear hg_ hnew_
                        (first | rw [← Ny268.out] at ho42 | (simp only [Int.reduceToNat] at ho42; rw [← Ny268.out] at ho42))
                        have n0_ := Az.mk (Kd.Sb_ (by (with_reducible repeat (first | apply Kd.Sa_ | apply Kd.Sn_ | apply Kd.Sw_)); exact HO_262000.out) hb)
                        have n1_ := Az.mk (Kd.RE_ (by (with_reducible repeat (first | apply Kd.Ra_ | apply Kd.Rn_ | apply Kd.Rw_)); exact HO_262001.out) (Kd.R_base ho42) hb)
                        have n2_ := Az.mk (Kd.Rl_ ho42 (Yz (by repeat (first | (with_reducible first | exact HB.out | apply Ya | apply Yn | apply Yw | refine Ys ?_ GE252.out | refine Ys ?_ GE261.out) | exact HB.out))))
                        have n3_ := Az.mk (Zb (g := gb252) (o := .cells #[.slice none 0 0, .slice none 0 0, .int .i64 0] 31 (0, 0)) (by (with_reducible repeat (first | refine Zn ?_ _ | refine Zw ?_ | refine Za ?_ _)); exact BK252.out) hb)
                        have n4_ := Az.mk (Zb (g := gb261) (o := .cells #[u262000, .slice Ao38 x262001_3.length co38, .int .i64 0] 31 (0, 0)) (by (with_reducible repeat (first | refine Zn ?_ _ | refine Zw ?_ | refine Za ?_ _)); exact BK261.out) hb)
                        have n5_ := Az.mk (Yt (by repeat (first | (with_reducible first | exact HB.out | apply Ya | apply Yn | apply Yw | refine Ys ?_ GE252.out | refine Ys ?_ GE261.out) | exact HB.out)) hb)
                        clear HO_262000
                        clear HO_262001
                        clear BK252
                        clear BK261
                        clear HB
                        have HO_262000 := n0_
                        have HO_262001 := n1_
                        have HO270 := n2_
                        have BK252 := n3_
                        have BK261 := n4_
                        have HB := n5_
                        clear n0_ n1_ n2_ n3_ n4_ n5_
                        clear hb ho42
                        refine hK.out _ _ ⟨(Zc BK261.out 0).trans rfl, (Zc BK261.out 1).trans rfl, (Zc BK261.out 2).trans rfl⟩ (fun hHeld => ?_)
                        clear hK K
                        refine norm_ (a' := ?_) ?_ ?_
                        rotate_left
                        ·show Act.put _ (some 44) _ = _
                         simp only [Act.put, List.setIfInBounds_toArray, List.set_cons_zero, List.set_cons_succ, i64_w, i32_w]
                         rfl
                        exact norm_ (by first | (simp only [putAll, Act.put, List.setIfInBounds_toArray, List.set_cons_zero, List.set_cons_succ]; done) | (simp only [putAll, Act.put, List.setIfInBounds_toArray, List.set_cons_zero, List.set_cons_succ]; rfl)) (hJ2 (v269) _ ⟨hHeld, (by (with_reducible repeat (first | apply Kd.Ra_ | apply Kd.Rn_ | apply Kd.Rw_)); exact HO270.out), (by (with_reducible repeat (first | apply Kd.Sa_ | apply Kd.Sn_ | apply Kd.Sw_)); exact HO_262000.out), (by (with_reducible repeat (first | apply Kd.Ra_ | apply Kd.Rn_ | apply Kd.Rw_)); exact Kd.Rm_ HO_262001.out (fun _ hk => ⟨hk.2, hk.1⟩)), (by (with_reducible repeat (first | refine Zn ?_ _ | refine Zw ?_ | refine Za ?_ _)); exact BK252.out), (by (with_reducible repeat (first | refine Zn ?_ _ | refine Zw ?_ | refine Za ?_ _)); exact BK261.out), (by repeat (first | (with_reducible first | exact HB.out | apply Ya | apply Yn | apply Yw | refine Ys ?_ GE252.out | refine Ys ?_ GE261.out) | exact HB.out))⟩)
                       ·skip
                        refine goes_ Try.func46 (by kernel_rfl) rfl #[.slice A40 y271.length c40] (by rfl) rfl rfl (by (try simp only [List.map_toArray, List.map_cons, List.map_nil]); first | done | rfl | (simp only [List.length_drop, List.length_take]; rfl)) ?_
                        with_reducible refine (impl_cloneMem.calls k3 _ _ y271 t275 _ ?side1 ?side2 A35.out).mono ?_
                        (case side1 => repeat (first | exact (Kd.Cb_ HR274.out HB.out) | exact (Kd.Cb_ HR274.out (Yt HBo.out HB.out)) | exact HR274.out | (with_reducible refine Kd.Ca_ ?_ _) | (with_reducible refine Kd.Cn_ ?_ _) | (with_reducible refine Kd.Cw_ ?_)))
                        (case side2 => exact HC274.out)
                        rintro e w41 ⟨v276, rfl, ho0, hb⟩
                        refine ⟨_, rfl, ?_⟩
                        have n0_ := Az.mk (Kd.S_elder' (by (with_reducible repeat (first | apply Kd.Sa_ | apply Kd.Sn_ | apply Kd.Sw_)); exact HO_262000.out) (Kd.S_base ho0) hb)
                        have n1_ := Az.mk (Kd.RE_ (by (with_reducible repeat (first | apply Kd.Ra_ | apply Kd.Rn_ | apply Kd.Rw_)); exact HO_262001.out) (Kd.S_base ho0) hb)
                        have n2_ := Az.mk (Kd.Sl_ (Kd.S_new' ho0 (Kd.S_lt (by (with_reducible repeat (first | apply Kd.Sa_ | apply Kd.Sn_ | apply Kd.Sw_)); exact HO_262000.out))) (Yz (by repeat (first | (with_reducible first | exact HB.out | apply Ya | apply Yn | apply Yw | refine Ys ?_ GE252.out | refine Ys ?_ GE261.out) | exact HB.out))))
                        have n3_ := Az.mk (Zb (g := gb252) (o := .cells #[.slice none 0 0, .slice none 0 0, .int .i64 0] 31 (0, 0)) (by (with_reducible repeat (first | refine Zn ?_ _ | refine Zw ?_ | refine Za ?_ _)); exact BK252.out) hb)
                        have n4_ := Az.mk (Zb (g := gb261) (o := .cells #[u262000, .slice Ao38 x262001_3.length co38, .int .i64 0] 31 (0, 0)) (by (with_reducible repeat (first | refine Zn ?_ _ | refine Zw ?_ | refine Za ?_ _)); exact BK261.out) hb)
                        have n5_ := Az.mk (Yt (by repeat (first | (with_reducible first | exact HB.out | apply Ya | apply Yn | apply Yw | refine Ys ?_ GE252.out | refine Ys ?_ GE261.out) | exact HB.out)) hb)
                        clear HO_262000
                        clear HO_262001
                        clear BK252
                        clear BK261
                        clear HB
                        have HO_262000 := n0_
                        have HO_262001 := n1_
                        have HO277 := n2_
                        have BK252 := n3_
                        have BK261 := n4_
                        have HB := n5_
                        clear n0_ n1_ n2_ n3_ n4_ n5_
                        (try clear hb)
                        (try clear hb2)
                        (try clear hk)
                        (try clear hi)
                        (try clear ho0)
                        refine hK.out _ _ ⟨(Zc BK261.out 0).trans rfl, (Zc BK261.out 1).trans rfl, (Zc BK261.out 2).trans rfl⟩ (fun hHeld => ?_)
                        clear hK K
                        refine norm_ (a' := ?_) ?_ ?_
                        rotate_left
                        ·show Act.put _ (some 52) _ = _
                         simp only [Act.put, List.setIfInBounds_toArray, List.set_cons_zero, List.set_cons_succ, i64_w, i32_w]
                         rfl
                        exact norm_ (by first | (simp only [putAll, Act.put, List.setIfInBounds_toArray, List.set_cons_zero, List.set_cons_succ]; done) | (simp only [putAll, Act.put, List.setIfInBounds_toArray, List.set_cons_zero, List.set_cons_succ]; rfl)) (hJ10 (v276) _ ⟨hHeld, (by (with_reducible repeat (first | apply Kd.Sa_ | apply Kd.Sn_ | apply Kd.Sw_)); exact Kd.Sm_ HO277.out (fun _ hk => hk.2)), (by (with_reducible repeat (first | apply Kd.Sa_ | apply Kd.Sn_ | apply Kd.Sw_)); exact Kd.Sm_ HO_262000.out (fun _ hk => hk.2)), (by (with_reducible repeat (first | apply Kd.Ra_ | apply Kd.Rn_ | apply Kd.Rw_)); exact Kd.Rm_ HO_262001.out (fun _ hk => ⟨hk.2, hk.1⟩)), (by (with_reducible repeat (first | refine Zn ?_ _ | refine Zw ?_ | refine Za ?_ _)); exact BK252.out), (by (with_reducible repeat (first | refine Zn ?_ _ | refine Zw ?_ | refine Za ?_ _)); exact BK261.out), (by repeat (first | (with_reducible first | exact HB.out | apply Ya | apply Yn | apply Yw | refine Ys ?_ GE252.out | refine Ys ?_ GE261.out) | exact HB.out))⟩)
                       ·skip
                        refine Kd.R_make_step k86 _ 86 (by rfl) (N := 53) rfl 59 _ _ rfl 6 rfl rfl Try.underlying59 (.agg #[(.bool false), (.int .i64 0), (.int .i64 0), (.bool false)]) 32 info86 rfl (by decide) (by omega) z86 (ok := fun _ => True) (okp := fun _ => True) (k86_mkM _ _ _ z86 ) (fun _ hk => hk) trivial (by omega) (by omega) (Below.refl _ _) (Nat.le_refl _) ?_
                        intro v279 w41 ho42 hb hg_ hnew_
                        clear hg_ hnew_
                        (first | rw [← Ny278.out] at ho42 | (simp only [Int.reduceToNat] at ho42; rw [← Ny278.out] at ho42))
                        have n0_ := Az.mk (Kd.Sb_ (by (with_reducible repeat (first | apply Kd.Sa_ | apply Kd.Sn_ | apply Kd.Sw_)); exact HO_262000.out) hb)
                        have n1_ := Az.mk (Kd.RE_ (by (with_reducible repeat (first | apply Kd.Ra_ | apply Kd.Rn_ | apply Kd.Rw_)); exact HO_262001.out) (Kd.R_base ho42) hb)
                        have n2_ := Az.mk (Kd.Rl_ ho42 (Yz (by repeat (first | (with_reducible first | exact HB.out | apply Ya | apply Yn | apply Yw | refine Ys ?_ GE252.out | refine Ys ?_ GE261.out) | exact HB.out))))
                        have n3_ := Az.mk (Zb (g := gb252) (o := .cells #[.slice none 0 0, .slice none 0 0, .int .i64 0] 31 (0, 0)) (by (with_reducible repeat (first | refine Zn ?_ _ | refine Zw ?_ | refine Za ?_ _)); exact BK252.out) hb)
                        have n4_ := Az.mk (Zb (g := gb261) (o := .cells #[u262000, .slice Ao38 x262001_3.length co38, .int .i64 0] 31 (0, 0)) (by (with_reducible repeat (first | refine Zn ?_ _ | refine Zw ?_ | refine Za ?_ _)); exact BK261.out) hb)
                        have n5_ := Az.mk (Yt (by repeat (first | (with_reducible first | exact HB.out | apply Ya | apply Yn | apply Yw | refine Ys ?_ GE252.out | refine Ys ?_ GE261.out) | exact HB.out)) hb)
                        clear HO_262000
                        clear HO_262001
                        clear BK252
                        clear BK261
                        clear HB
                        have HO_262000 := n0_
                        have HO_262001 := n1_
                        have HO280 := n2_
                        have BK252 := n3_
                        have BK261 := n4_
                        have HB := n5_
                        clear n0_ n1_ n2_ n3_ n4_ n5_
                        clear hb ho42
                        refine hK.out _ _ ⟨(Zc BK261.out 0).trans rfl, (Zc BK261.out 1).trans rfl, (Zc BK261.out 2).trans rfl⟩ (fun hHeld => ?_)
                        clear hK K
                        refine norm_ (a' := ?_) ?_ ?_
                        rotate_left
                        ·show Act.put _ (some 53) _ = _
                         simp only [Act.put, List.setIfInBounds_toArray, List.set_cons_zero, List.set_cons_succ, i64_w, i32_w]
                         rfl
                        exact norm_ (by first | (simp only [putAll, Act.put, List.setIfInBounds_toArray, List.set_cons_zero, List.set_cons_succ]; done) | (simp only [putAll, Act.put, List.setIfInBounds_toArray, List.set_cons_zero, List.set_cons_succ]; rfl)) (hJ11 (v279) _ ⟨hHeld, (by (with_reducible repeat (first | apply Kd.Ra_ | apply Kd.Rn_ | apply Kd.Rw_)); exact HO280.out), (by (with_reducible repeat (first | apply Kd.Sa_ | apply Kd.Sn_ | apply Kd.Sw_)); exact HO_262000.out), (by (with_reducible repeat (first | apply Kd.Ra_ | apply Kd.Rn_ | apply Kd.Rw_)); exact Kd.Rm_ HO_262001.out (fun _ hk => ⟨hk.2, hk.1⟩)), (by (with_reducible repeat (first | refine Zn ?_ _ | refine Zw ?_ | refine Za ?_ _)); exact BK252.out), (by (with_reducible repeat (first | refine Zn ?_ _ | refine Zw ?_ | refine Za ?_ _)); exact BK261.out), (by repeat (first | (with_reducible first | exact HB.out | apply Ya | apply Yn | apply Yw | refine Ys ?_ GE252.out | refine Ys ?_ GE261.out) | exact HB.out))⟩)
                      ·skip
                       rintro v279 w43 ⟨hS_, h0_, h1_, h2_, h3_, h4_, h5_⟩
                       have n0_ : Az (Kd.R k86 86 w43 w39.heap.size (fun _ => True) v279 y278) := ⟨h0_⟩
                       have n1_ : Az (Kd.S (Kd.slice 3 (Kd.int .i64)) 45 w43 w.heap.size (fun _ => True) u262000 x262000_2) := ⟨h1_⟩
                       have n2_ : Az (Kd.R k61 61 w43 w.heap.size (fun k_ => some k_ ≠ (v279 : Value).ownBlock ∧ some k_ ≠ (u262000 : Value).ownBlock) (.slice Ao38 x262001_3.length co38) x262001_3) := ⟨h2_⟩
                       have n3_ : Az (w43.heap[gb252]? = some (.cells #[.slice none 0 0, .slice none 0 0, .int .i64 0] 31 (0, 0))) := ⟨h3_⟩
                       have n4_ : Az (w43.heap[gb261]? = some (.cells #[u262000, .slice Ao38 x262001_3.length co38, .int .i64 0] 31 (0, 0))) := ⟨h4_⟩
                       have n5_ : Az (Below w39.heap.size w39 w43) := ⟨h5_⟩
                       clear HO_262000
                       clear HO_262001
                       clear BK252
                       clear BK261
                       clear HB
                       clear h0_ h1_ h2_ h3_ h4_ h5_
                       have HO280 := n0_
                       have HO_262000 := n1_
                       have HO_262001 := n2_
                       have BK252 := n3_
                       have BK261 := n4_
                       have HB := n5_
                       clear n0_ n1_ n2_ n3_ n4_ n5_
                       have hHeld : w43.cell? ⟨gb261, 0, none⟩ = some (u262000) ∧ w43.cell? ⟨gb261, 1, none⟩ = some (.slice Ao38 x262001_3.length co38) ∧ w43.cell? ⟨gb261, 2, none⟩ = some (.int .i64 0) := hS_
                       refine norm_ (a' := ?_) ?_ ?_
                       rotate_left
                       ·simp only [putAll, Act.put, List.setIfInBounds_toArray, List.set_cons_zero, List.set_cons_succ]
                        rfl
                       refine two_ (i := 2) (j := 10) (Ni := some 44) (Nj := some 52) #[true, true, true, true, true, true, true, true, true, true, false, true, false, false, false, false, false] #[true, true, false, true, true, true, true, true, true, true, true, true, false, false, false, false, false] rfl rfl rfl rfl (two_of HT_.out (by kernel_rfl)) (by decide) (by decide) (fun K hK => ?_) (fun K hK => ?_)
                       ·skip
                        refine Kd.R_make_step k83 _ 83 (by rfl) (N := 44) rfl 58 _ _ rfl 6 rfl rfl Try.underlying58 (.agg #[(.bool false), (.int .i64 0), (.bool false)]) 24 info83 rfl (by decide) (by omega) z83 (ok := fun _ => True) (okp := fun _ => True) (k83_mkM _ _ _ z83 ) (fun _ hk => hk) trivial (by omega) (by omega) (Below.refl _ _) (Nat.le_refl _) ?_
                        intro v269 w44 ho45 hb hg_ hnew_
                        clear hg_ hnew_
                        (first | rw [← Ny268.out] at ho45 | (simp only [Int.reduceToNat] at ho45; rw [← Ny268.out] at ho45))
                        have n0_ := Az.mk (Kd.Sb_ (by (with_reducible repeat (first | apply Kd.Sa_ | apply Kd.Sn_ | apply Kd.Sw_)); exact HO_262000.out) hb)
                        have n1_ := Az.mk (Kd.RE_ (by (with_reducible repeat (first | apply Kd.Ra_ | apply Kd.Rn_ | apply Kd.Rw_)); exact HO_262001.out) (Kd.R_base ho45) hb)
                        have n2_ := Az.mk (Kd.Rb_ (by (with_reducible repeat (first | apply Kd.Ra_ | apply Kd.Rn_ | apply Kd.Rw_)); exact HO280.out) hb)
                        have n3_ := Az.mk (Kd.Rl_ ho45 (Yz (by repeat (first | (with_reducible first | exact HB.out | apply Ya | apply Yn | apply Yw | refine Ys ?_ GE252.out | refine Ys ?_ GE261.out) | exact HB.out))))
                        have n4_ := Az.mk (Zb (g := gb252) (o := .cells #[.slice none 0 0, .slice none 0 0, .int .i64 0] 31 (0, 0)) (by (with_reducible repeat (first | refine Zn ?_ _ | refine Zw ?_ | refine Za ?_ _)); exact BK252.out) hb)
                        have n5_ := Az.mk (Zb (g := gb261) (o := .cells #[u262000, .slice Ao38 x262001_3.length co38, .int .i64 0] 31 (0, 0)) (by (with_reducible repeat (first | refine Zn ?_ _ | refine Zw ?_ | refine Za ?_ _)); exact BK261.out) hb)
                        have n6_ := Az.mk (Yt (by repeat (first | (with_reducible first | exact HB.out | apply Ya | apply Yn | apply Yw | refine Ys ?_ GE252.out | refine Ys ?_ GE261.out) | exact HB.out)) hb)
                        clear HO_262000
                        clear HO_262001
                        clear HO280
                        clear BK252
                        clear BK261
                        clear HB
                        have HO_262000 := n0_
                        have HO_262001 := n1_
                        have HO280 := n2_
                        have HO270 := n3_
                        have BK252 := n4_
                        have BK261 := n5_
                        have HB := n6_
                        clear n0_ n1_ n2_ n3_ n4_ n5_ n6_
                        clear hb ho45
                        refine hK.out _ _ ⟨(Zc BK261.out 0).trans rfl, (Zc BK261.out 1).trans rfl, (Zc BK261.out 2).trans rfl⟩ (fun hHeld => ?_)
                        clear hK K
                        refine norm_ (a' := ?_) ?_ ?_
                        rotate_left
                        ·show Act.put _ (some 44) _ = _
                         simp only [Act.put, List.setIfInBounds_toArray, List.set_cons_zero, List.set_cons_succ, i64_w, i32_w]
                         rfl
                        exact norm_ (by first | (simp only [putAll, Act.put, List.setIfInBounds_toArray, List.set_cons_zero, List.set_cons_succ]; done) | (simp only [putAll, Act.put, List.setIfInBounds_toArray, List.set_cons_zero, List.set_cons_succ]; rfl)) (hJ2_11 (v269, v279) _ ⟨hHeld, (by (with_reducible repeat (first | apply Kd.Ra_ | apply Kd.Rn_ | apply Kd.Rw_)); exact HO270.out), (by (with_reducible repeat (first | apply Kd.Ra_ | apply Kd.Rn_ | apply Kd.Rw_)); exact HO280.out), (by (with_reducible repeat (first | apply Kd.Sa_ | apply Kd.Sn_ | apply Kd.Sw_)); exact HO_262000.out), (by (with_reducible repeat (first | apply Kd.Ra_ | apply Kd.Rn_ | apply Kd.Rw_)); exact Kd.Rm_ HO_262001.out (fun _ hk => ⟨hk.2, ⟨hk.1.1, hk.1.2⟩⟩)), (by (with_reducible repeat (first | refine Zn ?_ _ | refine Zw ?_ | refine Za ?_ _)); exact BK252.out), (by (with_reducible repeat (first | refine Zn ?_ _ | refine Zw ?_ | refine Za ?_ _)); exact BK261.out), (by repeat (first | (with_reducible first | exact HB.out | apply Ya | apply Yn | apply Yw | refine Ys ?_ GE252.out | refine Ys ?_ GE261.out) | exact HB.out))⟩)
                       ·skip
                        refine goes_ Try.func46 (by kernel_rfl) rfl #[.slice A40 y271.length c40] (by rfl) rfl rfl (by (try simp only [List.map_toArray, List.map_cons, List.map_nil]); first | done | rfl | (simp only [List.length_drop, List.length_take]; rfl)) ?_
                        with_reducible refine (impl_cloneMem.calls k3 _ _ y271 t275 _ ?side1 ?side2 A35.out).mono ?_
                        (case side1 => repeat (first | exact (Kd.Cb_ HR274.out HB.out) | exact (Kd.Cb_ HR274.out (Yt HBo.out HB.out)) | exact HR274.out | (with_reducible refine Kd.Ca_ ?_ _) | (with_reducible refine Kd.Cn_ ?_ _) | (with_reducible refine Kd.Cw_ ?_)))
                        (case side2 => exact HC274.out)
                        rintro e w44 ⟨v276, rfl, ho0, hb⟩
                        refine ⟨_, rfl, ?_⟩
                        have n0_ := Az.mk (Kd.S_elder' (by (with_reducible repeat (first | apply Kd.Sa_ | apply Kd.Sn_ | apply Kd.Sw_)); exact HO_262000.out) (Kd.S_base ho0) hb)
                        have n1_ := Az.mk (Kd.RE_ (by (with_reducible repeat (first | apply Kd.Ra_ | apply Kd.Rn_ | apply Kd.Rw_)); exact HO_262001.out) (Kd.S_base ho0) hb)
                        have n2_ := Az.mk (Kd.Rb_ (by (with_reducible repeat (first | apply Kd.Ra_ | apply Kd.Rn_ | apply Kd.Rw_)); exact HO280.out) hb)
                        have n3_ := Az.mk (Kd.Sl_ (Kd.S_new' ho0 (Kd.S_lt (by (with_reducible repeat (first | apply Kd.Sa_ | apply Kd.Sn_ | apply Kd.Sw_)); exact HO_262000.out))) (Yz (by repeat (first | (with_reducible first | exact HB.out | apply Ya | apply Yn | apply Yw | refine Ys ?_ GE252.out | refine Ys ?_ GE261.out) | exact HB.out))))
                        have n4_ := Az.mk (Zb (g := gb252) (o := .cells #[.slice none 0 0, .slice none 0 0, .int .i64 0] 31 (0, 0)) (by (with_reducible repeat (first | refine Zn ?_ _ | refine Zw ?_ | refine Za ?_ _)); exact BK252.out) hb)
                        have n5_ := Az.mk (Zb (g := gb261) (o := .cells #[u262000, .slice Ao38 x262001_3.length co38, .int .i64 0] 31 (0, 0)) (by (with_reducible repeat (first | refine Zn ?_ _ | refine Zw ?_ | refine Za ?_ _)); exact BK261.out) hb)
                        have n6_ := Az.mk (Yt (by repeat (first | (with_reducible first | exact HB.out | apply Ya | apply Yn | apply Yw | refine Ys ?_ GE252.out | refine Ys ?_ GE261.out) | exact HB.out)) hb)
                        clear HO_262000
                        clear HO_262001
                        clear HO280
                        clear BK252
                        clear BK261
                        clear HB
                        have HO_262000 := n0_
                        have HO_262001 := n1_
                        have HO280 := n2_
                        have HO277 := n3_
                        have BK252 := n4_
                        have BK261 := n5_
                        have HB := n6_
                        clear n0_ n1_ n2_ n3_ n4_ n5_ n6_
                        (try clear hb)
                        (try clear hb2)
                        (try clear hk)
                        (try clear hi)
                        (try clear ho0)
                        refine hK.out _ _ ⟨(Zc BK261.out 0).trans rfl, (Zc BK261.out 1).trans rfl, (Zc BK261.out 2).trans rfl⟩ (fun hHeld => ?_)
                        clear hK K
                        refine norm_ (a' := ?_) ?_ ?_
                        rotate_left
                        ·show Act.put _ (some 52) _ = _
                         simp only [Act.put, List.setIfInBounds_toArray, List.set_cons_zero, List.set_cons_succ, i64_w, i32_w]
                         rfl
                        exact norm_ (by first | (simp only [putAll, Act.put, List.setIfInBounds_toArray, List.set_cons_zero, List.set_cons_succ]; done) | (simp only [putAll, Act.put, List.setIfInBounds_toArray, List.set_cons_zero, List.set_cons_succ]; rfl)) (hJ10_11 (v276, v279) _ ⟨hHeld, (by (with_reducible repeat (first | apply Kd.Sa_ | apply Kd.Sn_ | apply Kd.Sw_)); exact Kd.Sm_ HO277.out (fun _ hk => hk.2)), (by (with_reducible repeat (first | apply Kd.Ra_ | apply Kd.Rn_ | apply Kd.Rw_)); exact HO280.out), (by (with_reducible repeat (first | apply Kd.Sa_ | apply Kd.Sn_ | apply Kd.Sw_)); exact Kd.Sm_ HO_262000.out (fun _ hk => hk.2)), (by (with_reducible repeat (first | apply Kd.Ra_ | apply Kd.Rn_ | apply Kd.Rw_)); exact Kd.Rm_ HO_262001.out (fun _ hk => ⟨hk.2, ⟨hk.1.1, hk.1.2⟩⟩)), (by (with_reducible repeat (first | refine Zn ?_ _ | refine Zw ?_ | refine Za ?_ _)); exact BK252.out), (by (with_reducible repeat (first | refine Zn ?_ _ | refine Zw ?_ | refine Za ?_ _)); exact BK261.out), (by repeat (first | (with_reducible first | exact HB.out | apply Ya | apply Yn | apply Yw | refine Ys ?_ GE252.out | refine Ys ?_ GE261.out) | exact HB.out))⟩)
                     ·skip
                      rintro v276 w42 ⟨hS_, h0_, h1_, h2_, h3_, h4_, h5_⟩
                      have n0_ : Az (Kd.S (Kd.slice 3 (Kd.int .i64)) 45 w42 w39.heap.size (fun k_ => some k_ ≠ (u262000 : Value).ownBlock) v276 t275) := ⟨h0_⟩
                      have n1_ : Az (Kd.S (Kd.slice 3 (Kd.int .i64)) 45 w42 w.heap.size (fun k_ => some k_ ≠ (v276 : Value).ownBlock) u262000 x262000_2) := ⟨h1_⟩
                      have n2_ : Az (Kd.R k61 61 w42 w.heap.size (fun k_ => some k_ ≠ (v276 : Value).ownBlock ∧ some k_ ≠ (u262000 : Value).ownBlock) (.slice Ao38 x262001_3.length co38) x262001_3) := ⟨h2_⟩
                      have n3_ : Az (w42.heap[gb252]? = some (.cells #[.slice none 0 0, .slice none 0 0, .int .i64 0] 31 (0, 0))) := ⟨h3_⟩
                      have n4_ : Az (w42.heap[gb261]? = some (.cells #[u262000, .slice Ao38 x262001_3.length co38, .int .i64 0] 31 (0, 0))) := ⟨h4_⟩
                      have n5_ : Az (Below w39.heap.size w39 w42) := ⟨h5_⟩
                      clear HO_262000
                      clear HO_262001
                      clear BK252
                      clear BK261
                      clear HB
                      clear h0_ h1_ h2_ h3_ h4_ h5_
                      have HO277 := n0_
                      have HO_262000 := n1_
                      have HO_262001 := n2_
                      have BK252 := n3_
                      have BK261 := n4_
                      have HB := n5_
                      clear n0_ n1_ n2_ n3_ n4_ n5_
                      have hHeld : w42.cell? ⟨gb261, 0, none⟩ = some (u262000) ∧ w42.cell? ⟨gb261, 1, none⟩ = some (.slice Ao38 x262001_3.length co38) ∧ w42.cell? ⟨gb261, 2, none⟩ = some (.int .i64 0) := hS_
                      refine norm_ (a' := ?_) ?_ ?_
                      rotate_left
                      ·simp only [putAll, Act.put, List.setIfInBounds_toArray, List.set_cons_zero, List.set_cons_succ]
                       rfl
                      refine two_ (i := 2) (j := 11) (Ni := some 44) (Nj := some 53) #[true, true, true, true, true, true, true, true, true, true, true, false, false, false, false, false, false] #[true, true, false, true, true, true, true, true, true, true, true, true, false, false, false, false, false] rfl rfl rfl rfl (two_of HT_.out (by kernel_rfl)) (by decide) (by decide) (fun K hK => ?_) (fun K hK => ?_)
                      ·skip
                       refine Kd.R_make_step k83 _ 83 (by rfl) (N := 44) rfl 58 _ _ rfl 6 rfl rfl Try.underlying58 (.agg #[(.bool false), (.int .i64 0), (.bool false)]) 24 info83 rfl (by decide) (by omega) z83 (ok := fun _ => True) (okp := fun _ => True) (k83_mkM _ _ _ z83 ) (fun _ hk => hk) trivial (by omega) (by omega) (Below.refl _ _) (Nat.le_refl _) ?_
                       intro v269 w43 ho44 hb hg_ hnew_
                       clear hg_ hnew_
                       (first | rw [← Ny268.out] at ho44 | (simp only [Int.reduceToNat] at ho44; rw [← Ny268.out] at ho44))
                       have n0_ := Az.mk (Kd.Sb_ (by (with_reducible repeat (first | apply Kd.Sa_ | apply Kd.Sn_ | apply Kd.Sw_)); exact HO_262000.out) hb)
                       have n1_ := Az.mk (Kd.RE_ (by (with_reducible repeat (first | apply Kd.Ra_ | apply Kd.Rn_ | apply Kd.Rw_)); exact HO_262001.out) (Kd.R_base ho44) hb)
                       have n2_ := Az.mk (Kd.Sb_ (by (with_reducible repeat (first | apply Kd.Sa_ | apply Kd.Sn_ | apply Kd.Sw_)); exact HO277.out) hb)
                       have n3_ := Az.mk (Kd.Rl_ ho44 (Yz (by repeat (first | (with_reducible first | exact HB.out | apply Ya | apply Yn | apply Yw | refine Ys ?_ GE252.out | refine Ys ?_ GE261.out) | exact HB.out))))
                       have n4_ := Az.mk (Zb (g := gb252) (o := .cells #[.slice none 0 0, .slice none 0 0, .int .i64 0] 31 (0, 0)) (by (with_reducible repeat (first | refine Zn ?_ _ | refine Zw ?_ | refine Za ?_ _)); exact BK252.out) hb)
                       have n5_ := Az.mk (Zb (g := gb261) (o := .cells #[u262000, .slice Ao38 x262001_3.length co38, .int .i64 0] 31 (0, 0)) (by (with_reducible repeat (first | refine Zn ?_ _ | refine Zw ?_ | refine Za ?_ _)); exact BK261.out) hb)
                       have n6_ := Az.mk (Yt (by repeat (first | (with_reducible first | exact HB.out | apply Ya | apply Yn | apply Yw | refine Ys ?_ GE252.out | refine Ys ?_ GE261.out) | exact HB.out)) hb)
                       clear HO_262000
                       clear HO_262001
                       clear HO277
                       clear BK252
                       clear BK261
                       clear HB
                       have HO_262000 := n0_
                       have HO_262001 := n1_
                       have HO277 := n2_
                       have HO270 := n3_
                       have BK252 := n4_
                       have BK261 := n5_
                       have HB := n6_
                       clear n0_ n1_ n2_ n3_ n4_ n5_ n6_
                       clear hb ho44
                       refine hK.out _ _ ⟨(Zc BK261.out 0).trans rfl, (Zc BK261.out 1).trans rfl, (Zc BK261.out 2).trans rfl⟩ (fun hHeld => ?_)
                       clear hK K
                       refine norm_ (a' := ?_) ?_ ?_
                       rotate_left
                       ·show Act.put _ (some 44) _ = _
                        simp only [Act.put, List.setIfInBounds_toArray, List.set_cons_zero, List.set_cons_succ, i64_w, i32_w]
                        rfl
                       exact norm_ (by first | (simp only [putAll, Act.put, List.setIfInBounds_toArray, List.set_cons_zero, List.set_cons_succ]; done) | (simp only [putAll, Act.put, List.setIfInBounds_toArray, List.set_cons_zero, List.set_cons_succ]; rfl)) (hJ2_10 (v269, v276) _ ⟨hHeld, (by (with_reducible repeat (first | apply Kd.Ra_ | apply Kd.Rn_ | apply Kd.Rw_)); exact HO270.out), (by (with_reducible repeat (first | apply Kd.Sa_ | apply Kd.Sn_ | apply Kd.Sw_)); exact HO277.out), (by (with_reducible repeat (first | apply Kd.Sa_ | apply Kd.Sn_ | apply Kd.Sw_)); exact HO_262000.out), (by (with_reducible repeat (first | apply Kd.Ra_ | apply Kd.Rn_ | apply Kd.Rw_)); exact Kd.Rm_ HO_262001.out (fun _ hk => ⟨hk.2, ⟨hk.1.1, hk.1.2⟩⟩)), (by (with_reducible repeat (first | refine Zn ?_ _ | refine Zw ?_ | refine Za ?_ _)); exact BK252.out), (by (with_reducible repeat (first | refine Zn ?_ _ | refine Zw ?_ | refine Za ?_ _)); exact BK261.out), (by repeat (first | (with_reducible first | exact HB.out | apply Ya | apply Yn | apply Yw | refine Ys ?_ GE252.out | refine Ys ?_ GE261.out) | exact HB.out))⟩)
                      ·skip
                       refine Kd.R_make_step k86 _ 86 (by rfl) (N := 53) rfl 59 _ _ rfl 6 rfl rfl Try.underlying59 (.agg #[(.bool false), (.int .i64 0), (.int .i64 0), (.bool false)]) 32 info86 rfl (by decide) (by omega) z86 (ok := fun _ => True) (okp := fun _ => True) (k86_mkM _ _ _ z86 ) (fun _ hk => hk) trivial (by omega) (by omega) (Below.refl _ _) (Nat.le_refl _) ?_
                       intro v279 w43 ho44 hb hg_ hnew_
                       clear hg_ hnew_
                       (first | rw [← Ny278.out] at ho44 | (simp only [Int.reduceToNat] at ho44; rw [← Ny278.out] at ho44))
                       have n0_ := Az.mk (Kd.Sb_ (by (with_reducible repeat (first | apply Kd.Sa_ | apply Kd.Sn_ | apply Kd.Sw_)); exact HO_262000.out) hb)
                       have n1_ := Az.mk (Kd.RE_ (by (with_reducible repeat (first | apply Kd.Ra_ | apply Kd.Rn_ | apply Kd.Rw_)); exact HO_262001.out) (Kd.R_base ho44) hb)
                       have n2_ := Az.mk (Kd.Sb_ (by (with_reducible repeat (first | apply Kd.Sa_ | apply Kd.Sn_ | apply Kd.Sw_)); exact HO277.out) hb)
                       have n3_ := Az.mk (Kd.Rl_ ho44 (Yz (by repeat (first | (with_reducible first | exact HB.out | apply Ya | apply Yn | apply Yw | refine Ys ?_ GE252.out | refine Ys ?_ GE261.out) | exact HB.out))))
                       have n4_ := Az.mk (Zb (g := gb252) (o := .cells #[.slice none 0 0, .slice none 0 0, .int .i64 0] 31 (0, 0)) (by (with_reducible repeat (first | refine Zn ?_ _ | refine Zw ?_ | refine Za ?_ _)); exact BK252.out) hb)
                       have n5_ := Az.mk (Zb (g := gb261) (o := .cells #[u262000, .slice Ao38 x262001_3.length co38, .int .i64 0] 31 (0, 0)) (by (with_reducible repeat (first | refine Zn ?_ _ | refine Zw ?_ | refine Za ?_ _)); exact BK261.out) hb)
                       have n6_ := Az.mk (Yt (by repeat (first | (with_reducible first | exact HB.out | apply Ya | apply Yn | apply Yw | refine Ys ?_ GE252.out | refine Ys ?_ GE261.out) | exact HB.out)) hb)
                       clear HO_262000
                       clear HO_262001
                       clear HO277
                       clear BK252
                       clear BK261
                       clear HB
                       have HO_262000 := n0_
                       have HO_262001 := n1_
                       have HO277 := n2_
                       have HO280 := n3_
                       have BK252 := n4_
                       have BK261 := n5_
                       have HB := n6_
                       clear n0_ n1_ n2_ n3_ n4_ n5_ n6_
                       clear hb ho44
                       refine hK.out _ _ ⟨(Zc BK261.out 0).trans rfl, (Zc BK261.out 1).trans rfl, (Zc BK261.out 2).trans rfl⟩ (fun hHeld => ?_)
                       clear hK K
                       refine norm_ (a' := ?_) ?_ ?_
                       rotate_left
                       ·show Act.put _ (some 53) _ = _
                        simp only [Act.put, List.setIfInBounds_toArray, List.set_cons_zero, List.set_cons_succ, i64_w, i32_w]
                        rfl
                       exact norm_ (by first | (simp only [putAll, Act.put, List.setIfInBounds_toArray, List.set_cons_zero, List.set_cons_succ]; done) | (simp only [putAll, Act.put, List.setIfInBounds_toArray, List.set_cons_zero, List.set_cons_succ]; rfl)) (hJ10_11 (v276, v279) _ ⟨hHeld, (by (with_reducible repeat (first | apply Kd.Sa_ | apply Kd.Sn_ | apply Kd.Sw_)); exact HO277.out), (by (with_reducible repeat (first | apply Kd.Ra_ | apply Kd.Rn_ | apply Kd.Rw_)); exact HO280.out), (by (with_reducible repeat (first | apply Kd.Sa_ | apply Kd.Sn_ | apply Kd.Sw_)); exact HO_262000.out), (by (with_reducible repeat (first | apply Kd.Ra_ | apply Kd.Rn_ | apply Kd.Rw_)); exact Kd.Rm_ HO_262001.out (fun _ hk => ⟨hk.1.1, ⟨hk.2, hk.1.2⟩⟩)), (by (with_reducible repeat (first | refine Zn ?_ _ | refine Zw ?_ | refine Za ?_ _)); exact BK252.out), (by (with_reducible repeat (first | refine Zn ?_ _ | refine Zw ?_ | refine Za ?_ _)); exact BK261.out), (by repeat (first | (with_reducible first | exact HB.out | apply Ya | apply Yn | apply Yw | refine Ys ?_ GE252.out | refine Ys ?_ GE261.out) | exact HB.out))⟩)
                    ·skip
                     rintro v269 w43 ⟨hS_, h0_, h1_, h2_, h3_, h4_, h5_⟩
                     have n0_ : Az (Kd.R k83 83 w43 w39.heap.size (fun _ => True) v269 y268) := ⟨h0_⟩
                     have n1_ : Az (Kd.S (Kd.slice 3 (Kd.int .i64)) 45 w43 w.heap.size (fun _ => True) u262000 x262000_2) := ⟨h1_⟩
                     have n2_ : Az (Kd.R k61 61 w43 w.heap.size (fun k_ => some k_ ≠ (v269 : Value).ownBlock ∧ some k_ ≠ (u262000 : Value).ownBlock) (.slice Ao38 x262001_3.length co38) x262001_3) := ⟨h2_⟩
                     have n3_ : Az (w43.heap[gb252]? = some (.cells #[.slice none 0 0, .slice none 0 0, .int .i64 0] 31 (0, 0))) := ⟨h3_⟩
                     have n4_ : Az (w43.heap[gb261]? = some (.cells #[u262000, .slice Ao38 x262001_3.length co38, .int .i64 0] 31 (0, 0))) := ⟨h4_⟩
                     have n5_ : Az (Below w39.heap.size w39 w43) := ⟨h5_⟩
                     clear HO_262000
                     clear HO_262001
                     clear BK252
                     clear BK261
                     clear HB
                     clear h0_ h1_ h2_ h3_ h4_ h5_
                     have HO270 := n0_
                     have HO_262000 := n1_
                     have HO_262001 := n2_
                     have BK252 := n3_
                     have BK261 := n4_
                     have HB := n5_
                     clear n0_ n1_ n2_ n3_ n4_ n5_
                     have hHeld : w43.cell? ⟨gb261, 0, none⟩ = some (u262000) ∧ w43.cell? ⟨gb261, 1, none⟩ = some (.slice Ao38 x262001_3.length co38) ∧ w43.cell? ⟨gb261, 2, none⟩ = some (.int .i64 0) := hS_
                     refine norm_ (a' := ?_) ?_ ?_
                     rotate_left
                     ·simp only [putAll, Act.put, List.setIfInBounds_toArray, List.set_cons_zero, List.set_cons_succ]
                      rfl
                     refine two_ (i := 10) (j := 11) (Ni := some 52) (Nj := some 53) #[true, true, true, true, true, true, true, true, true, true, true, false, false, false, false, false, false] #[true, true, true, true, true, true, true, true, true, true, false, true, false, false, false, false, false] rfl rfl rfl rfl (two_of HT_.out (by kernel_rfl)) (by decide) (by decide) (fun K hK => ?_) (fun K hK => ?_)
                     ·skip
                      refine goes_ Try.func46 (by kernel_rfl) rfl #[.slice A40 y271.length c40] (by rfl) rfl rfl (by (try simp only [List.map_toArray, List.map_cons, List.map_nil]); first | done | rfl | (simp only [List.length_drop, List.length_take]; rfl)) ?_
                      with_reducible refine (impl_cloneMem.calls k3 _ _ y271 t275 _ ?side1 ?side2 A35.out).mono ?_
                      (case side1 => repeat (first | exact (Kd.Cb_ HR274.out HB.out) | exact (Kd.Cb_ HR274.out (Yt HBo.out HB.out)) | exact HR274.out | (with_reducible refine Kd.Ca_ ?_ _) | (with_reducible refine Kd.Cn_ ?_ _) | (with_reducible refine Kd.Cw_ ?_)))
                      (case side2 => exact HC274.out)
                      rintro e w44 ⟨v276, rfl, ho0, hb⟩
                      refine ⟨_, rfl, ?_⟩
                      have n0_ := Az.mk (Kd.S_elder' (by (with_reducible repeat (first | apply Kd.Sa_ | apply Kd.Sn_ | apply Kd.Sw_)); exact HO_262000.out) (Kd.S_base ho0) hb)
                      have n1_ := Az.mk (Kd.RE_ (by (with_reducible repeat (first | apply Kd.Ra_ | apply Kd.Rn_ | apply Kd.Rw_)); exact HO_262001.out) (Kd.S_base ho0) hb)
                      have n2_ := Az.mk (Kd.Rb_ (by (with_reducible repeat (first | apply Kd.Ra_ | apply Kd.Rn_ | apply Kd.Rw_)); exact HO270.out) hb)
                      have n3_ := Az.mk (Kd.Sl_ (Kd.S_new' ho0 (Kd.S_lt (by (with_reducible repeat (first | apply Kd.Sa_ | apply Kd.Sn_ | apply Kd.Sw_)); exact HO_262000.out))) (Yz (by repeat (first | (with_reducible first | exact HB.out | apply Ya | apply Yn | apply Yw | refine Ys ?_ GE252.out | refine Ys ?_ GE261.out) | exact HB.out))))
                      have n4_ := Az.mk (Zb (g := gb252) (o := .cells #[.slice none 0 0, .slice none 0 0, .int .i64 0] 31 (0, 0)) (by (with_reducible repeat (first | refine Zn ?_ _ | refine Zw ?_ | refine Za ?_ _)); exact BK252.out) hb)
                      have n5_ := Az.mk (Zb (g := gb261) (o := .cells #[u262000, .slice Ao38 x262001_3.length co38, .int .i64 0] 31 (0, 0)) (by (with_reducible repeat (first | refine Zn ?_ _ | refine Zw ?_ | refine Za ?_ _)); exact BK261.out) hb)
                      have n6_ := Az.mk (Yt (by repeat (first | (with_reducible first | exact HB.out | apply Ya | apply Yn | apply Yw | refine Ys ?_ GE252.out | refine Ys ?_ GE261.out) | exact HB.out)) hb)
                      clear HO_262000
                      clear HO_262001
                      clear HO270
                      clear BK252
                      clear BK261
                      clear HB
                      have HO_262000 := n0_
                      have HO_262001 := n1_
                      have HO270 := n2_
                      have HO277 := n3_
                      have BK252 := n4_
                      have BK261 := n5_
                      have HB := n6_
                      clear n0_ n1_ n2_ n3_ n4_ n5_ n6_
                      (try clear hb)
                      (try clear hb2)
                      (try clear hk)
                      (try clear hi)
                      (try clear ho0)
                      refine hK.out _ _ ⟨(Zc BK261.out 0).trans rfl, (Zc BK261.out 1).trans rfl, (Zc BK261.out 2).trans rfl⟩ (fun hHeld => ?_)
                      clear hK K
                      refine norm_ (a' := ?_) ?_ ?_
                      rotate_left
                      ·show Act.put _ (some 52) _ = _
                       simp only [Act.put, List.setIfInBounds_toArray, List.set_cons_zero, List.set_cons_succ, i64_w, i32_w]
                       rfl
                      exact norm_ (by first | (simp only [putAll, Act.put, List.setIfInBounds_toArray, List.set_cons_zero, List.set_cons_succ]; done) | (simp only [putAll, Act.put, List.setIfInBounds_toArray, List.set_cons_zero, List.set_cons_succ]; rfl)) (hJ2_10 (v269, v276) _ ⟨hHeld, (by (with_reducible repeat (first | apply Kd.Ra_ | apply Kd.Rn_ | apply Kd.Rw_)); exact HO270.out), (by (with_reducible repeat (first | apply Kd.Sa_ | apply Kd.Sn_ | apply Kd.Sw_)); exact Kd.Sm_ HO277.out (fun _ hk => hk.2)), (by (with_reducible repeat (first | apply Kd.Sa_ | apply Kd.Sn_ | apply Kd.Sw_)); exact Kd.Sm_ HO_262000.out (fun _ hk => hk.2)), (by (with_reducible repeat (first | apply Kd.Ra_ | apply Kd.Rn_ | apply Kd.Rw_)); exact Kd.Rm_ HO_262001.out (fun _ hk => ⟨hk.1.1, ⟨hk.2, hk.1.2⟩⟩)), (by (with_reducible repeat (first | refine Zn ?_ _ | refine Zw ?_ | refine Za ?_ _)); exact BK252.out), (by (with_reducible repeat (first | refine Zn ?_ _ | refine Zw ?_ | refine Za ?_ _)); exact BK261.out), (by repeat (first | (with_reducible first | exact HB.out | apply Ya | apply Yn | apply Yw | refine Ys ?_ GE252.out | refine Ys ?_ GE261.out) | exact HB.out))⟩)
                     ·skip
                      refine Kd.R_make_step k86 _ 86 (by rfl) (N := 53) rfl 59 _ _ rfl 6 rfl rfl Try.underlying59 (.agg #[(.bool false), (.int .i64 0), (.int .i64 0), (.bool false)]) 32 info86 rfl (by decide) (by omega) z86 (ok := fun _ => True) (okp := fun _ => True) (k86_mkM _ _ _ z86 ) (fun _ hk => hk) trivial (by omega) (by omega) (Below.refl _ _) (Nat.le_refl _) ?_
                      intro v279 w44 ho45 hb hg_ hnew_
                      clear hg_ hnew_
                      (first | rw [← Ny278.out] at ho45 | (simp only [Int.reduceToNat] at ho45; rw [← Ny278.out] at ho45))
                      have n0_ := Az.mk (Kd.Sb_ (by (with_reducible repeat (first | apply Kd.Sa_ | apply Kd.Sn_ | apply Kd.Sw_)); exact HO_262000.out) hb)
                      have n1_ := Az.mk (Kd.RE_ (by (with_reducible repeat (first | apply Kd.Ra_ | apply Kd.Rn_ | apply Kd.Rw_)); exact HO_262001.out) (Kd.R_base ho45) hb)
                      have n2_ := Az.mk (Kd.Rb_ (by (with_reducible repeat (first | apply Kd.Ra_ | apply Kd.Rn_ | apply Kd.Rw_)); exact HO270.out) hb)
                      have n3_ := Az.mk (Kd.Rl_ ho45 (Yz (by repeat (first | (with_reducible first | exact HB.out | apply Ya | apply Yn | apply Yw | refine Ys ?_ GE252.out | refine Ys ?_ GE261.out) | exact HB.out))))
                      have n4_ := Az.mk (Zb (g := gb252) (o := .cells #[.slice none 0 0, .slice none 0 0, .int .i64 0] 31 (0, 0)) (by (with_reducible repeat (first | refine Zn ?_ _ | refine Zw ?_ | refine Za ?_ _)); exact BK252.out) hb)
                      have n5_ := Az.mk (Zb (g := gb261) (o := .cells #[u262000, .slice Ao38 x262001_3.length co38, .int .i64 0] 31 (0, 0)) (by (with_reducible repeat (first | refine Zn ?_ _ | refine Zw ?_ | refine Za ?_ _)); exact BK261.out) hb)
                      have n6_ := Az.mk (Yt (by repeat (first | (with_reducible first | exact HB.out | apply Ya | apply Yn | apply Yw | refine Ys ?_ GE252.out | refine Ys ?_ GE261.out) | exact HB.out)) hb)
                      clear HO_262000
                      clear HO_262001
                      clear HO270
                      clear BK252
                      clear BK261
                      clear HB
                      have HO_262000 := n0_
                      have HO_262001 := n1_
                      have HO270 := n2_
                      have HO280 := n3_
                      have BK252 := n4_
                      have BK261 := n5_
                      have HB := n6_
                      clear n0_ n1_ n2_ n3_ n4_ n5_ n6_
                      clear hb ho45
                      refine hK.out _ _ ⟨(Zc BK261.out 0).trans rfl, (Zc BK261.out 1).trans rfl, (Zc BK261.out 2).trans rfl⟩ (fun hHeld => ?_)
                      clear hK K
                      refine norm_ (a' := ?_) ?_ ?_
                      rotate_left
                      ·show Act.put _ (some 53) _ = _
                       simp only [Act.put, List.setIfInBounds_toArray, List.set_cons_zero, List.set_cons_succ, i64_w, i32_w]
                       rfl
                      exact norm_ (by first | (simp only [putAll, Act.put, List.setIfInBounds_toArray, List.set_cons_zero, List.set_cons_succ]; done) | (simp only [putAll, Act.put, List.setIfInBounds_toArray, List.set_cons_zero, List.set_cons_succ]; rfl)) (hJ2_11 (v269, v279) _ ⟨hHeld, (by (with_reducible repeat (first | apply Kd.Ra_ | apply Kd.Rn_ | apply Kd.Rw_)); exact HO270.out), (by (with_reducible repeat (first | apply Kd.Ra_ | apply Kd.Rn_ | apply Kd.Rw_)); exact HO280.out), (by (with_reducible repeat (first | apply Kd.Sa_ | apply Kd.Sn_ | apply Kd.Sw_)); exact HO_262000.out), (by (with_reducible repeat (first | apply Kd.Ra_ | apply Kd.Rn_ | apply Kd.Rw_)); exact Kd.Rm_ HO_262001.out (fun _ hk => ⟨hk.1.1, ⟨hk.2, hk.1.2⟩⟩)), (by (with_reducible repeat (first | refine Zn ?_ _ | refine Zw ?_ | refine Za ?_ _)); exact BK252.out), (by (with_reducible repeat (first | refine Zn ?_ _ | refine Zw ?_ | refine Za ?_ _)); exact BK261.out), (by repeat (first | (with_reducible first | exact HB.out | apply Ya | apply Yn | apply Yw | refine Ys ?_ GE252.out | refine Ys ?_ GE261.out) | exact HB.out))⟩)
                   ·skip
                    rintro ⟨v276, v279⟩ w44 ⟨hS_, h0_, h1_, h2_, h3_, h4_, h5_, h6_⟩
                    have n0_ : Az (Kd.S (Kd.slice 3 (Kd.int .i64)) 45 w44 w39.heap.size (fun k_ => some k_ ≠ (u262000 : Value).ownBlock) v276 t275) := ⟨h0_⟩
                    have n1_ : Az (Kd.R k86 86 w44 w39.heap.size (fun _ => True) v279 y278) := ⟨h1_⟩
                    have n2_ : Az (Kd.S (Kd.slice 3 (Kd.int .i64)) 45 w44 w.heap.size (fun k_ => some k_ ≠ (v276 : Value).ownBlock) u262000 x262000_2) := ⟨h2_⟩
                    have n3_ : Az (Kd.R k61 61 w44 w.heap.size (fun k_ => some k_ ≠ (v276 : Value).ownBlock ∧ some k_ ≠ (v279 : Value).ownBlock ∧ some k_ ≠ (u262000 : Value).ownBlock) (.slice Ao38 x262001_3.length co38) x262001_3) := ⟨h3_⟩
                    have n4_ : Az (w44.heap[gb252]? = some (.cells #[.slice none 0 0, .slice none 0 0, .int .i64 0] 31 (0, 0))) := ⟨h4_⟩
                    have n5_ : Az (w44.heap[gb261]? = some (.cells #[u262000, .slice Ao38 x262001_3.length co38, .int .i64 0] 31 (0, 0))) := ⟨h5_⟩
                    have n6_ : Az (Below w39.heap.size w39 w44) := ⟨h6_⟩
                    clear HO_262000
                    clear HO_262001
                    clear BK252
                    clear BK261
                    clear HB
                    clear h0_ h1_ h2_ h3_ h4_ h5_ h6_
                    have HO277 := n0_
                    have HO280 := n1_
                    have HO_262000 := n2_
                    have HO_262001 := n3_
                    have BK252 := n4_
                    have BK261 := n5_
                    have HB := n6_
                    clear n0_ n1_ n2_ n3_ n4_ n5_ n6_
                    have hHeld : w44.cell? ⟨gb261, 0, none⟩ = some (u262000) ∧ w44.cell? ⟨gb261, 1, none⟩ = some (.slice Ao38 x262001_3.length co38) ∧ w44.cell? ⟨gb261, 2, none⟩ = some (.int .i64 0) := hS_
                    refine norm_ (a' := ?_) ?_ ?_
                    rotate_left
                    ·simp only [putAll, Act.put, List.setIfInBounds_toArray, List.set_cons_zero, List.set_cons_succ]
                     rfl
                    refine one_ (i := 2) (N := some 44) #[true, true, true, true, true, true, true, true, true, true, true, true, false, false, false, false, false] rfl rfl (one_of HT_.out (by kernel_rfl)) (by decide) (fun K hK => ?_)
                    refine Kd.R_make_step k83 _ 83 (by rfl) (N := 44) rfl 58 _ _ rfl 6 rfl rfl Try.underlying58 (.agg #[(.bool false), (.int .i64 0), (.bool false)]) 24 info83 rfl (by decide) (by omega) z83 (ok := fun _ => True) (okp := fun _ => True) (k83_mkM _ _ _ z83 ) (fun _ hk => hk) trivial (by omega) (by omega) (Below.refl _ _) (Nat.le_refl _) ?_
                    intro v269 w45 ho46 hb hg_ hnew_
                    clear hg_ hnew_
                    (first | rw [← Ny268.out] at ho46 | (simp only [Int.reduceToNat] at ho46; rw [← Ny268.out] at ho46))
                    have n0_ := Az.mk (Kd.Sb_ (by (with_reducible repeat (first | apply Kd.Sa_ | apply Kd.Sn_ | apply Kd.Sw_)); exact HO_262000.out) hb)
                    have n1_ := Az.mk (Kd.RE_ (by (with_reducible repeat (first | apply Kd.Ra_ | apply Kd.Rn_ | apply Kd.Rw_)); exact HO_262001.out) (Kd.R_base ho46) hb)
                    have n2_ := Az.mk (Kd.Sb_ (by (with_reducible repeat (first | apply Kd.Sa_ | apply Kd.Sn_ | apply Kd.Sw_)); exact HO277.out) hb)
                    have n3_ := Az.mk (Kd.Rb_ (by (with_reducible repeat (first | apply Kd.Ra_ | apply Kd.Rn_ | apply Kd.Rw_)); exact HO280.out) hb)
                    have n4_ := Az.mk (Kd.Rl_ ho46 (Yz (by repeat (first | (with_reducible first | exact HB.out | apply Ya | apply Yn | apply Yw | refine Ys ?_ GE252.out | refine Ys ?_ GE261.out) | exact HB.out))))
                    have n5_ := Az.mk (Zb (g := gb252) (o := .cells #[.slice none 0 0, .slice none 0 0, .int .i64 0] 31 (0, 0)) (by (with_reducible repeat (first | refine Zn ?_ _ | refine Zw ?_ | refine Za ?_ _)); exact BK252.out) hb)
                    have n6_ := Az.mk (Zb (g := gb261) (o := .cells #[u262000, .slice Ao38 x262001_3.length co38, .int .i64 0] 31 (0, 0)) (by (with_reducible repeat (first | refine Zn ?_ _ | refine Zw ?_ | refine Za ?_ _)); exact BK261.out) hb)
                    have n7_ := Az.mk (Yt (by repeat (first | (with_reducible first | exact HB.out | apply Ya | apply Yn | apply Yw | refine Ys ?_ GE252.out | refine Ys ?_ GE261.out) | exact HB.out)) hb)
                    clear HO_262000
                    clear HO_262001
                    clear HO277
                    clear HO280
                    clear BK252
                    clear BK261
                    clear HB
                    have HO_262000 := n0_
                    have HO_262001 := n1_
                    have HO277 := n2_
                    have HO280 := n3_
                    have HO270 := n4_
                    have BK252 := n5_
                    have BK261 := n6_
                    have HB := n7_
                    clear n0_ n1_ n2_ n3_ n4_ n5_ n6_ n7_
                    clear hb ho46
                    obtain ⟨Ao47, co47, eo47⟩ := Kd.Rs_ HO280.out
                    (first | subst eo47 | (injection eo47 with f1_ f2_ f3_; have f4_ := f1_.symm; have f5_ := f3_.symm; clear f1_ f2_ f3_; subst f4_; subst f5_))
                    obtain ⟨Ao48, co48, eo48⟩ := Kd.Ss_ HO277.out
                    (first | subst eo48 | (injection eo48 with f1_ f2_ f3_; have f4_ := f1_.symm; have f5_ := f3_.symm; clear f1_ f2_ f3_; subst f4_; subst f5_))
                    obtain ⟨Ao49, co49, eo49⟩ := Kd.Rs_ HO270.out
                    (first | subst eo49 | (injection eo49 with f1_ f2_ f3_; have f4_ := f1_.symm; have f5_ := f3_.symm; clear f1_ f2_ f3_; subst f4_; subst f5_))
                    refine hK.out _ _ ⟨(Zc BK261.out 0).trans rfl, (Zc BK261.out 1).trans rfl, (Zc BK261.out 2).trans rfl⟩ (fun hHeld => ?_)
                    clear hK K
                    refine norm_ (a' := ?_) ?_ ?_
                    rotate_left
                    ·show Act.put _ (some 44) _ = _
                     simp only [Act.put, List.setIfInBounds_toArray, List.set_cons_zero, List.set_cons_succ, i64_w, i32_w]
                     rfl
                    exact norm_ (by first | (simp only [putAll, Act.put, List.setIfInBounds_toArray, List.set_cons_zero, List.set_cons_succ]; done) | (simp only [putAll, Act.put, List.setIfInBounds_toArray, List.set_cons_zero, List.set_cons_succ]; rfl)) (hJ2_10_11 (.slice Ao49 y268.length co49, .slice Ao48 t275.length co48, .slice Ao47 y278.length co47) _ ⟨hHeld, (by (with_reducible repeat (first | apply Kd.Ra_ | apply Kd.Rn_ | apply Kd.Rw_)); exact HO270.out), (by (with_reducible repeat (first | apply Kd.Sa_ | apply Kd.Sn_ | apply Kd.Sw_)); exact HO277.out), (by (with_reducible repeat (first | apply Kd.Ra_ | apply Kd.Rn_ | apply Kd.Rw_)); exact HO280.out), (by (with_reducible repeat (first | apply Kd.Sa_ | apply Kd.Sn_ | apply Kd.Sw_)); exact HO_262000.out), (by (with_reducible repeat (first | apply Kd.Ra_ | apply Kd.Rn_ | apply Kd.Rw_)); exact Kd.Rm_ HO_262001.out (fun _ hk => ⟨hk.2, ⟨hk.1.1, ⟨hk.1.2.1, hk.1.2.2⟩⟩⟩)), (by (with_reducible repeat (first | refine Zn ?_ _ | refine Zw ?_ | refine Za ?_ _)); exact BK252.out), (by (with_reducible repeat (first | refine Zn ?_ _ | refine Zw ?_ | refine Za ?_ _)); exact BK261.out), (by repeat (first | (with_reducible first | exact HB.out | apply Ya | apply Yn | apply Yw | refine Ys ?_ GE252.out | refine Ys ?_ GE261.out) | exact HB.out))⟩)
                  ·skip
                   rintro ⟨v269, v279⟩ w45 ⟨hS_, h0_, h1_, h2_, h3_, h4_, h5_, h6_⟩
                   have n0_ : Az (Kd.R k83 83 w45 w39.heap.size (fun _ => True) v269 y268) := ⟨h0_⟩
                   have n1_ : Az (Kd.R k86 86 w45 w39.heap.size (fun _ => True) v279 y278) := ⟨h1_⟩
                   have n2_ : Az (Kd.S (Kd.slice 3 (Kd.int .i64)) 45 w45 w.heap.size (fun _ => True) u262000 x262000_2) := ⟨h2_⟩
                   have n3_ : Az (Kd.R k61 61 w45 w.heap.size (fun k_ => some k_ ≠ (v269 : Value).ownBlock ∧ some k_ ≠ (v279 : Value).ownBlock ∧ some k_ ≠ (u262000 : Value).ownBlock) (.slice Ao38 x262001_3.length co38) x262001_3) := ⟨h3_⟩
                   have n4_ : Az (w45.heap[gb252]? = some (.cells #[.slice none 0 0, .slice none 0 0, .int .i64 0] 31 (0, 0))) := ⟨h4_⟩
                   have n5_ : Az (w45.heap[gb261]? = some (.cells #[u262000, .slice Ao38 x262001_3.length co38, .int .i64 0] 31 (0, 0))) := ⟨h5_⟩
                   have n6_ : Az (Below w39.heap.size w39 w45) := ⟨h6_⟩
                   clear HO_262000
                   clear HO_262001
                   clear BK252
                   clear BK261
                   clear HB
                   clear h0_ h1_ h2_ h3_ h4_ h5_ h6_
                   have HO270 := n0_
                   have HO280 := n1_
                   have HO_262000 := n2_
                   have HO_262001 := n3_
                   have BK252 := n4_
                   have BK261 := n5_
                   have HB := n6_
                   clear n0_ n1_ n2_ n3_ n4_ n5_ n6_
                   have hHeld : w45.cell? ⟨gb261, 0, none⟩ = some (u262000) ∧ w45.cell? ⟨gb261, 1, none⟩ = some (.slice Ao38 x262001_3.length co38) ∧ w45.cell? ⟨gb261, 2, none⟩ = some (.int .i64 0) := hS_
                   refine norm_ (a' := ?_) ?_ ?_
                   rotate_left
                   ·simp only [putAll, Act.put, List.setIfInBounds_toArray, List.set_cons_zero, List.set_cons_succ]
                    rfl
                   refine one_ (i := 10) (N := some 52) #[true, true, true, true, true, true, true, true, true, true, true, true, false, false, false, false, false] rfl rfl (one_of HT_.out (by kernel_rfl)) (by decide) (fun K hK => ?_)
                   refine goes_ Try.func46 (by kernel_rfl) rfl #[.slice A40 y271.length c40] (by rfl) rfl rfl (by (try simp only [List.map_toArray, List.map_cons, List.map_nil]); first | done | rfl | (simp only [List.length_drop, List.length_take]; rfl)) ?_
                   with_reducible refine (impl_cloneMem.calls k3 _ _ y271 t275 _ ?side1 ?side2 A35.out).mono ?_
                   (case side1 => repeat (first | exact (Kd.Cb_ HR274.out HB.out) | exact (Kd.Cb_ HR274.out (Yt HBo.out HB.out)) | exact HR274.out | (with_reducible refine Kd.Ca_ ?_ _) | (with_reducible refine Kd.Cn_ ?_ _) | (with_reducible refine Kd.Cw_ ?_)))
                   (case side2 => exact HC274.out)
                   rintro e w46 ⟨v276, rfl, ho0, hb⟩
                   refine ⟨_, rfl, ?_⟩
                   have n0_ := Az.mk (Kd.S_elder' (by (with_reducible repeat (first | apply Kd.Sa_ | apply Kd.Sn_ | apply Kd.Sw_)); exact HO_262000.out) (Kd.S_base ho0) hb)
                   have n1_ := Az.mk (Kd.RE_ (by (with_reducible repeat (first | apply Kd.Ra_ | apply Kd.Rn_ | apply Kd.Rw_)); exact HO_262001.out) (Kd.S_base ho0) hb)
                   have n2_ := Az.mk (Kd.Rb_ (by (with_reducible repeat (first | apply Kd.Ra_ | apply Kd.Rn_ | apply Kd.Rw_)); exact HO270.out) hb)
                   have n3_ := Az.mk (Kd.Rb_ (by (with_reducible repeat (first | apply Kd.Ra_ | apply Kd.Rn_ | apply Kd.Rw_)); exact HO280.out) hb)
                   have n4_ := Az.mk (Kd.Sl_ (Kd.S_new' ho0 (Kd.S_lt (by (with_reducible repeat (first | apply Kd.Sa_ | apply Kd.Sn_ | apply Kd.Sw_)); exact HO_262000.out))) (Yz (by repeat (first | (with_reducible first | exact HB.out | apply Ya | apply Yn | apply Yw | refine Ys ?_ GE252.out | refine Ys ?_ GE261.out) | exact HB.out))))
                   have n5_ := Az.mk (Zb (g := gb252) (o := .cells #[.slice none 0 0, .slice none 0 0, .int .i64 0] 31 (0, 0)) (by (with_reducible repeat (first | refine Zn ?_ _ | refine Zw ?_ | refine Za ?_ _)); exact BK252.out) hb)
                   have n6_ := Az.mk (Zb (g := gb261) (o := .cells #[u262000, .slice Ao38 x262001_3.length co38, .int .i64 0] 31 (0, 0)) (by (with_reducible repeat (first | refine Zn ?_ _ | refine Zw ?_ | refine Za ?_ _)); exact BK261.out) hb)
                   have n7_ := Az.mk (Yt (by repeat (first | (with_reducible first | exact HB.out | apply Ya | apply Yn | apply Yw | refine Ys ?_ GE252.out | refine Ys ?_ GE261.out) | exact HB.out)) hb)
                   clear HO_262000
                   clear HO_262001
                   clear HO270
                   clear HO280
                   clear BK252
                   clear BK261
                   clear HB
                   have HO_262000 := n0_
                   have HO_262001 := n1_
                   have HO270 := n2_
                   have HO280 := n3_
                   have HO277 := n4_
                   have BK252 := n5_
                   have BK261 := n6_
                   have HB := n7_
                   clear n0_ n1_ n2_ n3_ n4_ n5_ n6_ n7_
                   (try clear hb)
                   (try clear hb2)
                   (try clear hk)
                   (try clear hi)
                   (try clear ho0)
                   obtain ⟨Ao47, co47, eo47⟩ := Kd.Rs_ HO280.out
                   (first | subst eo47 | (injection eo47 with f1_ f2_ f3_; have f4_ := f1_.symm; have f5_ := f3_.symm; clear f1_ f2_ f3_; subst f4_; subst f5_))
                   obtain ⟨Ao48, co48, eo48⟩ := Kd.Ss_ HO277.out
                   (first | subst eo48 | (injection eo48 with f1_ f2_ f3_; have f4_ := f1_.symm; have f5_ := f3_.symm; clear f1_ f2_ f3_; subst f4_; subst f5_))
                   obtain ⟨Ao49, co49, eo49⟩ := Kd.Rs_ HO270.out
                   (first | subst eo49 | (injection eo49 with f1_ f2_ f3_; have f4_ := f1_.symm; have f5_ := f3_.symm; clear f1_ f2_ f3_; subst f4_; subst f5_))
                   refine hK.out _ _ ⟨(Zc BK261.out 0).trans rfl, (Zc BK261.out 1).trans rfl, (Zc BK261.out 2).trans rfl⟩ (fun hHeld => ?_)
                   clear hK K
                   refine norm_ (a' := ?_) ?_ ?_
                   rotate_left
                   ·show Act.put _ (some 52) _ = _
                    simp only [Act.put, List.setIfInBounds_toArray, List.set_cons_zero, List.set_cons_succ, i64_w, i32_w]
                    rfl
                   exact norm_ (by first | (simp only [putAll, Act.put, List.setIfInBounds_toArray, List.set_cons_zero, List.set_cons_succ]; done) | (simp only [putAll, Act.put, List.setIfInBounds_toArray, List.set_cons_zero, List.set_cons_succ]; rfl)) (hJ2_10_11 (.slice Ao49 y268.length co49, .slice Ao48 t275.length co48, .slice Ao47 y278.length co47) _ ⟨hHeld, (by (with_reducible repeat (first | apply Kd.Ra_ | apply Kd.Rn_ | apply Kd.Rw_)); exact HO270.out), (by (with_reducible repeat (first | apply Kd.Sa_ | apply Kd.Sn_ | apply Kd.Sw_)); exact Kd.Sm_ HO277.out (fun _ hk => hk.2)), (by (with_reducible repeat (first | apply Kd.Ra_ | apply Kd.Rn_ | apply Kd.Rw_)); exact HO280.out), (by (with_reducible repeat (first | apply Kd.Sa_ | apply Kd.Sn_ | apply Kd.Sw_)); exact Kd.Sm_ HO_262000.out (fun _ hk => hk.2)), (by (with_reducible repeat (first | apply Kd.Ra_ | apply Kd.Rn_ | apply Kd.Rw_)); exact Kd.Rm_ HO_262001.out (fun _ hk => ⟨hk.1.1, ⟨hk.2, ⟨hk.1.2.1, hk.1.2.2⟩⟩⟩)), (by (with_reducible repeat (first | refine Zn ?_ _ | refine Zw ?_ | refine Za ?_ _)); exact BK252.out), (by (with_reducible repeat (first | refine Zn ?_ _ | refine Zw ?_ | refine Za ?_ _)); exact BK261.out), (by repeat (first | (with_reducible first | exact HB.out | apply Ya | apply Yn | apply Yw | refine Ys ?_ GE252.out | refine Ys ?_ GE261.out) | exact HB.out))⟩)
                 ·skip
                  rintro ⟨v269, v276⟩ w44 ⟨hS_, h0_, h1_, h2_, h3_, h4_, h5_, h6_⟩
                  have n0_ : Az (Kd.R k83 83 w44 w39.heap.size (fun _ => True) v269 y268) := ⟨h0_⟩
                  have n1_ : Az (Kd.S (Kd.slice 3 (Kd.int .i64)) 45 w44 w39.heap.size (fun k_ => some k_ ≠ (u262000 : Value).ownBlock) v276 t275) := ⟨h1_⟩
                  have n2_ : Az (Kd.S (Kd.slice 3 (Kd.int .i64)) 45 w44 w.heap.size (fun k_ => some k_ ≠ (v276 : Value).ownBlock) u262000 x262000_2) := ⟨h2_⟩
                  have n3_ : Az (Kd.R k61 61 w44 w.heap.size (fun k_ => some k_ ≠ (v269 : Value).ownBlock ∧ some k_ ≠ (v276 : Value).ownBlock ∧ some k_ ≠ (u262000 : Value).ownBlock) (.slice Ao38 x262001_3.length co38) x262001_3) := ⟨h3_⟩
                  have n4_ : Az (w44.heap[gb252]? = some (.cells #[.slice none 0 0, .slice none 0 0, .int .i64 0] 31 (0, 0))) := ⟨h4_⟩
                  have n5_ : Az (w44.heap[gb261]? = some (.cells #[u262000, .slice Ao38 x262001_3.length co38, .int .i64 0] 31 (0, 0))) := ⟨h5_⟩
                  have n6_ : Az (Below w39.heap.size w39 w44) := ⟨h6_⟩
                  clear HO_262000
                  clear HO_262001
                  clear BK252
                  clear BK261
                  clear HB
                  clear h0_ h1_ h2_ h3_ h4_ h5_ h6_
                  have HO270 := n0_
                  have HO277 := n1_
                  have HO_262000 := n2_
                  have HO_262001 := n3_
                  have BK252 := n4_
                  have BK261 := n5_
                  have HB := n6_
                  clear n0_ n1_ n2_ n3_ n4_ n5_ n6_
                  have hHeld : w44.cell? ⟨gb261, 0, none⟩ = some (u262000) ∧ w44.cell? ⟨gb261, 1, none⟩ = some (.slice Ao38 x262001_3.length co38) ∧ w44.cell? ⟨gb261, 2, none⟩ = some (.int .i64 0) := hS_
                  refine norm_ (a' := ?_) ?_ ?_
                  rotate_left
                  ·simp only [putAll, Act.put, List.setIfInBounds_toArray, List.set_cons_zero, List.set_cons_succ]
                   rfl
                  refine one_ (i := 11) (N := some 53) #[true, true, true, true, true, true, true, true, true, true, true, true, false, false, false, false, false] rfl rfl (one_of HT_.out (by kernel_rfl)) (by decide) (fun K hK => ?_)
                  refine Kd.R_make_step k86 _ 86 (by rfl) (N := 53) rfl 59 _ _ rfl 6 rfl rfl Try.underlying59 (.agg #[(.bool false), (.int .i64 0), (.int .i64 0), (.bool false)]) 32 info86 rfl (by decide) (by omega) z86 (ok := fun _ => True) (okp := fun _ => True) (k86_mkM _ _ _ z86 ) (fun _ hk => hk) trivial (by omega) (by omega) (Below.refl _ _) (Nat.le_refl _) ?_
                  intro v279 w45 ho46 hb hg_ hnew_
                  clear hg_ hnew_
                  (first | rw [← Ny278.out] at ho46 | (simp only [Int.reduceToNat] at ho46; rw [← Ny278.out] at ho46))
                  have n0_ := Az.mk (Kd.Sb_ (by (with_reducible repeat (first | apply Kd.Sa_ | apply Kd.Sn_ | apply Kd.Sw_)); exact HO_262000.out) hb)
                  have n1_ := Az.mk (Kd.RE_ (by (with_reducible repeat (first | apply Kd.Ra_ | apply Kd.Rn_ | apply Kd.Rw_)); exact HO_262001.out) (Kd.R_base ho46) hb)
                  have n2_ := Az.mk (Kd.Rb_ (by (with_reducible repeat (first | apply Kd.Ra_ | apply Kd.Rn_ | apply Kd.Rw_)); exact HO270.out) hb)
                  have n3_ := Az.mk (Kd.Sb_ (by (with_reducible repeat (first | apply Kd.Sa_ | apply Kd.Sn_ | apply Kd.Sw_)); exact HO277.out) hb)
                  have n4_ := Az.mk (Kd.Rl_ ho46 (Yz (by repeat (first | (with_reducible first | exact HB.out | apply Ya | apply Yn | apply Yw | refine Ys ?_ GE252.out | refine Ys ?_ GE261.out) | exact HB.out))))
                  have n5_ := Az.mk (Zb (g := gb252) (o := .cells #[.slice none 0 0, .slice none 0 0, .int .i64 0] 31 (0, 0)) (by (with_reducible repeat (first | refine Zn ?_ _ | refine Zw ?_ | refine Za ?_ _)); exact BK252.out) hb)
                  have n6_ := Az.mk (Zb (g := gb261) (o := .cells #[u262000, .slice Ao38 x262001_3.length co38, .int .i64 0] 31 (0, 0)) (by (with_reducible repeat (first | refine Zn ?_ _ | refine Zw ?_ | refine Za ?_ _)); exact BK261.out) hb)
                  have n7_ := Az.mk (Yt (by repeat (first | (with_reducible first | exact HB.out | apply Ya | apply Yn | apply Yw | refine Ys ?_ GE252.out | refine Ys ?_ GE261.out) | exact HB.out)) hb)
                  clear HO_262000
                  clear HO_262001
                  clear HO270
                  clear HO277
                  clear BK252
                  clear BK261
                  clear HB
                  have HO_262000 := n0_
                  have HO_262001 := n1_
                  have HO270 := n2_
                  have HO277 := n3_
                  have HO280 := n4_
                  have BK252 := n5_
                  have BK261 := n6_
                  have HB := n7_
                  clear n0_ n1_ n2_ n3_ n4_ n5_ n6_ n7_
                  clear hb ho46
                  obtain ⟨Ao47, co47, eo47⟩ := Kd.Rs_ HO280.out
                  (first | subst eo47 | (injection eo47 with f1_ f2_ f3_; have f4_ := f1_.symm; have f5_ := f3_.symm; clear f1_ f2_ f3_; subst f4_; subst f5_))
                  obtain ⟨Ao48, co48, eo48⟩ := Kd.Ss_ HO277.out
                  (first | subst eo48 | (injection eo48 with f1_ f2_ f3_; have f4_ := f1_.symm; have f5_ := f3_.symm; clear f1_ f2_ f3_; subst f4_; subst f5_))
                  obtain ⟨Ao49, co49, eo49⟩ := Kd.Rs_ HO270.out
                  (first | subst eo49 | (injection eo49 with f1_ f2_ f3_; have f4_ := f1_.symm; have f5_ := f3_.symm; clear f1_ f2_ f3_; subst f4_; subst f5_))
                  refine hK.out _ _ ⟨(Zc BK261.out 0).trans rfl, (Zc BK261.out 1).trans rfl, (Zc BK261.out 2).trans rfl⟩ (fun hHeld => ?_)
                  clear hK K
                  refine norm_ (a' := ?_) ?_ ?_
                  rotate_left
                  ·show Act.put _ (some 53) _ = _
                   simp only [Act.put, List.setIfInBounds_toArray, List.set_cons_zero, List.set_cons_succ, i64_w, i32_w]
                   rfl
                  exact norm_ (by first | (simp only [putAll, Act.put, List.setIfInBounds_toArray, List.set_cons_zero, List.set_cons_succ]; done) | (simp only [putAll, Act.put, List.setIfInBounds_toArray, List.set_cons_zero, List.set_cons_succ]; rfl)) (hJ2_10_11 (.slice Ao49 y268.length co49, .slice Ao48 t275.length co48, .slice Ao47 y278.length co47) _ ⟨hHeld, (by (with_reducible repeat (first | apply Kd.Ra_ | apply Kd.Rn_ | apply Kd.Rw_)); exact HO270.out), (by (with_reducible repeat (first | apply Kd.Sa_ | apply Kd.Sn_ | apply Kd.Sw_)); exact HO277.out), (by (with_reducible repeat (first | apply Kd.Ra_ | apply Kd.Rn_ | apply Kd.Rw_)); exact HO280.out), (by (with_reducible repeat (first | apply Kd.Sa_ | apply Kd.Sn_ | apply Kd.Sw_)); exact HO_262000.out), (by (with_reducible repeat (first | apply Kd.Ra_ | apply Kd.Rn_ | apply Kd.Rw_)); exact Kd.Rm_ HO_262001.out (fun _ hk => ⟨hk.1.1, ⟨hk.1.2.1, ⟨hk.2, hk.1.2.2⟩⟩⟩)), (by (with_reducible repeat (first | refine Zn ?_ _ | refine Zw ?_ | refine Za ?_ _)); exact BK252.out), (by (with_reducible repeat (first | refine Zn ?_ _ | refine Zw ?_ | refine Za ?_ _)); exact BK261.out), (by repeat (first | (with_reducible first | exact HB.out | apply Ya | apply Yn | apply Yw | refine Ys ?_ GE252.out | refine Ys ?_ GE261.out) | exact HB.out))⟩)
                rintro ⟨v269, v276, v279⟩ w49 ⟨hS_, h0_, h1_, h2_, h3_, h4_, h5_, h6_, h7_⟩
                have n0_ : Az (Kd.R k83 83 w49 w39.heap.size (fun _ => True) v269 y268) := ⟨h0_⟩
                have n1_ : Az (Kd.S (Kd.slice 3 (Kd.int .i64)) 45 w49 w39.heap.size (fun k_ => some k_ ≠ (u262000 : Value).ownBlock) v276 t275) := ⟨h1_⟩
                have n2_ : Az (Kd.R k86 86 w49 w39.heap.size (fun _ => True) v279 y278) := ⟨h2_⟩
                have n3_ : Az (Kd.S (Kd.slice 3 (Kd.int .i64)) 45 w49 w.heap.size (fun k_ => some k_ ≠ (v276 : Value).ownBlock) u262000 x262000_2) := ⟨h3_⟩
                have n4_ : Az (Kd.R k61 61 w49 w.heap.size (fun k_ => some k_ ≠ (v269 : Value).ownBlock ∧ some k_ ≠ (v276 : Value).ownBlock ∧ some k_ ≠ (v279 : Value).ownBlock ∧ some k_ ≠ (u262000 : Value).ownBlock) (.slice Ao38 x262001_3.length co38) x262001_3) := ⟨h4_⟩
                have n5_ : Az (w49.heap[gb252]? = some (.cells #[.slice none 0 0, .slice none 0 0, .int .i64 0] 31 (0, 0))) := ⟨h5_⟩
                have n6_ : Az (w49.heap[gb261]? = some (.cells #[u262000, .slice Ao38 x262001_3.length co38, .int .i64 0] 31 (0, 0))) := ⟨h6_⟩
                have n7_ : Az (Below w39.heap.size w39 w49) := ⟨h7_⟩
                clear HO_262000
                clear HO_262001
                clear BK252
                clear BK261
                clear HB
                clear h0_ h1_ h2_ h3_ h4_ h5_ h6_ h7_
                have HO270 := n0_
                have HO277 := n1_
                have HO280 := n2_
                have HO_262000 := n3_
                have HO_262001 := n4_
                have BK252 := n5_
                have BK261 := n6_
                have HB := n7_
                clear n0_ n1_ n2_ n3_ n4_ n5_ n6_ n7_
                have hHeld : w49.cell? ⟨gb261, 0, none⟩ = some (u262000) ∧ w49.cell? ⟨gb261, 1, none⟩ = some (.slice Ao38 x262001_3.length co38) ∧ w49.cell? ⟨gb261, 2, none⟩ = some (.int .i64 0) := hS_
                obtain ⟨Ao50, co50, eo50⟩ := Kd.Rs_ HO280.out
                (first | subst eo50 | (injection eo50 with f1_ f2_ f3_; have f4_ := f1_.symm; have f5_ := f3_.symm; clear f1_ f2_ f3_; subst f4_; subst f5_))
                obtain ⟨Ao51, co51, eo51⟩ := Kd.Ss_ HO277.out
                (first | subst eo51 | (injection eo51 with f1_ f2_ f3_; have f4_ := f1_.symm; have f5_ := f3_.symm; clear f1_ f2_ f3_; subst f4_; subst f5_))
                obtain ⟨Ao52, co52, eo52⟩ := Kd.Rs_ HO270.out
                (first | subst eo52 | (injection eo52 with f1_ f2_ f3_; have f4_ := f1_.symm; have f5_ := f3_.symm; clear f1_ f2_ f3_; subst f4_; subst f5_))
                refine norm_ (a' := ?_) ?_ ?_
                rotate_left
                ·simp only [putAll, Act.put, List.setIfInBounds_toArray, List.set_cons_zero, List.set_cons_succ]
                 rfl
                refine pure_ (i := 12) (N := some 54) (v := ?_) (a' := ?_) #[true, true, true, true, true, true, true, true, true, true, true, true, true, false, false, false, false] rfl rfl (any_of HT_.out (by kernel_rfl)) (fun _ _ _ h => h) (Or.inl ⟨by rfl, ?_⟩) ?_ ?_
                rotate_left
                ·intro w'
                 go_simp
                 with_reducible rfl
                rotate_left
                ·simp only [Act.put, List.setIfInBounds_toArray, List.set_cons_zero, List.set_cons_succ, i64_w, i32_w]
                 rfl
                refine one_ (i := 13) (N := some 55) #[true, true, true, true, true, true, true, true, true, true, true, true, true, true, false, false, false] rfl rfl (one_of HT_.out (by kernel_rfl)) (by decide) (fun K hK => ?_)
                refine value_ (w1 := ?_) (v := ?_) (by rfl) rfl ?_ ?_
                rotate_left 2
                ·go_simp
                 constructor
                 ·rfl
                 ·rfl
                refine hK.out _ _ ⟨(Zc (Za BK261.out _) 0).trans rfl, (Zc (Za BK261.out _) 1).trans rfl, (Zc (Za BK261.out _) 2).trans rfl⟩ (fun hHeld => ?_)
                clear hK K
                refine norm_ (a' := ?_) ?_ ?_
                rotate_left
                ·show Act.put _ (some 55) _ = _
                 simp only [Act.put, List.setIfInBounds_toArray, List.set_cons_zero, List.set_cons_succ, i64_w, i32_w]
                 rfl
                refine one_ (i := 14) (N := some 56) #[true, true, true, true, true, true, true, true, true, true, true, true, true, true, true, false, false] rfl rfl (one_of HT_.out (by kernel_rfl)) (by decide) (fun K hK => ?_)
                refine Kd.S_append_step k61s (w0 := w) w.heap.size (by rfl) (.tmp 43) (.tmp 55) 29 61 (.agg #[(.slice none 0 0), (.slice none 0 0), (.slice none 0 0)]) 72 rfl Try.underlying29 info61 rfl (by decide) (by omega) (.slice Ao38 x262001_3.length co38) x262001_3 (⟨y268, t275, y278⟩ : S61) [.slice Ao52 y268.length co52, .slice Ao51 t275.length co51, .slice Ao50 y278.length co50] (fun k_ => ¬ P_ k_) (fun k_ => w39.heap.size ≤ k_) rfl rfl ?aP ?aK ?aF ?aO ?aB ?aS ?aL ?_
                (case aP => exact k61s_mkM _ _ _ (⟨y268, t275, y278⟩ : S61) (Kd.Rl_ (Kd.Rm_ (Kd.Rd_ HO270.out) (fun k_ hk => hk.2.1)) (Yz HBo.out)) (Kd.Sl_ (Kd.Sm_ (Kd.S_bound HO277.out) (fun k_ hk => hk.2.1)) (Yz HBo.out)) (Kd.Rl_ (Kd.Rm_ (Kd.Rd_ HO280.out) (fun k_ hk => hk.2.1)) (Yz HBo.out)))
                (case aK => exact (fun k_ hk => ⟨fun hp_ => Nat.lt_irrefl _ (Nat.lt_of_lt_of_le (HPs.out k_ hp_) hk), fun e_ => Nat.lt_irrefl _ (Nat.lt_of_lt_of_le (Kd.S_lt HGs.out k_ e_.symm) hk)⟩))
                (case aB => exact (Yt HBo.out HB.out))
                (case aF => exact (fun k_ hk hp_ => Nat.lt_irrefl _ (Nat.lt_of_lt_of_le (HPs.out k_ hp_) (Nat.le_trans (Yz HB.out) hk))))
                (case aO => exact (Kd.Sb_ (Kd.Sm_ (Kd.S_bound HGs.out) (fun k_ hk => ⟨hk.1, fun h_ => Nat.lt_irrefl _ (Nat.lt_of_lt_of_le hk.2.2.1 h_)⟩)) HB.out))
                (case aS => exact (Yz (Yt HBo.out HB.out)))
                (case aL => have := LMc37.out; omega)
                intro v282 w53 ho hb hg hat
                rw [← Ny281.out] at ho
                have n0_ := Az.mk (Kd.S_over' (by (with_reducible repeat (first | apply Kd.Sa_ | apply Kd.Sn_ | apply Kd.Sw_)); exact HO_262000.out) (Kd.R_typed (by (with_reducible repeat (first | apply Kd.Ra_ | apply Kd.Rn_ | apply Kd.Rw_)); exact HO_262001.out)) (by decide) hg)
                have n1_ := Az.mk (blk_grown (g := gb252) (o := .cells #[.slice none 0 0, .slice none 0 0, .int .i64 0] 31 (0, 0)) (by (with_reducible repeat (first | refine Zn ?_ _ | refine Zw ?_ | refine Za ?_ _)); exact BK252.out) hg (Kd.R_ne HO_262001.out BK252.out (by decide)))
                have n2_ := Az.mk (blk_grown (g := gb261) (o := .cells #[u262000, .slice Ao38 x262001_3.length co38, .int .i64 0] 31 (0, 0)) (by (with_reducible repeat (first | refine Zn ?_ _ | refine Zw ?_ | refine Za ?_ _)); exact BK261.out) hg (Kd.R_ne HO_262001.out BK261.out (by decide)))
                have n3_ := Az.mk (hb)
                have n4_ := Az.mk (Kd.Rm_ (k61s_R ho) (fun k_ hk => (fun e_ => hk ((Kd.S_R HFs.out).1 k_ e_.symm) : some k_ ≠ (u262000 : Value).ownBlock)))
                have nF_ := Az.mk (Kd.S_over' (Kd.Sb_ HFs.out HB.out) (Kd.R_typed HO_262001.out) (by decide) hg)
                have nG_ := Az.mk ho
                have nP_ := Az.mk (fun k_ hp_ => Nat.lt_of_lt_of_le (HPs.out k_ hp_) (Nat.le_trans (Yz HB.out) hg.size))
                clear HFs HGs HPs HBo
                clear HO_262000
                clear BK252
                clear BK261
                clear HB
                clear HO_262001
                clear HO270
                clear HO277
                clear HO280
                have HO_262000 := n0_
                have BK252 := n1_
                have BK261 := n2_
                have HB := n3_
                have HO283 := n4_
                have HFs := nF_
                have HGs := nG_
                have HPs := nP_
                clear nF_ nG_ nP_
                clear n0_ n1_ n2_ n3_ n4_
                clear ho hb hg hat
                obtain ⟨Ao54, co54, eo54⟩ := Kd.Rs_ HO283.out
                (first | subst eo54 | (injection eo54 with f1_ f2_ f3_; have f4_ := f1_.symm; have f5_ := f3_.symm; clear f1_ f2_ f3_; subst f4_; subst f5_))
                refine hK.out _ _ ⟨(Zc BK261.out 0).trans rfl, (Zc BK261.out 1).trans rfl, (Zc BK261.out 2).trans rfl⟩ (fun hHeld => ?_)
                clear hK K
                refine norm_ (a' := ?_) ?_ ?_
                rotate_left
                ·show Act.put _ (some 56) _ = _
                 simp only [Act.put, List.setIfInBounds_toArray, List.set_cons_zero, List.set_cons_succ, i64_w, i32_w]
                 rfl
                refine pure_ (i := 15) (N := some 57) (v := ?_) (a' := ?_) #[true, true, true, true, true, true, true, true, true, true, true, true, true, true, true, true, false] rfl rfl (any_of HT_.out (by kernel_rfl)) (fun _ _ _ h => h) (Or.inl ⟨by rfl, ?_⟩) ?_ ?_
                rotate_left
                ·intro w'
                 go_simp
                 with_reducible rfl
                rotate_left
                ·simp only [Act.put, List.setIfInBounds_toArray, List.set_cons_zero, List.set_cons_succ, i64_w, i32_w]
                 rfl
                refine last_ (i := 16) (N := none) #[true, true, true, true, true, true, true, true, true, true, true, true, true, true, true, true, true] rfl rfl (one_of HT_.out (by kernel_rfl)) (by decide) (fun K hK => ?_)
                have hs55 : w53.cell? ⟨gb261, 1, none⟩ = some (.slice Ao38 x262001_3.length co38) := (Zc BK261.out 1).trans rfl
                have hfs55 := Zf BK261.out 1
                have hns55_0 := NB252_261.out
                have hms55_0 := NB261_252.out
                refine skip_ (w1 := ?_) (by rfl) rfl ?_ ?_
                rotate_left
                ·go_simp
                 rfl
                refine hK.out _ _ ?_
                clear hK K
                refine done_ (done_of HT_.out (by kernel_rfl)) ?_
                try go_wp2
                go_roundg k3
                case measure => have := HJ1.out; have := HK2.out; have := HK3.out; omega
                case rel => exact ⟨(wrap64 (x39_3 + 1)), (y281), (.slice Ao54 y281.length co54), (by first | rfl | (simp; done) | (simp [*]; done)), H', ⟨by have := HJ1.out; have := HK2.out; have := HK3.out; omega⟩, ⟨by (with_reducible repeat (first | apply Kd.Sa_ | apply Kd.Sn_ | apply Kd.Sw_)); exact Kd.Sm_ (Kd.Sf_ (p := ⟨gb261, 1, none⟩) (Kd.S_types HO_262000.out BK261.out (by decide)) (fun _ hk => hk.2) (.slice Ao54 y281.length co54)) (fun _ hk => trivial)⟩, ⟨by (with_reducible repeat (first | apply Kd.Ra_ | apply Kd.Rn_ | apply Kd.Rw_)); exact Kd.Rm_ (Kd.Rf_ (p := ⟨gb261, 1, none⟩) (Kd.R_types HO283.out BK261.out (by decide)) (fun _ hk => hk.2) (.slice Ao54 y281.length co54)) (fun _ hk => hk.1)⟩, ⟨by (with_reducible repeat (first | refine Zn ?_ _ | refine Zw ?_ | refine Za ?_ _)); refine blk_far ?_ NB252_261.out _; (with_reducible repeat (first | refine Zn ?_ _ | refine Zw ?_ | refine Za ?_ _)); exact BK252.out⟩, ⟨by (with_reducible repeat (first | refine Zn ?_ _ | refine Zw ?_ | refine Za ?_ _)); refine Zp (cs := #[u262000, .slice Ao38 x262001_3.length co38, .int .i64 0]) ?_ 1 _ rfl; (with_reducible repeat (first | refine Zn ?_ _ | refine Zw ?_ | refine Za ?_ _)); exact BK261.out⟩, ⟨by repeat (first | (with_reducible first | exact HB.out | apply Ya | apply Yn | apply Yw | refine Ys ?_ GE252.out | refine Ys ?_ GE261.out) | exact HB.out)⟩, ⟨by (with_reducible repeat (first | apply Kd.Sa_ | apply Kd.Sn_ | apply Kd.Sw_)); exact Kd.Sm_ (Kd.Sf_ (p := ⟨gb261, 1, none⟩) (Kd.S_types HFs.out BK261.out (by decide)) (fun _ hk => hk.2) (.slice Ao54 y281.length co54)) (fun _ hk => hk.1)⟩, ⟨by (with_reducible repeat (first | apply Kd.Sa_ | apply Kd.Sn_ | apply Kd.Sw_)); exact Kd.Sm_ (Kd.Sf_ (p := ⟨gb261, 1, none⟩) (Kd.S_types HGs.out BK261.out (by decide)) (fun _ hk => hk.2) (.slice Ao54 y281.length co54)) (fun _ hk => hk.1)⟩, ⟨fun k_ hp_ => Nat.lt_of_lt_of_le (HPs.out k_ hp_) (Nat.le_of_eq (by simp [World.setCell]))⟩⟩
               ·rw [if_neg c37] at H
                exact absurd H (by simp)
              ·rw [if_neg c36] at H
               exact absurd H (by simp)
             ·rw [if_neg c34] at H
              exact absurd H (by simp)
            ·rw [if_neg c33] at H
             exact absurd H (by simp)
           ·rw [if_neg c32] at H
            exact absurd H (by simp)
          ·rw [if_neg c30] at H
           exact absurd H (by simp)
         ·rw [if_neg c29] at H
          have c29b0 : decide (x39_3 < (wrap64 ((l0.length : Int) / 6))) = false := decide_eq_false c29
          clear c29
          simp only [Option.some.injEq, Prod.mk.injEq] at H
          obtain ⟨rfl, rfl, rfl, rfl⟩ := H
          have hnb56 := NB261_252.out
          have hnc56 := NB252_261.out
          have hcz57_0 : wr.cell? ⟨gb261, 0, none⟩ = some (u262000) := (Zc BK261.out 0).trans rfl
          have hcz57_1 : wr.cell? ⟨gb261, 1, none⟩ = some (u262001) := (Zc BK261.out 1).trans rfl
          have hcz57_2 : wr.cell? ⟨gb261, 2, none⟩ = some (.int .i64 0) := (Zc BK261.out 2).trans rfl
          have hfz57_0 := Zf BK261.out 0
          have hfz57_1 := Zf BK261.out 1
          have hfz57_2 := Zf BK261.out 2
          obtain ⟨Ao58, co58, eo58⟩ := Kd.Ss_ HO_262000.out
          subst eo58
          have hcz59_0 : wr.cell? ⟨gb252, 0, none⟩ = some (.slice none 0 0) := (Zc BK252.out 0).trans rfl
          have hcz59_1 : wr.cell? ⟨gb252, 1, none⟩ = some (.slice none 0 0) := (Zc BK252.out 1).trans rfl
          have hcz59_2 : wr.cell? ⟨gb252, 2, none⟩ = some (.int .i64 0) := (Zc BK252.out 2).trans rfl
          have hfz59_0 := Zf BK252.out 0
          have hfz59_1 := Zf BK252.out 1
          have hfz59_2 := Zf BK252.out 2
          obtain ⟨Ao60, co60, eo60⟩ := Kd.Rs_ HO_262001.out
          subst eo60
          go_wp2
          refine bodyPost_ret (results_ct rfl _ _ gb252 31 #[.slice Ao58 x262000_2.length co58, .slice Ao60 x262001_3.length co60, .int .i64 0] (0, 0) _ rfl (by (with_reducible repeat (first | refine Zn ?_ _ | refine Zw ?_ | refine Za ?_ _)); refine Zp (cs := #[.slice Ao58 x262000_2.length co58, .slice Ao60 x262001_3.length co60, .int .i64 0]) ?_ 2 _ rfl; (with_reducible repeat (first | refine Zn ?_ _ | refine Zw ?_ | refine Za ?_ _)); refine Zp (cs := #[.slice Ao58 x262000_2.length co58, .slice none 0 0, .int .i64 0]) ?_ 1 _ rfl; (with_reducible repeat (first | refine Zn ?_ _ | refine Zw ?_ | refine Za ?_ _)); refine Zp (cs := #[.slice none 0 0, .slice none 0 0, .int .i64 0]) ?_ 0 _ rfl; (with_reducible repeat (first | refine Zn ?_ _ | refine Zw ?_ | refine Za ?_ _)); exact BK252.out) Try.underlying31 rfl (by kernel_rfl)) rfl ?_
          exact ⟨_, _, by first | rfl | (simp [errW_none, errW_some] <;> rfl) | (simp [*, errW_none, errW_some] <;> rfl), ⟨P_, by (with_reducible repeat (first | apply Kd.Sa_ | apply Kd.Sn_ | apply Kd.Sw_)); exact Kd.Sm_ (Kd.Sf_ (p := ⟨gb252, 2, none⟩) (Kd.Sf_ (p := ⟨gb252, 1, none⟩) (Kd.Sf_ (p := ⟨gb252, 0, none⟩) (Kd.S_types HFs.out BK252.out (by decide)) (fun _ hk => hk.2) (.slice Ao58 x262000_2.length co58)) (fun _ hk => hk.2) (.slice Ao60 x262001_3.length co60)) (fun _ hk => hk.2) (.int .i64 0)) (fun _ hk => hk.1), by (with_reducible repeat (first | apply Kd.Sa_ | apply Kd.Sn_ | apply Kd.Sw_)); exact Kd.Sm_ (Kd.Sf_ (p := ⟨gb252, 2, none⟩) (Kd.Sf_ (p := ⟨gb252, 1, none⟩) (Kd.Sf_ (p := ⟨gb252, 0, none⟩) (Kd.S_types HGs.out BK252.out (by decide)) (fun _ hk => hk.2) (.slice Ao58 x262000_2.length co58)) (fun _ hk => hk.2) (.slice Ao60 x262001_3.length co60)) (fun _ hk => hk.2) (.int .i64 0)) (fun _ hk => hk.1)⟩, by repeat (first | (with_reducible first | exact HB.out | apply Ya | apply Yn | apply Yw | refine Ys ?_ GE252.out | refine Ys ?_ GE261.out) | exact HB.out)⟩
end Go.Proofs.Ytjgcfpclddfifaa.QFnExactHostLoad
