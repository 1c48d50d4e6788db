/- Walks of this claim: each Go function that the law reaches comes to what the Lean function beside it says. Conditions: none beyond those that each theorem names. -/
import Derived.Test.YtjgcfpclddfifaaVFnExactHostLoadx0
import Derived.Test.YtjgcfpclddfifaaVFnExactHostLoadx6
namespace Go.Proofs.Ytjgcfpclddfifaa.QFnExactHostLoad
open Go.RowKit Go.Proofs.YtjgcfpclddfifaaW.PrintWords Go.Proofs.YtjgcfpclddfifaaW.PrintLast Go.Proofs.YtjgcfpclddfifaaW.PrintMore
attribute [local go_sem] max2_int min2_int max_two min_two max_three min_three max_four min_four   -- for this text's walks alone
set_option linter.unusedVariables false
set_option linter.unusedSimpArgs false

/-! ### spec_l12Guest: function 37 -/
def spec_l12Guest.f (k : Nat) (l0 : List (List Int)) : Option ((List (S83)) × (List (List Int)) × (List (S86))) := if 6 ≤ 11728124029610 then ((spec_l2Copy.f k l0).bind fun t189 => (if 6 ≤ 8796093022208 then (some ((List.replicate 6 z83), t189, (List.replicate 6 z86))) else (none))) else (none)
set_option maxHeartbeats 8000000 in
set_option maxRecDepth 100000 in
theorem spec_l12Guest.calls (k : Nat) (A0 : Option Addr) (c0 : Nat) (l0 : List (List Int)) (r1 : List (S83)) (r2 : List (List Int)) (r3 : List (S86)) (w : World) (hr0 : Kd.C (Kd.slice 3 (Kd.int .i64)) w A0 l0.length l0) (hc0 : l0.length ≤ c0) (h : spec_l12Guest.f k l0 = some (r1, r2, r3)) :
  Calls Try.prog 37 #[.slice A0 l0.length c0] w fun e w' => ∃ v0_ v1_ v2_ : Value, e = .returned (.agg #[v0_, v1_, v2_]) ∧ Kd.R k83 83 w' w.heap.size (fun _ => True) v0_ r1 ∧ Kd.S (Kd.slice 3 (Kd.int .i64)) 45 w' w.heap.size (fun _ => True) v1_ r2 ∧ Kd.R k86 86 w' w.heap.size (fun _ => True) v2_ r3 ∧ Below w.heap.size w w' := by
 have hu61 := Try.underlying61
 have HR0 := Az.mk hr0
 have HC0 := Az.mk hc0
 clear hr0 hc0
 have HB := Az.mk (Below.refl w.heap.size w)
 have H : (if 6 ≤ 11728124029610 then ((spec_l2Copy.f k l0).bind fun t189 => (if 6 ≤ 8796093022208 then (some ((List.replicate 6 z83), t189, (List.replicate 6 z86))) else (none))) else (none)) = some (r1, r2, r3) := h
 clear h
 by_cases c2 : 6 ≤ 11728124029610
 ·rw [if_pos c2] at H
  have c2b0 := eq_true c2
  have c2b1 : decide (6 ≤ 11728124029610) = true := decide_eq_true c2
  clear c2
  obtain ⟨y186, hy186⟩ : ∃ y_ : List (S83), y_ = (List.replicate 6 z83) := ⟨_, rfl⟩
  replace H : ((spec_l2Copy.f k l0).bind fun t189 => (if 6 ≤ 8796093022208 then (some (y186, t189, (List.replicate 6 z86))) else (none))) = some (r1, r2, r3) := by first | (rw [hy186]; with_reducible exact H) | (have H2_ := (Option.bind_some _ _).symm.trans H; rw [hy186]; with_reducible exact H2_) | (have H2_ := (Option.bind_some _ _).symm.trans H; with_reducible exact H2_) | with_reducible exact H | (rw [hy186]; exact H) | exact H
  have Ny186 := Az.mk hy186
  clear hy186
  replace H := Option.bind_eq_some_iff.mp H
  obtain ⟨t189, A30, H⟩ := H
  replace H : (if 6 ≤ 8796093022208 then (some (y186, t189, (List.replicate 6 z86))) else (none)) = some (r1, r2, r3) := H
  have A3 := Az.mk A30
  clear A30
  by_cases c4 : 6 ≤ 8796093022208
  ·rw [if_pos c4] at H
   have c4b0 := eq_true c4
   have c4b1 : decide (6 ≤ 8796093022208) = true := decide_eq_true c4
   clear c4
   obtain ⟨y192, hy192⟩ : ∃ y_ : List (S86), y_ = (List.replicate 6 z86) := ⟨_, rfl⟩
   replace H : (some (y186, t189, y192)) = some (r1, r2, r3) := by first | (rw [hy192]; with_reducible exact H) | (have H2_ := (Option.bind_some _ _).symm.trans H; rw [hy192]; with_reducible exact H2_) | (have H2_ := (Option.bind_some _ _).symm.trans H; with_reducible exact H2_) | with_reducible exact H | (rw [hy192]; exact H) | exact H
   have Ny192 := Az.mk hy192
   clear hy192
   simp only [Option.some.injEq, Prod.mk.injEq] at H
   obtain ⟨rfl, rfl, rfl⟩ := H
   go_enter Try.func37, Try.ntmps37
   try go_wp2_with (first | ((with_reducible refine Yd (N := 2) rfl ?_); refine Yv ?hg (N := 2) ?hd (cs := #[.slice none 0 0, .slice none 0 0, .slice none 0 0]) (t := 61) ?hr ?_; (case hd => rfl); (case hg => rfl); (case hr => first | (go_simp; done) | (go_simp; rfl)); intro gb185 hg w5 hbox hb; have n0_ := Az.mk (Yt (by repeat (first | (with_reducible first | exact HB.out | apply Ya | apply Yn | apply Yw) | exact HB.out)) hb); have n1_ := Az.mk (hbox); have n2_ := Az.mk ((by rw [hg]; exact (Yz (by repeat (first | (with_reducible first | exact HB.out | apply Ya | apply Yn | apply Yw) | exact HB.out))) : w.heap.size ≤ gb185)); have n3_ := Az.mk ((by rw [hg]; exact (Yz (by repeat (first | (with_reducible first | exact HB.out | apply Ya | apply Yn | apply Yw) | exact HB.out))) : w.heap.size ≤ gb185)); clear HB; have HB := n0_; have BK185 := n1_; have GW185 := n2_; have GE185 := n3_; clear n0_ n1_ n2_ n3_; clear hb hbox hg))
   have n0_ := Az.mk (Zw BK185.out)
   have n1_ := Az.mk (Yw HB.out)
   clear BK185
   clear HB
   have BK185 := n0_
   have HB := n1_
   clear n0_ n1_
   refine start_ (n := 6) (S := fun w' => True) (ds := []) #[false, false, false, false, false, false] (by kernel_rfl) rfl rfl trivial (fun hHeld => ?_)
   generalize w5.drew = w6 at BK185 HB hHeld ⊢
   refine pure_ (i := 1) (N := some 4) (v := ?_) (a' := ?_) #[false, true, false, false, false, false] rfl rfl (by kernel_rfl) (fun _ _ _ h => h) (Or.inl ⟨by rfl, ?_⟩) ?_ ?_
   rotate_left
   ·intro w'
    go_simp
    with_reducible rfl
   rotate_left
   ·simp only [Act.put, List.setIfInBounds_toArray, List.set_cons_zero, List.set_cons_succ, i64_w, i32_w]
    rfl
   refine join_ (σ := Value × Value × Value) 2 #[true, true, true, true, false, false] (fun s_ => [(3, s_.1), (5, s_.2.1), (6, s_.2.2)]) (fun s_ w' => (Kd.R k83 83 w' w.heap.size (fun _ => True) s_.1 y186) ∧ (Kd.S (Kd.slice 3 (Kd.int .i64)) 45 w' w.heap.size (fun _ => True) s_.2.1 t189) ∧ (Kd.R k86 86 w' w.heap.size (fun _ => True) s_.2.2 y192) ∧ (w'.heap[gb185]? = some (.cells #[.slice none 0 0, .slice none 0 0, .slice none 0 0] 61 (0, 0))) ∧ (Below w.heap.size w w')) ?_ ?_
   rotate_left
   ·intro hJ0_2_3
    refine join_ (σ := Value × Value) 3 #[true, true, true, false, false, false] (fun s_ => [(3, s_.1), (5, s_.2)]) (fun s_ w' => (Kd.R k83 83 w' w.heap.size (fun _ => True) s_.1 y186) ∧ (Kd.S (Kd.slice 3 (Kd.int .i64)) 45 w' w.heap.size (fun _ => True) s_.2 t189) ∧ (w'.heap[gb185]? = some (.cells #[.slice none 0 0, .slice none 0 0, .slice none 0 0] 61 (0, 0))) ∧ (Below w.heap.size w w')) ?_ ?_
    rotate_left
    ·intro hJ0_2
     refine join_ (σ := Value × Value) 3 #[true, true, false, true, false, false] (fun s_ => [(3, s_.1), (6, s_.2)]) (fun s_ w' => (Kd.R k83 83 w' w.heap.size (fun _ => True) s_.1 y186) ∧ (Kd.R k86 86 w' w.heap.size (fun _ => True) s_.2 y192) ∧ (w'.heap[gb185]? = some (.cells #[.slice none 0 0, .slice none 0 0, .slice none 0 0] 61 (0, 0))) ∧ (Below w.heap.size w w')) ?_ ?_
     rotate_left
     ·intro hJ0_3
      refine join_ (σ := Value × Value) 3 #[false, true, true, true, false, false] (fun s_ => [(5, s_.1), (6, s_.2)]) (fun s_ w' => (Kd.S (Kd.slice 3 (Kd.int .i64)) 45 w' w.heap.size (fun _ => True) s_.1 t189) ∧ (Kd.R k86 86 w' w.heap.size (fun _ => True) s_.2 y192) ∧ (w'.heap[gb185]? = some (.cells #[.slice none 0 0, .slice none 0 0, .slice none 0 0] 61 (0, 0))) ∧ (Below w.heap.size w w')) ?_ ?_
      rotate_left
      ·intro hJ2_3
       refine join_ (σ := Value) 4 #[true, true, false, false, false, false] (fun s_ => [(3, s_)]) (fun s_ w' => (Kd.R k83 83 w' w.heap.size (fun _ => True) s_ y186) ∧ (w'.heap[gb185]? = some (.cells #[.slice none 0 0, .slice none 0 0, .slice none 0 0] 61 (0, 0))) ∧ (Below w.heap.size w w')) ?_ ?_
       rotate_left
       ·intro hJ0
        refine join_ (σ := Value) 4 #[false, true, true, false, false, false] (fun s_ => [(5, s_)]) (fun s_ w' => (Kd.S (Kd.slice 3 (Kd.int .i64)) 45 w' w.heap.size (fun _ => True) s_ t189) ∧ (w'.heap[gb185]? = some (.cells #[.slice none 0 0, .slice none 0 0, .slice none 0 0] 61 (0, 0))) ∧ (Below w.heap.size w w')) ?_ ?_
        rotate_left
        ·intro hJ2
         refine join_ (σ := Value) 4 #[false, true, false, true, false, false] (fun s_ => [(6, s_)]) (fun s_ w' => (Kd.R k86 86 w' w.heap.size (fun _ => True) s_ y192) ∧ (w'.heap[gb185]? = some (.cells #[.slice none 0 0, .slice none 0 0, .slice none 0 0] 61 (0, 0))) ∧ (Below w.heap.size w w')) ?_ ?_
         rotate_left
         ·intro hJ3
          refine three_ (i := 0) (j := 2) (k := 3) (Ni := some 3) (Nj := some 5) (Nk := some 6) #[true, true, false, false, false, false] #[false, true, true, false, false, false] #[false, true, false, true, false, false] rfl rfl rfl rfl rfl rfl (by kernel_rfl) (by decide) (by decide) (by decide) (fun K hK => ?_) (fun K hK => ?_) (fun K hK => ?_)
          ·skip
           refine Kd.R_make_step k83 _ 83 (by rfl) (N := 3) rfl 58 _ _ rfl 6 rfl rfl Try.underlying58 (.agg #[(.bool false), (.int .i64 0), (.bool false)]) 24 info83 rfl (by decide) (by omega) z83 (ok := fun _ => True) (okp := fun _ => True) (k83_mkM _ _ _ z83 ) (fun _ hk => hk) trivial (by omega) (by omega) (Below.refl _ _) (Nat.le_refl _) ?_
           intro v187 w7 ho8 hb hg_ hnew_
           clear hg_ hnew_
           (first | rw [← Ny186.out] at ho8 | (simp only [Int.reduceToNat] at ho8; rw [← Ny186.out] at ho8))
           have n0_ := Az.mk (Kd.Rl_ ho8 (Yz (by repeat (first | (with_reducible first | exact HB.out | apply Ya | apply Yn | apply Yw | refine Ys ?_ GE185.out) | exact HB.out))))
           have n1_ := Az.mk (Zb (g := gb185) (o := .cells #[.slice none 0 0, .slice none 0 0, .slice none 0 0] 61 (0, 0)) (by (with_reducible repeat (first | refine Zn ?_ _ | refine Zw ?_ | refine Za ?_ _)); exact BK185.out) hb)
           have n2_ := Az.mk (Yt (by repeat (first | (with_reducible first | exact HB.out | apply Ya | apply Yn | apply Yw | refine Ys ?_ GE185.out) | exact HB.out)) hb)
           clear BK185
           clear HB
           have HO188 := n0_
           have BK185 := n1_
           have HB := n2_
           clear n0_ n1_ n2_
           clear hb ho8
           refine hK.out _ _ trivial (fun hHeld => ?_)
           clear hK K
           refine norm_ (a' := ?_) ?_ ?_
           rotate_left
           ·show Act.put _ (some 3) _ = _
            simp only [Act.put, List.setIfInBounds_toArray, List.set_cons_zero, List.set_cons_succ, i64_w, i32_w]
            rfl
           exact norm_ (by first | (simp only [putAll, Act.put, List.setIfInBounds_toArray, List.set_cons_zero, List.set_cons_succ]; done) | (simp only [putAll, Act.put, List.setIfInBounds_toArray, List.set_cons_zero, List.set_cons_succ]; rfl)) (hJ0 (v187) _ ⟨(by (with_reducible repeat (first | apply Kd.Ra_ | apply Kd.Rn_ | apply Kd.Rw_)); exact HO188.out), (by (with_reducible repeat (first | refine Zn ?_ _ | refine Zw ?_ | refine Za ?_ _)); exact BK185.out), (by repeat (first | (with_reducible first | exact HB.out | apply Ya | apply Yn | apply Yw | refine Ys ?_ GE185.out) | exact HB.out))⟩)
          ·skip
           refine goes_ Try.func55 (by kernel_rfl) rfl #[.slice A0 l0.length c0] (by rfl) rfl rfl (by (try simp only [List.map_toArray, List.map_cons, List.map_nil]); first | done | rfl | (simp only [List.length_drop, List.length_take]; rfl)) ?_
           with_reducible refine (spec_l2Copy.calls k _ _ l0 t189 _ ?side1 ?side2 A3.out).mono ?_
           (case side1 => repeat (first | exact (Kd.Cb_ HR0.out HB.out) | exact HR0.out | (with_reducible refine Kd.Ca_ ?_ _) | (with_reducible refine Kd.Cn_ ?_ _) | (with_reducible refine Kd.Cw_ ?_)))
           (case side2 => exact HC0.out)
           rintro e w7 ⟨v190, rfl, ho0, hb⟩
           refine ⟨_, rfl, ?_⟩
           have n0_ := Az.mk (Kd.Sl_ ho0 (Yz (by repeat (first | (with_reducible first | exact HB.out | apply Ya | apply Yn | apply Yw | refine Ys ?_ GE185.out) | exact HB.out))))
           have n1_ := Az.mk (Zb (g := gb185) (o := .cells #[.slice none 0 0, .slice none 0 0, .slice none 0 0] 61 (0, 0)) (by (with_reducible repeat (first | refine Zn ?_ _ | refine Zw ?_ | refine Za ?_ _)); exact BK185.out) hb)
           have n2_ := Az.mk (Yt (by repeat (first | (with_reducible first | exact HB.out | apply Ya | apply Yn | apply Yw | refine Ys ?_ GE185.out) | exact HB.out)) hb)
           clear BK185
           clear HB
           have HO191 := n0_
           have BK185 := n1_
           have HB := n2_
           clear n0_ n1_ n2_
           (try clear hb)
           (try clear hb2)
           (try clear hk)
           (try clear hi)
           (try clear ho0)
           refine hK.out _ _ trivial (fun hHeld => ?_)
           clear hK K
           refine norm_ (a' := ?_) ?_ ?_
           rotate_left
           ·show Act.put _ (some 5) _ = _
            simp only [Act.put, List.setIfInBounds_toArray, List.set_cons_zero, List.set_cons_succ, i64_w, i32_w]
            rfl
           exact norm_ (by first | (simp only [putAll, Act.put, List.setIfInBounds_toArray, List.set_cons_zero, List.set_cons_succ]; done) | (simp only [putAll, Act.put, List.setIfInBounds_toArray, List.set_cons_zero, List.set_cons_succ]; rfl)) (hJ2 (v190) _ ⟨(by (with_reducible repeat (first | apply Kd.Sa_ | apply Kd.Sn_ | apply Kd.Sw_)); exact HO191.out), (by (with_reducible repeat (first | refine Zn ?_ _ | refine Zw ?_ | refine Za ?_ _)); exact BK185.out), (by repeat (first | (with_reducible first | exact HB.out | apply Ya | apply Yn | apply Yw | refine Ys ?_ GE185.out) | exact HB.out))⟩)
          ·skip
           refine Kd.R_make_step k86 _ 86 (by rfl) (N := 6) rfl 59 _ _ rfl 6 rfl rfl Try.underlying59 (.agg #[(.bool false), (.int .i64 0), (.int .i64 0), (.bool false)]) 32 info86 rfl (by decide) (by omega) z86 (ok := fun _ => True) (okp := fun _ => True) (k86_mkM _ _ _ z86 ) (fun _ hk => hk) trivial (by omega) (by omega) (Below.refl _ _) (Nat.le_refl _) ?_
           intro v193 w7 ho8 hb hg_ hnew_
           clear hg_ hnew_
           (first | rw [← Ny192.out] at ho8 | (simp only [Int.reduceToNat] at ho8; rw [← Ny192.out] at ho8))
           have n0_ := Az.mk (Kd.Rl_ ho8 (Yz (by repeat (first | (with_reducible first | exact HB.out | apply Ya | apply Yn | apply Yw | refine Ys ?_ GE185.out) | exact HB.out))))
           have n1_ := Az.mk (Zb (g := gb185) (o := .cells #[.slice none 0 0, .slice none 0 0, .slice none 0 0] 61 (0, 0)) (by (with_reducible repeat (first | refine Zn ?_ _ | refine Zw ?_ | refine Za ?_ _)); exact BK185.out) hb)
           have n2_ := Az.mk (Yt (by repeat (first | (with_reducible first | exact HB.out | apply Ya | apply Yn | apply Yw | refine Ys ?_ GE185.out) | exact HB.out)) hb)
           clear BK185
           clear HB
           have HO194 := n0_
           have BK185 := n1_
           have HB := n2_
           clear n0_ n1_ n2_
           clear hb ho8
           refine hK.out _ _ trivial (fun hHeld => ?_)
           clear hK K
           refine norm_ (a' := ?_) ?_ ?_
           rotate_left
           ·show Act.put _ (some 6) _ = _
            simp only [Act.put, List.setIfInBounds_toArray, List.set_cons_zero, List.set_cons_succ, i64_w, i32_w]
            rfl
           exact norm_ (by first | (simp only [putAll, Act.put, List.setIfInBounds_toArray, List.set_cons_zero, List.set_cons_succ]; done) | (simp only [putAll, Act.put, List.setIfInBounds_toArray, List.set_cons_zero, List.set_cons_succ]; rfl)) (hJ3 (v193) _ ⟨(by (with_reducible repeat (first | apply Kd.Ra_ | apply Kd.Rn_ | apply Kd.Rw_)); exact HO194.out), (by (with_reducible repeat (first | refine Zn ?_ _ | refine Zw ?_ | refine Za ?_ _)); exact BK185.out), (by repeat (first | (with_reducible first | exact HB.out | apply Ya | apply Yn | apply Yw | refine Ys ?_ GE185.out) | exact HB.out))⟩)
         ·skip
          rintro v193 w9 ⟨h0_, h1_, h2_⟩
          have n0_ : Az (Kd.R k86 86 w9 w.heap.size (fun _ => True) v193 y192) := ⟨h0_⟩
          have n1_ : Az (w9.heap[gb185]? = some (.cells #[.slice none 0 0, .slice none 0 0, .slice none 0 0] 61 (0, 0))) := ⟨h1_⟩
          have n2_ : Az (Below w.heap.size w w9) := ⟨h2_⟩
          clear BK185
          clear HB
          clear h0_ h1_ h2_
          have HO194 := n0_
          have BK185 := n1_
          have HB := n2_
          clear n0_ n1_ n2_
          have hHeld := trivial
          refine norm_ (a' := ?_) ?_ ?_
          rotate_left
          ·simp only [putAll, Act.put, List.setIfInBounds_toArray, List.set_cons_zero, List.set_cons_succ]
           rfl
          refine two_ (i := 0) (j := 2) (Ni := some 3) (Nj := some 5) #[true, true, false, true, false, false] #[false, true, true, true, false, false] rfl rfl rfl rfl (by kernel_rfl) (by decide) (by decide) (fun K hK => ?_) (fun K hK => ?_)
          ·skip
           refine Kd.R_make_step k83 _ 83 (by rfl) (N := 3) rfl 58 _ _ rfl 6 rfl rfl Try.underlying58 (.agg #[(.bool false), (.int .i64 0), (.bool false)]) 24 info83 rfl (by decide) (by omega) z83 (ok := fun _ => True) (okp := fun _ => True) (k83_mkM _ _ _ z83 ) (fun _ hk => hk) trivial (by omega) (by omega) (Below.refl _ _) (Nat.le_refl _) ?_
           intro v187 w10 ho11 hb hg_ hnew_
           clear hg_ hnew_
           (first | rw [← Ny186.out] at ho11 | (simp only [Int.reduceToNat] at ho11; rw [← Ny186.out] at ho11))
           have n0_ := Az.mk (Kd.Rb_ (by (with_reducible repeat (first | apply Kd.Ra_ | apply Kd.Rn_ | apply Kd.Rw_)); exact HO194.out) hb)
           have n1_ := Az.mk (Kd.Rl_ ho11 (Yz (by repeat (first | (with_reducible first | exact HB.out | apply Ya | apply Yn | apply Yw | refine Ys ?_ GE185.out) | exact HB.out))))
           have n2_ := Az.mk (Zb (g := gb185) (o := .cells #[.slice none 0 0, .slice none 0 0, .slice none 0 0] 61 (0, 0)) (by (with_reducible repeat (first | refine Zn ?_ _ | refine Zw ?_ | refine Za ?_ _)); exact BK185.out) hb)
           have n3_ := Az.mk (Yt (by repeat (first | (with_reducible first | exact HB.out | apply Ya | apply Yn | apply Yw | refine Ys ?_ GE185.out) | exact HB.out)) hb)
           clear HO194
           clear BK185
           clear HB
           have HO194 := n0_
           have HO188 := n1_
           have BK185 := n2_
           have HB := n3_
           clear n0_ n1_ n2_ n3_
           clear hb ho11
           refine hK.out _ _ trivial (fun hHeld => ?_)
           clear hK K
           refine norm_ (a' := ?_) ?_ ?_
           rotate_left
           ·show Act.put _ (some 3) _ = _
            simp only [Act.put, List.setIfInBounds_toArray, List.set_cons_zero, List.set_cons_succ, i64_w, i32_w]
            rfl
           exact norm_ (by first | (simp only [putAll, Act.put, List.setIfInBounds_toArray, List.set_cons_zero, List.set_cons_succ]; done) | (simp only [putAll, Act.put, List.setIfInBounds_toArray, List.set_cons_zero, List.set_cons_succ]; rfl)) (hJ0_3 (v187, v193) _ ⟨(by (with_reducible repeat (first | apply Kd.Ra_ | apply Kd.Rn_ | apply Kd.Rw_)); exact HO188.out), (by (with_reducible repeat (first | apply Kd.Ra_ | apply Kd.Rn_ | apply Kd.Rw_)); exact HO194.out), (by (with_reducible repeat (first | refine Zn ?_ _ | refine Zw ?_ | refine Za ?_ _)); exact BK185.out), (by repeat (first | (with_reducible first | exact HB.out | apply Ya | apply Yn | apply Yw | refine Ys ?_ GE185.out) | exact HB.out))⟩)
          ·skip
           refine goes_ Try.func55 (by kernel_rfl) rfl #[.slice A0 l0.length c0] (by rfl) rfl rfl (by (try simp only [List.map_toArray, List.map_cons, List.map_nil]); first | done | rfl | (simp only [List.length_drop, List.length_take]; rfl)) ?_
           with_reducible refine (spec_l2Copy.calls k _ _ l0 t189 _ ?side1 ?side2 A3.out).mono ?_
           (case side1 => repeat (first | exact (Kd.Cb_ HR0.out HB.out) | exact HR0.out | (with_reducible refine Kd.Ca_ ?_ _) | (with_reducible refine Kd.Cn_ ?_ _) | (with_reducible refine Kd.Cw_ ?_)))
           (case side2 => exact HC0.out)
           rintro e w10 ⟨v190, rfl, ho0, hb⟩
           refine ⟨_, rfl, ?_⟩
           have n0_ := Az.mk (Kd.Rb_ (by (with_reducible repeat (first | apply Kd.Ra_ | apply Kd.Rn_ | apply Kd.Rw_)); exact HO194.out) hb)
           have n1_ := Az.mk (Kd.Sl_ ho0 (Yz (by repeat (first | (with_reducible first | exact HB.out | apply Ya | apply Yn | apply Yw | refine Ys ?_ GE185.out) | exact HB.out))))
           have n2_ := Az.mk (Zb (g := gb185) (o := .cells #[.slice none 0 0, .slice none 0 0, .slice none 0 0] 61 (0, 0)) (by (with_reducible repeat (first | refine Zn ?_ _ | refine Zw ?_ | refine Za ?_ _)); exact BK185.out) hb)
           have n3_ := Az.mk (Yt (by repeat (first | (with_reducible first | exact HB.out | apply Ya | apply Yn | apply Yw | refine Ys ?_ GE185.out) | exact HB.out)) hb)
           clear HO194
           clear BK185
           clear HB
           have HO194 := n0_
           have HO191 := n1_
           have BK185 := n2_
           have HB := n3_
           clear n0_ n1_ n2_ n3_
           (try clear hb)
           (try clear hb2)
           (try clear hk)
           (try clear hi)
           (try clear ho0)
           refine hK.out _ _ trivial (fun hHeld => ?_)
           clear hK K
           refine norm_ (a' := ?_) ?_ ?_
           rotate_left
           ·show Act.put _ (some 5) _ = _
            simp only [Act.put, List.setIfInBounds_toArray, List.set_cons_zero, List.set_cons_succ, i64_w, i32_w]
            rfl
           exact norm_ (by first | (simp only [putAll, Act.put, List.setIfInBounds_toArray, List.set_cons_zero, List.set_cons_succ]; done) | (simp only [putAll, Act.put, List.setIfInBounds_toArray, List.set_cons_zero, List.set_cons_succ]; rfl)) (hJ2_3 (v190, v193) _ ⟨(by (with_reducible repeat (first | apply Kd.Sa_ | apply Kd.Sn_ | apply Kd.Sw_)); exact HO191.out), (by (with_reducible repeat (first | apply Kd.Ra_ | apply Kd.Rn_ | apply Kd.Rw_)); exact HO194.out), (by (with_reducible repeat (first | refine Zn ?_ _ | refine Zw ?_ | refine Za ?_ _)); exact BK185.out), (by repeat (first | (with_reducible first | exact HB.out | apply Ya | apply Yn | apply Yw | refine Ys ?_ GE185.out) | exact HB.out))⟩)
        ·skip
         rintro v190 w8 ⟨h0_, h1_, h2_⟩
         have n0_ : Az (Kd.S (Kd.slice 3 (Kd.int .i64)) 45 w8 w.heap.size (fun _ => True) v190 t189) := ⟨h0_⟩
         have n1_ : Az (w8.heap[gb185]? = some (.cells #[.slice none 0 0, .slice none 0 0, .slice none 0 0] 61 (0, 0))) := ⟨h1_⟩
         have n2_ : Az (Below w.heap.size w w8) := ⟨h2_⟩
         clear BK185
         clear HB
         clear h0_ h1_ h2_
         have HO191 := n0_
         have BK185 := n1_
         have HB := n2_
         clear n0_ n1_ n2_
         have hHeld := trivial
         refine norm_ (a' := ?_) ?_ ?_
         rotate_left
         ·simp only [putAll, Act.put, List.setIfInBounds_toArray, List.set_cons_zero, List.set_cons_succ]
          rfl
         refine two_ (i := 0) (j := 3) (Ni := some 3) (Nj := some 6) #[true, true, true, false, false, false] #[false, true, true, true, false, false] rfl rfl rfl rfl (by kernel_rfl) (by decide) (by decide) (fun K hK => ?_) (fun K hK => ?_)
         ·skip
          refine Kd.R_make_step k83 _ 83 (by rfl) (N := 3) rfl 58 _ _ rfl 6 rfl rfl Try.underlying58 (.agg #[(.bool false), (.int .i64 0), (.bool false)]) 24 info83 rfl (by decide) (by omega) z83 (ok := fun _ => True) (okp := fun _ => True) (k83_mkM _ _ _ z83 ) (fun _ hk => hk) trivial (by omega) (by omega) (Below.refl _ _) (Nat.le_refl _) ?_
          intro v187 w9 ho10 hb hg_ hnew_
          clear hg_ hnew_
          (first | rw [← Ny186.out] at ho10 | (simp only [Int.reduceToNat] at ho10; rw [← Ny186.out] at ho10))
          have n0_ := Az.mk (Kd.Sb_ (by (with_reducible repeat (first | apply Kd.Sa_ | apply Kd.Sn_ | apply Kd.Sw_)); exact HO191.out) hb)
          have n1_ := Az.mk (Kd.Rl_ ho10 (Yz (by repeat (first | (with_reducible first | exact HB.out | apply Ya | apply Yn | apply Yw | refine Ys ?_ GE185.out) | exact HB.out))))
          have n2_ := Az.mk (Zb (g := gb185) (o := .cells #[.slice none 0 0, .slice none 0 0, .slice none 0 0] 61 (0, 0)) (by (with_reducible repeat (first | refine Zn ?_ _ | refine Zw ?_ | refine Za ?_ _)); exact BK185.out) hb)
          have n3_ := Az.mk (Yt (by repeat (first | (with_reducible first | exact HB.out | apply Ya | apply Yn | apply Yw | refine Ys ?_ GE185.out) | exact HB.out)) hb)
          clear HO191
          clear BK185
          clear HB
          have HO191 := n0_
          have HO188 := n1_
          have BK185 := n2_
          have HB := n3_
          clear n0_ n1_ n2_ n3_
          clear hb ho10
          refine hK.out _ _ trivial (fun hHeld => ?_)
          clear hK K
          refine norm_ (a' := ?_) ?_ ?_
          rotate_left
          ·show Act.put _ (some 3) _ = _
           simp only [Act.put, List.setIfInBounds_toArray, List.set_cons_zero, List.set_cons_succ, i64_w, i32_w]
           rfl
          exact norm_ (by first | (simp only [putAll, Act.put, List.setIfInBounds_toArray, List.set_cons_zero, List.set_cons_succ]; done) | (simp only [putAll, Act.put, List.setIfInBounds_toArray, List.set_cons_zero, List.set_cons_succ]; rfl)) (hJ0_2 (v187, v190) _ ⟨(by (with_reducible repeat (first | apply Kd.Ra_ | apply Kd.Rn_ | apply Kd.Rw_)); exact HO188.out), (by (with_reducible repeat (first | apply Kd.Sa_ | apply Kd.Sn_ | apply Kd.Sw_)); exact HO191.out), (by (with_reducible repeat (first | refine Zn ?_ _ | refine Zw ?_ | refine Za ?_ _)); exact BK185.out), (by repeat (first | (with_reducible first | exact HB.out | apply Ya | apply Yn | apply Yw | refine Ys ?_ GE185.out) | exact HB.out))⟩)
         ·skip
          refine Kd.R_make_step k86 _ 86 (by rfl) (N := 6) rfl 59 _ _ rfl 6 rfl rfl Try.underlying59 (.agg #[(.bool false), (.int .i64 0), (.int .i64 0), (.bool false)]) 32 info86 rfl (by decide) (by omega) z86 (ok := fun _ => True) (okp := fun _ => True) (k86_mkM _ _ _ z86 ) (fun _ hk => hk) trivial (by omega) (by omega) (Below.refl _ _) (Nat.le_refl _) ?_
          intro v193 w9 ho10 hb hg_ hnew_
          clear hg_ hnew_
          (first | rw [← Ny192.out] at ho10 | (simp only [Int.reduceToNat] at ho10; rw [← Ny192.out] at ho10))
          have n0_ := Az.mk (Kd.Sb_ (by (with_reducible repeat (first | apply Kd.Sa_ | apply Kd.Sn_ | apply Kd.Sw_)); exact HO191.out) hb)
          have n1_ := Az.mk (Kd.Rl_ ho10 (Yz (by repeat (first | (with_reducible first | exact HB.out | apply Ya | apply Yn | apply Yw | refine Ys ?_ GE185.out) | exact HB.out))))
          have n2_ := Az.mk (Zb (g := gb185) (o := .cells #[.slice none 0 0, .slice none 0 0, .slice none 0 0] 61 (0, 0)) (by (with_reducible repeat (first | refine Zn ?_ _ | refine Zw ?_ | refine Za ?_ _)); exact BK185.out) hb)
          have n3_ := Az.mk (Yt (by repeat (first | (with_reducible first | exact HB.out | apply Ya | apply Yn | apply Yw | refine Ys ?_ GE185.out) | exact HB.out)) hb)
          clear HO191
          clear BK185
          clear HB
          have HO191 := n0_
          have HO194 := n1_
          have BK185 := n2_
          have HB := n3_
          clear n0_ n1_ n2_ n3_
          clear hb ho10
          refine hK.out _ _ trivial (fun hHeld => ?_)
          clear hK K
          refine norm_ (a' := ?_) ?_ ?_
          rotate_left
          ·show Act.put _ (some 6) _ = _
           simp only [Act.put, List.setIfInBounds_toArray, List.set_cons_zero, List.set_cons_succ, i64_w, i32_w]
           rfl
          exact norm_ (by first | (simp only [putAll, Act.put, List.setIfInBounds_toArray, List.set_cons_zero, List.set_cons_succ]; done) | (simp only [putAll, Act.put, List.setIfInBounds_toArray, List.set_cons_zero, List.set_cons_succ]; rfl)) (hJ2_3 (v190, v193) _ ⟨(by (with_reducible repeat (first | apply Kd.Sa_ | apply Kd.Sn_ | apply Kd.Sw_)); exact HO191.out), (by (with_reducible repeat (first | apply Kd.Ra_ | apply Kd.Rn_ | apply Kd.Rw_)); exact HO194.out), (by (with_reducible repeat (first | refine Zn ?_ _ | refine Zw ?_ | refine Za ?_ _)); exact BK185.out), (by repeat (first | (with_reducible first | exact HB.out | apply Ya | apply Yn | apply Yw | refine Ys ?_ GE185.out) | exact HB.out))⟩)
       ·skip
        rintro v187 w9 ⟨h0_, h1_, h2_⟩
        have n0_ : Az (Kd.R k83 83 w9 w.heap.size (fun _ => True) v187 y186) := ⟨h0_⟩
        have n1_ : Az (w9.heap[gb185]? = some (.cells #[.slice none 0 0, .slice none 0 0, .slice none 0 0] 61 (0, 0))) := ⟨h1_⟩
        have n2_ : Az (Below w.heap.size w w9) := ⟨h2_⟩
        clear BK185
        clear HB
        clear h0_ h1_ h2_
        have HO188 := n0_
        have BK185 := n1_
        have HB := n2_
        clear n0_ n1_ n2_
        have hHeld := trivial
        refine norm_ (a' := ?_) ?_ ?_
        rotate_left
        ·simp only [putAll, Act.put, List.setIfInBounds_toArray, List.set_cons_zero, List.set_cons_succ]
         rfl
        refine two_ (i := 2) (j := 3) (Ni := some 5) (Nj := some 6) #[true, true, true, false, false, false] #[true, true, false, true, false, false] rfl rfl rfl rfl (by kernel_rfl) (by decide) (by decide) (fun K hK => ?_) (fun K hK => ?_)
        ·skip
         refine goes_ Try.func55 (by kernel_rfl) rfl #[.slice A0 l0.length c0] (by rfl) rfl rfl (by (try simp only [List.map_toArray, List.map_cons, List.map_nil]); first | done | rfl | (simp only [List.length_drop, List.length_take]; rfl)) ?_
         with_reducible refine (spec_l2Copy.calls k _ _ l0 t189 _ ?side1 ?side2 A3.out).mono ?_
         (case side1 => repeat (first | exact (Kd.Cb_ HR0.out HB.out) | exact HR0.out | (with_reducible refine Kd.Ca_ ?_ _) | (with_reducible refine Kd.Cn_ ?_ _) | (with_reducible refine Kd.Cw_ ?_)))
         (case side2 => exact HC0.out)
         rintro e w10 ⟨v190, rfl, ho0, hb⟩
         refine ⟨_, rfl, ?_⟩
         have n0_ := Az.mk (Kd.Rb_ (by (with_reducible repeat (first | apply Kd.Ra_ | apply Kd.Rn_ | apply Kd.Rw_)); exact HO188.out) hb)
         have n1_ := Az.mk (Kd.Sl_ ho0 (Yz (by repeat (first | (with_reducible first | exact HB.out | apply Ya | apply Yn | apply Yw | refine Ys ?_ GE185.out) | exact HB.out))))
         have n2_ := Az.mk (Zb (g := gb185) (o := .cells #[.slice none 0 0, .slice none 0 0, .slice none 0 0] 61 (0, 0)) (by (with_reducible repeat (first | refine Zn ?_ _ | refine Zw ?_ | refine Za ?_ _)); exact BK185.out) hb)
         have n3_ := Az.mk (Yt (by repeat (first | (with_reducible first | exact HB.out | apply Ya | apply Yn | apply Yw | refine Ys ?_ GE185.out) | exact HB.out)) hb)
         clear HO188
         clear BK185
         clear HB
         have HO188 := n0_
         have HO191 := n1_
         have BK185 := n2_
         have HB := n3_
         clear n0_ n1_ n2_ n3_
         (try clear hb)
         (try clear hb2)
         (try clear hk)
         (try clear hi)
         (try clear ho0)
         refine hK.out _ _ trivial (fun hHeld => ?_)
         clear hK K
         refine norm_ (a' := ?_) ?_ ?_
         rotate_left
         ·show Act.put _ (some 5) _ = _
          simp only [Act.put, List.setIfInBounds_toArray, List.set_cons_zero, List.set_cons_succ, i64_w, i32_w]
          rfl
         exact norm_ (by first | (simp only [putAll, Act.put, List.setIfInBounds_toArray, List.set_cons_zero, List.set_cons_succ]; done) | (simp only [putAll, Act.put, List.setIfInBounds_toArray, List.set_cons_zero, List.set_cons_succ]; rfl)) (hJ0_2 (v187, v190) _ ⟨(by (with_reducible repeat (first | apply Kd.Ra_ | apply Kd.Rn_ | apply Kd.Rw_)); exact HO188.out), (by (with_reducible repeat (first | apply Kd.Sa_ | apply Kd.Sn_ | apply Kd.Sw_)); exact HO191.out), (by (with_reducible repeat (first | refine Zn ?_ _ | refine Zw ?_ | refine Za ?_ _)); exact BK185.out), (by repeat (first | (with_reducible first | exact HB.out | apply Ya | apply Yn | apply Yw | refine Ys ?_ GE185.out) | exact HB.out))⟩)
        ·skip
         refine Kd.R_make_step k86 _ 86 (by rfl) (N := 6) rfl 59 _ _ rfl 6 rfl rfl Try.underlying59 (.agg #[(.bool false), (.int .i64 0), (.int .i64 0), (.bool false)]) 32 info86 rfl (by decide) (by omega) z86 (ok := fun _ => True) (okp := fun _ => True) (k86_mkM _ _ _ z86 ) (fun _ hk => hk) trivial (by omega) (by omega) (Below.refl _ _) (Nat.le_refl _) ?_
         intro v193 w10 ho11 hb hg_ hnew_
         clear hg_ hnew_
         (first | rw [← Ny192.out] at ho11 | (simp only [Int.reduceToNat] at ho11; rw [← Ny192.out] at ho11))
         have n0_ := Az.mk (Kd.Rb_ (by (with_reducible repeat (first | apply Kd.Ra_ | apply Kd.Rn_ | apply Kd.Rw_)); exact HO188.out) hb)
         have n1_ := Az.mk (Kd.Rl_ ho11 (Yz (by repeat (first | (with_reducible first | exact HB.out | apply Ya | apply Yn | apply Yw | refine Ys ?_ GE185.out) | exact HB.out))))
         have n2_ := Az.mk (Zb (g := gb185) (o := .cells #[.slice none 0 0, .slice none 0 0, .slice none 0 0] 61 (0, 0)) (by (with_reducible repeat (first | refine Zn ?_ _ | refine Zw ?_ | refine Za ?_ _)); exact BK185.out) hb)
         have n3_ := Az.mk (Yt (by repeat (first | (with_reducible first | exact HB.out | apply Ya | apply Yn | apply Yw | refine Ys ?_ GE185.out) | exact HB.out)) hb)
         clear HO188
         clear BK185
         clear HB
         have HO188 := n0_
         have HO194 := n1_
         have BK185 := n2_
         have HB := n3_
         clear n0_ n1_ n2_ n3_
         clear hb ho11
         refine hK.out _ _ trivial (fun hHeld => ?_)
         clear hK K
         refine norm_ (a' := ?_) ?_ ?_
         rotate_left
         ·show Act.put _ (some 6) _ = _
          simp only [Act.put, List.setIfInBounds_toArray, List.set_cons_zero, List.set_cons_succ, i64_w, i32_w]
          rfl
         exact norm_ (by first | (simp only [putAll, Act.put, List.setIfInBounds_toArray, List.set_cons_zero, List.set_cons_succ]; done) | (simp only [putAll, Act.put, List.setIfInBounds_toArray, List.set_cons_zero, List.set_cons_succ]; rfl)) (hJ0_3 (v187, v193) _ ⟨(by (with_reducible repeat (first | apply Kd.Ra_ | apply Kd.Rn_ | apply Kd.Rw_)); exact HO188.out), (by (with_reducible repeat (first | apply Kd.Ra_ | apply Kd.Rn_ | apply Kd.Rw_)); exact HO194.out), (by (with_reducible repeat (first | refine Zn ?_ _ | refine Zw ?_ | refine Za ?_ _)); exact BK185.out), (by repeat (first | (with_reducible first | exact HB.out | apply Ya | apply Yn | apply Yw | refine Ys ?_ GE185.out) | exact HB.out))⟩)
      ·skip
       rintro ⟨v190, v193⟩ w10 ⟨h0_, h1_, h2_, h3_⟩
       have n0_ : Az (Kd.S (Kd.slice 3 (Kd.int .i64)) 45 w10 w.heap.size (fun _ => True) v190 t189) := ⟨h0_⟩
       have n1_ : Az (Kd.R k86 86 w10 w.heap.size (fun _ => True) v193 y192) := ⟨h1_⟩
       have n2_ : Az (w10.heap[gb185]? = some (.cells #[.slice none 0 0, .slice none 0 0, .slice none 0 0] 61 (0, 0))) := ⟨h2_⟩
       have n3_ : Az (Below w.heap.size w w10) := ⟨h3_⟩
       clear BK185
       clear HB
       clear h0_ h1_ h2_ h3_
       have HO191 := n0_
       have HO194 := n1_
       have BK185 := n2_
       have HB := n3_
       clear n0_ n1_ n2_ n3_
       have hHeld := trivial
       refine norm_ (a' := ?_) ?_ ?_
       rotate_left
       ·simp only [putAll, Act.put, List.setIfInBounds_toArray, List.set_cons_zero, List.set_cons_succ]
        rfl
       refine one_ (i := 0) (N := some 3) #[true, true, true, true, false, false] rfl rfl (by kernel_rfl) (by decide) (fun K hK => ?_)
       refine Kd.R_make_step k83 _ 83 (by rfl) (N := 3) rfl 58 _ _ rfl 6 rfl rfl Try.underlying58 (.agg #[(.bool false), (.int .i64 0), (.bool false)]) 24 info83 rfl (by decide) (by omega) z83 (ok := fun _ => True) (okp := fun _ => True) (k83_mkM _ _ _ z83 ) (fun _ hk => hk) trivial (by omega) (by omega) (Below.refl _ _) (Nat.le_refl _) ?_
       intro v187 w11 ho12 hb hg_ hnew_
       clear hg_ hnew_
       (first | rw [← Ny186.out] at ho12 | (simp only [Int.reduceToNat] at ho12; rw [← Ny186.out] at ho12))
       have n0_ := Az.mk (Kd.Sb_ (by (with_reducible repeat (first | apply Kd.Sa_ | apply Kd.Sn_ | apply Kd.Sw_)); exact HO191.out) hb)
       have n1_ := Az.mk (Kd.Rb_ (by (with_reducible repeat (first | apply Kd.Ra_ | apply Kd.Rn_ | apply Kd.Rw_)); exact HO194.out) hb)
       have n2_ := Az.mk (Kd.Rl_ ho12 (Yz (by repeat (first | (with_reducible first | exact HB.out | apply Ya | apply Yn | apply Yw | refine Ys ?_ GE185.out) | exact HB.out))))
       have n3_ := Az.mk (Zb (g := gb185) (o := .cells #[.slice none 0 0, .slice none 0 0, .slice none 0 0] 61 (0, 0)) (by (with_reducible repeat (first | refine Zn ?_ _ | refine Zw ?_ | refine Za ?_ _)); exact BK185.out) hb)
       have n4_ := Az.mk (Yt (by repeat (first | (with_reducible first | exact HB.out | apply Ya | apply Yn | apply Yw | refine Ys ?_ GE185.out) | exact HB.out)) hb)
       clear HO191
       clear HO194
       clear BK185
       clear HB
       have HO191 := n0_
       have HO194 := n1_
       have HO188 := n2_
       have BK185 := n3_
       have HB := n4_
       clear n0_ n1_ n2_ n3_ n4_
       clear hb ho12
       obtain ⟨Ao13, co13, eo13⟩ := Kd.Rs_ HO194.out
       (first | subst eo13 | (injection eo13 with f1_ f2_ f3_; have f4_ := f1_.symm; have f5_ := f3_.symm; clear f1_ f2_ f3_; subst f4_; subst f5_))
       obtain ⟨Ao14, co14, eo14⟩ := Kd.Ss_ HO191.out
       (first | subst eo14 | (injection eo14 with f1_ f2_ f3_; have f4_ := f1_.symm; have f5_ := f3_.symm; clear f1_ f2_ f3_; subst f4_; subst f5_))
       obtain ⟨Ao15, co15, eo15⟩ := Kd.Rs_ HO188.out
       (first | subst eo15 | (injection eo15 with f1_ f2_ f3_; have f4_ := f1_.symm; have f5_ := f3_.symm; clear f1_ f2_ f3_; subst f4_; subst f5_))
       refine hK.out _ _ trivial (fun hHeld => ?_)
       clear hK K
       refine norm_ (a' := ?_) ?_ ?_
       rotate_left
       ·show Act.put _ (some 3) _ = _
        simp only [Act.put, List.setIfInBounds_toArray, List.set_cons_zero, List.set_cons_succ, i64_w, i32_w]
        rfl
       exact norm_ (by first | (simp only [putAll, Act.put, List.setIfInBounds_toArray, List.set_cons_zero, List.set_cons_succ]; done) | (simp only [putAll, Act.put, List.setIfInBounds_toArray, List.set_cons_zero, List.set_cons_succ]; rfl)) (hJ0_2_3 (.slice Ao15 y186.length co15, .slice Ao14 t189.length co14, .slice Ao13 y192.length co13) _ ⟨(by (with_reducible repeat (first | apply Kd.Ra_ | apply Kd.Rn_ | apply Kd.Rw_)); exact HO188.out), (by (with_reducible repeat (first | apply Kd.Sa_ | apply Kd.Sn_ | apply Kd.Sw_)); exact HO191.out), (by (with_reducible repeat (first | apply Kd.Ra_ | apply Kd.Rn_ | apply Kd.Rw_)); exact HO194.out), (by (with_reducible repeat (first | refine Zn ?_ _ | refine Zw ?_ | refine Za ?_ _)); exact BK185.out), (by repeat (first | (with_reducible first | exact HB.out | apply Ya | apply Yn | apply Yw | refine Ys ?_ GE185.out) | exact HB.out))⟩)
     ·skip
      rintro ⟨v187, v193⟩ w11 ⟨h0_, h1_, h2_, h3_⟩
      have n0_ : Az (Kd.R k83 83 w11 w.heap.size (fun _ => True) v187 y186) := ⟨h0_⟩
      have n1_ : Az (Kd.R k86 86 w11 w.heap.size (fun _ => True) v193 y192) := ⟨h1_⟩
      have n2_ : Az (w11.heap[gb185]? = some (.cells #[.slice none 0 0, .slice none 0 0, .slice none 0 0] 61 (0, 0))) := ⟨h2_⟩
      have n3_ : Az (Below w.heap.size w w11) := ⟨h3_⟩
      clear BK185
      clear HB
      clear h0_ h1_ h2_ h3_
      have HO188 := n0_
      have HO194 := n1_
      have BK185 := n2_
      have HB := n3_
      clear n0_ n1_ n2_ n3_
      have hHeld := trivial
      refine norm_ (a' := ?_) ?_ ?_
      rotate_left
      ·simp only [putAll, Act.put, List.setIfInBounds_toArray, List.set_cons_zero, List.set_cons_succ]
       rfl
      refine one_ (i := 2) (N := some 5) #[true, true, true, true, false, false] rfl rfl (by kernel_rfl) (by decide) (fun K hK => ?_)
      refine goes_ Try.func55 (by kernel_rfl) rfl #[.slice A0 l0.length c0] (by rfl) rfl rfl (by (try simp only [List.map_toArray, List.map_cons, List.map_nil]); first | done | rfl | (simp only [List.length_drop, List.length_take]; rfl)) ?_
      with_reducible refine (spec_l2Copy.calls k _ _ l0 t189 _ ?side1 ?side2 A3.out).mono ?_
      (case side1 => repeat (first | exact (Kd.Cb_ HR0.out HB.out) | exact HR0.out | (with_reducible refine Kd.Ca_ ?_ _) | (with_reducible refine Kd.Cn_ ?_ _) | (with_reducible refine Kd.Cw_ ?_)))
      (case side2 => exact HC0.out)
      rintro e w12 ⟨v190, rfl, ho0, hb⟩
      refine ⟨_, rfl, ?_⟩
      have n0_ := Az.mk (Kd.Rb_ (by (with_reducible repeat (first | apply Kd.Ra_ | apply Kd.Rn_ | apply Kd.Rw_)); exact HO188.out) hb)
      have n1_ := Az.mk (Kd.Rb_ (by (with_reducible repeat (first | apply Kd.Ra_ | apply Kd.Rn_ | apply Kd.Rw_)); exact HO194.out) hb)
      have n2_ := Az.mk (Kd.Sl_ ho0 (Yz (by repeat (first | (with_reducible first | exact HB.out | apply Ya | apply Yn | apply Yw | refine Ys ?_ GE185.out) | exact HB.out))))
      have n3_ := Az.mk (Zb (g := gb185) (o := .cells #[.slice none 0 0, .slice none 0 0, .slice none 0 0] 61 (0, 0)) (by (with_reducible repeat (first | refine Zn ?_ _ | refine Zw ?_ | refine Za ?_ _)); exact BK185.out) hb)
      have n4_ := Az.mk (Yt (by repeat (first | (with_reducible first | exact HB.out | apply Ya | apply Yn | apply Yw | refine Ys ?_ GE185.out) | exact HB.out)) hb)
      clear HO188
      clear HO194
      clear BK185
      clear HB
      have HO188 := n0_
      have HO194 := n1_
      have HO191 := n2_
      have BK185 := n3_
      have HB := n4_
      clear n0_ n1_ n2_ n3_ n4_
      (try clear hb)
      (try clear hb2)
      (try clear hk)
      (try clear hi)
      (try clear ho0)
      obtain ⟨Ao13, co13, eo13⟩ := Kd.Rs_ HO194.out
      (first | subst eo13 | (injection eo13 with f1_ f2_ f3_; have f4_ := f1_.symm; have f5_ := f3_.symm; clear f1_ f2_ f3_; subst f4_; subst f5_))
      obtain ⟨Ao14, co14, eo14⟩ := Kd.Ss_ HO191.out
      (first | subst eo14 | (injection eo14 with f1_ f2_ f3_; have f4_ := f1_.symm; have f5_ := f3_.symm; clear f1_ f2_ f3_; subst f4_; subst f5_))
      obtain ⟨Ao15, co15, eo15⟩ := Kd.Rs_ HO188.out
      (first | subst eo15 | (injection eo15 with f1_ f2_ f3_; have f4_ := f1_.symm; have f5_ := f3_.symm; clear f1_ f2_ f3_; subst f4_; subst f5_))
      refine hK.out _ _ trivial (fun hHeld => ?_)
      clear hK K
      refine norm_ (a' := ?_) ?_ ?_
      rotate_left
      ·show Act.put _ (some 5) _ = _
       simp only [Act.put, List.setIfInBounds_toArray, List.set_cons_zero, List.set_cons_succ, i64_w, i32_w]
       rfl
      exact norm_ (by first | (simp only [putAll, Act.put, List.setIfInBounds_toArray, List.set_cons_zero, List.set_cons_succ]; done) | (simp only [putAll, Act.put, List.setIfInBounds_toArray, List.set_cons_zero, List.set_cons_succ]; rfl)) (hJ0_2_3 (.slice Ao15 y186.length co15, .slice Ao14 t189.length co14, .slice Ao13 y192.length co13) _ ⟨(by (with_reducible repeat (first | apply Kd.Ra_ | apply Kd.Rn_ | apply Kd.Rw_)); exact HO188.out), (by (with_reducible repeat (first | apply Kd.Sa_ | apply Kd.Sn_ | apply Kd.Sw_)); exact HO191.out), (by (with_reducible repeat (first | apply Kd.Ra_ | apply Kd.Rn_ | apply Kd.Rw_)); exact HO194.out), (by (with_reducible repeat (first | refine Zn ?_ _ | refine Zw ?_ | refine Za ?_ _)); exact BK185.out), (by repeat (first | (with_reducible first | exact HB.out | apply Ya | apply Yn | apply Yw | refine Ys ?_ GE185.out) | exact HB.out))⟩)
    ·skip
     rintro ⟨v187, v190⟩ w10 ⟨h0_, h1_, h2_, h3_⟩
     have n0_ : Az (Kd.R k83 83 w10 w.heap.size (fun _ => True) v187 y186) := ⟨h0_⟩
     have n1_ : Az (Kd.S (Kd.slice 3 (Kd.int .i64)) 45 w10 w.heap.size (fun _ => True) v190 t189) := ⟨h1_⟩
     have n2_ : Az (w10.heap[gb185]? = some (.cells #[.slice none 0 0, .slice none 0 0, .slice none 0 0] 61 (0, 0))) := ⟨h2_⟩
     have n3_ : Az (Below w.heap.size w w10) := ⟨h3_⟩
     clear BK185
     clear HB
     clear h0_ h1_ h2_ h3_
     have HO188 := n0_
     have HO191 := n1_
     have BK185 := n2_
     have HB := n3_
     clear n0_ n1_ n2_ n3_
     have hHeld := trivial
     refine norm_ (a' := ?_) ?_ ?_
     rotate_left
     ·simp only [putAll, Act.put, List.setIfInBounds_toArray, List.set_cons_zero, List.set_cons_succ]
      rfl
     refine one_ (i := 3) (N := some 6) #[true, true, true, true, false, false] rfl rfl (by kernel_rfl) (by decide) (fun K hK => ?_)
     refine Kd.R_make_step k86 _ 86 (by rfl) (N := 6) rfl 59 _ _ rfl 6 rfl rfl Try.underlying59 (.agg #[(.bool false), (.int .i64 0), (.int .i64 0), (.bool false)]) 32 info86 rfl (by decide) (by omega) z86 (ok := fun _ => True) (okp := fun _ => True) (k86_mkM _ _ _ z86 ) (fun _ hk => hk) trivial (by omega) (by omega) (Below.refl _ _) (Nat.le_refl _) ?_
     intro v193 w11 ho12 hb hg_ hnew_
     clear hg_ hnew_
     (first | rw [← Ny192.out] at ho12 | (simp only [Int.reduceToNat] at ho12; rw [← Ny192.out] at ho12))
     have n0_ := Az.mk (Kd.Rb_ (by (with_reducible repeat (first | apply Kd.Ra_ | apply Kd.Rn_ | apply Kd.Rw_)); exact HO188.out) hb)
     have n1_ := Az.mk (Kd.Sb_ (by (with_reducible repeat (first | apply Kd.Sa_ | apply Kd.Sn_ | apply Kd.Sw_)); exact HO191.out) hb)
     have n2_ := Az.mk (Kd.Rl_ ho12 (Yz (by repeat (first | (with_reducible first | exact HB.out | apply Ya | apply Yn | apply Yw | refine Ys ?_ GE185.out) | exact HB.out))))
     have n3_ := Az.mk (Zb (g := gb185) (o := .cells #[.slice none 0 0, .slice none 0 0, .slice none 0 0] 61 (0, 0)) (by (with_reducible repeat (first | refine Zn ?_ _ | refine Zw ?_ | refine Za ?_ _)); exact BK185.out) hb)
     have n4_ := Az.mk (Yt (by repeat (first | (with_reducible first | exact HB.out | apply Ya | apply Yn | apply Yw | refine Ys ?_ GE185.out) | exact HB.out)) hb)
     clear HO188
     clear HO191
     clear BK185
     clear HB
     have HO188 := n0_
     have HO191 := n1_
     have HO194 := n2_
     have BK185 := n3_
     have HB := n4_
     clear n0_ n1_ n2_ n3_ n4_
     clear hb ho12
     obtain ⟨Ao13, co13, eo13⟩ := Kd.Rs_ HO194.out
     (first | subst eo13 | (injection eo13 with f1_ f2_ f3_; have f4_ := f1_.symm; have f5_ := f3_.symm; clear f1_ f2_ f3_; subst f4_; subst f5_))
     obtain ⟨Ao14, co14, eo14⟩ := Kd.Ss_ HO191.out
     (first | subst eo14 | (injection eo14 with f1_ f2_ f3_; have f4_ := f1_.symm; have f5_ := f3_.symm; clear f1_ f2_ f3_; subst f4_; subst f5_))
     obtain ⟨Ao15, co15, eo15⟩ := Kd.Rs_ HO188.out
     (first | subst eo15 | (injection eo15 with f1_ f2_ f3_; have f4_ := f1_.symm; have f5_ := f3_.symm; clear f1_ f2_ f3_; subst f4_; subst f5_))
     refine hK.out _ _ trivial (fun hHeld => ?_)
     clear hK K
     refine norm_ (a' := ?_) ?_ ?_
     rotate_left
     ·show Act.put _ (some 6) _ = _
      simp only [Act.put, List.setIfInBounds_toArray, List.set_cons_zero, List.set_cons_succ, i64_w, i32_w]
      rfl
     exact norm_ (by first | (simp only [putAll, Act.put, List.setIfInBounds_toArray, List.set_cons_zero, List.set_cons_succ]; done) | (simp only [putAll, Act.put, List.setIfInBounds_toArray, List.set_cons_zero, List.set_cons_succ]; rfl)) (hJ0_2_3 (.slice Ao15 y186.length co15, .slice Ao14 t189.length co14, .slice Ao13 y192.length co13) _ ⟨(by (with_reducible repeat (first | apply Kd.Ra_ | apply Kd.Rn_ | apply Kd.Rw_)); exact HO188.out), (by (with_reducible repeat (first | apply Kd.Sa_ | apply Kd.Sn_ | apply Kd.Sw_)); exact HO191.out), (by (with_reducible repeat (first | apply Kd.Ra_ | apply Kd.Rn_ | apply Kd.Rw_)); exact HO194.out), (by (with_reducible repeat (first | refine Zn ?_ _ | refine Zw ?_ | refine Za ?_ _)); exact BK185.out), (by repeat (first | (with_reducible first | exact HB.out | apply Ya | apply Yn | apply Yw | refine Ys ?_ GE185.out) | exact HB.out))⟩)
   rintro ⟨v187, v190, v193⟩ w15 ⟨h0_, h1_, h2_, h3_, h4_⟩
   have n0_ : Az (Kd.R k83 83 w15 w.heap.size (fun _ => True) v187 y186) := ⟨h0_⟩
   have n1_ : Az (Kd.S (Kd.slice 3 (Kd.int .i64)) 45 w15 w.heap.size (fun _ => True) v190 t189) := ⟨h1_⟩
   have n2_ : Az (Kd.R k86 86 w15 w.heap.size (fun _ => True) v193 y192) := ⟨h2_⟩
   have n3_ : Az (w15.heap[gb185]? = some (.cells #[.slice none 0 0, .slice none 0 0, .slice none 0 0] 61 (0, 0))) := ⟨h3_⟩
   have n4_ : Az (Below w.heap.size w w15) := ⟨h4_⟩
   clear BK185
   clear HB
   clear h0_ h1_ h2_ h3_ h4_
   have HO188 := n0_
   have HO191 := n1_
   have HO194 := n2_
   have BK185 := n3_
   have HB := n4_
   clear n0_ n1_ n2_ n3_ n4_
   have hHeld := trivial
   obtain ⟨Ao16, co16, eo16⟩ := Kd.Rs_ HO194.out
   (first | subst eo16 | (injection eo16 with f1_ f2_ f3_; have f4_ := f1_.symm; have f5_ := f3_.symm; clear f1_ f2_ f3_; subst f4_; subst f5_))
   obtain ⟨Ao17, co17, eo17⟩ := Kd.Ss_ HO191.out
   (first | subst eo17 | (injection eo17 with f1_ f2_ f3_; have f4_ := f1_.symm; have f5_ := f3_.symm; clear f1_ f2_ f3_; subst f4_; subst f5_))
   obtain ⟨Ao18, co18, eo18⟩ := Kd.Rs_ HO188.out
   (first | subst eo18 | (injection eo18 with f1_ f2_ f3_; have f4_ := f1_.symm; have f5_ := f3_.symm; clear f1_ f2_ f3_; subst f4_; subst f5_))
   refine norm_ (a' := ?_) ?_ ?_
   rotate_left
   ·simp only [putAll, Act.put, List.setIfInBounds_toArray, List.set_cons_zero, List.set_cons_succ]
    rfl
   refine pure_ (i := 4) (N := some 7) (v := ?_) (a' := ?_) #[true, true, true, true, true, false] rfl rfl (by kernel_rfl) (fun _ _ _ h => h) (Or.inl ⟨by rfl, ?_⟩) ?_ ?_
   rotate_left
   ·intro w'
    go_simp
    with_reducible rfl
   rotate_left
   ·simp only [Act.put, List.setIfInBounds_toArray, List.set_cons_zero, List.set_cons_succ, i64_w, i32_w]
    rfl
   refine one_ (i := 5) (N := none) #[true, true, true, true, true, true] rfl rfl (by kernel_rfl) (by decide) (fun K hK => ?_)
   have hs19 : w15.cell? ⟨gb185, 0, none⟩ = some (.slice none 0 0) := (Zc BK185.out 0).trans rfl
   have hfs19 := Zf BK185.out 0
   have hs20 : w15.cell? ⟨gb185, 1, none⟩ = some (.slice none 0 0) := (Zc BK185.out 1).trans rfl
   have hfs20 := Zf BK185.out 1
   have hs21 : w15.cell? ⟨gb185, 2, none⟩ = some (.slice none 0 0) := (Zc BK185.out 2).trans rfl
   have hfs21 := Zf BK185.out 2
   refine skip_ (w1 := ?_) (by rfl) rfl ?_ ?_
   rotate_left
   ·go_simp
    rfl
   refine hK.out _ _ trivial (fun hHeld => ?_)
   clear hK K
   refine done_ (by kernel_rfl) ?_
   try go_wp2
   refine bodyPost_ret (results_cell_row rfl _ _ gb185 61 #[.slice Ao18 y186.length co18, .slice Ao17 t189.length co17, .slice Ao16 y192.length co16] (0, 0) _ rfl (by (with_reducible repeat (first | refine Zn ?_ _ | refine Zw ?_ | refine Za ?_ _)); refine Zp (cs := #[.slice Ao18 y186.length co18, .slice Ao17 t189.length co17, .slice none 0 0]) ?_ 2 _ rfl; (with_reducible repeat (first | refine Zn ?_ _ | refine Zw ?_ | refine Za ?_ _)); refine Zp (cs := #[.slice Ao18 y186.length co18, .slice none 0 0, .slice none 0 0]) ?_ 1 _ rfl; (with_reducible repeat (first | refine Zn ?_ _ | refine Zw ?_ | refine Za ?_ _)); refine Zp (cs := #[.slice none 0 0, .slice none 0 0, .slice none 0 0]) ?_ 0 _ rfl; (with_reducible repeat (first | refine Zn ?_ _ | refine Zw ?_ | refine Za ?_ _)); exact BK185.out) Try.underlying61 rfl (by kernel_rfl)) rfl ?_
   exact ⟨_, _, _, by first | rfl | (simp [errW_none, errW_some] <;> rfl) | (simp [*, errW_none, errW_some] <;> rfl), by (with_reducible repeat (first | apply Kd.Ra_ | apply Kd.Rn_ | apply Kd.Rw_)); exact Kd.Rm_ (Kd.Rf_ (p := ⟨gb185, 2, none⟩) (Kd.Rf_ (p := ⟨gb185, 1, none⟩) (Kd.Rf_ (p := ⟨gb185, 0, none⟩) (Kd.R_types HO188.out BK185.out (by decide)) (fun _ hk => hk.2) (.slice Ao18 y186.length co18)) (fun _ hk => hk.2) (.slice Ao17 t189.length co17)) (fun _ hk => hk.2) (.slice Ao16 y192.length co16)) (fun _ hk => trivial), by (with_reducible repeat (first | apply Kd.Sa_ | apply Kd.Sn_ | apply Kd.Sw_)); exact Kd.Sm_ (Kd.Sf_ (p := ⟨gb185, 2, none⟩) (Kd.Sf_ (p := ⟨gb185, 1, none⟩) (Kd.Sf_ (p := ⟨gb185, 0, none⟩) (Kd.S_types HO191.out BK185.out (by decide)) (fun _ hk => hk.2) (.slice Ao18 y186.length co18)) (fun _ hk => hk.2) (.slice Ao17 t189.length co17)) (fun _ hk => hk.2) (.slice Ao16 y192.length co16)) (fun _ hk => trivial), by (with_reducible repeat (first | apply Kd.Ra_ | apply Kd.Rn_ | apply Kd.Rw_)); exact Kd.Rm_ (Kd.Rf_ (p := ⟨gb185, 2, none⟩) (Kd.Rf_ (p := ⟨gb185, 1, none⟩) (Kd.Rf_ (p := ⟨gb185, 0, none⟩) (Kd.R_types HO194.out BK185.out (by decide)) (fun _ hk => hk.2) (.slice Ao18 y186.length co18)) (fun _ hk => hk.2) (.slice Ao17 t189.length co17)) (fun _ hk => hk.2) (.slice Ao16 y192.length co16)) (fun _ hk => trivial), by repeat (first | (with_reducible first | exact HB.out | apply Ya | apply Yn | apply Yw | refine Ys ?_ GE185.out) | exact HB.out)⟩
  ·rw [if_neg c4] at H
   exact absurd H (by simp)
 ·rw [if_neg c2] at H
  exact absurd H (by simp)

end Go.Proofs.Ytjgcfpclddfifaa.QFnExactHostLoad
