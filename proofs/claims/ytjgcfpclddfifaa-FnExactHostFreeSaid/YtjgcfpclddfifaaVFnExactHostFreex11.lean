/- Walks of this claim: each Go function that the law reaches comes to what the Lean function beside it says. Conditions: none beyond those that each theorem names. -/
import Derived.Test.YtjgcfpclddfifaaVFnExactHostFreex0
import Derived.Test.YtjgcfpclddfifaaVFnExactHostFreex10
namespace Go.Proofs.Ytjgcfpclddfifaa.QFnExactHostFree
open Go.RowKit Go.Proofs.YtjgcfpclddfifaaW.PrintWords Go.Proofs.YtjgcfpclddfifaaW.PrintLast Go.Proofs.YtjgcfpclddfifaaW.PrintMore
attribute [local go_sem] max2_int min2_int max_two min_two max_three min_three max_four min_four   -- for this text's walks alone
set_option linter.unusedVariables false
set_option linter.unusedSimpArgs false

/-! ### laws_toGuestS: function 50 -/
def laws_toGuestS.l0 : Nat → List (S80) → List (S61) → Int → Option ((List (S61)))
 | 0, _, _, _ => none
 | k + 1, x0, x3, x4 => if x4 < (x0.length : Int) then (if 0 ≤ x4 then ((laws_toGuest.f k ((rd_T80 x0 x4).f0) ((rd_T80 x0 x4).f1) ((rd_T80 x0 x4).f2)).bind fun bt244 => (if x4 < (x3.length : Int) then (laws_toGuestS.l0 k x0 (x3.set (x4 : Int).toNat (⟨bt244.1, bt244.2.1, bt244.2.2⟩ : S61)) (wrap64 (x4 + 1))) else (none))) else (none)) else (some x3)
def laws_toGuestS.f (k : Nat) (l0 : List (S80)) : Option ((List (S61))) := if 0 ≤ (l0.length : Int) then (if ((l0.length : Int) : Int).toNat ≤ 3909374676536 then (laws_toGuestS.l0 k l0 (List.replicate ((l0.length : Int) : Int).toNat z61) 0) else (none)) else (none)
set_option maxHeartbeats 8000000 in
set_option maxRecDepth 100000 in
theorem laws_toGuestS.callsS (k : Nat) (A0 : Option Addr) (c0 : Nat) (l0 : List (S80)) (r : List (S61)) (w : World) (hr0 : Kd.C k80 w A0 l0.length l0) (hc0 : l0.length ≤ c0) (h : laws_toGuestS.f k l0 = some r) :
  Calls Try.prog 50 #[.slice A0 l0.length c0] w fun e w' => ∃ v0_ : Value, e = .returned (v0_) ∧ Kd.S k61s 61 w' w.heap.size (fun _ => True) v0_ r ∧ Below w.heap.size w w' := by
 have hu80 := Try.underlying80
 have hu61 := Try.underlying61
 have HR0 := Az.mk hr0
 have HC0 := Az.mk hc0
 clear hr0 hc0
 have HB := Az.mk (Below.refl w.heap.size w)
 have H : (if 0 ≤ (l0.length : Int) then (if ((l0.length : Int) : Int).toNat ≤ 3909374676536 then (laws_toGuestS.l0 k l0 (List.replicate ((l0.length : Int) : Int).toNat z61) 0) else (none)) else (none)) = some r := h
 clear h
 by_cases c2 : 0 ≤ (l0.length : Int)
 ·rw [if_pos c2] at H
  have c2b0 := eq_true c2
  have c2b1 : decide (0 ≤ (l0.length : Int)) = true := decide_eq_true c2
  clear c2
  by_cases c3 : ((l0.length : Int) : Int).toNat ≤ 3909374676536
  ·rw [if_pos c3] at H
   have c3b0 := eq_true c3
   have c3b1 : decide (((l0.length : Int) : Int).toNat ≤ 3909374676536) = true := decide_eq_true c3
   clear c3
   obtain ⟨y240, hy240⟩ : ∃ y_ : List (S61), y_ = (List.replicate ((l0.length : Int) : Int).toNat z61) := ⟨_, rfl⟩
   replace H : (laws_toGuestS.l0 k l0 y240 0) = some r := by first | (rw [hy240]; with_reducible exact H) | (have H2_ := (Option.bind_some _ _).symm.trans H; rw [hy240]; with_reducible exact H2_) | (have H2_ := (Option.bind_some _ _).symm.trans H; with_reducible exact H2_) | with_reducible exact H | (rw [hy240]; exact H) | exact H
   have Ny240 := Az.mk hy240
   clear hy240
   have H' := Az.mk H
   clear H
   go_enter Try.func50, Try.ntmps50
   go_wp2_with (first | ((with_reducible refine Yd (N := 7) rfl ?_); refine Kd.S_make k61s _ 61 rfl (N := 7) rfl 29 _ _ rfl (l0.length : Int) rfl rfl Try.underlying29 (.agg #[(.slice none 0 0), (.slice none 0 0), (.slice none 0 0)]) 72 info61 rfl (by decide) (by omega) z61 (ok := fun _ => True) (okp := fun _ => True) (k61s_mkM _ _ _ z61 (Kd.R_nil _ _ _ _ _) (Kd.S_nil _ _ _ _ _) (Kd.R_nil _ _ _ _ _)) (fun _ hk => hk) trivial (of_decide_eq_true (by first | (with_reducible assumption) | assumption)) (Nat.le_trans (Nat.mul_le_mul_right _ (of_decide_eq_true (by first | (with_reducible assumption) | assumption) : (l0.length : Int).toNat ≤ 3909374676536)) (by omega)) (Below.refl _ _) (Nat.le_refl _) ?_; intro v241 w4 ho5 hb hg_ hnew_; clear hg_ hnew_; (first | rw [← Ny240.out] at ho5 | (simp only [Int.reduceToNat] at ho5; rw [← Ny240.out] at ho5)); have hs_ := ho5; replace ho5 := k61s_R hs_; have nS_ := Az.mk (Kd.S_lower hs_ (Yz (by repeat (first | (with_reducible first | exact HB.out | apply Ya | apply Yn | apply Yw) | exact HB.out)))); clear hs_; have n0_ := Az.mk (Kd.Rl_ ho5 (Yz (by repeat (first | (with_reducible first | exact HB.out | apply Ya | apply Yn | apply Yw) | exact HB.out)))); have n1_ := Az.mk (Yt (by repeat (first | (with_reducible first | exact HB.out | apply Ya | apply Yn | apply Yw) | exact HB.out)) hb); clear HB; have HO242 := n0_; have HB := n1_; clear n0_ n1_; clear hb ho5; have HSs := nS_; clear nS_))
   go_loopg [4] k (fun kq v4 w' => ∃ (x3_1 : List (S61)) (x4_1 : Int), v4 = .int .i64 x4_1 ∧ Az (laws_toGuestS.l0 kq l0 x3_1 x4_1 = some r) ∧ Az (kq ≤ k) ∧ Az (Kd.R k61 61 w' w.heap.size (fun _ => True) v241 x3_1) ∧ Az (Below w.heap.size w w') ∧ Az (Kd.S k61s 61 w' w.heap.size (fun _ => True) v241 x3_1))
   case atStart => exact ⟨(y240), (0), (by first | rfl | (simp; done) | (simp [*]; done)), H', ⟨Nat.le_refl _⟩, ⟨by (with_reducible repeat (first | apply Kd.Ra_ | apply Kd.Rn_ | apply Kd.Rw_)); exact HO242.out⟩, ⟨by repeat (first | (with_reducible first | exact HB.out | apply Ya | apply Yn | apply Yw) | exact HB.out)⟩, ⟨by (with_reducible repeat (first | apply Kd.Sa_ | apply Kd.Sn_ | apply Kd.Sw_)); exact HSs.out⟩⟩
   case round =>
    clear H'
    try clear c2
    try clear c2b0
    try clear c2b1
    try clear p2
    try clear c3
    try clear c3b0
    try clear c3b1
    try clear c5
    obtain ⟨x3_1, x4_1, rfl, HA, HK1, HO_3, HB, HSs⟩ := hrel
    cases gk with
    | zero => exact absurd HA.out (by simp [laws_toGuestS.l0])
    | succ k1 =>
     have H := HA.out
     clear HA
     simp only [laws_toGuestS.l0] at H
     by_cases c6 : x4_1 < (l0.length : Int)
     ·rw [if_pos c6] at H
      have c6b0 : decide (x4_1 < (l0.length : Int)) = true := decide_eq_true c6
      clear c6
      by_cases c7 : 0 ≤ x4_1
      ·rw [if_pos c7] at H
       have c7b0 : decide (0 ≤ x4_1) = true := decide_eq_true c7
       clear c7
       replace H := Option.bind_eq_some_iff.mp H
       obtain ⟨⟨t244, t247, t250⟩, A80, H⟩ := H
       replace H : (if x4_1 < (x3_1.length : Int) then (laws_toGuestS.l0 k1 l0 (x3_1.set (x4_1 : Int).toNat (⟨t244, t247, t250⟩ : S61)) (wrap64 (x4_1 + 1))) else (none)) = some r := H
       have A8 := Az.mk A80
       clear A80
       by_cases c9 : x4_1 < (x3_1.length : Int)
       ·rw [if_pos c9] at H
        have c9b0 : decide (x4_1 < (x3_1.length : Int)) = true := decide_eq_true c9
        clear c9
        obtain ⟨y253, hy253⟩ : ∃ y_ : List (S61), y_ = (x3_1.set (x4_1 : Int).toNat (⟨t244, t247, t250⟩ : S61)) := ⟨_, rfl⟩
        replace H : (laws_toGuestS.l0 k1 l0 y253 (wrap64 (x4_1 + 1))) = some r := by first | (rw [hy253]; with_reducible exact H) | (have H2_ := (Option.bind_some _ _).symm.trans H; rw [hy253]; with_reducible exact H2_) | (have H2_ := (Option.bind_some _ _).symm.trans H; with_reducible exact H2_) | with_reducible exact H | (rw [hy253]; exact H) | exact H
        have Ny253 := Az.mk hy253
        clear hy253
        have H' := Az.mk H
        clear H
        have p243 : 0 ≤ (x4_1 : Int) := of_decide_eq_true (by first | (with_reducible assumption) | assumption)
        have q243 : x4_1 < (l0.length : Int) := of_decide_eq_true (by first | (with_reducible assumption) | assumption)
        obtain ⟨ad243, A243_0, c243_0, A243_1, c243_1, A243_2, c243_2, e243, hx243_0, hx243_1, hx243_2, hl243_0, hi243_0, hl243_1, hi243_1, hl243_2, hi243_2⟩ := at_T80 HR0.out x4_1 p243 q243
        cases e243
        replace hx243_0 := (HB.out.cell (World.block_lt_of_cell? w _ hx243_0)).trans hx243_0
        replace hx243_1 := (HB.out.cell (World.block_lt_of_cell? w _ hx243_1)).trans hx243_1
        replace hx243_2 := (HB.out.cell (World.block_lt_of_cell? w _ hx243_2)).trans hx243_2
        have HR243_0 := Az.mk hi243_0
        have HC243_0 := Az.mk hl243_0
        clear hi243_0 hl243_0
        have HR243_1 := Az.mk hi243_1
        have HC243_1 := Az.mk hl243_1
        clear hi243_1 hl243_1
        have HR243_2 := Az.mk hi243_2
        have HC243_2 := Az.mk hl243_2
        clear hi243_2 hl243_2
        replace p243 := eq_true p243
        replace q243 := eq_true q243
        go_wp2_with (first | ((with_reducible refine Yc (f := 65) rfl ?_); refine Yg (some 20) rfl rfl Try.func65 (by kernel_rfl) rfl #[.agg #[.slice A243_0 ((rd_T80 l0 x4_1).f0).length c243_0, .slice A243_1 ((rd_T80 l0 x4_1).f1).length c243_1, .slice A243_2 ((rd_T80 l0 x4_1).f2).length c243_2]] rfl (by (try simp only [List.map_toArray, List.map_cons, List.map_nil]); first | done | rfl | (simp only [List.length_drop, List.length_take]; rfl)) ?_; (with_reducible refine (laws_toGuest.calls k1 _ _ ((rd_T80 l0 x4_1).f0) _ _ ((rd_T80 l0 x4_1).f1) _ _ ((rd_T80 l0 x4_1).f2) t244 t247 t250 _ ?side1 ?side2 ?side3 ?side4 ?side5 ?side6 A8.out).mono ?_); (case side1 => repeat (first | exact (Kd.Cb_ HR243_0.out HB.out) | exact HR243_0.out | (with_reducible refine Kd.Ca_ ?_ _) | (with_reducible refine Kd.Cn_ ?_ _) | (with_reducible refine Kd.Cw_ ?_))); (case side2 => exact HC243_0.out); (case side3 => repeat (first | exact (Kd.Cb_ HR243_1.out HB.out) | exact HR243_1.out | (with_reducible refine Kd.Ca_ ?_ _) | (with_reducible refine Kd.Cn_ ?_ _) | (with_reducible refine Kd.Cw_ ?_))); (case side4 => exact HC243_1.out); (case side5 => repeat (first | exact (Kd.Cb_ HR243_2.out HB.out) | exact HR243_2.out | (with_reducible refine Kd.Ca_ ?_ _) | (with_reducible refine Kd.Cn_ ?_ _) | (with_reducible refine Kd.Cw_ ?_))); (case side6 => exact HC243_2.out); rintro e w11 ⟨v245, v248, v251, rfl, ho0, ho1, ho2, hb⟩; refine ⟨_, rfl, ?_⟩; obtain ⟨N_, hN_, hs_⟩ := S_oldN HSs.out hb; clear HSs; have HSs := Az.mk hs_; clear hs_; have hp0_ := Az.mk (Kd.Rl_ (Kd.Rm_ (ok' := fun k_ => N_ ≤ k_) (Kd.Rd_ ho0) (fun k_ hk => Nat.le_trans (Nat.le_of_eq hN_) hk.2.1)) (Yz (by repeat (first | (with_reducible first | exact HB.out | apply Ya | apply Yn | apply Yw) | exact HB.out)))); have hp1_ := Az.mk (Kd.S_lower (Kd.Sm_ (ok' := fun k_ => N_ ≤ k_) (Kd.S_bound ho1) (fun k_ hk => Nat.le_trans (Nat.le_of_eq hN_) hk.2.1)) (Yz (by repeat (first | (with_reducible first | exact HB.out | apply Ya | apply Yn | apply Yw) | exact HB.out)))); have hp2_ := Az.mk (Kd.Rl_ (Kd.Rm_ (ok' := fun k_ => N_ ≤ k_) (Kd.Rd_ ho2) (fun k_ hk => Nat.le_trans (Nat.le_of_eq hN_) hk.2.1)) (Yz (by repeat (first | (with_reducible first | exact HB.out | apply Ya | apply Yn | apply Yw) | exact HB.out)))); clear hN_; have n0_ := Az.mk (Kd.Rm_ (Kd.R_told (Kd.R_told (Kd.R_told (Kd.R_old (by (with_reducible repeat (first | apply Kd.Ra_ | apply Kd.Rn_ | apply Kd.Rw_)); exact HO_3.out) hb) (Kd.R_base ho0)) (Kd.S_base ho1)) (Kd.R_base ho2)) (fun _ h_ => h_.1)); have n1_ := Az.mk (Kd.Rl_ ho0 (Yz (by repeat (first | (with_reducible first | exact HB.out | apply Ya | apply Yn | apply Yw) | exact HB.out)))); have n2_ := Az.mk (Kd.S_lower ho1 (Yz (by repeat (first | (with_reducible first | exact HB.out | apply Ya | apply Yn | apply Yw) | exact HB.out)))); have n3_ := Az.mk (Kd.Rl_ ho2 (Yz (by repeat (first | (with_reducible first | exact HB.out | apply Ya | apply Yn | apply Yw) | exact HB.out)))); have n4_ := Az.mk (Yt (by repeat (first | (with_reducible first | exact HB.out | apply Ya | apply Yn | apply Yw) | exact HB.out)) hb); clear HO_3; clear HB; have HO_3 := n0_; have HO246 := n1_; have HO249 := n2_; have HO252 := n3_; have HB := n4_; clear n0_ n1_ n2_ n3_ n4_; (try clear hb); (try clear hb2); (try clear hk); (try clear hi); (try clear ho0); (try clear ho1); (try clear ho2); have p10 : 0 ≤ (x4_1 : Int) := of_decide_eq_true (by first | (with_reducible assumption) | assumption); have q10 : (x4_1 : Int) < ((x3_1.length : Int) : Int) := of_decide_eq_true (by first | (with_reducible assumption) | assumption); obtain ⟨go10, co10, eo10, gb10, gl10, cl10, HG10⟩ := Kd.R_form HO_3.out (by omega); (first | cases eo10 | (injection eo10 with ea_ en_ ec_; (first | subst ea_ | (injection ea_ with ea_; subst ea_)); subst ec_; clear en_)); have GB10 := Az.mk gb10; have GG10 := Az.mk HG10; clear gb10 gl10 HG10; obtain ⟨ce10, hcl10, hM10, hcc10, hfr10⟩ := Kd.R_elem HO_3.out z61 (x4_1 : Int) p10 q10; obtain ⟨ve10_0, ve10_1, ve10_2, rfl, ge10_0, ge10_1, ge10_2⟩ := k61_openM hM10; have hx10_0 : w11.cell? ⟨go10, (x4_1 : Int).toNat * 3, none⟩ = some (ve10_0) := hcc10 0 _ rfl; have hx10_1 : w11.cell? ⟨go10, (x4_1 : Int).toNat * 3 + 1, none⟩ = some (ve10_1) := hcc10 1 _ rfl; have hx10_2 : w11.cell? ⟨go10, (x4_1 : Int).toNat * 3 + 2, none⟩ = some (ve10_2) := hcc10 2 _ rfl; have hf10_0 : w11.frozen? ⟨go10, (x4_1 : Int).toNat * 3, none⟩ = false := hfr10 0; have hf10_1 : w11.frozen? ⟨go10, (x4_1 : Int).toNat * 3 + 1, none⟩ = false := hfr10 1; have hf10_2 : w11.frozen? ⟨go10, (x4_1 : Int).toNat * 3 + 2, none⟩ = false := hfr10 2; (try clear hcl10); (try clear hcc10); (try clear hfr10); (try clear hM10); replace p10 := eq_true p10; replace q10 := eq_true q10; have n_ := Az.mk (Kd.Rm_ (ok' := (fun k_ => some k_ ≠ (v245 : Value).ownBlock ∧ some k_ ≠ (v248 : Value).ownBlock ∧ some k_ ≠ (v251 : Value).ownBlock)) HO_3.out (fun k_ hk => ⟨hk.1.1.2, ⟨hk.1.2, hk.2⟩⟩)); clear HO_3; have HO_3 := n_; clear n_; have HX12 := Az.mk (show Kd.R k61 61 w11 w.heap.size (fun _ => True) (.slice (some ⟨go10, 0, none⟩) x3_1.length co10) x3_1 from (by (with_reducible repeat (first | apply Kd.Ra_ | apply Kd.Rn_ | apply Kd.Rw_)); exact Kd.Rm_ HO_3.out (fun _ hk => trivial))); obtain ⟨ce12, hcl12, hM12, hcc12, hfr12⟩ := Kd.R_elem HX12.out z61 (x4_1 : Int) (of_decide_eq_true (by first | (with_reducible assumption) | assumption)) (by have h_ : (x4_1 : Int) < ((x3_1.length : Int) : Int) := of_decide_eq_true (by first | (with_reducible assumption) | assumption); first | exact h_ | (have e_ := (Kd.Rr_ HO_3.out).1; omega) | simpa using h_); obtain ⟨ve12_0, ve12_1, ve12_2, rfl, ge12_0, ge12_1, ge12_2⟩ := k61_openM hM12; have HP12 := Kd.R_seg HX12.out (x4_1 : Int) (of_decide_eq_true (by first | (with_reducible assumption) | assumption)) (by have h_ : (x4_1 : Int) < ((x3_1.length : Int) : Int) := of_decide_eq_true (by first | (with_reducible assumption) | assumption); first | exact h_ | (have e_ := (Kd.Rr_ HO_3.out).1; omega) | simpa using h_) (seg := [v245, v248, v251]) (j := 0) hcl12 hcc12 (show 3 ≤ 3 from by decide) (x' := (⟨t244, t247, t250⟩ : S61)) (k61_mkM _ _ _ (⟨t244, t247, t250⟩ : S61) (Kd.Rm_ (Kd.R_apart' (HO246.out) (Kd.R_typed HO_3.out) (by decide)) (fun k_ hk => ⟨trivial, fun e_ => (hk.2) (by rw [e_]; rfl)⟩)) (Kd.Rm_ (Kd.R_apart' ((Kd.S_R HO249.out)) (Kd.R_typed HO_3.out) (by decide)) (fun k_ hk => ⟨trivial, fun e_ => (hk.2) (by rw [e_]; rfl)⟩)) (Kd.Rm_ (Kd.R_apart' (HO252.out) (Kd.R_typed HO_3.out) (by decide)) (fun k_ hk => ⟨trivial, fun e_ => (hk.2) (by rw [e_]; rfl)⟩))) (fun _ hk => hk); have hx12_0 := hcc12 0 _ rfl; (try simp only [show (k61).sz = 3 from rfl, Nat.mul_one, Nat.add_zero] at hx12_0); have hf12_0 := hfr12 0; (try simp only [show (k61).sz = 3 from rfl, Nat.mul_one, Nat.add_zero] at hf12_0); have hx12_1 := hcc12 1 _ rfl; (try simp only [show (k61).sz = 3 from rfl, Nat.mul_one, Nat.add_zero] at hx12_1); have hf12_1 := hfr12 1; (try simp only [show (k61).sz = 3 from rfl, Nat.mul_one, Nat.add_zero] at hf12_1); have hx12_2 := hcc12 2 _ rfl; (try simp only [show (k61).sz = 3 from rfl, Nat.mul_one, Nat.add_zero] at hx12_2); have hf12_2 := hfr12 2; (try simp only [show (k61).sz = 3 from rfl, Nat.mul_one, Nat.add_zero] at hf12_2); obtain ⟨okS_, cS_, hclS_, hMS_, hccS_, hfrS_, hokS_, hHS_⟩ := Kd.S_elem (Kd.Sm_ (ok' := fun k_ => True ∧ ¬ (N_ ≤ k_)) HSs.out (fun k_ hk => ⟨trivial, Nat.not_le_of_lt hk⟩)) z61 (x4_1 : Int) (of_decide_eq_true (by first | (with_reducible assumption) | assumption)) (by have h_ : (x4_1 : Int) < ((x3_1.length : Int) : Int) := of_decide_eq_true (by first | (with_reducible assumption) | assumption); first | exact h_ | (have e_ := (Kd.Rr_ HO_3.out).1; omega) | simpa using h_); obtain ⟨vS0_, vS1_, vS2_, rfl, gS0_, gS1_, gS2_⟩ := k61s_openM hMS_; have HPS := Az.mk (Kd.S_seg (ok := fun _ => True) (okg := fun k_ => N_ ≤ k_) (okp := fun k_ => N_ ≤ k_) hHS_ (of_decide_eq_true (by first | (with_reducible assumption) | assumption)) (by have h_ : (x4_1 : Int) < ((x3_1.length : Int) : Int) := of_decide_eq_true (by first | (with_reducible assumption) | assumption); first | exact h_ | (have e_ := (Kd.Rr_ HO_3.out).1; omega) | simpa using h_) (seg := [v245, v248, v251]) (j := 0) (show 3 ≤ 3 from by decide) (x' := (⟨t244, t247, t250⟩ : S61)) (k61s_mkM _ _ _ (⟨t244, t247, t250⟩ : S61) hp0_.out hp1_.out hp2_.out) (fun _ hk => .inr hk) (fun k_ hk => ⟨trivial, fun e_ => Nat.lt_irrefl _ (Nat.lt_of_lt_of_le ((Kd.S_R HSs.out).1 go10 rfl) (e_ ▸ hk))⟩)); clear hclS_ hMS_ hccS_ hfrS_ hokS_ hHS_ gS0_ gS1_ gS2_; (try clear hcl12); (try clear hcc12); (try clear hfr12); (try clear hM12)) | ((with_reducible refine gate_store (t := 61) (p := 21) rfl ?_); refine store_event (t := 61) (p := 21) (v := ?vo_w13) (w1 := (((w11.setCell ⟨go10, (x4_1 : Int).toNat * 3, none⟩ (v245)).setCell ⟨go10, (x4_1 : Int).toNat * 3 + 1, none⟩ (v248)).setCell ⟨go10, (x4_1 : Int).toNat * 3 + 2, none⟩ (v251))) ?hg ?ho ?hn ?hr ?_; (case ho => rfl); (case hg => rfl); (case hn => rfl); (case hr => first | (go_simp; done) | (go_simp; rfl) | ((first | (obtain ⟨A_, c_, e_⟩ := Kd.Rs_ HO246.out; subst e_) | (obtain ⟨A_, c_, e_⟩ := Kd.Ss_ HO246.out; subst e_)); (first | (obtain ⟨A_, c_, e_⟩ := Kd.Rs_ HO249.out; subst e_) | (obtain ⟨A_, c_, e_⟩ := Kd.Ss_ HO249.out; subst e_)); (first | (obtain ⟨A_, c_, e_⟩ := Kd.Rs_ HO252.out; subst e_) | (obtain ⟨A_, c_, e_⟩ := Kd.Ss_ HO252.out; subst e_)); first | (go_simp; done) | (go_simp; rfl))); intro w13 hw; have hg : w11.grownBy w13 (some go10) := (by rw [hw]; exact HP12.2); have hp_ : Kd.R k61 61 w13 w.heap.size (fun _ => True) (.slice (some ⟨go10, 0, none⟩) x3_1.length co10) y253 := (by rw [hw, Ny253.out]; exact HP12.1); clear HP12; have hps_ : Kd.S k61s 61 w13 w.heap.size (fun _ => True) (.slice (some ⟨go10, 0, none⟩) x3_1.length co10) y253 := (by rw [hw, Ny253.out]; exact HPS.out.1); clear HPS HSs; have HSs := Az.mk hps_; clear hps_ hp0_ hp1_ hp2_; have n0_ := Az.mk (hp_); have n1_ := Az.mk ((by rw [hw]; exact Ys (Ys (Ys (HB.out) GB10.out) GB10.out) GB10.out : Below w.heap.size w w13)); clear HO_3; clear HB; clear HO246; clear HO249; clear HO252; have HO_3 := n0_; have HB := n1_; clear n0_ n1_; clear hg hw hp_))
        go_roundg k1
        case measure => have := HK1.out; omega
        case rel => exact ⟨(y253), (wrap64 (x4_1 + 1)), (by first | rfl | (simp; done) | (simp [*]; done)), H', ⟨by have := HK1.out; omega⟩, ⟨by (with_reducible repeat (first | apply Kd.Ra_ | apply Kd.Rn_ | apply Kd.Rw_)); exact HO_3.out⟩, ⟨by repeat (first | (with_reducible first | exact HB.out | apply Ya | apply Yn | apply Yw) | exact HB.out)⟩, ⟨by (with_reducible repeat (first | apply Kd.Sa_ | apply Kd.Sn_ | apply Kd.Sw_)); exact HSs.out⟩⟩
       ·rw [if_neg c9] at H
        exact absurd H (by simp)
      ·rw [if_neg c7] at H
       exact absurd H (by simp)
     ·rw [if_neg c6] at H
      have c6b0 : decide (x4_1 < (l0.length : Int)) = false := decide_eq_false c6
      clear c6
      obtain rfl := Option.some.inj H
      go_wp2
      go_ret
      exact ⟨_, by first | rfl | (simp [errW_none, errW_some] <;> rfl) | (simp [*, errW_none, errW_some] <;> rfl), by (with_reducible repeat (first | apply Kd.Sa_ | apply Kd.Sn_ | apply Kd.Sw_)); exact HSs.out, by repeat (first | (with_reducible first | exact HB.out | apply Ya | apply Yn | apply Yw) | exact HB.out)⟩
  ·rw [if_neg c3] at H
   exact absurd H (by simp)
 ·rw [if_neg c2] at H
  exact absurd H (by simp)

/-! ### laws_toHost: function 24 -/
def laws_toHost.f (k : Nat) (l0_0 : List (List Int)) (l0_1 : List (S80)) (a0_2 : Int) : Option ((List (List Int)) × (List (S61)) × Int) := (laws_toIntSS.f k l0_0).bind fun t257 => ((laws_toGuestS.f k l0_1).bind fun t260 => (some (t257, t260, a0_2)))
set_option maxHeartbeats 8000000 in
set_option maxRecDepth 100000 in
theorem laws_toHost.callsS (k : Nat) (A0_0 : Option Addr) (c0_0 : Nat) (l0_0 : List (List Int)) (A0_1 : Option Addr) (c0_1 : Nat) (l0_1 : List (S80)) (a0_2 : Int) (r1 : List (List Int)) (r2 : List (S61)) (r3 : Int) (w : World) (hr0_0 : Kd.C (Kd.slice 3 (Kd.int .i64)) w A0_0 l0_0.length l0_0) (hc0_0 : l0_0.length ≤ c0_0) (hr0_1 : Kd.C k80 w A0_1 l0_1.length l0_1) (hc0_1 : l0_1.length ≤ c0_1) (h : laws_toHost.f k l0_0 l0_1 a0_2 = some (r1, r2, r3)) :
  Calls Try.prog 24 #[.agg #[.slice A0_0 l0_0.length c0_0, .slice A0_1 l0_1.length c0_1, .int .i64 a0_2]] w fun e w' => ∃ v0_ v1_ : Value, e = .returned (.agg #[v0_, v1_, .int .i64 r3]) ∧ (∃ P_ : Nat → Prop, Kd.S (Kd.slice 3 (Kd.int .i64)) 45 w' w.heap.size P_ v0_ r1 ∧ Kd.S k61s 61 w' w.heap.size (fun k_ => ¬ P_ k_) v1_ r2) ∧ Below w.heap.size w w' := by
 have hu43 := Try.underlying43
 have hu31 := Try.underlying31
 have HR0_0 := Az.mk hr0_0
 have HC0_0 := Az.mk hc0_0
 clear hr0_0 hc0_0
 have HR0_1 := Az.mk hr0_1
 have HC0_1 := Az.mk hc0_1
 clear hr0_1 hc0_1
 have HB := Az.mk (Below.refl w.heap.size w)
 have H : ((laws_toIntSS.f k l0_0).bind fun t257 => ((laws_toGuestS.f k l0_1).bind fun t260 => (some (t257, t260, a0_2)))) = some (r1, r2, r3) := h
 clear h
 replace H := Option.bind_eq_some_iff.mp H
 obtain ⟨t257, A20, H⟩ := H
 replace H : ((laws_toGuestS.f k l0_1).bind fun t260 => (some (t257, t260, a0_2))) = some (r1, r2, r3) := H
 have A2 := Az.mk A20
 clear A20
 replace H := Option.bind_eq_some_iff.mp H
 obtain ⟨t260, A30, H⟩ := H
 replace H : (some (t257, t260, a0_2)) = some (r1, r2, r3) := H
 have A3 := Az.mk A30
 clear A30
 simp only [Option.some.injEq, Prod.mk.injEq] at H
 obtain ⟨rfl, rfl, rfl⟩ := H
 go_enter Try.func24, Try.ntmps24
 go_wp2_with (first | ((with_reducible refine Yd (N := 1) rfl ?_); refine Yv ?hg (N := 1) ?hd (cs := #[.slice A0_0 l0_0.length c0_0, .slice A0_1 l0_1.length c0_1, .int .i64 a0_2]) (t := 43) ?hr ?_; (case hd => rfl); (case hg => rfl); (case hr => first | (go_simp; done) | (go_simp; rfl)); intro gb254 hg w4 hbox hb; have n0_ := Az.mk (Yt (by repeat (first | (with_reducible first | exact HB.out | apply Ya | apply Yn | apply Yw) | exact HB.out)) hb); have n1_ := Az.mk (hbox); have n2_ := Az.mk ((by rw [hg]; exact (Yz (by repeat (first | (with_reducible first | exact HB.out | apply Ya | apply Yn | apply Yw) | exact HB.out))) : w.heap.size ≤ gb254)); have n3_ := Az.mk ((by rw [hg]; exact (Yz (by repeat (first | (with_reducible first | exact HB.out | apply Ya | apply Yn | apply Yw) | exact HB.out))) : w.heap.size ≤ gb254)); clear HB; have HB := n0_; have BK254 := n1_; have GW254 := n2_; have GE254 := n3_; clear n0_ n1_ n2_ n3_; clear hb hbox hg) | ((with_reducible refine Yd (N := 2) rfl ?_); refine Yv ?hg (N := 2) ?hd (cs := #[.slice none 0 0, .slice none 0 0, .int .i64 0]) (t := 31) ?hr ?_; (case hd => rfl); (case hg => rfl); (case hr => first | (go_simp; done) | (go_simp; rfl)); intro gb255 hg w5 hbox hb; have n0_ := Az.mk (Zb (g := gb254) (o := .cells #[.slice A0_0 l0_0.length c0_0, .slice A0_1 l0_1.length c0_1, .int .i64 a0_2] 43 (0, 0)) (by (with_reducible repeat (first | refine Zn ?_ _ | refine Zw ?_ | refine Za ?_ _)); exact BK254.out) hb); have n1_ := Az.mk (Yt (by repeat (first | (with_reducible first | exact HB.out | apply Ya | apply Yn | apply Yw | refine Ys ?_ GE254.out) | exact HB.out)) hb); have n2_ := Az.mk (hbox); have n3_ := Az.mk ((by rw [hg]; exact (Yz (by repeat (first | (with_reducible first | exact HB.out | apply Ya | apply Yn | apply Yw | refine Ys ?_ GE254.out) | exact HB.out))) : w.heap.size ≤ gb255)); have n4_ := Az.mk ((by rw [hg]; exact (Yz (by repeat (first | (with_reducible first | exact HB.out | apply Ya | apply Yn | apply Yw | refine Ys ?_ GE254.out) | exact HB.out))) : w.heap.size ≤ gb255)); have n5_ := Az.mk ((by rw [hg]; exact Nat.ne_of_lt (Zl (g := gb254) (o := .cells #[.slice A0_0 l0_0.length c0_0, .slice A0_1 l0_1.length c0_1, .int .i64 a0_2] 43 (0, 0)) (by (with_reducible repeat (first | refine Zn ?_ _ | refine Zw ?_ | refine Za ?_ _)); exact BK254.out)) : gb254 ≠ gb255)); have n6_ := Az.mk ((by rw [hg]; exact Nat.ne_of_gt (Zl (g := gb254) (o := .cells #[.slice A0_0 l0_0.length c0_0, .slice A0_1 l0_1.length c0_1, .int .i64 a0_2] 43 (0, 0)) (by (with_reducible repeat (first | refine Zn ?_ _ | refine Zw ?_ | refine Za ?_ _)); exact BK254.out)) : gb255 ≠ gb254)); clear BK254; clear HB; have BK254 := n0_; have HB := n1_; have BK255 := n2_; have GW255 := n3_; have GE255 := n4_; have NB254_255 := n5_; have NB255_254 := n6_; clear n0_ n1_ n2_ n3_ n4_ n5_ n6_; clear hb hbox hg) | ((with_reducible refine Yd (N := 3) rfl ?_); refine Yv ?hg (N := 3) ?hd (cs := #[.slice none 0 0, .slice none 0 0, .int .i64 0]) (t := 31) ?hr ?_; (case hd => rfl); (case hg => rfl); (case hr => first | (go_simp; done) | (go_simp; rfl)); intro gb256 hg w6 hbox hb; have n0_ := Az.mk (Zb (g := gb254) (o := .cells #[.slice A0_0 l0_0.length c0_0, .slice A0_1 l0_1.length c0_1, .int .i64 a0_2] 43 (0, 0)) (by (with_reducible repeat (first | refine Zn ?_ _ | refine Zw ?_ | refine Za ?_ _)); exact BK254.out) hb); have n1_ := Az.mk (Zb (g := gb255) (o := .cells #[.slice none 0 0, .slice none 0 0, .int .i64 0] 31 (0, 0)) (by (with_reducible repeat (first | refine Zn ?_ _ | refine Zw ?_ | refine Za ?_ _)); exact BK255.out) hb); have n2_ := Az.mk (Yt (by repeat (first | (with_reducible first | exact HB.out | apply Ya | apply Yn | apply Yw | refine Ys ?_ GE254.out | refine Ys ?_ GE255.out) | exact HB.out)) hb); have n3_ := Az.mk (hbox); have n4_ := Az.mk ((by rw [hg]; exact (Yz (by repeat (first | (with_reducible first | exact HB.out | apply Ya | apply Yn | apply Yw | refine Ys ?_ GE254.out | refine Ys ?_ GE255.out) | exact HB.out))) : w.heap.size ≤ gb256)); have n5_ := Az.mk ((by rw [hg]; exact (Yz (by repeat (first | (with_reducible first | exact HB.out | apply Ya | apply Yn | apply Yw | refine Ys ?_ GE254.out | refine Ys ?_ GE255.out) | exact HB.out))) : w.heap.size ≤ gb256)); have n6_ := Az.mk ((by rw [hg]; exact Nat.ne_of_lt (Zl (g := gb254) (o := .cells #[.slice A0_0 l0_0.length c0_0, .slice A0_1 l0_1.length c0_1, .int .i64 a0_2] 43 (0, 0)) (by (with_reducible repeat (first | refine Zn ?_ _ | refine Zw ?_ | refine Za ?_ _)); exact BK254.out)) : gb254 ≠ gb256)); have n7_ := Az.mk ((by rw [hg]; exact Nat.ne_of_gt (Zl (g := gb254) (o := .cells #[.slice A0_0 l0_0.length c0_0, .slice A0_1 l0_1.length c0_1, .int .i64 a0_2] 43 (0, 0)) (by (with_reducible repeat (first | refine Zn ?_ _ | refine Zw ?_ | refine Za ?_ _)); exact BK254.out)) : gb256 ≠ gb254)); have n8_ := Az.mk ((by rw [hg]; exact Nat.ne_of_lt (Zl (g := gb255) (o := .cells #[.slice none 0 0, .slice none 0 0, .int .i64 0] 31 (0, 0)) (by (with_reducible repeat (first | refine Zn ?_ _ | refine Zw ?_ | refine Za ?_ _)); exact BK255.out)) : gb255 ≠ gb256)); have n9_ := Az.mk ((by rw [hg]; exact Nat.ne_of_gt (Zl (g := gb255) (o := .cells #[.slice none 0 0, .slice none 0 0, .int .i64 0] 31 (0, 0)) (by (with_reducible repeat (first | refine Zn ?_ _ | refine Zw ?_ | refine Za ?_ _)); exact BK255.out)) : gb256 ≠ gb255)); clear BK254; clear BK255; clear HB; have BK254 := n0_; have BK255 := n1_; have HB := n2_; have BK256 := n3_; have GW256 := n4_; have GE256 := n5_; have NB254_256 := n6_; have NB256_254 := n7_; have NB255_256 := n8_; have NB256_255 := n9_; clear n0_ n1_ n2_ n3_ n4_ n5_ n6_ n7_ n8_ n9_; clear hb hbox hg; have hnb7 := NB254_255.out; have hnc7 := NB255_254.out; have hnb8 := NB254_256.out; have hnc8 := NB256_254.out; have hcz9_0 : w6.cell? ⟨gb254, 0, none⟩ = some (.slice A0_0 l0_0.length c0_0) := (Zc BK254.out 0).trans rfl; have hcz9_1 : w6.cell? ⟨gb254, 1, none⟩ = some (.slice A0_1 l0_1.length c0_1) := (Zc BK254.out 1).trans rfl; have hcz9_2 : w6.cell? ⟨gb254, 2, none⟩ = some (.int .i64 a0_2) := (Zc BK254.out 2).trans rfl; have hfz9_0 := Zf BK254.out 0; have hfz9_1 := Zf BK254.out 1; have hfz9_2 := Zf BK254.out 2) | ((with_reducible refine Yc (f := 18) rfl ?_); refine Yg (some 6) rfl rfl Try.func18 (by kernel_rfl) rfl #[.slice A0_0 l0_0.length c0_0] rfl (by (try simp only [List.map_toArray, List.map_cons, List.map_nil]); first | done | rfl | (simp only [List.length_drop, List.length_take]; rfl)) ?_; (with_reducible refine (laws_toIntSS.calls k _ _ l0_0 t257 _ ?side1 ?side2 A2.out).mono ?_); (case side1 => repeat (first | exact (Kd.Cb_ HR0_0.out HB.out) | exact HR0_0.out | (with_reducible refine Kd.Ca_ ?_ _) | (with_reducible refine Kd.Cn_ ?_ _) | (with_reducible refine Kd.Cw_ ?_))); (case side2 => exact HC0_0.out); rintro e w10 ⟨v258, rfl, ho0, hb⟩; refine ⟨_, rfl, ?_⟩; have n0_ := Az.mk (Kd.S_lower ho0 (Yz (by repeat (first | (with_reducible first | exact HB.out | apply Ya | apply Yn | apply Yw | refine Ys ?_ GE254.out | refine Ys ?_ GE255.out | refine Ys ?_ GE256.out) | exact HB.out)))); have n1_ := Az.mk (Zb (g := gb254) (o := .cells #[.slice A0_0 l0_0.length c0_0, .slice A0_1 l0_1.length c0_1, .int .i64 a0_2] 43 (0, 0)) (by (with_reducible repeat (first | refine Zn ?_ _ | refine Zw ?_ | refine Za ?_ _)); exact BK254.out) hb); have n2_ := Az.mk (Zb (g := gb255) (o := .cells #[.slice none 0 0, .slice none 0 0, .int .i64 0] 31 (0, 0)) (by (with_reducible repeat (first | refine Zn ?_ _ | refine Zw ?_ | refine Za ?_ _)); exact BK255.out) hb); have n3_ := Az.mk (Zb (g := gb256) (o := .cells #[.slice none 0 0, .slice none 0 0, .int .i64 0] 31 (0, 0)) (by (with_reducible repeat (first | refine Zn ?_ _ | refine Zw ?_ | refine Za ?_ _)); exact BK256.out) hb); have n4_ := Az.mk (Yt (by repeat (first | (with_reducible first | exact HB.out | apply Ya | apply Yn | apply Yw | refine Ys ?_ GE254.out | refine Ys ?_ GE255.out | refine Ys ?_ GE256.out) | exact HB.out)) hb); clear BK254; clear BK255; clear BK256; clear HB; have HO259 := n0_; have BK254 := n1_; have BK255 := n2_; have BK256 := n3_; have HB := n4_; clear n0_ n1_ n2_ n3_ n4_; (try clear hb); (try clear hb2); (try clear hk); (try clear hi); (try clear ho0); obtain ⟨Ao11, co11, eo11⟩ := Kd.Ss_ HO259.out; subst eo11; have hnb12 := NB256_255.out; have hnc12 := NB255_256.out; have hcz13_0 : w10.cell? ⟨gb256, 0, none⟩ = some (.slice none 0 0) := (Zc BK256.out 0).trans rfl; have hcz13_1 : w10.cell? ⟨gb256, 1, none⟩ = some (.slice none 0 0) := (Zc BK256.out 1).trans rfl; have hcz13_2 : w10.cell? ⟨gb256, 2, none⟩ = some (.int .i64 0) := (Zc BK256.out 2).trans rfl; have hfz13_0 := Zf BK256.out 0; have hfz13_1 := Zf BK256.out 1; have hfz13_2 := Zf BK256.out 2; have hcz14_0 : w10.cell? ⟨gb254, 0, none⟩ = some (.slice A0_0 l0_0.length c0_0) := (Zc BK254.out 0).trans rfl; have hcz14_1 : w10.cell? ⟨gb254, 1, none⟩ = some (.slice A0_1 l0_1.length c0_1) := (Zc BK254.out 1).trans rfl; have hcz14_2 : w10.cell? ⟨gb254, 2, none⟩ = some (.int .i64 a0_2) := (Zc BK254.out 2).trans rfl; have hfz14_0 := Zf BK254.out 0; have hfz14_1 := Zf BK254.out 1; have hfz14_2 := Zf BK254.out 2) | ((with_reducible refine Yc (f := 50) rfl ?_); refine Yg (some 10) rfl rfl Try.func50 (by kernel_rfl) rfl #[.slice A0_1 l0_1.length c0_1] rfl (by (try simp only [List.map_toArray, List.map_cons, List.map_nil]); first | done | rfl | (simp only [List.length_drop, List.length_take]; rfl)) ?_; (with_reducible refine (laws_toGuestS.callsS k _ _ l0_1 t260 _ ?side1 ?side2 A3.out).mono ?_); (case side1 => exact Kd.Cb_ HR0_1.out (by repeat (first | (with_reducible first | exact HB.out | apply Ya | apply Yn | apply Yw | refine Ys ?_ GE254.out | refine Ys ?_ GE255.out | refine Ys ?_ GE256.out) | exact HB.out))); (case side2 => exact HC0_1.out); rintro e w15 ⟨v261, rfl, hs0_, hb⟩; refine ⟨_, rfl, ?_⟩; have ho0 := k61s_R hs0_; obtain ⟨N_, hN_, hF_⟩ := S_oldN (by (with_reducible repeat (first | apply Kd.Sa_ | apply Kd.Sn_ | apply Kd.Sw_)); exact (Kd.Sm_ (Kd.Sf_ (p := ⟨gb256, 0, none⟩) (Kd.S_types HO259.out BK256.out (by decide)) (fun _ hk => hk.2) (.slice Ao11 t257.length co11)) (fun _ h_ => h_.1))) hb; have HFs := Az.mk hF_; have HGs := Az.mk (Kd.S_lower (Kd.Sm_ (ok' := fun k_ => ¬ (k_ < N_)) (Kd.S_bound hs0_) (fun k_ hk h_ => Nat.lt_irrefl _ (Nat.lt_of_lt_of_le h_ (Nat.le_trans (Nat.le_of_eq hN_) hk.2.1)))) (Yz (by repeat (first | (with_reducible first | exact HB.out | apply Ya | apply Yn | apply Yw | refine Ys ?_ GE254.out | refine Ys ?_ GE255.out | refine Ys ?_ GE256.out) | exact HB.out)))); clear hN_ hF_ hs0_; have n0_ := Az.mk (Kd.Sb_ (by (with_reducible repeat (first | apply Kd.Sa_ | apply Kd.Sn_ | apply Kd.Sw_)); exact (Kd.Sm_ (Kd.Sf_ (p := ⟨gb256, 0, none⟩) (Kd.S_types HO259.out BK256.out (by decide)) (fun _ hk => hk.2) (.slice Ao11 t257.length co11)) (fun _ h_ => h_.1))) hb); have n1_ := Az.mk (Kd.Rl_ (Kd.R_new' ho0 (Kd.S_lt (by (with_reducible repeat (first | apply Kd.Sa_ | apply Kd.Sn_ | apply Kd.Sw_)); exact (Kd.Sm_ (Kd.Sf_ (p := ⟨gb256, 0, none⟩) (Kd.S_types HO259.out BK256.out (by decide)) (fun _ hk => hk.2) (.slice Ao11 t257.length co11)) (fun _ h_ => h_.1))))) (Yz (by repeat (first | (with_reducible first | exact HB.out | apply Ya | apply Yn | apply Yw | refine Ys ?_ GE254.out | refine Ys ?_ GE255.out | refine Ys ?_ GE256.out) | exact HB.out)))); have n2_ := Az.mk (Zb (g := gb254) (o := .cells #[.slice A0_0 l0_0.length c0_0, .slice A0_1 l0_1.length c0_1, .int .i64 a0_2] 43 (0, 0)) (by (with_reducible repeat (first | refine Zn ?_ _ | refine Zw ?_ | refine Za ?_ _)); refine blk_far ?_ NB254_256.out _; (with_reducible repeat (first | refine Zn ?_ _ | refine Zw ?_ | refine Za ?_ _)); exact BK254.out) hb); have n3_ := Az.mk (Zb (g := gb255) (o := .cells #[.slice none 0 0, .slice none 0 0, .int .i64 0] 31 (0, 0)) (by (with_reducible repeat (first | refine Zn ?_ _ | refine Zw ?_ | refine Za ?_ _)); refine blk_far ?_ NB255_256.out _; (with_reducible repeat (first | refine Zn ?_ _ | refine Zw ?_ | refine Za ?_ _)); exact BK255.out) hb); have n4_ := Az.mk (Zb (g := gb256) (o := .cells #[.slice Ao11 t257.length co11, .slice none 0 0, .int .i64 0] 31 (0, 0)) (by (with_reducible repeat (first | refine Zn ?_ _ | refine Zw ?_ | refine Za ?_ _)); refine Zp (cs := #[.slice none 0 0, .slice none 0 0, .int .i64 0]) ?_ 0 _ rfl; (with_reducible repeat (first | refine Zn ?_ _ | refine Zw ?_ | refine Za ?_ _)); exact BK256.out) hb); have n5_ := Az.mk (Yt (by repeat (first | (with_reducible first | exact HB.out | apply Ya | apply Yn | apply Yw | refine Ys ?_ GE254.out | refine Ys ?_ GE255.out | refine Ys ?_ GE256.out) | exact HB.out)) hb); clear HO259; clear BK254; clear BK255; clear BK256; clear HB; have HO259 := n0_; have HO262 := n1_; have BK254 := n2_; have BK255 := n3_; have BK256 := n4_; have HB := n5_; clear n0_ n1_ n2_ n3_ n4_ n5_; (try clear hb); (try clear hb2); (try clear hk); (try clear hi); (try clear ho0); obtain ⟨Ao16, co16, eo16⟩ := Kd.Rs_ HO262.out; subst eo16; have hcz17_0 : w15.cell? ⟨gb256, 0, none⟩ = some (.slice Ao11 t257.length co11) := (Zc BK256.out 0).trans rfl; have hcz17_1 : w15.cell? ⟨gb256, 1, none⟩ = some (.slice none 0 0) := (Zc BK256.out 1).trans rfl; have hcz17_2 : w15.cell? ⟨gb256, 2, none⟩ = some (.int .i64 0) := (Zc BK256.out 2).trans rfl; have hfz17_0 := Zf BK256.out 0; have hfz17_1 := Zf BK256.out 1; have hfz17_2 := Zf BK256.out 2; have hcz18_0 : w15.cell? ⟨gb254, 0, none⟩ = some (.slice A0_0 l0_0.length c0_0) := (Zc BK254.out 0).trans rfl; have hcz18_1 : w15.cell? ⟨gb254, 1, none⟩ = some (.slice A0_1 l0_1.length c0_1) := (Zc BK254.out 1).trans rfl; have hcz18_2 : w15.cell? ⟨gb254, 2, none⟩ = some (.int .i64 a0_2) := (Zc BK254.out 2).trans rfl; have hfz18_0 := Zf BK254.out 0; have hfz18_1 := Zf BK254.out 1; have hfz18_2 := Zf BK254.out 2; have hcz19_0 : w15.cell? ⟨gb255, 0, none⟩ = some (.slice none 0 0) := (Zc BK255.out 0).trans rfl; have hcz19_1 : w15.cell? ⟨gb255, 1, none⟩ = some (.slice none 0 0) := (Zc BK255.out 1).trans rfl; have hcz19_2 : w15.cell? ⟨gb255, 2, none⟩ = some (.int .i64 0) := (Zc BK255.out 2).trans rfl; have hfz19_0 := Zf BK255.out 0; have hfz19_1 := Zf BK255.out 1; have hfz19_2 := Zf BK255.out 2))
 refine bodyPost_ret (results_cell_row rfl _ _ gb255 31 #[.slice Ao11 t257.length co11, .slice Ao16 t260.length co16, .int .i64 a0_2] (0, 0) _ rfl (by (with_reducible repeat (first | refine Zn ?_ _ | refine Zw ?_ | refine Za ?_ _)); refine Zp (cs := #[.slice Ao11 t257.length co11, .slice Ao16 t260.length co16, .int .i64 0]) ?_ 2 _ rfl; (with_reducible repeat (first | refine Zn ?_ _ | refine Zw ?_ | refine Za ?_ _)); refine Zp (cs := #[.slice Ao11 t257.length co11, .slice none 0 0, .int .i64 0]) ?_ 1 _ rfl; (with_reducible repeat (first | refine Zn ?_ _ | refine Zw ?_ | refine Za ?_ _)); refine Zp (cs := #[.slice none 0 0, .slice none 0 0, .int .i64 0]) ?_ 0 _ rfl; (with_reducible repeat (first | refine Zn ?_ _ | refine Zw ?_ | refine Za ?_ _)); refine blk_far ?_ NB255_256.out _; (with_reducible repeat (first | refine Zn ?_ _ | refine Zw ?_ | refine Za ?_ _)); refine blk_far ?_ NB255_256.out _; (with_reducible repeat (first | refine Zn ?_ _ | refine Zw ?_ | refine Za ?_ _)); exact BK255.out) Try.underlying31 rfl (by kernel_rfl)) rfl ?_
 exact ⟨_, _, by first | rfl | (simp [errW_none, errW_some] <;> rfl) | (simp [*, errW_none, errW_some] <;> rfl), ⟨fun k_ => k_ < N_, by (with_reducible repeat (first | apply Kd.Sa_ | apply Kd.Sn_ | apply Kd.Sw_)); exact Kd.Sm_ (Kd.Sf_ (p := ⟨gb255, 2, none⟩) (Kd.Sf_ (p := ⟨gb255, 1, none⟩) (Kd.Sf_ (p := ⟨gb255, 0, none⟩) (Kd.Sf_ (p := ⟨gb256, 2, none⟩) (Kd.Sf_ (p := ⟨gb256, 1, none⟩) (Kd.S_types (Kd.S_types HFs.out BK256.out (by decide)) BK255.out (by decide)) (fun _ hk => hk.1.2) (.slice Ao16 t260.length co16)) (fun _ hk => hk.1.2) (.int .i64 a0_2)) (fun _ hk => hk.2) (.slice Ao11 t257.length co11)) (fun _ hk => hk.2) (.slice Ao16 t260.length co16)) (fun _ hk => hk.2) (.int .i64 a0_2)) (fun _ hk => hk.1.1), by (with_reducible repeat (first | apply Kd.Sa_ | apply Kd.Sn_ | apply Kd.Sw_)); exact Kd.Sm_ (Kd.Sf_ (p := ⟨gb255, 2, none⟩) (Kd.Sf_ (p := ⟨gb255, 1, none⟩) (Kd.Sf_ (p := ⟨gb255, 0, none⟩) (Kd.Sf_ (p := ⟨gb256, 2, none⟩) (Kd.Sf_ (p := ⟨gb256, 1, none⟩) (Kd.S_types (Kd.S_types HGs.out BK256.out (by decide)) BK255.out (by decide)) (fun _ hk => hk.1.2) (.slice Ao16 t260.length co16)) (fun _ hk => hk.1.2) (.int .i64 a0_2)) (fun _ hk => hk.2) (.slice Ao11 t257.length co11)) (fun _ hk => hk.2) (.slice Ao16 t260.length co16)) (fun _ hk => hk.2) (.int .i64 a0_2)) (fun _ hk => hk.1.1)⟩, by repeat (first | (with_reducible first | exact HB.out | apply Ya | apply Yn | apply Yw | refine Ys ?_ GE254.out | refine Ys ?_ GE255.out | refine Ys ?_ GE256.out) | exact HB.out)⟩
/-! ### impl_within: function 34 -/
def impl_within.f (a0 : Int) (a1 : Int) (a2 : Int) : Option (Bool) := if a0 ≥ a1 then (some (decide (a0 ≤ a2))) else (some false)
set_option maxHeartbeats 8000000 in
set_option maxRecDepth 100000 in
theorem impl_within.calls (a0 : Int) (a1 : Int) (a2 : Int) (r : Bool) (w : World) (h : impl_within.f a0 a1 a2 = some r) :
  Calls Try.prog 34 #[.int .i64 a0, .int .i64 a1, .int .i64 a2] w fun e w' => e = .returned (.bool r) ∧ Drawn0 w w' := by
 have H : (if a0 ≥ a1 then (some (decide (a0 ≤ a2))) else (some false)) = some r := h
 clear h
 by_cases c4 : a0 ≥ a1
 ·rw [if_pos c4] at H
  have c4b0 : decide (a1 ≤ a0) = true := decide_eq_true c4
  clear c4
  obtain rfl := Option.some.inj H
  go_enter Try.func34, Try.ntmps34
  go_wp2
  go_ret
  exact ⟨by first | rfl | (simp; done) | (simp [*]; done), by repeat (first | exact Drawn0.refl _ | apply Drawn0.step)⟩
 ·rw [if_neg c4] at H
  have c4b0 : decide (a1 ≤ a0) = false := decide_eq_false c4
  clear c4
  obtain rfl := Option.some.inj H
  go_enter Try.func34, Try.ntmps34
  go_wp2
  go_ret
  exact ⟨by first | rfl | (simp; done) | (simp [*]; done), by repeat (first | exact Drawn0.refl _ | apply Drawn0.step)⟩

/-! ### impl_pageOk: function 32 -/
def impl_pageOk.l0 : Nat → List Int → List Int → Int → Int → Option (Bool)
 | 0, _, _, _, _ => none
 | k + 1, x0, x5, x6, x7 => if x7 < x6 then (if 0 ≤ x7 then (if x7 < (x5.length : Int) then ((impl_within.f (rd x5 x7) 0 63).bind fun t264 => (if t264 = true then (impl_pageOk.l0 k x0 x5 x6 (wrap64 (x7 + 1))) else (some false))) else (none)) else (none)) else (some ((x0.length : Int) == 4))
def impl_pageOk.f (k : Nat) (l0 : List Int) : Option (Bool) := impl_pageOk.l0 k l0 l0 (l0.length : Int) 0
set_option maxHeartbeats 8000000 in
set_option maxRecDepth 100000 in
theorem impl_pageOk.calls (k : Nat) (A0 : Option Addr) (c0 : Nat) (l0 : List Int) (r : Bool) (w : World) (hr0 : Kd.C (Kd.int .i64) w A0 l0.length l0) (hc0 : l0.length ≤ c0) (h : impl_pageOk.f k l0 = some r) :
  Calls Try.prog 32 #[.slice A0 l0.length c0] w fun e w' => e = .returned (.bool r) ∧ Drawn0 w w' := by
 have HR0 := Az.mk hr0
 have HC0 := Az.mk hc0
 clear hr0 hc0
 have H : (impl_pageOk.l0 k l0 l0 (l0.length : Int) 0) = some r := h
 clear h
 have H' := Az.mk H
 clear H
 go_enter Try.func32, Try.ntmps32
 go_wp2
 go_loopg [7] k (fun kq v7 w' => ∃ (x7_1 : Int), v7 = .int .i64 x7_1 ∧ Az (impl_pageOk.l0 kq l0 l0 (l0.length : Int) x7_1 = some r) ∧ Az (kq ≤ k) ∧ Drawn0 w w')
 case atStart => exact ⟨(0), (by first | rfl | (simp; done) | (simp [*]; done)), H', ⟨Nat.le_refl _⟩, by repeat (first | exact Drawn0.refl _ | apply Drawn0.step)⟩
 case round =>
  clear H'
  obtain ⟨x7_1, rfl, HA, HK1, ⟨m1, rfl⟩⟩ := hrel
  cases gk with
  | zero => exact absurd HA.out (by simp [impl_pageOk.l0])
  | succ k1 =>
   have H := HA.out
   clear HA
   simp only [impl_pageOk.l0] at H
   by_cases c2 : x7_1 < (l0.length : Int)
   ·rw [if_pos c2] at H
    have c2b0 : decide (x7_1 < (l0.length : Int)) = true := decide_eq_true c2
    clear c2
    by_cases c3 : 0 ≤ x7_1
    ·rw [if_pos c3] at H
     have c3b0 : decide (0 ≤ x7_1) = true := decide_eq_true c3
     clear c3
     by_cases c4 : x7_1 < (l0.length : Int)
     ·rw [if_pos c4] at H
      have c4b0 : decide (x7_1 < (l0.length : Int)) = true := decide_eq_true c4
      clear c4
      replace H := Option.bind_eq_some_iff.mp H
      obtain ⟨t264, A50, H⟩ := H
      replace H : (if t264 = true then (impl_pageOk.l0 k1 l0 l0 (l0.length : Int) (wrap64 (x7_1 + 1))) else (some false)) = some r := H
      have A5 := Az.mk A50
      clear A50
      by_cases c6 : t264 = true
      ·subst c6
       have H1 : (impl_pageOk.l0 k1 l0 l0 (l0.length : Int) (wrap64 (x7_1 + 1))) = some r := by rw [if_pos rfl] at H; exact H
       clear H
       have H := H1
       clear H1
       have H' := Az.mk H
       clear H
       have p263 : 0 ≤ (x7_1 : Int) := of_decide_eq_true (by first | (with_reducible assumption) | assumption)
       have q263 : x7_1 < (l0.length : Int) := of_decide_eq_true (by first | (with_reducible assumption) | assumption)
       obtain ⟨ad263, e263, hx263_0⟩ := Kd.at_int HR0.out x7_1 p263 q263
       cases e263
       replace p263 := eq_true p263
       replace q263 := eq_true q263
       go_wp2_with (first | ((with_reducible refine Yc (f := 34) rfl ?_); refine Yg (some 12) rfl rfl Try.func34 (by kernel_rfl) rfl #[.int .i64 (rd l0 x7_1), .int .i64 0, .int .i64 63] rfl (by (try simp only [List.map_toArray, List.map_cons, List.map_nil]); first | done | rfl | (simp only [List.length_drop, List.length_take]; rfl)) ?_; (with_reducible refine (impl_within.calls (rd l0 x7_1) 0 63 true _ A5.out).mono ?_); rintro e w' ⟨rfl, ⟨nd, rfl⟩⟩; refine ⟨_, rfl, ?_⟩))
       go_roundg k1
       case measure => have := HK1.out; omega
       case rel => exact ⟨(wrap64 (x7_1 + 1)), (by first | rfl | (simp; done) | (simp [*]; done)), H', ⟨by have := HK1.out; omega⟩, by repeat (first | exact Drawn0.refl _ | apply Drawn0.step)⟩
      ·replace c6 := Bool.eq_false_iff.mpr c6
       subst c6
       have H1 : (some false) = some r := by rw [if_neg (show ¬ (false = true) by decide)] at H; exact H
       clear H
       have H := H1
       clear H1
       obtain rfl := Option.some.inj H
       have p263 : 0 ≤ (x7_1 : Int) := of_decide_eq_true (by first | (with_reducible assumption) | assumption)
       have q263 : x7_1 < (l0.length : Int) := of_decide_eq_true (by first | (with_reducible assumption) | assumption)
       obtain ⟨ad263, e263, hx263_0⟩ := Kd.at_int HR0.out x7_1 p263 q263
       cases e263
       replace p263 := eq_true p263
       replace q263 := eq_true q263
       go_wp2_with (first | ((with_reducible refine Yc (f := 34) rfl ?_); refine Yg (some 12) rfl rfl Try.func34 (by kernel_rfl) rfl #[.int .i64 (rd l0 x7_1), .int .i64 0, .int .i64 63] rfl (by (try simp only [List.map_toArray, List.map_cons, List.map_nil]); first | done | rfl | (simp only [List.length_drop, List.length_take]; rfl)) ?_; (with_reducible refine (impl_within.calls (rd l0 x7_1) 0 63 false _ A5.out).mono ?_); rintro e w' ⟨rfl, ⟨nd, rfl⟩⟩; refine ⟨_, rfl, ?_⟩))
       go_ret
       exact ⟨by first | rfl | (simp; done) | (simp [*]; done), by repeat (first | exact Drawn0.refl _ | apply Drawn0.step)⟩
     ·rw [if_neg c4] at H
      exact absurd H (by simp)
    ·rw [if_neg c3] at H
     exact absurd H (by simp)
   ·rw [if_neg c2] at H
    have c2b0 : decide (x7_1 < (l0.length : Int)) = false := decide_eq_false c2
    clear c2
    obtain rfl := Option.some.inj H
    go_wp2
    go_ret
    exact ⟨by first | rfl | (simp; done) | (simp [*]; done), by repeat (first | exact Drawn0.refl _ | apply Drawn0.step)⟩

/-! ### impl_MemOk: function 8 -/
def impl_MemOk.l0 : Nat → List (List Int) → Int → Int → Option (Bool)
 | 0, _, _, _ => none
 | k + 1, x5, x6, x7 => if x7 < x6 then (if 0 ≤ x7 then (if x7 < (x5.length : Int) then ((impl_pageOk.f k (rd_L1 x5 x7)).bind fun t266 => (if t266 = true then (impl_MemOk.l0 k x5 x6 (wrap64 (x7 + 1))) else (some false))) else (none)) else (none)) else (some true)
def impl_MemOk.f (k : Nat) (l0 : List (List Int)) : Option (Bool) := impl_MemOk.l0 k l0 (l0.length : Int) 0
set_option maxHeartbeats 8000000 in
set_option maxRecDepth 100000 in
theorem impl_MemOk.calls (k : Nat) (A0 : Option Addr) (c0 : Nat) (l0 : List (List Int)) (r : Bool) (w : World) (hr0 : Kd.C (Kd.slice 3 (Kd.int .i64)) w A0 l0.length l0) (hc0 : l0.length ≤ c0) (h : impl_MemOk.f k l0 = some r) :
  Calls Try.prog 8 #[.slice A0 l0.length c0] w fun e w' => e = .returned (.bool r) ∧ Drawn0 w w' := by
 have HR0 := Az.mk hr0
 have HC0 := Az.mk hc0
 clear hr0 hc0
 have H : (impl_MemOk.l0 k l0 (l0.length : Int) 0) = some r := h
 clear h
 have H' := Az.mk H
 clear H
 go_enter Try.func8, Try.ntmps8
 go_wp2
 go_loopg [7] k (fun kq v7 w' => ∃ (x7_1 : Int), v7 = .int .i64 x7_1 ∧ Az (impl_MemOk.l0 kq l0 (l0.length : Int) x7_1 = some r) ∧ Az (kq ≤ k) ∧ Drawn0 w w')
 case atStart => exact ⟨(0), (by first | rfl | (simp; done) | (simp [*]; done)), H', ⟨Nat.le_refl _⟩, by repeat (first | exact Drawn0.refl _ | apply Drawn0.step)⟩
 case round =>
  clear H'
  obtain ⟨x7_1, rfl, HA, HK1, ⟨m1, rfl⟩⟩ := hrel
  cases gk with
  | zero => exact absurd HA.out (by simp [impl_MemOk.l0])
  | succ k1 =>
   have H := HA.out
   clear HA
   simp only [impl_MemOk.l0] at H
   by_cases c2 : x7_1 < (l0.length : Int)
   ·rw [if_pos c2] at H
    have c2b0 : decide (x7_1 < (l0.length : Int)) = true := decide_eq_true c2
    clear c2
    by_cases c3 : 0 ≤ x7_1
    ·rw [if_pos c3] at H
     have c3b0 : decide (0 ≤ x7_1) = true := decide_eq_true c3
     clear c3
     by_cases c4 : x7_1 < (l0.length : Int)
     ·rw [if_pos c4] at H
      have c4b0 : decide (x7_1 < (l0.length : Int)) = true := decide_eq_true c4
      clear c4
      replace H := Option.bind_eq_some_iff.mp H
      obtain ⟨t266, A50, H⟩ := H
      replace H : (if t266 = true then (impl_MemOk.l0 k1 l0 (l0.length : Int) (wrap64 (x7_1 + 1))) else (some false)) = some r := H
      have A5 := Az.mk A50
      clear A50
      by_cases c6 : t266 = true
      ·subst c6
       have H1 : (impl_MemOk.l0 k1 l0 (l0.length : Int) (wrap64 (x7_1 + 1))) = some r := by rw [if_pos rfl] at H; exact H
       clear H
       have H := H1
       clear H1
       have H' := Az.mk H
       clear H
       have p265 : 0 ≤ (x7_1 : Int) := of_decide_eq_true (by first | (with_reducible assumption) | assumption)
       have q265 : x7_1 < (l0.length : Int) := of_decide_eq_true (by first | (with_reducible assumption) | assumption)
       obtain ⟨ad265, A265_0, c265_0, e265, hx265_0, hl265_0, hi265_0⟩ := at_L1 HR0.out x7_1 p265 q265
       cases e265
       have HR265_0 := Az.mk hi265_0
       have HC265_0 := Az.mk hl265_0
       clear hi265_0 hl265_0
       replace p265 := eq_true p265
       replace q265 := eq_true q265
       go_wp2_with (first | ((with_reducible refine Yc (f := 32) rfl ?_); refine Yg (some 12) rfl rfl Try.func32 (by kernel_rfl) rfl #[.slice A265_0 (rd_L1 l0 x7_1).length c265_0] rfl (by (try simp only [List.map_toArray, List.map_cons, List.map_nil]); first | done | rfl | (simp only [List.length_drop, List.length_take]; rfl)) ?_; (with_reducible refine (impl_pageOk.calls k1 _ _ (rd_L1 l0 x7_1) true _ ?side1 ?side2 A5.out).mono ?_); (case side1 => repeat (first | exact HR265_0.out | (with_reducible refine Kd.Ca_ ?_ _) | (with_reducible refine Kd.Cn_ ?_ _) | (with_reducible refine Kd.Cw_ ?_))); (case side2 => exact HC265_0.out); rintro e w' ⟨rfl, ⟨nd, rfl⟩⟩; refine ⟨_, rfl, ?_⟩))
       go_roundg k1
       case measure => have := HK1.out; omega
       case rel => exact ⟨(wrap64 (x7_1 + 1)), (by first | rfl | (simp; done) | (simp [*]; done)), H', ⟨by have := HK1.out; omega⟩, by repeat (first | exact Drawn0.refl _ | apply Drawn0.step)⟩
      ·replace c6 := Bool.eq_false_iff.mpr c6
       subst c6
       have H1 : (some false) = some r := by rw [if_neg (show ¬ (false = true) by decide)] at H; exact H
       clear H
       have H := H1
       clear H1
       obtain rfl := Option.some.inj H
       have p265 : 0 ≤ (x7_1 : Int) := of_decide_eq_true (by first | (with_reducible assumption) | assumption)
       have q265 : x7_1 < (l0.length : Int) := of_decide_eq_true (by first | (with_reducible assumption) | assumption)
       obtain ⟨ad265, A265_0, c265_0, e265, hx265_0, hl265_0, hi265_0⟩ := at_L1 HR0.out x7_1 p265 q265
       cases e265
       have HR265_0 := Az.mk hi265_0
       have HC265_0 := Az.mk hl265_0
       clear hi265_0 hl265_0
       replace p265 := eq_true p265
       replace q265 := eq_true q265
       go_wp2_with (first | ((with_reducible refine Yc (f := 32) rfl ?_); refine Yg (some 12) rfl rfl Try.func32 (by kernel_rfl) rfl #[.slice A265_0 (rd_L1 l0 x7_1).length c265_0] rfl (by (try simp only [List.map_toArray, List.map_cons, List.map_nil]); first | done | rfl | (simp only [List.length_drop, List.length_take]; rfl)) ?_; (with_reducible refine (impl_pageOk.calls k1 _ _ (rd_L1 l0 x7_1) false _ ?side1 ?side2 A5.out).mono ?_); (case side1 => repeat (first | exact HR265_0.out | (with_reducible refine Kd.Ca_ ?_ _) | (with_reducible refine Kd.Cn_ ?_ _) | (with_reducible refine Kd.Cw_ ?_))); (case side2 => exact HC265_0.out); rintro e w' ⟨rfl, ⟨nd, rfl⟩⟩; refine ⟨_, rfl, ?_⟩))
       go_ret
       exact ⟨by first | rfl | (simp; done) | (simp [*]; done), by repeat (first | exact Drawn0.refl _ | apply Drawn0.step)⟩
     ·rw [if_neg c4] at H
      exact absurd H (by simp)
    ·rw [if_neg c3] at H
     exact absurd H (by simp)
   ·rw [if_neg c2] at H
    have c2b0 : decide (x7_1 < (l0.length : Int)) = false := decide_eq_false c2
    clear c2
    obtain rfl := Option.some.inj H
    go_wp2
    go_ret
    exact ⟨by first | rfl | (simp; done) | (simp [*]; done), by repeat (first | exact Drawn0.refl _ | apply Drawn0.step)⟩

/-! ### impl_Host_many: function 67 -/
mutual
def impl_Host_many.l0 : Nat → Int → Int → List (S61) → Int → Int → Option (Int)
 | 0, _, _, _, _, _ => none
 | k + 1, x1, x5, x11, x12, x13 => if x13 < x12 then (if 0 ≤ x13 then (if x13 < (x11.length : Int) then (impl_Host_many.l1 k x1 x5 x11 x12 x13 ((rd_T61 x11 x13).f0) (((rd_T61 x11 x13).f0).length : Int) 0) else (none)) else (none)) else (some x5)
def impl_Host_many.l1 : Nat → Int → Int → List (S61) → Int → Int → List (S83) → Int → Int → Option (Int)
 | 0, _, _, _, _, _, _, _, _ => none
 | k + 1, x1, x5, x11, x12, x13, x18, x19, x20 => if x20 < x19 then (if 0 ≤ x20 then (if x20 < (x18.length : Int) then (if (rd_T83 x18 x20).f0 = true then (if ((rd_T83 x18 x20).f1) = x1 then (impl_Host_many.l1 k x1 (wrap64 (x5 + 1)) x11 x12 x13 x18 x19 (wrap64 (x20 + 1))) else (impl_Host_many.l1 k x1 x5 x11 x12 x13 x18 x19 (wrap64 (x20 + 1)))) else (impl_Host_many.l1 k x1 x5 x11 x12 x13 x18 x19 (wrap64 (x20 + 1)))) else (none)) else (none)) else (impl_Host_many.l0 k x1 x5 x11 x12 (wrap64 (x13 + 1)))
end
def impl_Host_many.f (k : Nat) (l0_0 : List (List Int)) (l0_1 : List (S61)) (a0_2 : Int) (a1 : Int) : Option (Int) := impl_Host_many.l0 k a1 0 l0_1 (l0_1.length : Int) 0
set_option maxHeartbeats 8000000 in
set_option maxRecDepth 100000 in
theorem impl_Host_many.calls (k : Nat) (A0_0 : Option Addr) (c0_0 : Nat) (l0_0 : List (List Int)) (A0_1 : Option Addr) (c0_1 : Nat) (l0_1 : List (S61)) (a0_2 : Int) (a1 : Int) (r : Int) (w : World) (hr0_0 : Kd.C (Kd.slice 3 (Kd.int .i64)) w A0_0 l0_0.length l0_0) (hc0_0 : l0_0.length ≤ c0_0) (hr0_1 : Kd.C k61 w A0_1 l0_1.length l0_1) (hc0_1 : l0_1.length ≤ c0_1) (h : impl_Host_many.f k l0_0 l0_1 a0_2 a1 = some r) :
  Calls Try.prog 67 #[.agg #[.slice A0_0 l0_0.length c0_0, .slice A0_1 l0_1.length c0_1, .int .i64 a0_2], .int .i64 a1] w fun e w' => e = .returned (.int .i64 r) ∧ Below w.heap.size w w' := by
 have hu31 := Try.underlying31
 have hu61 := Try.underlying61
 have hu83 := Try.underlying83
 have HR0_0 := Az.mk hr0_0
 have HC0_0 := Az.mk hc0_0
 clear hr0_0 hc0_0
 have HR0_1 := Az.mk hr0_1
 have HC0_1 := Az.mk hc0_1
 clear hr0_1 hc0_1
 have HB := Az.mk (Below.refl w.heap.size w)
 have H : (impl_Host_many.l0 k a1 0 l0_1 (l0_1.length : Int) 0) = some r := h
 clear h
 have H' := Az.mk H
 clear H
 go_enter Try.func67, Try.ntmps67
 go_wp2_with (first | ((with_reducible refine Yd (N := 2) rfl ?_); refine Yv ?hg (N := 2) ?hd (cs := #[.slice A0_0 l0_0.length c0_0, .slice A0_1 l0_1.length c0_1, .int .i64 a0_2]) (t := 31) ?hr ?_; (case hd => rfl); (case hg => rfl); (case hr => first | (go_simp; done) | (go_simp; rfl)); intro gb267 hg w3 hbox hb; have n0_ := Az.mk (Yt (by repeat (first | (with_reducible first | exact HB.out | apply Ya | apply Yn | apply Yw) | exact HB.out)) hb); have n1_ := Az.mk (hbox); have n2_ := Az.mk ((by rw [hg]; exact (Yz (by repeat (first | (with_reducible first | exact HB.out | apply Ya | apply Yn | apply Yw) | exact HB.out))) : w.heap.size ≤ gb267)); have n3_ := Az.mk ((by rw [hg]; exact (Yz (by repeat (first | (with_reducible first | exact HB.out | apply Ya | apply Yn | apply Yw) | exact HB.out))) : w.heap.size ≤ gb267)); clear HB; have HB := n0_; have BK267 := n1_; have GW267 := n2_; have GE267 := n3_; clear n0_ n1_ n2_ n3_; clear hb hbox hg; have hcz4_0 : w3.cell? ⟨gb267, 0, none⟩ = some (.slice A0_0 l0_0.length c0_0) := (Zc BK267.out 0).trans rfl; have hcz4_1 : w3.cell? ⟨gb267, 1, none⟩ = some (.slice A0_1 l0_1.length c0_1) := (Zc BK267.out 1).trans rfl; have hcz4_2 : w3.cell? ⟨gb267, 2, none⟩ = some (.int .i64 a0_2) := (Zc BK267.out 2).trans rfl; have hfz4_0 := Zf BK267.out 0; have hfz4_1 := Zf BK267.out 1; have hfz4_2 := Zf BK267.out 2))
 go_loopg [5, 13] k (fun kq v5 v13 w' => ∃ (x5_1 : Int) (x13_1 : Int), v5 = .int .i64 x5_1 ∧ v13 = .int .i64 x13_1 ∧ Az (impl_Host_many.l0 kq a1 x5_1 l0_1 (l0_1.length : Int) x13_1 = some r) ∧ Az (kq ≤ k) ∧ Az (w'.heap[gb267]? = some (.cells #[(.slice A0_0 l0_0.length c0_0), (.slice A0_1 l0_1.length c0_1), .int .i64 a0_2] 31 (0, 0))) ∧ Az (Below w.heap.size w w'))
 case atStart => exact ⟨(0), (0), (by first | rfl | (simp; done) | (simp [*]; done)), (by first | rfl | (simp; done) | (simp [*]; done)), H', ⟨Nat.le_refl _⟩, ⟨by (with_reducible repeat (first | refine Zn ?_ _ | refine Zw ?_ | refine Za ?_ _)); exact BK267.out⟩, ⟨by repeat (first | (with_reducible first | exact HB.out | apply Ya | apply Yn | apply Yw | refine Ys ?_ GE267.out) | exact HB.out)⟩⟩
 case round =>
  clear H'
  try clear p2
  try clear hcz4_0
  try clear hcz4_1
  try clear hcz4_2
  try clear hfz4_0
  try clear hfz4_1
  try clear hfz4_2
  obtain ⟨x5_1, x13_1, rfl, rfl, HA, HK1, BK267, HB⟩ := hrel
  cases gk with
  | zero => exact absurd HA.out (by simp [impl_Host_many.l0])
  | succ k1 =>
   have H := HA.out
   clear HA
   simp only [impl_Host_many.l0] at H
   by_cases c5 : x13_1 < (l0_1.length : Int)
   ·rw [if_pos c5] at H
    have c5b0 : decide (x13_1 < (l0_1.length : Int)) = true := decide_eq_true c5
    clear c5
    by_cases c6 : 0 ≤ x13_1
    ·rw [if_pos c6] at H
     have c6b0 : decide (0 ≤ x13_1) = true := decide_eq_true c6
     clear c6
     by_cases c7 : x13_1 < (l0_1.length : Int)
     ·rw [if_pos c7] at H
      have c7b0 : decide (x13_1 < (l0_1.length : Int)) = true := decide_eq_true c7
      clear c7
      have H' := Az.mk H
      clear H
      have p268 : 0 ≤ (x13_1 : Int) := of_decide_eq_true (by first | (with_reducible assumption) | assumption)
      have q268 : x13_1 < (l0_1.length : Int) := of_decide_eq_true (by first | (with_reducible assumption) | assumption)
      obtain ⟨ad268, A268_0, c268_0, A268_1, c268_1, A268_2, c268_2, e268, hx268_0, hx268_1, hx268_2, hl268_0, hi268_0, hl268_1, hi268_1, hl268_2, hi268_2⟩ := at_T61 HR0_1.out x13_1 p268 q268
      cases e268
      replace hx268_0 := (HB.out.cell (World.block_lt_of_cell? w _ hx268_0)).trans hx268_0
      replace hx268_1 := (HB.out.cell (World.block_lt_of_cell? w _ hx268_1)).trans hx268_1
      replace hx268_2 := (HB.out.cell (World.block_lt_of_cell? w _ hx268_2)).trans hx268_2
      have HR268_0 := Az.mk hi268_0
      have HC268_0 := Az.mk hl268_0
      clear hi268_0 hl268_0
      have HR268_1 := Az.mk hi268_1
      have HC268_1 := Az.mk hl268_1
      clear hi268_1 hl268_1
      have HR268_2 := Az.mk hi268_2
      have HC268_2 := Az.mk hl268_2
      clear hi268_2 hl268_2
      replace p268 := eq_true p268
      replace q268 := eq_true q268
      go_wp2_with (first | ((with_reducible refine Yd (N := 7) rfl ?_); refine Yv ?hg (N := 7) ?hd (cs := #[.slice none 0 0, .slice none 0 0, .slice none 0 0]) (t := 61) ?hr ?_; (case hd => rfl); (case hg => rfl); (case hr => first | (go_simp; done) | (go_simp; rfl)); intro gb269 hg w8 hbox hb; have n0_ := Az.mk (Zb (g := gb267) (o := .cells #[.slice A0_0 l0_0.length c0_0, .slice (some ad268) l0_1.length c0_1, .int .i64 a0_2] 31 (0, 0)) (by (with_reducible repeat (first | refine Zn ?_ _ | refine Zw ?_ | refine Za ?_ _)); exact BK267.out) hb); have n1_ := Az.mk (Yt (by repeat (first | (with_reducible first | exact HB.out | apply Ya | apply Yn | apply Yw | refine Ys ?_ GE267.out) | exact HB.out)) hb); have n2_ := Az.mk (hbox); have n3_ := Az.mk ((by rw [hg]; exact (Yz (by repeat (first | (with_reducible first | exact HB.out | apply Ya | apply Yn | apply Yw | refine Ys ?_ GE267.out) | exact HB.out))) : w.heap.size ≤ gb269)); have n4_ := Az.mk ((by rw [hg]; exact (Yz (by repeat (first | (with_reducible first | exact HB.out | apply Ya | apply Yn | apply Yw | refine Ys ?_ GE267.out) | exact HB.out))) : w.heap.size ≤ gb269)); have n5_ := Az.mk ((by rw [hg]; exact Nat.ne_of_lt (Zl (g := gb267) (o := .cells #[.slice A0_0 l0_0.length c0_0, .slice (some ad268) l0_1.length c0_1, .int .i64 a0_2] 31 (0, 0)) (by (with_reducible repeat (first | refine Zn ?_ _ | refine Zw ?_ | refine Za ?_ _)); exact BK267.out)) : gb267 ≠ gb269)); have n6_ := Az.mk ((by rw [hg]; exact Nat.ne_of_gt (Zl (g := gb267) (o := .cells #[.slice A0_0 l0_0.length c0_0, .slice (some ad268) l0_1.length c0_1, .int .i64 a0_2] 31 (0, 0)) (by (with_reducible repeat (first | refine Zn ?_ _ | refine Zw ?_ | refine Za ?_ _)); exact BK267.out)) : gb269 ≠ gb267)); clear BK267; clear HB; have BK267 := n0_; have HB := n1_; have BK269 := n2_; have GW269 := n3_; have GE269 := n4_; have NB267_269 := n5_; have NB269_267 := n6_; clear n0_ n1_ n2_ n3_ n4_ n5_ n6_; clear hb hbox hg; have hnb9 := NB269_267.out; have hnc9 := NB267_269.out; have hcz10_0 : w8.cell? ⟨gb269, 0, none⟩ = some (.slice none 0 0) := (Zc BK269.out 0).trans rfl; have hcz10_1 : w8.cell? ⟨gb269, 1, none⟩ = some (.slice none 0 0) := (Zc BK269.out 1).trans rfl; have hcz10_2 : w8.cell? ⟨gb269, 2, none⟩ = some (.slice none 0 0) := (Zc BK269.out 2).trans rfl; have hfz10_0 := Zf BK269.out 0; have hfz10_1 := Zf BK269.out 1; have hfz10_2 := Zf BK269.out 2))
      go_loopg [5, 20] k1 (fun kq v5 v20 w' => ∃ (x5_2 : Int) (x20_2 : Int), v5 = .int .i64 x5_2 ∧ v20 = .int .i64 x20_2 ∧ Az (impl_Host_many.l1 kq a1 x5_2 l0_1 (l0_1.length : Int) x13_1 ((rd_T61 l0_1 x13_1).f0) (((rd_T61 l0_1 x13_1).f0).length : Int) x20_2 = some r) ∧ Az (kq ≤ k1) ∧ Az (w'.heap[gb267]? = some (.cells #[(.slice A0_0 l0_0.length c0_0), (.slice (some ad268) l0_1.length c0_1), .int .i64 a0_2] 31 (0, 0))) ∧ Az (w'.heap[gb269]? = some (.cells #[(.slice A268_0 ((rd_T61 l0_1 x13_1).f0).length c268_0), (.slice A268_1 ((rd_T61 l0_1 x13_1).f1).length c268_1), (.slice A268_2 ((rd_T61 l0_1 x13_1).f2).length c268_2)] 61 (0, 0))) ∧ Az (Below w.heap.size w w'))
      case atStart => exact ⟨(x5_1), (0), (by first | rfl | (simp; done) | (simp [*]; done)), (by first | rfl | (simp; done) | (simp [*]; done)), H', ⟨Nat.le_refl _⟩, ⟨by (with_reducible repeat (first | refine Zn ?_ _ | refine Zw ?_ | refine Za ?_ _)); refine blk_far ?_ NB267_269.out _; (with_reducible repeat (first | refine Zn ?_ _ | refine Zw ?_ | refine Za ?_ _)); refine blk_far ?_ NB267_269.out _; (with_reducible repeat (first | refine Zn ?_ _ | refine Zw ?_ | refine Za ?_ _)); refine blk_far ?_ NB267_269.out _; (with_reducible repeat (first | refine Zn ?_ _ | refine Zw ?_ | refine Za ?_ _)); exact BK267.out⟩, ⟨by (with_reducible repeat (first | refine Zn ?_ _ | refine Zw ?_ | refine Za ?_ _)); refine Zp (cs := #[.slice A268_0 ((rd_T61 l0_1 x13_1).f0).length c268_0, .slice A268_1 ((rd_T61 l0_1 x13_1).f1).length c268_1, .slice none 0 0]) ?_ 2 _ rfl; (with_reducible repeat (first | refine Zn ?_ _ | refine Zw ?_ | refine Za ?_ _)); refine Zp (cs := #[.slice A268_0 ((rd_T61 l0_1 x13_1).f0).length c268_0, .slice none 0 0, .slice none 0 0]) ?_ 1 _ rfl; (with_reducible repeat (first | refine Zn ?_ _ | refine Zw ?_ | refine Za ?_ _)); refine Zp (cs := #[.slice none 0 0, .slice none 0 0, .slice none 0 0]) ?_ 0 _ rfl; (with_reducible repeat (first | refine Zn ?_ _ | refine Zw ?_ | refine Za ?_ _)); exact BK269.out⟩, ⟨by repeat (first | (with_reducible first | exact HB.out | apply Ya | apply Yn | apply Yw | refine Ys ?_ GE267.out | refine Ys ?_ GE269.out) | exact HB.out)⟩⟩
      case round =>
       clear H'
       try clear c2
       try clear p2
       try clear q2
       try clear hx2
       try clear c5
       try clear c5b0
       try clear c6
       try clear c6b0
       try clear c7
       try clear c7b0
       try clear c9
       try clear hcz10_0
       try clear hcz10_1
       try clear hcz10_2
       try clear hcz4_0
       try clear hcz4_1
       try clear hcz4_2
       try clear hfz10_0
       try clear hfz10_1
       try clear hfz10_2
       try clear hfz4_0
       try clear hfz4_1
       try clear hfz4_2
       try clear hx268_0
       try clear hx268_1
       try clear hx268_2
       try clear p2
       try clear p268
       try clear q268
       obtain ⟨x5_2, x20_2, rfl, rfl, HA, HK2, BK267, BK269, HB⟩ := hrel
       cases gk with
       | zero => exact absurd HA.out (by simp [impl_Host_many.l1])
       | succ k2 =>
        have H := HA.out
        clear HA
        simp only [impl_Host_many.l1] at H
        by_cases c11 : x20_2 < (((rd_T61 l0_1 x13_1).f0).length : Int)
        ·rw [if_pos c11] at H
         have c11b0 : decide (x20_2 < (((rd_T61 l0_1 x13_1).f0).length : Int)) = true := decide_eq_true c11
         clear c11
         by_cases c12 : 0 ≤ x20_2
         ·rw [if_pos c12] at H
          have c12b0 : decide (0 ≤ x20_2) = true := decide_eq_true c12
          clear c12
          by_cases c13 : x20_2 < (((rd_T61 l0_1 x13_1).f0).length : Int)
          ·rw [if_pos c13] at H
           have c13b0 : decide (x20_2 < (((rd_T61 l0_1 x13_1).f0).length : Int)) = true := decide_eq_true c13
           clear c13
           obtain ⟨bq14, hbq14⟩ : ∃ b_ : Bool, b_ = ((rd_T83 ((rd_T61 l0_1 x13_1).f0) x20_2).f0) := ⟨_, rfl⟩
           replace H : (if bq14 = true then (if ((rd_T83 ((rd_T61 l0_1 x13_1).f0) x20_2).f1) = a1 then (impl_Host_many.l1 k2 a1 (wrap64 (x5_2 + 1)) l0_1 (l0_1.length : Int) x13_1 ((rd_T61 l0_1 x13_1).f0) (((rd_T61 l0_1 x13_1).f0).length : Int) (wrap64 (x20_2 + 1))) else (impl_Host_many.l1 k2 a1 x5_2 l0_1 (l0_1.length : Int) x13_1 ((rd_T61 l0_1 x13_1).f0) (((rd_T61 l0_1 x13_1).f0).length : Int) (wrap64 (x20_2 + 1)))) else (impl_Host_many.l1 k2 a1 x5_2 l0_1 (l0_1.length : Int) x13_1 ((rd_T61 l0_1 x13_1).f0) (((rd_T61 l0_1 x13_1).f0).length : Int) (wrap64 (x20_2 + 1)))) = some r := by rw [← hbq14] at H; exact H
           have Nbq14 := Az.mk hbq14
           clear hbq14
           by_cases c15 : bq14 = true
           ·subst c15
            have H1 : (if ((rd_T83 ((rd_T61 l0_1 x13_1).f0) x20_2).f1) = a1 then (impl_Host_many.l1 k2 a1 (wrap64 (x5_2 + 1)) l0_1 (l0_1.length : Int) x13_1 ((rd_T61 l0_1 x13_1).f0) (((rd_T61 l0_1 x13_1).f0).length : Int) (wrap64 (x20_2 + 1))) else (impl_Host_many.l1 k2 a1 x5_2 l0_1 (l0_1.length : Int) x13_1 ((rd_T61 l0_1 x13_1).f0) (((rd_T61 l0_1 x13_1).f0).length : Int) (wrap64 (x20_2 + 1)))) = some r := by rw [if_pos rfl] at H; exact H
            clear H
            have H := H1
            clear H1
            by_cases c16 : ((rd_T83 ((rd_T61 l0_1 x13_1).f0) x20_2).f1) = a1
            ·rw [if_pos c16] at H
             have c16b0 : (((rd_T83 ((rd_T61 l0_1 x13_1).f0) x20_2).f1) == a1) = true := beq_iff_eq.mpr c16
             have c16b1 : (((rd_T83 ((rd_T61 l0_1 x13_1).f0) x20_2).f1) != a1) = false := bne_eq_false_iff_eq.mpr c16
             clear c16
             have H' := Az.mk H
             clear H
             have p270 : 0 ≤ (x20_2 : Int) := of_decide_eq_true (by first | (with_reducible assumption) | assumption)
             have q270 : x20_2 < (((rd_T61 l0_1 x13_1).f0).length : Int) := of_decide_eq_true (by first | (with_reducible assumption) | assumption)
             obtain ⟨ad270, e270, hx270_0, hx270_1, hx270_2⟩ := at_T83 HR268_0.out x20_2 p270 q270
             (try rw [← Nbq14.out] at hx270_0)
             (try rw [← Nbq14.out] at hx270_2)
             cases e270
             replace hx270_0 := (HB.out.cell (World.block_lt_of_cell? w _ hx270_0)).trans hx270_0
             replace hx270_1 := (HB.out.cell (World.block_lt_of_cell? w _ hx270_1)).trans hx270_1
             replace hx270_2 := (HB.out.cell (World.block_lt_of_cell? w _ hx270_2)).trans hx270_2
             replace p270 := eq_true p270
             replace q270 := eq_true q270
             go_wp2_with (first | ((with_reducible refine Yd (N := 9) rfl ?_); refine Yv ?hg (N := 9) ?hd (cs := #[.bool false, .int .i64 0, .bool false]) (t := 83) ?hr ?_; (case hd => rfl); (case hg => rfl); (case hr => first | (go_simp; done) | (go_simp; rfl)); intro gb271 hg w17 hbox hb; have n0_ := Az.mk (Zb (g := gb267) (o := .cells #[.slice A0_0 l0_0.length c0_0, .slice (some ad268) l0_1.length c0_1, .int .i64 a0_2] 31 (0, 0)) (by (with_reducible repeat (first | refine Zn ?_ _ | refine Zw ?_ | refine Za ?_ _)); exact BK267.out) hb); have n1_ := Az.mk (Zb (g := gb269) (o := .cells #[.slice (some ad270) ((rd_T61 l0_1 x13_1).f0).length c268_0, .slice A268_1 ((rd_T61 l0_1 x13_1).f1).length c268_1, .slice A268_2 ((rd_T61 l0_1 x13_1).f2).length c268_2] 61 (0, 0)) (by (with_reducible repeat (first | refine Zn ?_ _ | refine Zw ?_ | refine Za ?_ _)); exact BK269.out) hb); have n2_ := Az.mk (Yt (by repeat (first | (with_reducible first | exact HB.out | apply Ya | apply Yn | apply Yw | refine Ys ?_ GE267.out | refine Ys ?_ GE269.out) | exact HB.out)) hb); have n3_ := Az.mk (hbox); have n4_ := Az.mk ((by rw [hg]; exact (Yz (by repeat (first | (with_reducible first | exact HB.out | apply Ya | apply Yn | apply Yw | refine Ys ?_ GE267.out | refine Ys ?_ GE269.out) | exact HB.out))) : w.heap.size ≤ gb271)); have n5_ := Az.mk ((by rw [hg]; exact (Yz (by repeat (first | (with_reducible first | exact HB.out | apply Ya | apply Yn | apply Yw | refine Ys ?_ GE267.out | refine Ys ?_ GE269.out) | exact HB.out))) : w.heap.size ≤ gb271)); have n6_ := Az.mk ((by rw [hg]; exact Nat.ne_of_lt (Zl (g := gb267) (o := .cells #[.slice A0_0 l0_0.length c0_0, .slice (some ad268) l0_1.length c0_1, .int .i64 a0_2] 31 (0, 0)) (by (with_reducible repeat (first | refine Zn ?_ _ | refine Zw ?_ | refine Za ?_ _)); exact BK267.out)) : gb267 ≠ gb271)); have n7_ := Az.mk ((by rw [hg]; exact Nat.ne_of_gt (Zl (g := gb267) (o := .cells #[.slice A0_0 l0_0.length c0_0, .slice (some ad268) l0_1.length c0_1, .int .i64 a0_2] 31 (0, 0)) (by (with_reducible repeat (first | refine Zn ?_ _ | refine Zw ?_ | refine Za ?_ _)); exact BK267.out)) : gb271 ≠ gb267)); have n8_ := Az.mk ((by rw [hg]; exact Nat.ne_of_lt (Zl (g := gb269) (o := .cells #[.slice (some ad270) ((rd_T61 l0_1 x13_1).f0).length c268_0, .slice A268_1 ((rd_T61 l0_1 x13_1).f1).length c268_1, .slice A268_2 ((rd_T61 l0_1 x13_1).f2).length c268_2] 61 (0, 0)) (by (with_reducible repeat (first | refine Zn ?_ _ | refine Zw ?_ | refine Za ?_ _)); exact BK269.out)) : gb269 ≠ gb271)); have n9_ := Az.mk ((by rw [hg]; exact Nat.ne_of_gt (Zl (g := gb269) (o := .cells #[.slice (some ad270) ((rd_T61 l0_1 x13_1).f0).length c268_0, .slice A268_1 ((rd_T61 l0_1 x13_1).f1).length c268_1, .slice A268_2 ((rd_T61 l0_1 x13_1).f2).length c268_2] 61 (0, 0)) (by (with_reducible repeat (first | refine Zn ?_ _ | refine Zw ?_ | refine Za ?_ _)); exact BK269.out)) : gb271 ≠ gb269)); clear BK267; clear BK269; clear HB; have BK267 := n0_; have BK269 := n1_; have HB := n2_; have BK271 := n3_; have GW271 := n4_; have GE271 := n5_; have NB267_271 := n6_; have NB271_267 := n7_; have NB269_271 := n8_; have NB271_269 := n9_; clear n0_ n1_ n2_ n3_ n4_ n5_ n6_ n7_ n8_ n9_; clear hb hbox hg; have hnb18 := NB271_267.out; have hnc18 := NB267_271.out; have hnb19 := NB271_269.out; have hnc19 := NB269_271.out; have hcz20_0 : w17.cell? ⟨gb271, 0, none⟩ = some (.bool false) := (Zc BK271.out 0).trans rfl; have hcz20_1 : w17.cell? ⟨gb271, 1, none⟩ = some (.int .i64 0) := (Zc BK271.out 1).trans rfl; have hcz20_2 : w17.cell? ⟨gb271, 2, none⟩ = some (.bool false) := (Zc BK271.out 2).trans rfl; have hfz20_0 := Zf BK271.out 0; have hfz20_1 := Zf BK271.out 1; have hfz20_2 := Zf BK271.out 2))
             go_roundg k2
             case measure => have := HK1.out; have := HK2.out; omega
             case rel => exact ⟨(wrap64 (x5_2 + 1)), (wrap64 (x20_2 + 1)), (by first | rfl | (simp; done) | (simp [*]; done)), (by first | rfl | (simp; done) | (simp [*]; done)), H', ⟨by have := HK1.out; have := HK2.out; omega⟩, ⟨by (with_reducible repeat (first | refine Zn ?_ _ | refine Zw ?_ | refine Za ?_ _)); refine blk_far ?_ NB267_271.out _; (with_reducible repeat (first | refine Zn ?_ _ | refine Zw ?_ | refine Za ?_ _)); refine blk_far ?_ NB267_271.out _; (with_reducible repeat (first | refine Zn ?_ _ | refine Zw ?_ | refine Za ?_ _)); refine blk_far ?_ NB267_271.out _; (with_reducible repeat (first | refine Zn ?_ _ | refine Zw ?_ | refine Za ?_ _)); exact BK267.out⟩, ⟨by (with_reducible repeat (first | refine Zn ?_ _ | refine Zw ?_ | refine Za ?_ _)); refine blk_far ?_ NB269_271.out _; (with_reducible repeat (first | refine Zn ?_ _ | refine Zw ?_ | refine Za ?_ _)); refine blk_far ?_ NB269_271.out _; (with_reducible repeat (first | refine Zn ?_ _ | refine Zw ?_ | refine Za ?_ _)); refine blk_far ?_ NB269_271.out _; (with_reducible repeat (first | refine Zn ?_ _ | refine Zw ?_ | refine Za ?_ _)); exact BK269.out⟩, ⟨by repeat (first | (with_reducible first | exact HB.out | apply Ya | apply Yn | apply Yw | refine Ys ?_ GE267.out | refine Ys ?_ GE269.out | refine Ys ?_ GE271.out) | exact HB.out)⟩⟩
            ·rw [if_neg c16] at H
             have c16b0 : (((rd_T83 ((rd_T61 l0_1 x13_1).f0) x20_2).f1) == a1) = false := beq_eq_false_iff_ne.mpr c16
             have c16b1 : (((rd_T83 ((rd_T61 l0_1 x13_1).f0) x20_2).f1) != a1) = true := bne_iff_ne.mpr c16
             have H' := Az.mk H
             clear H
             have p270 : 0 ≤ (x20_2 : Int) := of_decide_eq_true (by first | (with_reducible assumption) | assumption)
             have q270 : x20_2 < (((rd_T61 l0_1 x13_1).f0).length : Int) := of_decide_eq_true (by first | (with_reducible assumption) | assumption)
             obtain ⟨ad270, e270, hx270_0, hx270_1, hx270_2⟩ := at_T83 HR268_0.out x20_2 p270 q270
             (try rw [← Nbq14.out] at hx270_0)
             (try rw [← Nbq14.out] at hx270_2)
             cases e270
             replace hx270_0 := (HB.out.cell (World.block_lt_of_cell? w _ hx270_0)).trans hx270_0
             replace hx270_1 := (HB.out.cell (World.block_lt_of_cell? w _ hx270_1)).trans hx270_1
             replace hx270_2 := (HB.out.cell (World.block_lt_of_cell? w _ hx270_2)).trans hx270_2
             replace p270 := eq_true p270
             replace q270 := eq_true q270
             go_wp2_with (first | ((with_reducible refine Yd (N := 9) rfl ?_); refine Yv ?hg (N := 9) ?hd (cs := #[.bool false, .int .i64 0, .bool false]) (t := 83) ?hr ?_; (case hd => rfl); (case hg => rfl); (case hr => first | (go_simp; done) | (go_simp; rfl)); intro gb271 hg w21 hbox hb; have n0_ := Az.mk (Zb (g := gb267) (o := .cells #[.slice A0_0 l0_0.length c0_0, .slice (some ad268) l0_1.length c0_1, .int .i64 a0_2] 31 (0, 0)) (by (with_reducible repeat (first | refine Zn ?_ _ | refine Zw ?_ | refine Za ?_ _)); exact BK267.out) hb); have n1_ := Az.mk (Zb (g := gb269) (o := .cells #[.slice (some ad270) ((rd_T61 l0_1 x13_1).f0).length c268_0, .slice A268_1 ((rd_T61 l0_1 x13_1).f1).length c268_1, .slice A268_2 ((rd_T61 l0_1 x13_1).f2).length c268_2] 61 (0, 0)) (by (with_reducible repeat (first | refine Zn ?_ _ | refine Zw ?_ | refine Za ?_ _)); exact BK269.out) hb); have n2_ := Az.mk (Yt (by repeat (first | (with_reducible first | exact HB.out | apply Ya | apply Yn | apply Yw | refine Ys ?_ GE267.out | refine Ys ?_ GE269.out) | exact HB.out)) hb); have n3_ := Az.mk (hbox); have n4_ := Az.mk ((by rw [hg]; exact (Yz (by repeat (first | (with_reducible first | exact HB.out | apply Ya | apply Yn | apply Yw | refine Ys ?_ GE267.out | refine Ys ?_ GE269.out) | exact HB.out))) : w.heap.size ≤ gb271)); have n5_ := Az.mk ((by rw [hg]; exact (Yz (by repeat (first | (with_reducible first | exact HB.out | apply Ya | apply Yn | apply Yw | refine Ys ?_ GE267.out | refine Ys ?_ GE269.out) | exact HB.out))) : w.heap.size ≤ gb271)); have n6_ := Az.mk ((by rw [hg]; exact Nat.ne_of_lt (Zl (g := gb267) (o := .cells #[.slice A0_0 l0_0.length c0_0, .slice (some ad268) l0_1.length c0_1, .int .i64 a0_2] 31 (0, 0)) (by (with_reducible repeat (first | refine Zn ?_ _ | refine Zw ?_ | refine Za ?_ _)); exact BK267.out)) : gb267 ≠ gb271)); have n7_ := Az.mk ((by rw [hg]; exact Nat.ne_of_gt (Zl (g := gb267) (o := .cells #[.slice A0_0 l0_0.length c0_0, .slice (some ad268) l0_1.length c0_1, .int .i64 a0_2] 31 (0, 0)) (by (with_reducible repeat (first | refine Zn ?_ _ | refine Zw ?_ | refine Za ?_ _)); exact BK267.out)) : gb271 ≠ gb267)); have n8_ := Az.mk ((by rw [hg]; exact Nat.ne_of_lt (Zl (g := gb269) (o := .cells #[.slice (some ad270) ((rd_T61 l0_1 x13_1).f0).length c268_0, .slice A268_1 ((rd_T61 l0_1 x13_1).f1).length c268_1, .slice A268_2 ((rd_T61 l0_1 x13_1).f2).length c268_2] 61 (0, 0)) (by (with_reducible repeat (first | refine Zn ?_ _ | refine Zw ?_ | refine Za ?_ _)); exact BK269.out)) : gb269 ≠ gb271)); have n9_ := Az.mk ((by rw [hg]; exact Nat.ne_of_gt (Zl (g := gb269) (o := .cells #[.slice (some ad270) ((rd_T61 l0_1 x13_1).f0).length c268_0, .slice A268_1 ((rd_T61 l0_1 x13_1).f1).length c268_1, .slice A268_2 ((rd_T61 l0_1 x13_1).f2).length c268_2] 61 (0, 0)) (by (with_reducible repeat (first | refine Zn ?_ _ | refine Zw ?_ | refine Za ?_ _)); exact BK269.out)) : gb271 ≠ gb269)); clear BK267; clear BK269; clear HB; have BK267 := n0_; have BK269 := n1_; have HB := n2_; have BK271 := n3_; have GW271 := n4_; have GE271 := n5_; have NB267_271 := n6_; have NB271_267 := n7_; have NB269_271 := n8_; have NB271_269 := n9_; clear n0_ n1_ n2_ n3_ n4_ n5_ n6_ n7_ n8_ n9_; clear hb hbox hg; have hnb22 := NB271_267.out; have hnc22 := NB267_271.out; have hnb23 := NB271_269.out; have hnc23 := NB269_271.out; have hcz24_0 : w21.cell? ⟨gb271, 0, none⟩ = some (.bool false) := (Zc BK271.out 0).trans rfl; have hcz24_1 : w21.cell? ⟨gb271, 1, none⟩ = some (.int .i64 0) := (Zc BK271.out 1).trans rfl; have hcz24_2 : w21.cell? ⟨gb271, 2, none⟩ = some (.bool false) := (Zc BK271.out 2).trans rfl; have hfz24_0 := Zf BK271.out 0; have hfz24_1 := Zf BK271.out 1; have hfz24_2 := Zf BK271.out 2))
             go_roundg k2
             case measure => have := HK1.out; have := HK2.out; omega
             case rel => exact ⟨(x5_2), (wrap64 (x20_2 + 1)), (by first | rfl | (simp; done) | (simp [*]; done)), (by first | rfl | (simp; done) | (simp [*]; done)), H', ⟨by have := HK1.out; have := HK2.out; omega⟩, ⟨by (with_reducible repeat (first | refine Zn ?_ _ | refine Zw ?_ | refine Za ?_ _)); refine blk_far ?_ NB267_271.out _; (with_reducible repeat (first | refine Zn ?_ _ | refine Zw ?_ | refine Za ?_ _)); refine blk_far ?_ NB267_271.out _; (with_reducible repeat (first | refine Zn ?_ _ | refine Zw ?_ | refine Za ?_ _)); refine blk_far ?_ NB267_271.out _; (with_reducible repeat (first | refine Zn ?_ _ | refine Zw ?_ | refine Za ?_ _)); exact BK267.out⟩, ⟨by (with_reducible repeat (first | refine Zn ?_ _ | refine Zw ?_ | refine Za ?_ _)); refine blk_far ?_ NB269_271.out _; (with_reducible repeat (first | refine Zn ?_ _ | refine Zw ?_ | refine Za ?_ _)); refine blk_far ?_ NB269_271.out _; (with_reducible repeat (first | refine Zn ?_ _ | refine Zw ?_ | refine Za ?_ _)); refine blk_far ?_ NB269_271.out _; (with_reducible repeat (first | refine Zn ?_ _ | refine Zw ?_ | refine Za ?_ _)); exact BK269.out⟩, ⟨by repeat (first | (with_reducible first | exact HB.out | apply Ya | apply Yn | apply Yw | refine Ys ?_ GE267.out | refine Ys ?_ GE269.out | refine Ys ?_ GE271.out) | exact HB.out)⟩⟩
           ·replace c15 := Bool.eq_false_iff.mpr c15
            subst c15
            have H1 : (impl_Host_many.l1 k2 a1 x5_2 l0_1 (l0_1.length : Int) x13_1 ((rd_T61 l0_1 x13_1).f0) (((rd_T61 l0_1 x13_1).f0).length : Int) (wrap64 (x20_2 + 1))) = some r := by rw [if_neg (show ¬ (false = true) by decide)] at H; exact H
            clear H
            have H := H1
            clear H1
            have H' := Az.mk H
            clear H
            have p270 : 0 ≤ (x20_2 : Int) := of_decide_eq_true (by first | (with_reducible assumption) | assumption)
            have q270 : x20_2 < (((rd_T61 l0_1 x13_1).f0).length : Int) := of_decide_eq_true (by first | (with_reducible assumption) | assumption)
            obtain ⟨ad270, e270, hx270_0, hx270_1, hx270_2⟩ := at_T83 HR268_0.out x20_2 p270 q270
            (try rw [← Nbq14.out] at hx270_0)
            (try rw [← Nbq14.out] at hx270_2)
            cases e270
            replace hx270_0 := (HB.out.cell (World.block_lt_of_cell? w _ hx270_0)).trans hx270_0
            replace hx270_1 := (HB.out.cell (World.block_lt_of_cell? w _ hx270_1)).trans hx270_1
            replace hx270_2 := (HB.out.cell (World.block_lt_of_cell? w _ hx270_2)).trans hx270_2
            replace p270 := eq_true p270
            replace q270 := eq_true q270
            go_wp2_with (first | ((with_reducible refine Yd (N := 9) rfl ?_); refine Yv ?hg (N := 9) ?hd (cs := #[.bool false, .int .i64 0, .bool false]) (t := 83) ?hr ?_; (case hd => rfl); (case hg => rfl); (case hr => first | (go_simp; done) | (go_simp; rfl)); intro gb271 hg w25 hbox hb; have n0_ := Az.mk (Zb (g := gb267) (o := .cells #[.slice A0_0 l0_0.length c0_0, .slice (some ad268) l0_1.length c0_1, .int .i64 a0_2] 31 (0, 0)) (by (with_reducible repeat (first | refine Zn ?_ _ | refine Zw ?_ | refine Za ?_ _)); exact BK267.out) hb); have n1_ := Az.mk (Zb (g := gb269) (o := .cells #[.slice (some ad270) ((rd_T61 l0_1 x13_1).f0).length c268_0, .slice A268_1 ((rd_T61 l0_1 x13_1).f1).length c268_1, .slice A268_2 ((rd_T61 l0_1 x13_1).f2).length c268_2] 61 (0, 0)) (by (with_reducible repeat (first | refine Zn ?_ _ | refine Zw ?_ | refine Za ?_ _)); exact BK269.out) hb); have n2_ := Az.mk (Yt (by repeat (first | (with_reducible first | exact HB.out | apply Ya | apply Yn | apply Yw | refine Ys ?_ GE267.out | refine Ys ?_ GE269.out) | exact HB.out)) hb); have n3_ := Az.mk (hbox); have n4_ := Az.mk ((by rw [hg]; exact (Yz (by repeat (first | (with_reducible first | exact HB.out | apply Ya | apply Yn | apply Yw | refine Ys ?_ GE267.out | refine Ys ?_ GE269.out) | exact HB.out))) : w.heap.size ≤ gb271)); have n5_ := Az.mk ((by rw [hg]; exact (Yz (by repeat (first | (with_reducible first | exact HB.out | apply Ya | apply Yn | apply Yw | refine Ys ?_ GE267.out | refine Ys ?_ GE269.out) | exact HB.out))) : w.heap.size ≤ gb271)); have n6_ := Az.mk ((by rw [hg]; exact Nat.ne_of_lt (Zl (g := gb267) (o := .cells #[.slice A0_0 l0_0.length c0_0, .slice (some ad268) l0_1.length c0_1, .int .i64 a0_2] 31 (0, 0)) (by (with_reducible repeat (first | refine Zn ?_ _ | refine Zw ?_ | refine Za ?_ _)); exact BK267.out)) : gb267 ≠ gb271)); have n7_ := Az.mk ((by rw [hg]; exact Nat.ne_of_gt (Zl (g := gb267) (o := .cells #[.slice A0_0 l0_0.length c0_0, .slice (some ad268) l0_1.length c0_1, .int .i64 a0_2] 31 (0, 0)) (by (with_reducible repeat (first | refine Zn ?_ _ | refine Zw ?_ | refine Za ?_ _)); exact BK267.out)) : gb271 ≠ gb267)); have n8_ := Az.mk ((by rw [hg]; exact Nat.ne_of_lt (Zl (g := gb269) (o := .cells #[.slice (some ad270) ((rd_T61 l0_1 x13_1).f0).length c268_0, .slice A268_1 ((rd_T61 l0_1 x13_1).f1).length c268_1, .slice A268_2 ((rd_T61 l0_1 x13_1).f2).length c268_2] 61 (0, 0)) (by (with_reducible repeat (first | refine Zn ?_ _ | refine Zw ?_ | refine Za ?_ _)); exact BK269.out)) : gb269 ≠ gb271)); have n9_ := Az.mk ((by rw [hg]; exact Nat.ne_of_gt (Zl (g := gb269) (o := .cells #[.slice (some ad270) ((rd_T61 l0_1 x13_1).f0).length c268_0, .slice A268_1 ((rd_T61 l0_1 x13_1).f1).length c268_1, .slice A268_2 ((rd_T61 l0_1 x13_1).f2).length c268_2] 61 (0, 0)) (by (with_reducible repeat (first | refine Zn ?_ _ | refine Zw ?_ | refine Za ?_ _)); exact BK269.out)) : gb271 ≠ gb269)); clear BK267; clear BK269; clear HB; have BK267 := n0_; have BK269 := n1_; have HB := n2_; have BK271 := n3_; have GW271 := n4_; have GE271 := n5_; have NB267_271 := n6_; have NB271_267 := n7_; have NB269_271 := n8_; have NB271_269 := n9_; clear n0_ n1_ n2_ n3_ n4_ n5_ n6_ n7_ n8_ n9_; clear hb hbox hg; have hnb26 := NB271_267.out; have hnc26 := NB267_271.out; have hnb27 := NB271_269.out; have hnc27 := NB269_271.out; have hcz28_0 : w25.cell? ⟨gb271, 0, none⟩ = some (.bool false) := (Zc BK271.out 0).trans rfl; have hcz28_1 : w25.cell? ⟨gb271, 1, none⟩ = some (.int .i64 0) := (Zc BK271.out 1).trans rfl; have hcz28_2 : w25.cell? ⟨gb271, 2, none⟩ = some (.bool false) := (Zc BK271.out 2).trans rfl; have hfz28_0 := Zf BK271.out 0; have hfz28_1 := Zf BK271.out 1; have hfz28_2 := Zf BK271.out 2))
            go_roundg k2
            case measure => have := HK1.out; have := HK2.out; omega
            case rel => exact ⟨(x5_2), (wrap64 (x20_2 + 1)), (by first | rfl | (simp; done) | (simp [*]; done)), (by first | rfl | (simp; done) | (simp [*]; done)), H', ⟨by have := HK1.out; have := HK2.out; omega⟩, ⟨by (with_reducible repeat (first | refine Zn ?_ _ | refine Zw ?_ | refine Za ?_ _)); refine blk_far ?_ NB267_271.out _; (with_reducible repeat (first | refine Zn ?_ _ | refine Zw ?_ | refine Za ?_ _)); refine blk_far ?_ NB267_271.out _; (with_reducible repeat (first | refine Zn ?_ _ | refine Zw ?_ | refine Za ?_ _)); refine blk_far ?_ NB267_271.out _; (with_reducible repeat (first | refine Zn ?_ _ | refine Zw ?_ | refine Za ?_ _)); exact BK267.out⟩, ⟨by (with_reducible repeat (first | refine Zn ?_ _ | refine Zw ?_ | refine Za ?_ _)); refine blk_far ?_ NB269_271.out _; (with_reducible repeat (first | refine Zn ?_ _ | refine Zw ?_ | refine Za ?_ _)); refine blk_far ?_ NB269_271.out _; (with_reducible repeat (first | refine Zn ?_ _ | refine Zw ?_ | refine Za ?_ _)); refine blk_far ?_ NB269_271.out _; (with_reducible repeat (first | refine Zn ?_ _ | refine Zw ?_ | refine Za ?_ _)); exact BK269.out⟩, ⟨by repeat (first | (with_reducible first | exact HB.out | apply Ya | apply Yn | apply Yw | refine Ys ?_ GE267.out | refine Ys ?_ GE269.out | refine Ys ?_ GE271.out) | exact HB.out)⟩⟩
          ·rw [if_neg c13] at H
           exact absurd H (by simp)
         ·rw [if_neg c12] at H
          exact absurd H (by simp)
        ·rw [if_neg c11] at H
         have c11b0 : decide (x20_2 < (((rd_T61 l0_1 x13_1).f0).length : Int)) = false := decide_eq_false c11
         clear c11
         have H' := Az.mk H
         clear H
         go_wp2
         go_roundg k2
         case measure => have := HK1.out; have := HK2.out; omega
         case rel => exact ⟨(x5_2), (wrap64 (x13_1 + 1)), (by first | rfl | (simp; done) | (simp [*]; done)), (by first | rfl | (simp; done) | (simp [*]; done)), H', ⟨by have := HK1.out; have := HK2.out; omega⟩, ⟨by (with_reducible repeat (first | refine Zn ?_ _ | refine Zw ?_ | refine Za ?_ _)); exact BK267.out⟩, ⟨by repeat (first | (with_reducible first | exact HB.out | apply Ya | apply Yn | apply Yw | refine Ys ?_ GE267.out | refine Ys ?_ GE269.out) | exact HB.out)⟩⟩
     ·rw [if_neg c7] at H
      exact absurd H (by simp)
    ·rw [if_neg c6] at H
     exact absurd H (by simp)
   ·rw [if_neg c5] at H
    have c5b0 : decide (x13_1 < (l0_1.length : Int)) = false := decide_eq_false c5
    clear c5
    obtain rfl := Option.some.inj H
    go_wp2
    go_ret
    exact ⟨by first | rfl | (simp [errW_none, errW_some] <;> rfl) | (simp [*, errW_none, errW_some] <;> rfl), by repeat (first | (with_reducible first | exact HB.out | apply Ya | apply Yn | apply Yw | refine Ys ?_ GE267.out) | exact HB.out)⟩

/-! ### impl_guestMem: function 76 -/
def impl_guestMem.f (k : Nat) (l0 : List (List Int)) : Option (Bool) := (impl_MemOk.f k l0).bind fun t272 => (if t272 = true then (some ((l0.length : Int) == 6)) else (some false))
set_option maxHeartbeats 8000000 in
set_option maxRecDepth 100000 in
theorem impl_guestMem.calls (k : Nat) (A0 : Option Addr) (c0 : Nat) (l0 : List (List Int)) (r : Bool) (w : World) (hr0 : Kd.C (Kd.slice 3 (Kd.int .i64)) w A0 l0.length l0) (hc0 : l0.length ≤ c0) (h : impl_guestMem.f k l0 = some r) :
  Calls Try.prog 76 #[.slice A0 l0.length c0] w fun e w' => e = .returned (.bool r) ∧ Drawn0 w w' := by
 have HR0 := Az.mk hr0
 have HC0 := Az.mk hc0
 clear hr0 hc0
 have H : ((impl_MemOk.f k l0).bind fun t272 => (if t272 = true then (some ((l0.length : Int) == 6)) else (some false))) = some r := h
 clear h
 replace H := Option.bind_eq_some_iff.mp H
 obtain ⟨t272, A20, H⟩ := H
 replace H : (if t272 = true then (some ((l0.length : Int) == 6)) else (some false)) = some r := H
 have A2 := Az.mk A20
 clear A20
 by_cases c3 : t272 = true
 ·subst c3
  have H1 : (some ((l0.length : Int) == 6)) = some r := by rw [if_pos rfl] at H; exact H
  clear H
  have H := H1
  clear H1
  obtain rfl := Option.some.inj H
  go_enter Try.func76, Try.ntmps76
  go_wp2_with (first | ((with_reducible refine Yc (f := 8) rfl ?_); refine Yg (some 4) rfl rfl Try.func8 (by kernel_rfl) rfl #[.slice A0 l0.length c0] rfl (by (try simp only [List.map_toArray, List.map_cons, List.map_nil]); first | done | rfl | (simp only [List.length_drop, List.length_take]; rfl)) ?_; (with_reducible refine (impl_MemOk.calls k _ _ l0 true _ ?side1 ?side2 A2.out).mono ?_); (case side1 => repeat (first | exact HR0.out | (with_reducible refine Kd.Ca_ ?_ _) | (with_reducible refine Kd.Cn_ ?_ _) | (with_reducible refine Kd.Cw_ ?_))); (case side2 => exact HC0.out); rintro e w' ⟨rfl, ⟨nd, rfl⟩⟩; refine ⟨_, rfl, ?_⟩))
  go_ret
  exact ⟨by first | rfl | (simp; done) | (simp [*]; done), by repeat (first | exact Drawn0.refl _ | apply Drawn0.step)⟩
 ·replace c3 := Bool.eq_false_iff.mpr c3
  subst c3
  have H1 : (some false) = some r := by rw [if_neg (show ¬ (false = true) by decide)] at H; exact H
  clear H
  have H := H1
  clear H1
  obtain rfl := Option.some.inj H
  go_enter Try.func76, Try.ntmps76
  go_wp2_with (first | ((with_reducible refine Yc (f := 8) rfl ?_); refine Yg (some 4) rfl rfl Try.func8 (by kernel_rfl) rfl #[.slice A0 l0.length c0] rfl (by (try simp only [List.map_toArray, List.map_cons, List.map_nil]); first | done | rfl | (simp only [List.length_drop, List.length_take]; rfl)) ?_; (with_reducible refine (impl_MemOk.calls k _ _ l0 false _ ?side1 ?side2 A2.out).mono ?_); (case side1 => repeat (first | exact HR0.out | (with_reducible refine Kd.Ca_ ?_ _) | (with_reducible refine Kd.Cn_ ?_ _) | (with_reducible refine Kd.Cw_ ?_))); (case side2 => exact HC0.out); rintro e w' ⟨rfl, ⟨nd, rfl⟩⟩; refine ⟨_, rfl, ?_⟩))
  go_ret
  exact ⟨by first | rfl | (simp; done) | (simp [*]; done), by repeat (first | exact Drawn0.refl _ | apply Drawn0.step)⟩

-- NOT PRINTED: function 84 (slices_IndexFunc_int_int)

-- NOT PRINTED: function 82 (slices_ContainsFunc_int_int)

end Go.Proofs.Ytjgcfpclddfifaa.QFnExactHostFree
