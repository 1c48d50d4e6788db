/- Walks of this claim: each Go function that the law reaches comes to what the Lean function beside it says. Conditions: none beyond those that each theorem names. -/
import Derived.Test.YtfamknibfokfmaaVFnLoadBadx0
import Derived.Test.YtfamknibfokfmaaVFnLoadBadx3
namespace Go.Proofs.Ytfamknibfokfmaa.QFnLoadBad
open Go.RowKit Go.Proofs.YtfamknibfokfmaaW.PrintWords Go.Proofs.YtfamknibfokfmaaW.PrintLast Go.Proofs.YtfamknibfokfmaaW.PrintMore
attribute [local go_sem] max2_int min2_int max_two min_two max_three min_three max_four min_four   -- for this text's walks alone
set_option linter.unusedVariables false
set_option linter.unusedSimpArgs false

/-! ### spec_l71Mem: function 58 -/
mutual
def spec_l71Mem.l0 : Nat → List (List Int) → Int → List Int → Int → Option ((List (List Int)) × Int)
 | 0, _, _, _, _ => none
 | k + 1, x3, x4, x1000, x1001 => if x4 > 0 then ((spec_l6Rd_pick.f k x1000 x1001 6).bind fun bt135 => (if 0 ≤ bt135.1 then (if bt135.1 < (x3.length : Int) then ((spec_l6Rd_pick.f k x1000 bt135.2 4).bind fun bt138 => ((spec_l71Word.f k x1000 bt138.2).bind fun bt140 => (if 0 ≤ bt138.1 then (if bt138.1 < ((rd_L1 x3 bt135.1).length : Int) then (spec_l71Mem.l0 k (x3.set (bt135.1 : Int).toNat ((rd_L1 x3 bt135.1).set (bt138.1 : Int).toNat bt140.1)) (wrap64 (x4 - 1)) x1000 bt140.2) else (none)) else (none)))) else (none)) else (none))) else ((spec_l6Rd_pick.f k x1000 x1001 7).bind fun bt145 => (spec_l71Mem.l1 k x3 bt145.1 x1000 bt145.2))
def spec_l71Mem.l1 : Nat → List (List Int) → Int → List Int → Int → Option ((List (List Int)) × Int)
 | 0, _, _, _, _ => none
 | k + 1, x3, x5, x1000, x1001 => if x5 > 0 then ((spec_l6Rd_pick.f k x1000 x1001 6).bind fun bt147 => (if 0 ≤ (wrap64 (Int.tdiv bt147.1 4)) then (if (wrap64 (Int.tdiv bt147.1 4)) < (x3.length : Int) then ((spec_l6Rd_pick.f k x1000 bt147.2 8).bind fun bt150 => (if 0 ≤ (Int.tmod bt147.1 4) then (if (Int.tmod bt147.1 4) < ((rd_L1 x3 (wrap64 (Int.tdiv bt147.1 4))).length : Int) then (spec_l71Mem.l1 k (x3.set ((wrap64 (Int.tdiv bt147.1 4)) : Int).toNat ((rd_L1 x3 (wrap64 (Int.tdiv bt147.1 4))).set ((Int.tmod bt147.1 4) : Int).toNat (wrap64 (5 + bt150.1)))) (wrap64 (x5 - 1)) x1000 bt150.2) else (none)) else (none))) else (none)) else (none))) else (some (x3, x1001))
end
def spec_l71Mem.f (k : Nat) (s0_0 : List Int) (s0_1 : Int) : Option ((List (List Int)) × Int) := (spec_MemNew.f k 6).bind fun t130 => ((spec_l6Rd_pick.f k s0_0 s0_1 26).bind fun bt133 => (spec_l71Mem.l0 k t130 bt133.1 s0_0 bt133.2))
def spec_l71Mem.T5 : Bool × List (List Nat × List Nat) := (true, [([], []), ([], []), ([1], [1]), ([0, 2], [0, 2]), ([3], [3]), ([], []), ([5, 2], [5]), ([], []), ([7, 6], [7]), ([4, 6, 0, 1, 2, 3, 4, 5, 6, 7, 8], [4, 6]), ([9, 8, 8, 0, 1, 2, 3, 4, 5, 6, 7, 8], [8, 9])])
def spec_l71Mem.B5 : List Nat := [0, 0, 2, 7, 15, 0, 38, 0, 230, 511, 1023]
theorem spec_l71Mem.tab5 : rtab .any (opsOf Try.f58 5) = spec_l71Mem.T5 := by kernel_rfl
theorem spec_l71Mem.bits5 : waitsOk spec_l71Mem.T5.2 spec_l71Mem.B5 = true := by kernel_rfl
def spec_l71Mem.T10 : Bool × List (List Nat × List Nat) := (true, [([], []), ([], []), ([1], [1]), ([0, 2], [0, 2]), ([3], [3]), ([], []), ([5], [5]), ([], []), ([7], [7]), ([8], [8]), ([4, 6, 0, 1, 2, 3, 4, 5, 6, 7, 8, 9], [4, 6]), ([10, 9, 8, 0, 1, 2, 3, 4, 5, 6, 7, 8, 9], [9, 10])])
def spec_l71Mem.B10 : List Nat := [0, 0, 2, 7, 15, 0, 32, 0, 128, 384, 1023, 2047]
theorem spec_l71Mem.tab10 : rtab .any (opsOf Try.f58 10) = spec_l71Mem.T10 := by kernel_rfl
theorem spec_l71Mem.bits10 : waitsOk spec_l71Mem.T10.2 spec_l71Mem.B10 = true := by kernel_rfl
set_option maxHeartbeats 8000000 in
set_option maxRecDepth 100000 in
theorem spec_l71Mem.calls (k : Nat) (g : Nat) (s0_0 : List Int) (s0_1 : Int) (r1 : List (List Int)) (r2 : Int) (w0 w : World) (hI : IsS93 w0 w g s0_0 s0_1) (hB : Below w0.heap.size w0 w) (h : spec_l71Mem.f k s0_0 s0_1 = some (r1, r2)) :
  Calls Try.prog 58 #[.pointer (some ⟨g, 0, none⟩)] w fun e w' => ∃ v0_ : Value, e = .returned (v0_) ∧ Kd.S (Kd.slice 3 (Kd.int .i64)) 45 w' w.heap.size (fun _ => True) v0_ r1 ∧ IsS93 w0 w' g s0_0 r2 ∧ Below w0.heap.size w0 w' ∧ KeepBut w w' g none := by
 have HI0 := Az.mk hI
 have HK := Az.mk (KeepBut.refl w g none)
 have HL := Az.mk hB.size
 clear hI
 have HW0 := Az.mk hB.size
 have HB := Az.mk hB
 clear hB
 have H : ((spec_MemNew.f k 6).bind fun t130 => ((spec_l6Rd_pick.f k s0_0 s0_1 26).bind fun bt133 => (spec_l71Mem.l0 k t130 bt133.1 s0_0 bt133.2))) = some (r1, r2) := h
 clear h
 replace H := Option.bind_eq_some_iff.mp H
 obtain ⟨t130, A20, H⟩ := H
 replace H : ((spec_l6Rd_pick.f k s0_0 s0_1 26).bind fun bt133 => (spec_l71Mem.l0 k t130 bt133.1 s0_0 bt133.2)) = some (r1, r2) := H
 have A2 := Az.mk A20
 clear A20
 replace H := Option.bind_eq_some_iff.mp H
 obtain ⟨⟨t133, t134⟩, A30, H⟩ := H
 replace H : (spec_l71Mem.l0 k t130 t133 s0_0 t134) = some (r1, r2) := H
 have A3 := Az.mk A30
 clear A30
 have H' := Az.mk H
 clear H
 go_enter Try.func58, Try.ntmps58
 go_wp2_with (first | ((with_reducible refine Yc (f := 64) rfl ?_); refine Yg (some 7) rfl rfl Try.func64 (by kernel_rfl) rfl #[.int .i64 6] rfl (by (try simp only [List.map_toArray, List.map_cons, List.map_nil]); first | done | rfl | (simp only [List.length_drop, List.length_take]; rfl)) ?_; (with_reducible refine (spec_MemNew.calls k 6 t130 _ A2.out).mono ?_); rintro e w4 ⟨v131, rfl, ho0, hb⟩; refine ⟨_, rfl, ?_⟩; have n0_ := Az.mk (Kd.Sl_ ho0 (keep_size (w := w) (g := g) (row := none) (by repeat (first | (with_reducible first | exact HK.out | apply KeepBut.set_ | apply keep_drewN | apply keep_drew | apply keep_alloc) | exact HK.out)))); have n1_ := Az.mk (IsS93.below (by repeat (first | (with_reducible first | exact HI0.out | apply IsS93.alloc | apply IsS93.drewN | apply IsS93.drew | apply IsS93.set_1) | exact HI0.out)) hb); have n2_ := Az.mk (KeepBut.trans (by repeat (first | (with_reducible first | exact HK.out | apply KeepBut.set_ | apply keep_drewN | apply keep_drew | apply keep_alloc) | exact HK.out)) (KeepBut.of_below hb g none) (.inl rfl)); have n3_ := Az.mk (Yt (by repeat (first | (with_reducible first | exact HB.out | apply Ya | apply Yn | apply Yw | refine Ys ?_ (IsS93.ge HI0.out)) | exact HB.out)) hb); clear HI0; clear HK; clear HB; have HO132 := n0_; have HI0 := n1_; have HK := n2_; have HB := n3_; clear n0_ n1_ n2_ n3_; (try clear hb); (try clear hb2); (try clear hk); (try clear hi); (try clear ho0)) | ((with_reducible refine Yc (f := 57) rfl ?_); refine Yg (some 9) rfl rfl Try.func57 (by kernel_rfl) rfl #[.pointer (some ⟨g, 0, none⟩), .int .i64 26] rfl (by (try simp only [List.map_toArray, List.map_cons, List.map_nil]); first | done | rfl | (simp only [List.length_drop, List.length_take]; rfl)) ?_; (with_reducible refine (spec_l6Rd_pick.calls k g s0_0 s0_1 26 t133 t134 w0 _ ?side1 ?side2 A3.out).mono ?_); (case side1 => repeat (first | (with_reducible first | exact HI0.out | apply IsS93.alloc | apply IsS93.drewN | apply IsS93.drew | apply IsS93.set_1) | exact HI0.out)); (case side2 => repeat (first | (with_reducible first | exact HB.out | apply Ya | apply Yn | apply Yw | refine Ys ?_ (IsS93.ge HI0.out)) | exact HB.out)); rintro e w5 ⟨rfl, hi, hb, hk⟩; refine ⟨_, rfl, ?_⟩; have n0_ := Az.mk (Kd.Sm_ (Kd.S_keep (IsS93.apartS (show IsS93 w0 _ g s0_0 s0_1 from by repeat (first | (with_reducible first | exact HI0.out | apply IsS93.alloc | apply IsS93.drewN | apply IsS93.drew | apply IsS93.set_1) | exact HI0.out)) (by (with_reducible repeat (first | apply Kd.Sa_ | apply Kd.Sn_ | apply Kd.Sw_)); exact HO132.out) (by decide)) hk (fun _ h => h.2)) (fun _ h => h.1)); have n1_ := Az.mk (KeepBut.trans (by repeat (first | (with_reducible first | exact HK.out | apply KeepBut.set_ | apply keep_drewN | apply keep_drew | apply keep_alloc) | exact HK.out)) hk (.inl rfl)); have n2_ := Az.mk (hb); have n3_ := Az.mk (hi); clear HO132; clear HK; clear HB; clear HI0; have HO132 := n0_; have HK := n1_; have HB := n2_; have HI0 := n3_; clear n0_ n1_ n2_ n3_; (try clear hb); (try clear hb2); (try clear hk); (try clear hi)))
 go_loopg [4] k (fun kq v4 w' => ∃ (x3_1 : List (List Int)) (x4_1 : Int) (x1001_1 : Int), v4 = .int .i64 x4_1 ∧ Az (spec_l71Mem.l0 kq x3_1 x4_1 s0_0 x1001_1 = some (r1, r2)) ∧ Az (kq ≤ k) ∧ Az (Kd.S (Kd.slice 3 (Kd.int .i64)) 45 w' w.heap.size (fun _ => True) v131 x3_1) ∧ Az (IsS93 w0 w' g s0_0 x1001_1) ∧ Az (KeepBut w w' g none) ∧ Az (Below w0.heap.size w0 w'))
 case atStart => exact ⟨(t130), (t133), (t134), (by first | rfl | (simp; done) | (simp [*]; done)), H', ⟨Nat.le_refl _⟩, ⟨by (with_reducible repeat (first | apply Kd.Sa_ | apply Kd.Sn_ | apply Kd.Sw_)); exact HO132.out⟩, ⟨by repeat (first | (with_reducible first | exact HI0.out | apply IsS93.alloc | apply IsS93.drewN | apply IsS93.drew | apply IsS93.set_1) | exact HI0.out)⟩, ⟨by repeat (first | (with_reducible first | exact HK.out | apply KeepBut.set_ | apply keep_drewN | apply keep_drew | apply keep_alloc) | exact HK.out)⟩, ⟨by repeat (first | (with_reducible first | exact HB.out | apply Ya | apply Yn | apply Yw | refine Ys ?_ (IsS93.ge HI0.out)) | exact HB.out)⟩⟩
 case round =>
  clear H'
  try clear p2
  try clear c5
  obtain ⟨x3_1, x4_1, x1001_1, rfl, HA, HK1, HO_3, HI0, HK, HB⟩ := hrel
  cases gk with
  | zero => exact absurd HA.out (by simp [spec_l71Mem.l0])
  | succ k1 =>
   have H := HA.out
   clear HA
   simp only [spec_l71Mem.l0] at H
   by_cases c6 : x4_1 > 0
   ·rw [if_pos c6] at H
    have c6b0 : decide (0 < x4_1) = true := decide_eq_true c6
    clear c6
    replace H := Option.bind_eq_some_iff.mp H
    obtain ⟨⟨t135, t136⟩, A70, H⟩ := H
    replace H : (if 0 ≤ t135 then (if t135 < (x3_1.length : Int) then ((spec_l6Rd_pick.f k1 s0_0 t136 4).bind fun bt138 => ((spec_l71Word.f k1 s0_0 bt138.2).bind fun bt140 => (if 0 ≤ bt138.1 then (if bt138.1 < ((rd_L1 x3_1 t135).length : Int) then (spec_l71Mem.l0 k1 (x3_1.set (t135 : Int).toNat ((rd_L1 x3_1 t135).set (bt138.1 : Int).toNat bt140.1)) (wrap64 (x4_1 - 1)) s0_0 bt140.2) else (none)) else (none)))) else (none)) else (none)) = some (r1, r2) := H
    have A7 := Az.mk A70
    clear A70
    by_cases c8 : 0 ≤ t135
    ·rw [if_pos c8] at H
     have c8b0 : decide (0 ≤ t135) = true := decide_eq_true c8
     clear c8
     by_cases c9 : t135 < (x3_1.length : Int)
     ·rw [if_pos c9] at H
      have c9b0 : decide (t135 < (x3_1.length : Int)) = true := decide_eq_true c9
      clear c9
      replace H := Option.bind_eq_some_iff.mp H
      obtain ⟨⟨t138, t139⟩, A100, H⟩ := H
      replace H : ((spec_l71Word.f k1 s0_0 t139).bind fun bt140 => (if 0 ≤ t138 then (if t138 < ((rd_L1 x3_1 t135).length : Int) then (spec_l71Mem.l0 k1 (x3_1.set (t135 : Int).toNat ((rd_L1 x3_1 t135).set (t138 : Int).toNat bt140.1)) (wrap64 (x4_1 - 1)) s0_0 bt140.2) else (none)) else (none))) = some (r1, r2) := H
      have A10 := Az.mk A100
      clear A100
      replace H := Option.bind_eq_some_iff.mp H
      obtain ⟨⟨t140, t141⟩, A110, H⟩ := H
      replace H : (if 0 ≤ t138 then (if t138 < ((rd_L1 x3_1 t135).length : Int) then (spec_l71Mem.l0 k1 (x3_1.set (t135 : Int).toNat ((rd_L1 x3_1 t135).set (t138 : Int).toNat t140)) (wrap64 (x4_1 - 1)) s0_0 t141) else (none)) else (none)) = some (r1, r2) := H
      have A11 := Az.mk A110
      clear A110
      by_cases c12 : 0 ≤ t138
      ·rw [if_pos c12] at H
       have c12b0 : decide (0 ≤ t138) = true := decide_eq_true c12
       clear c12
       by_cases c13 : t138 < ((rd_L1 x3_1 t135).length : Int)
       ·rw [if_pos c13] at H
        have c13b0 : decide (t138 < ((rd_L1 x3_1 t135).length : Int)) = true := decide_eq_true c13
        clear c13
        obtain ⟨y142, hy142⟩ : ∃ y_ : List Int, y_ = ((rd_L1 x3_1 t135).set (t138 : Int).toNat t140) := ⟨_, rfl⟩
        replace H : (spec_l71Mem.l0 k1 (x3_1.set (t135 : Int).toNat y142) (wrap64 (x4_1 - 1)) s0_0 t141) = some (r1, r2) := by first | (rw [hy142]; with_reducible exact H) | (have H2_ := (Option.bind_some _ _).symm.trans H; rw [hy142]; with_reducible exact H2_) | (have H2_ := (Option.bind_some _ _).symm.trans H; with_reducible exact H2_) | with_reducible exact H | (rw [hy142]; exact H) | exact H
        have Ny142 := Az.mk hy142
        clear hy142
        obtain ⟨y144, hy144⟩ : ∃ y_ : List (List Int), y_ = (x3_1.set (t135 : Int).toNat y142) := ⟨_, rfl⟩
        replace H : (spec_l71Mem.l0 k1 y144 (wrap64 (x4_1 - 1)) s0_0 t141) = some (r1, r2) := by first | (rw [hy144]; with_reducible exact H) | (have H2_ := (Option.bind_some _ _).symm.trans H; rw [hy144]; with_reducible exact H2_) | (have H2_ := (Option.bind_some _ _).symm.trans H; with_reducible exact H2_) | with_reducible exact H | (rw [hy144]; exact H) | exact H
        have Ny144 := Az.mk hy144
        clear hy144
        have H' := Az.mk H
        clear H
        try go_wp2
        have n0_ := Az.mk (Kd.Sw_ HO_3.out)
        have n1_ := Az.mk (IsS93.drew HI0.out)
        have n2_ := Az.mk (keep_drew HK.out)
        have n3_ := Az.mk (Yw HB.out)
        clear HO_3
        clear HI0
        clear HK
        clear HB
        have HO_3 := n0_
        have HI0 := n1_
        have HK := n2_
        have HB := n3_
        clear n0_ n1_ n2_ n3_
        have p137 : 0 ≤ (t135 : Int) := of_decide_eq_true (by first | (with_reducible assumption) | assumption)
        have q137 : t135 < (x3_1.length : Int) := of_decide_eq_true (by first | (with_reducible assumption) | assumption)
        (try (obtain ⟨Aq137, cq137, eq137⟩ := Kd.Ss_ HO_3.out; subst eq137))
        obtain ⟨ad137, A137_0, c137_0, e137, hx137_0, hl137_0, hi137_0⟩ := at_L1 (Kd.Sr_ HO_3.out).2.2 t135 p137 q137
        cases e137
        obtain ⟨ce137, hce137, hMe137, hcc137⟩ := Kd.S_get HO_3.out [] t135 p137 (by first | exact q137 | exact of_decide_eq_true (by first | (with_reducible assumption) | assumption) | (have e_ := (Kd.Sr_ HO_3.out).1; omega))
        obtain ⟨ve137_0, rfl, ge137_0⟩ := hMe137
        have hv137_0 := hcc137 0 _ rfl
        rw [Nat.add_zero, show ((Kd.slice 3 (Kd.int .i64))).sz = 1 from rfl, Nat.mul_one] at hv137_0
        replace hv137_0 := Option.some.inj (hv137_0.symm.trans hx137_0)
        rw [hv137_0] at ge137_0
        have HL137_0 := Az.mk (show Kd.R (Kd.int .i64) 3 _ _ _ _ (rd_L1 x3_1 t135) from ge137_0)
        clear hv137_0 ge137_0
        have HX137_0 := Az.mk hx137_0
        clear hcc137 hce137
        have HR137_0 := Az.mk hi137_0
        have HC137_0 := Az.mk hl137_0
        clear hi137_0 hl137_0
        replace p137 := eq_true p137
        replace q137 := eq_true q137
        refine start_ (n := 11) (S := fun w' => w'.cell? (ad137.add (t135).toNat) = some (.slice A137_0 (rd_L1 x3_1 t135).length c137_0)) (ds := [10]) #[false, false, false, false, false, false, false, false, false, false, false] (by kernel_rfl) rfl rfl (hx137_0) (fun hHeld => ?_); refine with_tabW spec_l71Mem.tab5 spec_l71Mem.bits5 (fun HT_ HW_ => ?_)
        generalize wr.drew = w15 at HO_3 HI0 HK HB HL137_0 HR137_0 HX137_0 hx137_0 hHeld ⊢
        refine pure_ (i := 0) (N := some 14) (v := ?_) (a' := ?_) #[true, false, false, false, false, false, false, false, false, false, false] rfl rfl (any_of HT_.out (by kernel_rfl)) (fun _ _ _ h => h) (Or.inl ⟨by rfl, ?_⟩) ?_ ?_
        rotate_left
        ·intro w'
         go_simp
         with_reducible rfl
        rotate_left
        ·simp only [Act.put, List.setIfInBounds_toArray, List.set_cons_zero, List.set_cons_succ, i64_w, i32_w]
         rfl
        refine pure_ (i := 1) (N := some 15) (v := ?_) (a' := ?_) #[true, true, false, false, false, false, false, false, false, false, false] rfl rfl (any_of HT_.out (by kernel_rfl)) (fun _ _ _ h => h) (Or.inl ⟨by rfl, ?_⟩) ?_ ?_
        rotate_left
        ·intro w'
         go_simp
         with_reducible rfl
        rotate_left
        ·simp only [Act.put, List.setIfInBounds_toArray, List.set_cons_zero, List.set_cons_succ, i64_w, i32_w]
         rfl
        refine pure_ (i := 5) (N := some 19) (v := ?_) (a' := ?_) #[true, true, false, false, false, true, false, false, false, false, false] rfl rfl (any_of HT_.out (by kernel_rfl)) (fun _ _ _ h => h) (Or.inl ⟨by rfl, ?_⟩) ?_ ?_
        rotate_left
        ·intro w'
         go_simp
         with_reducible rfl
        rotate_left
        ·simp only [Act.put, List.setIfInBounds_toArray, List.set_cons_zero, List.set_cons_succ, i64_w, i32_w]
         rfl
        refine pure_ (i := 7) (N := some 21) (v := ?_) (a' := ?_) #[true, true, false, false, false, true, false, true, false, false, false] rfl rfl (any_of HT_.out (by kernel_rfl)) (fun _ _ _ h => h) (Or.inl ⟨by rfl, ?_⟩) ?_ ?_
        rotate_left
        ·intro w'
         go_simp
         with_reducible rfl
        rotate_left
        ·simp only [Act.put, List.setIfInBounds_toArray, List.set_cons_zero, List.set_cons_succ, i64_w, i32_w]
         rfl
        refine one_ (i := 2) (N := some 16) #[true, true, true, false, false, true, false, true, false, false, false] rfl rfl (one_of HT_.out (by kernel_rfl)) (by decide) (fun K hK => ?_)
        refine goes_ Try.func57 (by kernel_rfl) rfl #[.pointer (some ⟨g, 0, none⟩), .int .i64 6] (by rfl) rfl rfl (by (try simp only [List.map_toArray, List.map_cons, List.map_nil]); first | done | rfl | (simp only [List.length_drop, List.length_take]; rfl)) ?_
        with_reducible refine (spec_l6Rd_pick.calls k1 g s0_0 x1001_1 6 t135 t136 w0 _ ?side1 ?side2 A7.out).mono ?_
        (case side1 => repeat (first | (with_reducible first | exact HI0.out | apply IsS93.alloc | apply IsS93.drewN | apply IsS93.drew | apply IsS93.set_1) | exact HI0.out))
        (case side2 => repeat (first | (with_reducible first | exact HB.out | apply Ya | apply Yn | apply Yw | refine Ys ?_ (IsS93.ge HI0.out)) | exact HB.out))
        rintro e w16 ⟨rfl, hi, hb, hk⟩
        have HS0_ := keep_cell hk (hHeld) (by first | (rw [add_block]; exact Kd.own_blk (IsS93.own_neS HI0.out HO_3.out (by decide))) | (show (Addr.add _ _).block ≠ _; rw [add_block]; exact Kd.own_blk (IsS93.own_neS HI0.out HO_3.out (by decide))) | exact Kd.own_blk (IsS93.own_neS HI0.out HO_3.out (by decide)))
        refine ⟨_, rfl, ?_⟩
        have m0_ := Az.mk (Kd.Rm_ (Kd.R_keep (IsS93.apart (show IsS93 w0 _ g s0_0 x1001_1 from by repeat (first | (with_reducible first | exact HI0.out | apply IsS93.alloc | apply IsS93.drewN | apply IsS93.drew | apply IsS93.set_1) | exact HI0.out)) (by (with_reducible repeat (first | apply Kd.Ra_ | apply Kd.Rn_ | apply Kd.Rw_)); exact HL137_0.out) (by decide)) hk (fun _ h => h.2)) (fun _ h => h.1))
        have m1_ := Az.mk (keep_cell hk HX137_0.out (by first | (rw [add_block]; exact Kd.own_blk (IsS93.own_neS HI0.out HO_3.out (by decide))) | (show (Addr.add _ _).block ≠ _; rw [add_block]; exact Kd.own_blk (IsS93.own_neS HI0.out HO_3.out (by decide))) | exact Kd.own_blk (IsS93.own_neS HI0.out HO_3.out (by decide)) | (dsimp only; exact Kd.own_blk (IsS93.own_neS HI0.out HO_3.out (by decide)))))
        have n0_ := Az.mk (Kd.Sm_ (Kd.S_keep (IsS93.apartS (show IsS93 w0 _ g s0_0 x1001_1 from by repeat (first | (with_reducible first | exact HI0.out | apply IsS93.alloc | apply IsS93.drewN | apply IsS93.drew | apply IsS93.set_1) | exact HI0.out)) (by (with_reducible repeat (first | apply Kd.Sa_ | apply Kd.Sn_ | apply Kd.Sw_)); exact HO_3.out) (by decide)) hk (fun _ h => h.2)) (fun _ h => h.1))
        have n1_ := Az.mk (KeepBut.trans (by repeat (first | (with_reducible first | exact HK.out | apply KeepBut.set_ | apply keep_drewN | apply keep_drew | apply keep_alloc) | exact HK.out)) hk (.inl rfl))
        have n2_ := Az.mk (hb)
        have n3_ := Az.mk (hi)
        clear HO_3
        clear HK
        clear HB
        clear HI0
        have HO_3 := n0_
        have HK := n1_
        have HB := n2_
        have HI0 := n3_
        clear n0_ n1_ n2_ n3_
        clear HL137_0
        have HL137_0 := m0_
        clear m0_
        clear HX137_0
        have HX137_0 := m1_
        clear m1_
        (try clear hb)
        (try clear hb2)
        (try clear hk)
        (try clear hi)
        obtain ⟨Ao17, co17, eo17⟩ := Kd.Ss_ HO_3.out
        (first | subst eo17 | (injection eo17 with f1_ f2_ f3_; have f4_ := f1_.symm; have f5_ := f3_.symm; clear f1_ f2_ f3_; subst f4_; subst f5_))
        refine hK.out _ _ (HS0_) (fun hHeld => ?_)
        clear hK K
        refine norm_ (a' := ?_) ?_ ?_
        rotate_left
        ·show Act.put _ (some 16) _ = _
         simp only [Act.put, List.setIfInBounds_toArray, List.set_cons_zero, List.set_cons_succ, i64_w, i32_w]
         rfl
        refine pure_ (i := 3) (N := some 17) (v := ?_) (a' := ?_) #[true, true, true, true, false, true, false, true, false, false, false] rfl rfl (any_of HT_.out (by kernel_rfl)) (fun _ _ _ h => h) (Or.inl ⟨by rfl, ?_⟩) ?_ ?_
        rotate_left
        ·intro w'
         go_simp
         with_reducible rfl
        rotate_left
        ·simp only [Act.put, List.setIfInBounds_toArray, List.set_cons_zero, List.set_cons_succ, i64_w, i32_w]
         rfl
        refine take_ (i := 4) (N := some 18) (v := ?_) (a' := ?_) #[true, true, true, true, true, true, false, true, false, false, false] rfl rfl (take_ofW HT_.out HW_.out (by kernel_rfl)) (fun _ _ _ h => h) (Or.inl ⟨by rfl, ?_⟩) hHeld ?_ ?_
        rotate_left
        ·intro w' s0
         go_simp
         with_reducible rfl
        rotate_left
        ·simp only [Act.put, List.setIfInBounds_toArray, List.set_cons_zero, List.set_cons_succ, i64_w, i32_w]
         rfl
        refine one_ (i := 6) (N := some 20) #[true, true, true, true, true, true, true, true, false, false, false] rfl rfl (one_of HT_.out (by kernel_rfl)) (by decide) (fun K hK => ?_)
        refine goes_ Try.func57 (by kernel_rfl) rfl #[.pointer (some ⟨g, 0, none⟩), .int .i64 4] (by rfl) rfl rfl (by (try simp only [List.map_toArray, List.map_cons, List.map_nil]); first | done | rfl | (simp only [List.length_drop, List.length_take]; rfl)) ?_
        with_reducible refine (spec_l6Rd_pick.calls k1 g s0_0 t136 4 t138 t139 w0 _ ?side1 ?side2 A10.out).mono ?_
        (case side1 => repeat (first | (with_reducible first | exact HI0.out | apply IsS93.alloc | apply IsS93.drewN | apply IsS93.drew | apply IsS93.set_1) | exact HI0.out))
        (case side2 => repeat (first | (with_reducible first | exact HB.out | apply Ya | apply Yn | apply Yw | refine Ys ?_ (IsS93.ge HI0.out)) | exact HB.out))
        rintro e w18 ⟨rfl, hi, hb, hk⟩
        have HS0_ := keep_cell hk (hHeld) (by first | (rw [add_block]; exact Kd.own_blk (IsS93.own_neS HI0.out HO_3.out (by decide))) | (show (Addr.add _ _).block ≠ _; rw [add_block]; exact Kd.own_blk (IsS93.own_neS HI0.out HO_3.out (by decide))) | exact Kd.own_blk (IsS93.own_neS HI0.out HO_3.out (by decide)))
        refine ⟨_, rfl, ?_⟩
        have n0_ := Az.mk (Kd.Sm_ (Kd.S_keep (IsS93.apartS (show IsS93 w0 _ g s0_0 t136 from by repeat (first | (with_reducible first | exact HI0.out | apply IsS93.alloc | apply IsS93.drewN | apply IsS93.drew | apply IsS93.set_1) | exact HI0.out)) (by (with_reducible repeat (first | apply Kd.Sa_ | apply Kd.Sn_ | apply Kd.Sw_)); exact HO_3.out) (by decide)) hk (fun _ h => h.2)) (fun _ h => h.1))
        have n1_ := Az.mk (Kd.Rm_ (Kd.R_keep (IsS93.apart (show IsS93 w0 _ g s0_0 t136 from by repeat (first | (with_reducible first | exact HI0.out | apply IsS93.alloc | apply IsS93.drewN | apply IsS93.drew | apply IsS93.set_1) | exact HI0.out)) (by (with_reducible repeat (first | apply Kd.Ra_ | apply Kd.Rn_ | apply Kd.Rw_)); exact HL137_0.out) (by decide)) hk (fun _ h => h.2)) (fun _ h => h.1))
        have n2_ := Az.mk (keep_cell hk HX137_0.out (by first | (rw [add_block]; exact Kd.own_blk (IsS93.own_neS HI0.out HO_3.out (by decide))) | (show (Addr.add _ _).block ≠ _; rw [add_block]; exact Kd.own_blk (IsS93.own_neS HI0.out HO_3.out (by decide))) | exact Kd.own_blk (IsS93.own_neS HI0.out HO_3.out (by decide)) | (dsimp only; exact Kd.own_blk (IsS93.own_neS HI0.out HO_3.out (by decide)))))
        have n3_ := Az.mk (KeepBut.trans (by repeat (first | (with_reducible first | exact HK.out | apply KeepBut.set_ | apply keep_drewN | apply keep_drew | apply keep_alloc) | exact HK.out)) hk (.inl rfl))
        have n4_ := Az.mk (hb)
        have n5_ := Az.mk (hi)
        clear HO_3
        clear HL137_0
        clear HX137_0
        clear HK
        clear HB
        clear HI0
        have HO_3 := n0_
        have HL137_0 := n1_
        have HX137_0 := n2_
        have HK := n3_
        have HB := n4_
        have HI0 := n5_
        clear n0_ n1_ n2_ n3_ n4_ n5_
        (try clear hb)
        (try clear hb2)
        (try clear hk)
        (try clear hi)
        refine hK.out _ _ (HS0_) (fun hHeld => ?_)
        clear hK K
        refine norm_ (a' := ?_) ?_ ?_
        rotate_left
        ·show Act.put _ (some 20) _ = _
         simp only [Act.put, List.setIfInBounds_toArray, List.set_cons_zero, List.set_cons_succ, i64_w, i32_w]
         rfl
        refine one_ (i := 8) (N := some 22) #[true, true, true, true, true, true, true, true, true, false, false] rfl rfl (one_of HT_.out (by kernel_rfl)) (by decide) (fun K hK => ?_)
        refine goes_ Try.func84 (by kernel_rfl) rfl #[.pointer (some ⟨g, 0, none⟩)] (by rfl) rfl rfl (by (try simp only [List.map_toArray, List.map_cons, List.map_nil]); first | done | rfl | (simp only [List.length_drop, List.length_take]; rfl)) ?_
        with_reducible refine (spec_l71Word.calls k1 g s0_0 t139 t140 t141 w0 _ ?side1 ?side2 A11.out).mono ?_
        (case side1 => repeat (first | (with_reducible first | exact HI0.out | apply IsS93.alloc | apply IsS93.drewN | apply IsS93.drew | apply IsS93.set_1) | exact HI0.out))
        (case side2 => repeat (first | (with_reducible first | exact HB.out | apply Ya | apply Yn | apply Yw | refine Ys ?_ (IsS93.ge HI0.out)) | exact HB.out))
        rintro e w19 ⟨rfl, hi, hb, hk⟩
        have HS0_ := keep_cell hk (hHeld) (by first | (rw [add_block]; exact Kd.own_blk (IsS93.own_neS HI0.out HO_3.out (by decide))) | (show (Addr.add _ _).block ≠ _; rw [add_block]; exact Kd.own_blk (IsS93.own_neS HI0.out HO_3.out (by decide))) | exact Kd.own_blk (IsS93.own_neS HI0.out HO_3.out (by decide)))
        refine ⟨_, rfl, ?_⟩
        have n0_ := Az.mk (Kd.Sm_ (Kd.S_keep (IsS93.apartS (show IsS93 w0 _ g s0_0 t139 from by repeat (first | (with_reducible first | exact HI0.out | apply IsS93.alloc | apply IsS93.drewN | apply IsS93.drew | apply IsS93.set_1) | exact HI0.out)) (by (with_reducible repeat (first | apply Kd.Sa_ | apply Kd.Sn_ | apply Kd.Sw_)); exact HO_3.out) (by decide)) hk (fun _ h => h.2)) (fun _ h => h.1))
        have n1_ := Az.mk (Kd.Rm_ (Kd.R_keep (IsS93.apart (show IsS93 w0 _ g s0_0 t139 from by repeat (first | (with_reducible first | exact HI0.out | apply IsS93.alloc | apply IsS93.drewN | apply IsS93.drew | apply IsS93.set_1) | exact HI0.out)) (by (with_reducible repeat (first | apply Kd.Ra_ | apply Kd.Rn_ | apply Kd.Rw_)); exact HL137_0.out) (by decide)) hk (fun _ h => h.2)) (fun _ h => h.1))
        have n2_ := Az.mk (keep_cell hk HX137_0.out (by first | (rw [add_block]; exact Kd.own_blk (IsS93.own_neS HI0.out HO_3.out (by decide))) | (show (Addr.add _ _).block ≠ _; rw [add_block]; exact Kd.own_blk (IsS93.own_neS HI0.out HO_3.out (by decide))) | exact Kd.own_blk (IsS93.own_neS HI0.out HO_3.out (by decide)) | (dsimp only; exact Kd.own_blk (IsS93.own_neS HI0.out HO_3.out (by decide)))))
        have n3_ := Az.mk (KeepBut.trans (by repeat (first | (with_reducible first | exact HK.out | apply KeepBut.set_ | apply keep_drewN | apply keep_drew | apply keep_alloc) | exact HK.out)) hk (.inl rfl))
        have n4_ := Az.mk (hb)
        have n5_ := Az.mk (hi)
        clear HO_3
        clear HL137_0
        clear HX137_0
        clear HK
        clear HB
        clear HI0
        have HO_3 := n0_
        have HL137_0 := n1_
        have HX137_0 := n2_
        have HK := n3_
        have HB := n4_
        have HI0 := n5_
        clear n0_ n1_ n2_ n3_ n4_ n5_
        (try clear hb)
        (try clear hb2)
        (try clear hk)
        (try clear hi)
        have p14 : 0 ≤ (t138 : Int) := of_decide_eq_true (by first | (with_reducible assumption) | assumption)
        have q14 : (t138 : Int) < (((rd_L1 x3_1 t135).length : Int) : Int) := of_decide_eq_true (by first | (with_reducible assumption) | assumption)
        obtain ⟨go14, co14, eo14, gb14, gl14, cl14, HG14⟩ := Kd.R_form HL137_0.out (by omega)
        (first | cases eo14 | (injection eo14 with ea_ en_ ec_; (first | subst ea_ | (injection ea_ with ea_; subst ea_)); subst ec_; clear en_))
        have GB14 := Az.mk gb14
        have GG14 := Az.mk HG14
        clear gb14 gl14 HG14
        obtain ⟨hx14_0, hf14_0⟩ := Kd.R_celln 0 HL137_0.out (t138 : Int) p14 q14
        replace p14 := eq_true p14
        replace q14 := eq_true q14
        have hq20 : (t135 : Int) < (x3_1.length : Int) := (by have h_ : (t135 : Int) < ((x3_1.length : Int) : Int) := of_decide_eq_true (by first | (with_reducible assumption) | assumption); first | exact h_ | (have e_ := (Kd.Sr_ HO_3.out).1; omega) | simpa only [List.length_set, List.length_set] using h_)
        obtain ⟨oki20, ce20, hcl20, hM20, hcc20, hok20, hbk20⟩ := Kd.S_borrow HO_3.out [] (t135 : Int) (of_decide_eq_true (by first | (with_reducible assumption) | assumption)) hq20
        obtain ⟨ve20_0, rfl, ge20_0⟩ := hM20
        have hv20 := hcc20 0 _ rfl
        rw [Nat.add_zero, show ((Kd.slice 3 (Kd.int .i64))).sz = 1 from rfl, Nat.mul_one] at hv20
        replace hv20 := Option.some.inj (hv20.symm.trans HX137_0.out)
        subst hv20
        clear hcc20 hcl20
        replace ge20_0 := (show Kd.R (Kd.int .i64) 3 _ _ _ _ (rd_L1 x3_1 t135) from ge20_0)
        have HP20 := Kd.R_putg ge20_0 (t138 : Int) t140
        have HN0_go14 := Az.mk (show g ≠ go14 from by have h_ := IsS93.own_ne HI0.out HL137_0.out (by decide); intro e_; exact h_ (by rw [e_]; rfl))
        rw [← Ny142.out] at HP20
        have HS20 := hbk20 HP20.2 (fun k_ e_ => by injection e_ with e_; subst e_; exact ge20_0.1 _ rfl) (x' := y142) (Kd.M_row HP20.1)
        rw [← Ny144.out] at HS20
        have HQ20 := Az.mk HS20
        clear HP20 HS20 hbk20 hok20
        refine hK.out _ _ (HS0_) (fun hHeld => ?_)
        clear hK K
        refine norm_ (a' := ?_) ?_ ?_
        rotate_left
        ·show Act.put _ (some 22) _ = _
         simp only [Act.put, List.setIfInBounds_toArray, List.set_cons_zero, List.set_cons_succ, i64_w, i32_w]
         rfl
        refine pure_ (i := 9) (N := some 23) (v := ?_) (a' := ?_) #[true, true, true, true, true, true, true, true, true, true, false] rfl rfl (any_of HT_.out (by kernel_rfl)) (fun _ _ _ h => h) (Or.inl ⟨by rfl, ?_⟩) ?_ ?_
        rotate_left
        ·intro w'
         go_simp
         with_reducible rfl
        rotate_left
        ·simp only [Act.put, List.setIfInBounds_toArray, List.set_cons_zero, List.set_cons_succ, i64_w, i32_w]
         rfl
        refine last_ (i := 10) (N := none) #[true, true, true, true, true, true, true, true, true, true, true] rfl rfl (one_of HT_.out (by kernel_rfl)) (by decide) (fun K hK => ?_)
        refine skip_ (w1 := ?_) (by rfl) rfl ?_ ?_
        rotate_left
        ·go_simp
         rfl
        refine hK.out _ _ ?_
        clear hK K
        refine done_ (done_of HT_.out (by kernel_rfl)) ?_
        try go_wp2
        go_roundg k1
        case measure => have := HK1.out; omega
        case rel => exact ⟨(y144), (wrap64 (x4_1 - 1)), (t141), (by first | rfl | (simp; done) | (simp [*]; done)), H', ⟨by have := HK1.out; omega⟩, ⟨by (with_reducible repeat (first | apply Kd.Sa_ | apply Kd.Sn_ | apply Kd.Sw_)); exact HQ20.out⟩, ⟨by repeat (first | (with_reducible first | exact HI0.out | apply IsS93.alloc | apply IsS93.drewN | apply IsS93.drew | apply IsS93.set_1 | refine IsS93.far ?_ HN0_go14.out _) | exact HI0.out)⟩, ⟨by repeat (first | (with_reducible first | exact HK.out | apply KeepBut.set_ | apply keep_drewN | apply keep_drew | apply keep_alloc | refine keep_far ?_ GB14.out _) | exact HK.out)⟩, ⟨by repeat (first | (with_reducible first | exact HB.out | apply Ya | apply Yn | apply Yw | refine Ys ?_ (Nat.le_trans HL.out GB14.out) | refine Ys ?_ (IsS93.ge HI0.out)) | exact HB.out)⟩⟩
       ·rw [if_neg c13] at H
        exact absurd H (by simp)
      ·rw [if_neg c12] at H
       exact absurd H (by simp)
     ·rw [if_neg c9] at H
      exact absurd H (by simp)
    ·rw [if_neg c8] at H
     exact absurd H (by simp)
   ·rw [if_neg c6] at H
    have c6b0 : decide (0 < x4_1) = false := decide_eq_false c6
    clear c6
    replace H := Option.bind_eq_some_iff.mp H
    obtain ⟨⟨t145, t146⟩, A220, H⟩ := H
    replace H : (spec_l71Mem.l1 k1 x3_1 t145 s0_0 t146) = some (r1, r2) := H
    have A22 := Az.mk A220
    clear A220
    have H' := Az.mk H
    clear H
    go_wp2_with (first | ((with_reducible refine Yc (f := 57) rfl ?_); refine Yg (some 25) rfl rfl Try.func57 (by kernel_rfl) rfl #[.pointer (some ⟨g, 0, none⟩), .int .i64 7] rfl (by (try simp only [List.map_toArray, List.map_cons, List.map_nil]); first | done | rfl | (simp only [List.length_drop, List.length_take]; rfl)) ?_; (with_reducible refine (spec_l6Rd_pick.calls k1 g s0_0 x1001_1 7 t145 t146 w0 _ ?side1 ?side2 A22.out).mono ?_); (case side1 => repeat (first | (with_reducible first | exact HI0.out | apply IsS93.alloc | apply IsS93.drewN | apply IsS93.drew | apply IsS93.set_1) | exact HI0.out)); (case side2 => repeat (first | (with_reducible first | exact HB.out | apply Ya | apply Yn | apply Yw | refine Ys ?_ (IsS93.ge HI0.out)) | exact HB.out)); rintro e w23 ⟨rfl, hi, hb, hk⟩; refine ⟨_, rfl, ?_⟩; have n0_ := Az.mk (Kd.Sm_ (Kd.S_keep (IsS93.apartS (show IsS93 w0 _ g s0_0 x1001_1 from by repeat (first | (with_reducible first | exact HI0.out | apply IsS93.alloc | apply IsS93.drewN | apply IsS93.drew | apply IsS93.set_1) | exact HI0.out)) (by (with_reducible repeat (first | apply Kd.Sa_ | apply Kd.Sn_ | apply Kd.Sw_)); exact HO_3.out) (by decide)) hk (fun _ h => h.2)) (fun _ h => h.1)); have n1_ := Az.mk (KeepBut.trans (by repeat (first | (with_reducible first | exact HK.out | apply KeepBut.set_ | apply keep_drewN | apply keep_drew | apply keep_alloc) | exact HK.out)) hk (.inl rfl)); have n2_ := Az.mk (hb); have n3_ := Az.mk (hi); clear HO_3; clear HK; clear HB; clear HI0; have HO_3 := n0_; have HK := n1_; have HB := n2_; have HI0 := n3_; clear n0_ n1_ n2_ n3_; (try clear hb); (try clear hb2); (try clear hk); (try clear hi)))
    go_loopg [5] k1 (fun kq v5 w' => ∃ (x3_2 : List (List Int)) (x5_2 : Int) (x1001_2 : Int), v5 = .int .i64 x5_2 ∧ Az (spec_l71Mem.l1 kq x3_2 x5_2 s0_0 x1001_2 = some (r1, r2)) ∧ Az (kq ≤ k1) ∧ Az (Kd.S (Kd.slice 3 (Kd.int .i64)) 45 w' w.heap.size (fun _ => True) v131 x3_2) ∧ Az (IsS93 w0 w' g s0_0 x1001_2) ∧ Az (KeepBut w w' g none) ∧ Az (Below w0.heap.size w0 w'))
    case atStart => exact ⟨(x3_1), (t145), (t146), (by first | rfl | (simp; done) | (simp [*]; done)), H', ⟨Nat.le_refl _⟩, ⟨by (with_reducible repeat (first | apply Kd.Sa_ | apply Kd.Sn_ | apply Kd.Sw_)); exact HO_3.out⟩, ⟨by repeat (first | (with_reducible first | exact HI0.out | apply IsS93.alloc | apply IsS93.drewN | apply IsS93.drew | apply IsS93.set_1) | exact HI0.out)⟩, ⟨by repeat (first | (with_reducible first | exact HK.out | apply KeepBut.set_ | apply keep_drewN | apply keep_drew | apply keep_alloc) | exact HK.out)⟩, ⟨by repeat (first | (with_reducible first | exact HB.out | apply Ya | apply Yn | apply Yw | refine Ys ?_ (IsS93.ge HI0.out)) | exact HB.out)⟩⟩
    case round =>
     clear H'
     try clear c1
     try clear p1
     try clear q1
     try clear hx1
     try clear hf1
     try clear c2
     try clear p2
     try clear q2
     try clear c5
     try clear c6
     try clear c6b0
     try clear p6
     try clear c8
     try clear c8b0
     try clear c9
     try clear c9b0
     try clear c12
     try clear c12b0
     try clear c13
     try clear c13b0
     try clear p13
     try clear q13
     try clear hx13
     try clear p14
     try clear q14
     try clear hx14
     try clear hf14
     try clear c20
     try clear q20
     try clear hx137_0
     try clear hx14_0
     try clear p137
     try clear p14
     try clear p2
     try clear q137
     try clear q14
     obtain ⟨x3_2, x5_2, x1001_2, rfl, HA, HK2, HO_3, HI0, HK, HB⟩ := hrel
     cases gk with
     | zero => exact absurd HA.out (by simp [spec_l71Mem.l1])
     | succ k2 =>
      have H := HA.out
      clear HA
      simp only [spec_l71Mem.l1] at H
      by_cases c24 : x5_2 > 0
      ·rw [if_pos c24] at H
       have c24b0 : decide (0 < x5_2) = true := decide_eq_true c24
       clear c24
       replace H := Option.bind_eq_some_iff.mp H
       obtain ⟨⟨t147, t148⟩, A250, H⟩ := H
       replace H : (if 0 ≤ (wrap64 (Int.tdiv t147 4)) then (if (wrap64 (Int.tdiv t147 4)) < (x3_2.length : Int) then ((spec_l6Rd_pick.f k2 s0_0 t148 8).bind fun bt150 => (if 0 ≤ (Int.tmod t147 4) then (if (Int.tmod t147 4) < ((rd_L1 x3_2 (wrap64 (Int.tdiv t147 4))).length : Int) then (spec_l71Mem.l1 k2 (x3_2.set ((wrap64 (Int.tdiv t147 4)) : Int).toNat ((rd_L1 x3_2 (wrap64 (Int.tdiv t147 4))).set ((Int.tmod t147 4) : Int).toNat (wrap64 (5 + bt150.1)))) (wrap64 (x5_2 - 1)) s0_0 bt150.2) else (none)) else (none))) else (none)) else (none)) = some (r1, r2) := H
       have A25 := Az.mk A250
       clear A250
       obtain ⟨ji26, hji26⟩ : ∃ j_ : Int, (wrap64 (Int.tdiv t147 4)) = j_ := ⟨_, rfl⟩
       replace H : (if 0 ≤ (ji26) then (if (ji26) < (x3_2.length : Int) then ((spec_l6Rd_pick.f k2 s0_0 t148 8).bind fun bt150 => (if 0 ≤ (Int.tmod t147 4) then (if (Int.tmod t147 4) < ((rd_L1 x3_2 (ji26)).length : Int) then (spec_l71Mem.l1 k2 (x3_2.set ((ji26) : Int).toNat ((rd_L1 x3_2 (ji26)).set ((Int.tmod t147 4) : Int).toNat (wrap64 (5 + bt150.1)))) (wrap64 (x5_2 - 1)) s0_0 bt150.2) else (none)) else (none))) else (none)) else (none)) = some (r1, r2) := by first | (rw [hji26] at H; exact H) | (simp only [hji26] at H ⊢; exact H)
       (try rw [hji26] at A25)
       have hji26w : (IntKind.i64.wrap (Int.tdiv t147 4)) = ji26 := (i64_w _).trans hji26
       by_cases c27 : 0 ≤ (ji26)
       ·rw [if_pos c27] at H
        have c27b0 : decide (0 ≤ (ji26)) = true := decide_eq_true c27
        clear c27
        by_cases c28 : (ji26) < (x3_2.length : Int)
        ·rw [if_pos c28] at H
         have c28b0 : decide ((ji26) < (x3_2.length : Int)) = true := decide_eq_true c28
         clear c28
         replace H := Option.bind_eq_some_iff.mp H
         obtain ⟨⟨t150, t151⟩, A290, H⟩ := H
         replace H : (if 0 ≤ (Int.tmod t147 4) then (if (Int.tmod t147 4) < ((rd_L1 x3_2 (ji26)).length : Int) then (spec_l71Mem.l1 k2 (x3_2.set ((ji26) : Int).toNat ((rd_L1 x3_2 (ji26)).set ((Int.tmod t147 4) : Int).toNat (wrap64 (5 + t150)))) (wrap64 (x5_2 - 1)) s0_0 t151) else (none)) else (none)) = some (r1, r2) := H
         have A29 := Az.mk A290
         clear A290
         obtain ⟨ji30, hji30⟩ : ∃ j_ : Int, (Int.tmod t147 4) = j_ := ⟨_, rfl⟩
         replace H : (if 0 ≤ (ji30) then (if (ji30) < ((rd_L1 x3_2 (ji26)).length : Int) then (spec_l71Mem.l1 k2 (x3_2.set ((ji26) : Int).toNat ((rd_L1 x3_2 (ji26)).set ((ji30) : Int).toNat (wrap64 (5 + t150)))) (wrap64 (x5_2 - 1)) s0_0 t151) else (none)) else (none)) = some (r1, r2) := by first | (rw [hji30] at H; exact H) | (simp only [hji30] at H ⊢; exact H)
         (try rw [hji30] at A25)
         (try rw [hji30] at A29)
         by_cases c31 : 0 ≤ (ji30)
         ·rw [if_pos c31] at H
          have c31b0 : decide (0 ≤ (ji30)) = true := decide_eq_true c31
          clear c31
          by_cases c32 : (ji30) < ((rd_L1 x3_2 (ji26)).length : Int)
          ·rw [if_pos c32] at H
           have c32b0 : decide ((ji30) < ((rd_L1 x3_2 (ji26)).length : Int)) = true := decide_eq_true c32
           clear c32
           obtain ⟨y152, hy152⟩ : ∃ y_ : List Int, y_ = ((rd_L1 x3_2 (ji26)).set ((ji30) : Int).toNat (wrap64 (5 + t150))) := ⟨_, rfl⟩
           replace H : (spec_l71Mem.l1 k2 (x3_2.set ((ji26) : Int).toNat y152) (wrap64 (x5_2 - 1)) s0_0 t151) = some (r1, r2) := by first | (rw [hy152]; with_reducible exact H) | (have H2_ := (Option.bind_some _ _).symm.trans H; rw [hy152]; with_reducible exact H2_) | (have H2_ := (Option.bind_some _ _).symm.trans H; with_reducible exact H2_) | with_reducible exact H | (rw [hy152]; exact H) | exact H
           have Ny152 := Az.mk hy152
           clear hy152
           obtain ⟨y154, hy154⟩ : ∃ y_ : List (List Int), y_ = (x3_2.set ((ji26) : Int).toNat y152) := ⟨_, rfl⟩
           replace H : (spec_l71Mem.l1 k2 y154 (wrap64 (x5_2 - 1)) s0_0 t151) = some (r1, r2) := by first | (rw [hy154]; with_reducible exact H) | (have H2_ := (Option.bind_some _ _).symm.trans H; rw [hy154]; with_reducible exact H2_) | (have H2_ := (Option.bind_some _ _).symm.trans H; with_reducible exact H2_) | with_reducible exact H | (rw [hy154]; exact H) | exact H
           have Ny154 := Az.mk hy154
           clear hy154
           have H' := Az.mk H
           clear H
           try go_wp2_with (first | ((with_reducible refine Yc (f := 57) rfl ?_); refine Yg (some 31) rfl rfl Try.func57 (by kernel_rfl) rfl #[.pointer (some ⟨g, 0, none⟩), .int .i64 6] rfl (by (try simp only [List.map_toArray, List.map_cons, List.map_nil]); first | done | rfl | (simp only [List.length_drop, List.length_take]; rfl)) ?_; (with_reducible refine (spec_l6Rd_pick.calls k2 g s0_0 x1001_2 6 t147 t148 w0 _ ?side1 ?side2 A25.out).mono ?_); (case side1 => repeat (first | (with_reducible first | exact HI0.out | apply IsS93.alloc | apply IsS93.drewN | apply IsS93.drew | apply IsS93.set_1) | exact HI0.out)); (case side2 => repeat (first | (with_reducible first | exact HB.out | apply Ya | apply Yn | apply Yw | refine Ys ?_ (IsS93.ge HI0.out)) | exact HB.out)); rintro e w34 ⟨rfl, hi, hb, hk⟩; refine ⟨_, rfl, ?_⟩; have n0_ := Az.mk (Kd.Sm_ (Kd.S_keep (IsS93.apartS (show IsS93 w0 _ g s0_0 x1001_2 from by repeat (first | (with_reducible first | exact HI0.out | apply IsS93.alloc | apply IsS93.drewN | apply IsS93.drew | apply IsS93.set_1) | exact HI0.out)) (by (with_reducible repeat (first | apply Kd.Sa_ | apply Kd.Sn_ | apply Kd.Sw_)); exact HO_3.out) (by decide)) hk (fun _ h => h.2)) (fun _ h => h.1)); have n1_ := Az.mk (KeepBut.trans (by repeat (first | (with_reducible first | exact HK.out | apply KeepBut.set_ | apply keep_drewN | apply keep_drew | apply keep_alloc) | exact HK.out)) hk (.inl rfl)); have n2_ := Az.mk (hb); have n3_ := Az.mk (hi); clear HO_3; clear HK; clear HB; clear HI0; have HO_3 := n0_; have HK := n1_; have HB := n2_; have HI0 := n3_; clear n0_ n1_ n2_ n3_; (try clear hb); (try clear hb2); (try clear hk); (try clear hi)))
           have n0_ := Az.mk (Kd.Sw_ HO_3.out)
           have n1_ := Az.mk (IsS93.drew HI0.out)
           have n2_ := Az.mk (keep_drew HK.out)
           have n3_ := Az.mk (Yw HB.out)
           clear HO_3
           clear HI0
           clear HK
           clear HB
           have HO_3 := n0_
           have HI0 := n1_
           have HK := n2_
           have HB := n3_
           clear n0_ n1_ n2_ n3_
           obtain ⟨Ao36, co36, eo36⟩ := Kd.Ss_ HO_3.out
           (first | subst eo36 | (injection eo36 with f1_ f2_ f3_; have f4_ := f1_.symm; have f5_ := f3_.symm; clear f1_ f2_ f3_; subst f4_; subst f5_))
           have p149 : 0 ≤ ((ji26) : Int) := of_decide_eq_true (by first | (with_reducible assumption) | assumption)
           have q149 : (ji26) < (x3_2.length : Int) := of_decide_eq_true (by first | (with_reducible assumption) | assumption)
           (try (obtain ⟨Aq149, cq149, eq149⟩ := Kd.Ss_ HO_3.out; subst eq149))
           obtain ⟨ad149, A149_0, c149_0, e149, hx149_0, hl149_0, hi149_0⟩ := at_L1 (Kd.Sr_ HO_3.out).2.2 (ji26) p149 q149
           cases e149
           obtain ⟨ce149, hce149, hMe149, hcc149⟩ := Kd.S_get HO_3.out [] (ji26) p149 (by first | exact q149 | exact of_decide_eq_true (by first | (with_reducible assumption) | assumption) | (have e_ := (Kd.Sr_ HO_3.out).1; omega))
           obtain ⟨ve149_0, rfl, ge149_0⟩ := hMe149
           have hv149_0 := hcc149 0 _ rfl
           rw [Nat.add_zero, show ((Kd.slice 3 (Kd.int .i64))).sz = 1 from rfl, Nat.mul_one] at hv149_0
           replace hv149_0 := Option.some.inj (hv149_0.symm.trans hx149_0)
           rw [hv149_0] at ge149_0
           have HL149_0 := Az.mk (show Kd.R (Kd.int .i64) 3 _ _ _ _ (rd_L1 x3_2 (ji26)) from ge149_0)
           clear hv149_0 ge149_0
           have HX149_0 := Az.mk hx149_0
           clear hcc149 hce149
           have HR149_0 := Az.mk hi149_0
           have HC149_0 := Az.mk hl149_0
           clear hi149_0 hl149_0
           replace p149 := eq_true p149
           replace q149 := eq_true q149
           refine start_ (n := 12) (S := fun w' => w'.cell? (ad149.add ((ji26)).toNat) = some (.slice A149_0 (rd_L1 x3_2 (ji26)).length c149_0)) (ds := [11]) #[false, false, false, false, false, false, false, false, false, false, false, false] (by kernel_rfl) rfl rfl (hx149_0) (fun hHeld => ?_); refine with_tabW spec_l71Mem.tab10 spec_l71Mem.bits10 (fun HT_ HW_ => ?_)
           generalize w34.drew = w35 at HO_3 HI0 HK HB HL149_0 HR149_0 HX149_0 hx149_0 hHeld ⊢
           refine pure_ (i := 0) (N := some 32) (v := ?_) (a' := ?_) #[true, false, false, false, false, false, false, false, false, false, false, false] rfl rfl (any_of HT_.out (by kernel_rfl)) (fun _ _ _ h => h) (Or.inl ⟨by rfl, ?_⟩) ?_ ?_
           rotate_left
           ·intro w'
            go_simp
            with_reducible rfl
           rotate_left
           ·simp only [Act.put, List.setIfInBounds_toArray, List.set_cons_zero, List.set_cons_succ, i64_w, i32_w]
            rfl
           refine pure_ (i := 1) (N := some 33) (v := ?_) (a' := ?_) #[true, true, false, false, false, false, false, false, false, false, false, false] rfl rfl (any_of HT_.out (by kernel_rfl)) (fun _ _ _ h => h) (Or.inl ⟨by rfl, ?_⟩) ?_ ?_
           rotate_left
           ·intro w'
            go_simp
            with_reducible rfl
           rotate_left
           ·simp only [Act.put, List.setIfInBounds_toArray, List.set_cons_zero, List.set_cons_succ, i64_w, i32_w]
            rfl
           refine pure_ (i := 2) (N := some 34) (v := ?_) (a' := ?_) #[true, true, true, false, false, false, false, false, false, false, false, false] rfl rfl (any_of HT_.out (by kernel_rfl)) (fun _ _ _ h => h) (Or.inl ⟨by rfl, ?_⟩) ?_ ?_
           rotate_left
           ·intro w'
            go_simp
            with_reducible rfl
           rotate_left
           ·simp only [Act.put, List.setIfInBounds_toArray, List.set_cons_zero, List.set_cons_succ, i64_w, i32_w]
            rfl
           refine pure_ (i := 3) (N := some 35) (v := ?_) (a' := ?_) #[true, true, true, true, false, false, false, false, false, false, false, false] rfl rfl (any_of HT_.out (by kernel_rfl)) (fun _ _ _ h => h) (Or.inl ⟨by rfl, ?_⟩) ?_ ?_
           rotate_left
           ·intro w'
            go_simp
            with_reducible rfl
           rotate_left
           ·simp only [Act.put, List.setIfInBounds_toArray, List.set_cons_zero, List.set_cons_succ, i64_w, i32_w]
            rfl
           refine pure_ (i := 5) (N := some 37) (v := ?_) (a' := ?_) #[true, true, true, true, false, true, false, false, false, false, false, false] rfl rfl (any_of HT_.out (by kernel_rfl)) (fun _ _ _ h => h) (Or.inl ⟨by rfl, ?_⟩) ?_ ?_
           rotate_left
           ·intro w'
            go_simp
            with_reducible rfl
           rotate_left
           ·simp only [Act.put, List.setIfInBounds_toArray, List.set_cons_zero, List.set_cons_succ, i64_w, i32_w]
            rfl
           refine pure_ (i := 6) (N := some 38) (v := ?_) (a' := ?_) #[true, true, true, true, false, true, true, false, false, false, false, false] rfl rfl (any_of HT_.out (by kernel_rfl)) (fun _ _ _ h => h) (Or.inl ⟨by rfl, ?_⟩) ?_ ?_
           rotate_left
           ·intro w'
            go_simp
            with_reducible rfl
           rotate_left
           ·simp only [Act.put, List.setIfInBounds_toArray, List.set_cons_zero, List.set_cons_succ, i64_w, i32_w]
            rfl
           refine pure_ (i := 7) (N := some 39) (v := ?_) (a' := ?_) #[true, true, true, true, false, true, true, true, false, false, false, false] rfl rfl (any_of HT_.out (by kernel_rfl)) (fun _ _ _ h => h) (Or.inl ⟨by rfl, ?_⟩) ?_ ?_
           rotate_left
           ·intro w'
            go_simp
            with_reducible rfl
           rotate_left
           ·simp only [Act.put, List.setIfInBounds_toArray, List.set_cons_zero, List.set_cons_succ, i64_w, i32_w]
            rfl
           refine take_ (i := 4) (N := some 36) (v := ?_) (a' := ?_) #[true, true, true, true, true, true, true, true, false, false, false, false] rfl rfl (take_ofW HT_.out HW_.out (by kernel_rfl)) (fun _ _ _ h => h) (Or.inl ⟨by rfl, ?_⟩) hHeld ?_ ?_
           rotate_left
           ·intro w' s0
            go_simp
            with_reducible rfl
           rotate_left
           ·simp only [Act.put, List.setIfInBounds_toArray, List.set_cons_zero, List.set_cons_succ, i64_w, i32_w]
            rfl
           refine one_ (i := 8) (N := some 40) #[true, true, true, true, true, true, true, true, true, false, false, false] rfl rfl (one_of HT_.out (by kernel_rfl)) (by decide) (fun K hK => ?_)
           refine goes_ Try.func57 (by kernel_rfl) rfl #[.pointer (some ⟨g, 0, none⟩), .int .i64 8] (by rfl) rfl rfl (by (try simp only [List.map_toArray, List.map_cons, List.map_nil]); first | done | rfl | (simp only [List.length_drop, List.length_take]; rfl)) ?_
           with_reducible refine (spec_l6Rd_pick.calls k2 g s0_0 t148 8 t150 t151 w0 _ ?side1 ?side2 A29.out).mono ?_
           (case side1 => repeat (first | (with_reducible first | exact HI0.out | apply IsS93.alloc | apply IsS93.drewN | apply IsS93.drew | apply IsS93.set_1) | exact HI0.out))
           (case side2 => repeat (first | (with_reducible first | exact HB.out | apply Ya | apply Yn | apply Yw | refine Ys ?_ (IsS93.ge HI0.out)) | exact HB.out))
           rintro e w37 ⟨rfl, hi, hb, hk⟩
           have HS0_ := keep_cell hk (hHeld) (by first | (rw [add_block]; exact Kd.own_blk (IsS93.own_neS HI0.out HO_3.out (by decide))) | (show (Addr.add _ _).block ≠ _; rw [add_block]; exact Kd.own_blk (IsS93.own_neS HI0.out HO_3.out (by decide))) | exact Kd.own_blk (IsS93.own_neS HI0.out HO_3.out (by decide)))
           refine ⟨_, rfl, ?_⟩
           have n0_ := Az.mk (Kd.Sm_ (Kd.S_keep (IsS93.apartS (show IsS93 w0 _ g s0_0 t148 from by repeat (first | (with_reducible first | exact HI0.out | apply IsS93.alloc | apply IsS93.drewN | apply IsS93.drew | apply IsS93.set_1) | exact HI0.out)) (by (with_reducible repeat (first | apply Kd.Sa_ | apply Kd.Sn_ | apply Kd.Sw_)); exact HO_3.out) (by decide)) hk (fun _ h => h.2)) (fun _ h => h.1))
           have n1_ := Az.mk (Kd.Rm_ (Kd.R_keep (IsS93.apart (show IsS93 w0 _ g s0_0 t148 from by repeat (first | (with_reducible first | exact HI0.out | apply IsS93.alloc | apply IsS93.drewN | apply IsS93.drew | apply IsS93.set_1) | exact HI0.out)) (by (with_reducible repeat (first | apply Kd.Ra_ | apply Kd.Rn_ | apply Kd.Rw_)); exact HL149_0.out) (by decide)) hk (fun _ h => h.2)) (fun _ h => h.1))
           have n2_ := Az.mk (keep_cell hk HX149_0.out (by first | (rw [add_block]; exact Kd.own_blk (IsS93.own_neS HI0.out HO_3.out (by decide))) | (show (Addr.add _ _).block ≠ _; rw [add_block]; exact Kd.own_blk (IsS93.own_neS HI0.out HO_3.out (by decide))) | exact Kd.own_blk (IsS93.own_neS HI0.out HO_3.out (by decide)) | (dsimp only; exact Kd.own_blk (IsS93.own_neS HI0.out HO_3.out (by decide)))))
           have n3_ := Az.mk (KeepBut.trans (by repeat (first | (with_reducible first | exact HK.out | apply KeepBut.set_ | apply keep_drewN | apply keep_drew | apply keep_alloc) | exact HK.out)) hk (.inl rfl))
           have n4_ := Az.mk (hb)
           have n5_ := Az.mk (hi)
           clear HO_3
           clear HL149_0
           clear HX149_0
           clear HK
           clear HB
           clear HI0
           have HO_3 := n0_
           have HL149_0 := n1_
           have HX149_0 := n2_
           have HK := n3_
           have HB := n4_
           have HI0 := n5_
           clear n0_ n1_ n2_ n3_ n4_ n5_
           (try clear hb)
           (try clear hb2)
           (try clear hk)
           (try clear hi)
           have p33 : 0 ≤ ((ji30) : Int) := of_decide_eq_true (by first | (with_reducible assumption) | assumption)
           have q33 : ((ji30) : Int) < (((rd_L1 x3_2 (ji26)).length : Int) : Int) := of_decide_eq_true (by first | (with_reducible assumption) | assumption)
           obtain ⟨go33, co33, eo33, gb33, gl33, cl33, HG33⟩ := Kd.R_form HL149_0.out (by omega)
           (first | cases eo33 | (injection eo33 with ea_ en_ ec_; (first | subst ea_ | (injection ea_ with ea_; subst ea_)); subst ec_; clear en_))
           have GB33 := Az.mk gb33
           have GG33 := Az.mk HG33
           clear gb33 gl33 HG33
           obtain ⟨hx33_0, hf33_0⟩ := Kd.R_celln 0 HL149_0.out ((ji30) : Int) p33 q33
           replace p33 := eq_true p33
           replace q33 := eq_true q33
           have hq38 : ((ji26) : Int) < (x3_2.length : Int) := (by have h_ : ((ji26) : Int) < ((x3_2.length : Int) : Int) := of_decide_eq_true (by first | (with_reducible assumption) | assumption); first | exact h_ | (have e_ := (Kd.Sr_ HO_3.out).1; omega) | simpa only [List.length_set, List.length_set] using h_)
           obtain ⟨oki38, ce38, hcl38, hM38, hcc38, hok38, hbk38⟩ := Kd.S_borrow HO_3.out [] ((ji26) : Int) (of_decide_eq_true (by first | (with_reducible assumption) | assumption)) hq38
           obtain ⟨ve38_0, rfl, ge38_0⟩ := hM38
           have hv38 := hcc38 0 _ rfl
           rw [Nat.add_zero, show ((Kd.slice 3 (Kd.int .i64))).sz = 1 from rfl, Nat.mul_one] at hv38
           replace hv38 := Option.some.inj (hv38.symm.trans HX149_0.out)
           subst hv38
           clear hcc38 hcl38
           replace ge38_0 := (show Kd.R (Kd.int .i64) 3 _ _ _ _ (rd_L1 x3_2 (ji26)) from ge38_0)
           have HP38 := Kd.R_putg ge38_0 ((ji30) : Int) (wrap64 (5 + t150))
           have HN0_go33 := Az.mk (show g ≠ go33 from by have h_ := IsS93.own_ne HI0.out HL149_0.out (by decide); intro e_; exact h_ (by rw [e_]; rfl))
           rw [← Ny152.out] at HP38
           have HS38 := hbk38 HP38.2 (fun k_ e_ => by injection e_ with e_; subst e_; exact ge38_0.1 _ rfl) (x' := y152) (Kd.M_row HP38.1)
           rw [← Ny154.out] at HS38
           have HQ38 := Az.mk HS38
           clear HP38 HS38 hbk38 hok38
           refine hK.out _ _ (HS0_) (fun hHeld => ?_)
           clear hK K
           refine norm_ (a' := ?_) ?_ ?_
           rotate_left
           ·show Act.put _ (some 40) _ = _
            simp only [Act.put, List.setIfInBounds_toArray, List.set_cons_zero, List.set_cons_succ, i64_w, i32_w]
            rfl
           refine pure_ (i := 9) (N := some 41) (v := ?_) (a' := ?_) #[true, true, true, true, true, true, true, true, true, true, false, false] rfl rfl (any_of HT_.out (by kernel_rfl)) (fun _ _ _ h => h) (Or.inl ⟨by rfl, ?_⟩) ?_ ?_
           rotate_left
           ·intro w'
            go_simp
            with_reducible rfl
           rotate_left
           ·simp only [Act.put, List.setIfInBounds_toArray, List.set_cons_zero, List.set_cons_succ, i64_w, i32_w]
            rfl
           refine pure_ (i := 10) (N := some 42) (v := ?_) (a' := ?_) #[true, true, true, true, true, true, true, true, true, true, true, false] rfl rfl (any_of HT_.out (by kernel_rfl)) (fun _ _ _ h => h) (Or.inl ⟨by rfl, ?_⟩) ?_ ?_
           rotate_left
           ·intro w'
            go_simp
            with_reducible rfl
           rotate_left
           ·simp only [Act.put, List.setIfInBounds_toArray, List.set_cons_zero, List.set_cons_succ, i64_w, i32_w]
            rfl
           refine last_ (i := 11) (N := none) #[true, true, true, true, true, true, true, true, true, true, true, true] rfl rfl (one_of HT_.out (by kernel_rfl)) (by decide) (fun K hK => ?_)
           refine skip_ (w1 := ?_) (by rfl) rfl ?_ ?_
           rotate_left
           ·go_simp
            rfl
           refine hK.out _ _ ?_
           clear hK K
           refine done_ (done_of HT_.out (by kernel_rfl)) ?_
           try go_wp2
           go_roundg k2
           case measure => have := HK1.out; have := HK2.out; omega
           case rel => exact ⟨(y154), (wrap64 (x5_2 - 1)), (t151), (by first | rfl | (simp; done) | (simp [*]; done)), H', ⟨by have := HK1.out; have := HK2.out; omega⟩, ⟨by (with_reducible repeat (first | apply Kd.Sa_ | apply Kd.Sn_ | apply Kd.Sw_)); exact HQ38.out⟩, ⟨by repeat (first | (with_reducible first | exact HI0.out | apply IsS93.alloc | apply IsS93.drewN | apply IsS93.drew | apply IsS93.set_1 | refine IsS93.far ?_ HN0_go33.out _) | exact HI0.out)⟩, ⟨by repeat (first | (with_reducible first | exact HK.out | apply KeepBut.set_ | apply keep_drewN | apply keep_drew | apply keep_alloc | refine keep_far ?_ GB33.out _) | exact HK.out)⟩, ⟨by repeat (first | (with_reducible first | exact HB.out | apply Ya | apply Yn | apply Yw | refine Ys ?_ (Nat.le_trans HL.out GB33.out) | refine Ys ?_ (IsS93.ge HI0.out)) | exact HB.out)⟩⟩
          ·rw [if_neg c32] at H
           exact absurd H (by simp)
         ·rw [if_neg c31] at H
          exact absurd H (by simp)
        ·rw [if_neg c28] at H
         exact absurd H (by simp)
       ·rw [if_neg c27] at H
        exact absurd H (by simp)
      ·rw [if_neg c24] at H
       have c24b0 : decide (0 < x5_2) = false := decide_eq_false c24
       clear c24
       simp only [Option.some.injEq, Prod.mk.injEq] at H
       obtain ⟨rfl, rfl⟩ := H
       go_wp2
       go_ret
       exact ⟨_, by first | rfl | (simp [errW_none, errW_some] <;> rfl) | (simp [*, errW_none, errW_some] <;> rfl), by (with_reducible repeat (first | apply Kd.Sa_ | apply Kd.Sn_ | apply Kd.Sw_)); exact HO_3.out, by repeat (first | (with_reducible first | exact HI0.out | apply IsS93.alloc | apply IsS93.drewN | apply IsS93.drew | apply IsS93.set_1) | exact HI0.out), by repeat (first | (with_reducible first | exact HB.out | apply Ya | apply Yn | apply Yw | refine Ys ?_ (IsS93.ge HI0.out)) | exact HB.out), by repeat (first | (with_reducible first | exact HK.out | apply KeepBut.set_ | apply keep_drewN | apply keep_drew | apply keep_alloc) | exact HK.out)⟩

end Go.Proofs.Ytfamknibfokfmaa.QFnLoadBad
