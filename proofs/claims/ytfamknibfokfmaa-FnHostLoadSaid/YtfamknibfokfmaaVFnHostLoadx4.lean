/- Walks of this claim: each Go function that the law reaches comes to what the Lean function beside it says. Conditions: none beyond those that each theorem names. -/
import Derived.Test.YtfamknibfokfmaaVFnHostLoadx0
import Derived.Test.YtfamknibfokfmaaVFnHostLoadx3
namespace Go.Proofs.Ytfamknibfokfmaa.QFnHostLoad
open Go.RowKit Go.Proofs.YtfamknibfokfmaaW.PrintWords Go.Proofs.YtfamknibfokfmaaW.PrintLast Go.Proofs.YtfamknibfokfmaaW.PrintMore
attribute [local go_sem] max2_int min2_int max_two min_two max_three min_three max_four min_four   -- for this text's walks alone
set_option linter.unusedVariables false
set_option linter.unusedSimpArgs false

/-! ### spec_l71Word: function 84 -/
def spec_l71Word.f (k : Nat) (s0_0 : List Int) (s0_1 : Int) : Option (Int × Int) := (spec_l6Rd_pick.f k s0_0 s0_1 3).bind fun bt125 => (if bt125.1 = 0 then ((spec_l6Rd_pick.f k s0_0 bt125.2 64).bind fun bt127 => (some (bt127.1, bt127.2))) else ((spec_l6Rd_pick.f k s0_0 bt125.2 14).bind fun bt129 => (some (bt129.1, bt129.2))))
set_option maxHeartbeats 8000000 in
set_option maxRecDepth 100000 in
theorem spec_l71Word.calls (k : Nat) (g : Nat) (s0_0 : List Int) (s0_1 : Int) (r1 : Int) (r2 : Int) (w0 w : World) (hI : IsS93 w0 w g s0_0 s0_1) (hB : Below w0.heap.size w0 w) (h : spec_l71Word.f k s0_0 s0_1 = some (r1, r2)) :
  Calls Try.prog 84 #[.pointer (some ⟨g, 0, none⟩)] w fun e w' => e = .returned (.int .i64 r1) ∧ IsS93 w0 w' g s0_0 r2 ∧ Below w0.heap.size w0 w' ∧ KeepBut w w' g none := by
 have HI0 := Az.mk hI
 have HK := Az.mk (KeepBut.refl w g none)
 have HL := Az.mk hB.size
 clear hI
 have HW0 := Az.mk hB.size
 have HB := Az.mk hB
 clear hB
 have H : ((spec_l6Rd_pick.f k s0_0 s0_1 3).bind fun bt125 => (if bt125.1 = 0 then ((spec_l6Rd_pick.f k s0_0 bt125.2 64).bind fun bt127 => (some (bt127.1, bt127.2))) else ((spec_l6Rd_pick.f k s0_0 bt125.2 14).bind fun bt129 => (some (bt129.1, bt129.2))))) = some (r1, r2) := h
 clear h
 replace H := Option.bind_eq_some_iff.mp H
 obtain ⟨⟨t125, t126⟩, A20, H⟩ := H
 replace H : (if t125 = 0 then ((spec_l6Rd_pick.f k s0_0 t126 64).bind fun bt127 => (some (bt127.1, bt127.2))) else ((spec_l6Rd_pick.f k s0_0 t126 14).bind fun bt129 => (some (bt129.1, bt129.2)))) = some (r1, r2) := H
 have A2 := Az.mk A20
 clear A20
 by_cases c3 : t125 = 0
 ·rw [if_pos c3] at H
  have c3b0 : (t125 == 0) = true := beq_iff_eq.mpr c3
  have c3b1 : (t125 != 0) = false := bne_eq_false_iff_eq.mpr c3
  clear c3
  replace H := Option.bind_eq_some_iff.mp H
  obtain ⟨⟨t127, t128⟩, A40, H⟩ := H
  replace H : (some (t127, t128)) = some (r1, r2) := H
  have A4 := Az.mk A40
  clear A40
  simp only [Option.some.injEq, Prod.mk.injEq] at H
  obtain ⟨rfl, rfl⟩ := H
  go_enter Try.func84, Try.ntmps84
  go_wp2_with (first | ((with_reducible refine Yc (f := 57) rfl ?_); refine Yg (some 4) rfl rfl Try.func57 (by kernel_rfl) rfl #[.pointer (some ⟨g, 0, none⟩), .int .i64 3] rfl (by (try simp only [List.map_toArray, List.map_cons, List.map_nil]); first | done | rfl | (simp only [List.length_drop, List.length_take]; rfl)) ?_; (with_reducible refine (spec_l6Rd_pick.calls k g s0_0 s0_1 3 t125 t126 w0 _ ?side1 ?side2 A2.out).mono ?_); (case side1 => repeat (first | (with_reducible first | exact HI0.out | apply IsS93.alloc | apply IsS93.drewN | apply IsS93.drew | apply IsS93.set_1) | exact HI0.out)); (case side2 => repeat (first | (with_reducible first | exact HB.out | apply Ya | apply Yn | apply Yw | refine Ys ?_ (IsS93.ge HI0.out)) | exact HB.out)); rintro e w5 ⟨rfl, hi, hb, hk⟩; refine ⟨_, rfl, ?_⟩; have n0_ := Az.mk (KeepBut.trans (by repeat (first | (with_reducible first | exact HK.out | apply KeepBut.set_ | apply keep_drewN | apply keep_drew | apply keep_alloc) | exact HK.out)) hk (.inl rfl)); have n1_ := Az.mk (hb); have n2_ := Az.mk (hi); clear HK; clear HB; clear HI0; have HK := n0_; have HB := n1_; have HI0 := n2_; clear n0_ n1_ n2_; (try clear hb); (try clear hb2); (try clear hk); (try clear hi)) | ((with_reducible refine Yc (f := 57) rfl ?_); refine Yg (some 7) rfl rfl Try.func57 (by kernel_rfl) rfl #[.pointer (some ⟨g, 0, none⟩), .int .i64 64] rfl (by (try simp only [List.map_toArray, List.map_cons, List.map_nil]); first | done | rfl | (simp only [List.length_drop, List.length_take]; rfl)) ?_; (with_reducible refine (spec_l6Rd_pick.calls k g s0_0 t126 64 t127 t128 w0 _ ?side1 ?side2 A4.out).mono ?_); (case side1 => repeat (first | (with_reducible first | exact HI0.out | apply IsS93.alloc | apply IsS93.drewN | apply IsS93.drew | apply IsS93.set_1) | exact HI0.out)); (case side2 => repeat (first | (with_reducible first | exact HB.out | apply Ya | apply Yn | apply Yw | refine Ys ?_ (IsS93.ge HI0.out)) | exact HB.out)); rintro e w6 ⟨rfl, hi, hb, hk⟩; refine ⟨_, rfl, ?_⟩; have n0_ := Az.mk (KeepBut.trans (by repeat (first | (with_reducible first | exact HK.out | apply KeepBut.set_ | apply keep_drewN | apply keep_drew | apply keep_alloc) | exact HK.out)) hk (.inl rfl)); have n1_ := Az.mk (hb); have n2_ := Az.mk (hi); clear HK; clear HB; clear HI0; have HK := n0_; have HB := n1_; have HI0 := n2_; clear n0_ n1_ n2_; (try clear hb); (try clear hb2); (try clear hk); (try clear hi)))
  go_ret
  exact ⟨by first | rfl | (simp [errW_none, errW_some] <;> rfl) | (simp [*, errW_none, errW_some] <;> rfl), by repeat (first | (with_reducible first | exact HI0.out | apply IsS93.alloc | apply IsS93.drewN | apply IsS93.drew | apply IsS93.set_1) | exact HI0.out), by repeat (first | (with_reducible first | exact HB.out | apply Ya | apply Yn | apply Yw | refine Ys ?_ (IsS93.ge HI0.out)) | exact HB.out), by repeat (first | (with_reducible first | exact HK.out | apply KeepBut.set_ | apply keep_drewN | apply keep_drew | apply keep_alloc) | exact HK.out)⟩
 ·rw [if_neg c3] at H
  have c3b0 : (t125 == 0) = false := beq_eq_false_iff_ne.mpr c3
  have c3b1 : (t125 != 0) = true := bne_iff_ne.mpr c3
  replace H := Option.bind_eq_some_iff.mp H
  obtain ⟨⟨t129, t130⟩, A70, H⟩ := H
  replace H : (some (t129, t130)) = some (r1, r2) := H
  have A7 := Az.mk A70
  clear A70
  simp only [Option.some.injEq, Prod.mk.injEq] at H
  obtain ⟨rfl, rfl⟩ := H
  go_enter Try.func84, Try.ntmps84
  go_wp2_with (first | ((with_reducible refine Yc (f := 57) rfl ?_); refine Yg (some 4) rfl rfl Try.func57 (by kernel_rfl) rfl #[.pointer (some ⟨g, 0, none⟩), .int .i64 3] rfl (by (try simp only [List.map_toArray, List.map_cons, List.map_nil]); first | done | rfl | (simp only [List.length_drop, List.length_take]; rfl)) ?_; (with_reducible refine (spec_l6Rd_pick.calls k g s0_0 s0_1 3 t125 t126 w0 _ ?side1 ?side2 A2.out).mono ?_); (case side1 => repeat (first | (with_reducible first | exact HI0.out | apply IsS93.alloc | apply IsS93.drewN | apply IsS93.drew | apply IsS93.set_1) | exact HI0.out)); (case side2 => repeat (first | (with_reducible first | exact HB.out | apply Ya | apply Yn | apply Yw | refine Ys ?_ (IsS93.ge HI0.out)) | exact HB.out)); rintro e w8 ⟨rfl, hi, hb, hk⟩; refine ⟨_, rfl, ?_⟩; have n0_ := Az.mk (KeepBut.trans (by repeat (first | (with_reducible first | exact HK.out | apply KeepBut.set_ | apply keep_drewN | apply keep_drew | apply keep_alloc) | exact HK.out)) hk (.inl rfl)); have n1_ := Az.mk (hb); have n2_ := Az.mk (hi); clear HK; clear HB; clear HI0; have HK := n0_; have HB := n1_; have HI0 := n2_; clear n0_ n1_ n2_; (try clear hb); (try clear hb2); (try clear hk); (try clear hi)) | ((with_reducible refine Yc (f := 57) rfl ?_); refine Yg (some 9) rfl rfl Try.func57 (by kernel_rfl) rfl #[.pointer (some ⟨g, 0, none⟩), .int .i64 14] rfl (by (try simp only [List.map_toArray, List.map_cons, List.map_nil]); first | done | rfl | (simp only [List.length_drop, List.length_take]; rfl)) ?_; (with_reducible refine (spec_l6Rd_pick.calls k g s0_0 t126 14 t129 t130 w0 _ ?side1 ?side2 A7.out).mono ?_); (case side1 => repeat (first | (with_reducible first | exact HI0.out | apply IsS93.alloc | apply IsS93.drewN | apply IsS93.drew | apply IsS93.set_1) | exact HI0.out)); (case side2 => repeat (first | (with_reducible first | exact HB.out | apply Ya | apply Yn | apply Yw | refine Ys ?_ (IsS93.ge HI0.out)) | exact HB.out)); rintro e w9 ⟨rfl, hi, hb, hk⟩; refine ⟨_, rfl, ?_⟩; have n0_ := Az.mk (KeepBut.trans (by repeat (first | (with_reducible first | exact HK.out | apply KeepBut.set_ | apply keep_drewN | apply keep_drew | apply keep_alloc) | exact HK.out)) hk (.inl rfl)); have n1_ := Az.mk (hb); have n2_ := Az.mk (hi); clear HK; clear HB; clear HI0; have HK := n0_; have HB := n1_; have HI0 := n2_; clear n0_ n1_ n2_; (try clear hb); (try clear hb2); (try clear hk); (try clear hi)))
  go_ret
  exact ⟨by first | rfl | (simp [errW_none, errW_some] <;> rfl) | (simp [*, errW_none, errW_some] <;> rfl), by repeat (first | (with_reducible first | exact HI0.out | apply IsS93.alloc | apply IsS93.drewN | apply IsS93.drew | apply IsS93.set_1) | exact HI0.out), by repeat (first | (with_reducible first | exact HB.out | apply Ya | apply Yn | apply Yw | refine Ys ?_ (IsS93.ge HI0.out)) | exact HB.out), by repeat (first | (with_reducible first | exact HK.out | apply KeepBut.set_ | apply keep_drewN | apply keep_drew | apply keep_alloc) | exact HK.out)⟩

/-! ### spec_l71Mem: function 58 -/
mutual
def spec_l71Mem.l0 : Nat → List (List Int) → Int → List Int → Int → Option ((List (List Int)) × Int)
 | 0, _, _, _, _ => none
 | k + 1, x3, x4, x1000, x1001 => if x4 > 0 then ((spec_l6Rd_pick.f k x1000 x1001 6).bind fun bt136 => (if 0 ≤ bt136.1 then (if bt136.1 < (x3.length : Int) then ((spec_l6Rd_pick.f k x1000 bt136.2 4).bind fun bt139 => ((spec_l71Word.f k x1000 bt139.2).bind fun bt141 => (if 0 ≤ bt139.1 then (if bt139.1 < ((rd_L1 x3 bt136.1).length : Int) then (spec_l71Mem.l0 k (x3.set (bt136.1 : Int).toNat ((rd_L1 x3 bt136.1).set (bt139.1 : Int).toNat bt141.1)) (wrap64 (x4 - 1)) x1000 bt141.2) else (none)) else (none)))) else (none)) else (none))) else ((spec_l6Rd_pick.f k x1000 x1001 7).bind fun bt146 => (spec_l71Mem.l1 k x3 bt146.1 x1000 bt146.2))
def spec_l71Mem.l1 : Nat → List (List Int) → Int → List Int → Int → Option ((List (List Int)) × Int)
 | 0, _, _, _, _ => none
 | k + 1, x3, x5, x1000, x1001 => if x5 > 0 then ((spec_l6Rd_pick.f k x1000 x1001 6).bind fun bt148 => (if 0 ≤ (wrap64 (Int.tdiv bt148.1 4)) then (if (wrap64 (Int.tdiv bt148.1 4)) < (x3.length : Int) then ((spec_l6Rd_pick.f k x1000 bt148.2 8).bind fun bt151 => (if 0 ≤ (Int.tmod bt148.1 4) then (if (Int.tmod bt148.1 4) < ((rd_L1 x3 (wrap64 (Int.tdiv bt148.1 4))).length : Int) then (spec_l71Mem.l1 k (x3.set ((wrap64 (Int.tdiv bt148.1 4)) : Int).toNat ((rd_L1 x3 (wrap64 (Int.tdiv bt148.1 4))).set ((Int.tmod bt148.1 4) : Int).toNat (wrap64 (5 + bt151.1)))) (wrap64 (x5 - 1)) x1000 bt151.2) else (none)) else (none))) else (none)) else (none))) else (some (x3, x1001))
end
def spec_l71Mem.f (k : Nat) (s0_0 : List Int) (s0_1 : Int) : Option ((List (List Int)) × Int) := (spec_MemNew.f k 6).bind fun t131 => ((spec_l6Rd_pick.f k s0_0 s0_1 26).bind fun bt134 => (spec_l71Mem.l0 k t131 bt134.1 s0_0 bt134.2))
def spec_l71Mem.T5 : Bool × List (List Nat × List Nat) := (true, [([], []), ([], []), ([1], [1]), ([0, 2], [0, 2]), ([3], [3]), ([], []), ([5, 2], [5]), ([], []), ([7, 6], [7]), ([4, 6, 0, 1, 2, 3, 4, 5, 6, 7, 8], [4, 6]), ([9, 8, 8, 0, 1, 2, 3, 4, 5, 6, 7, 8], [8, 9])])
def spec_l71Mem.B5 : List Nat := [0, 0, 2, 7, 15, 0, 38, 0, 230, 511, 1023]
theorem spec_l71Mem.tab5 : rtab .any (opsOf Try.f58 5) = spec_l71Mem.T5 := by kernel_rfl
theorem spec_l71Mem.bits5 : waitsOk spec_l71Mem.T5.2 spec_l71Mem.B5 = true := by kernel_rfl
def spec_l71Mem.T10 : Bool × List (List Nat × List Nat) := (true, [([], []), ([], []), ([1], [1]), ([0, 2], [0, 2]), ([3], [3]), ([], []), ([5], [5]), ([], []), ([7], [7]), ([8], [8]), ([4, 6, 0, 1, 2, 3, 4, 5, 6, 7, 8, 9], [4, 6]), ([10, 9, 8, 0, 1, 2, 3, 4, 5, 6, 7, 8, 9], [9, 10])])
def spec_l71Mem.B10 : List Nat := [0, 0, 2, 7, 15, 0, 32, 0, 128, 384, 1023, 2047]
theorem spec_l71Mem.tab10 : rtab .any (opsOf Try.f58 10) = spec_l71Mem.T10 := by kernel_rfl
theorem spec_l71Mem.bits10 : waitsOk spec_l71Mem.T10.2 spec_l71Mem.B10 = true := by kernel_rfl
set_option maxHeartbeats 8000000 in
set_option maxRecDepth 100000 in
theorem spec_l71Mem.calls (k : Nat) (g : Nat) (s0_0 : List Int) (s0_1 : Int) (r1 : List (List Int)) (r2 : Int) (w0 w : World) (hI : IsS93 w0 w g s0_0 s0_1) (hB : Below w0.heap.size w0 w) (h : spec_l71Mem.f k s0_0 s0_1 = some (r1, r2)) :
  Calls Try.prog 58 #[.pointer (some ⟨g, 0, none⟩)] w fun e w' => ∃ v0_ : Value, e = .returned (v0_) ∧ Kd.S (Kd.slice 3 (Kd.int .i64)) 45 w' w.heap.size (fun _ => True) v0_ r1 ∧ IsS93 w0 w' g s0_0 r2 ∧ Below w0.heap.size w0 w' ∧ KeepBut w w' g none := by
 have HI0 := Az.mk hI
 have HK := Az.mk (KeepBut.refl w g none)
 have HL := Az.mk hB.size
 clear hI
 have HW0 := Az.mk hB.size
 have HB := Az.mk hB
 clear hB
 have H : ((spec_MemNew.f k 6).bind fun t131 => ((spec_l6Rd_pick.f k s0_0 s0_1 26).bind fun bt134 => (spec_l71Mem.l0 k t131 bt134.1 s0_0 bt134.2))) = some (r1, r2) := h
 clear h
 replace H := Option.bind_eq_some_iff.mp H
 obtain ⟨t131, A20, H⟩ := H
 replace H : ((spec_l6Rd_pick.f k s0_0 s0_1 26).bind fun bt134 => (spec_l71Mem.l0 k t131 bt134.1 s0_0 bt134.2)) = some (r1, r2) := H
 have A2 := Az.mk A20
 clear A20
 replace H := Option.bind_eq_some_iff.mp H
 obtain ⟨⟨t134, t135⟩, A30, H⟩ := H
 replace H : (spec_l71Mem.l0 k t131 t134 s0_0 t135) = some (r1, r2) := H
 have A3 := Az.mk A30
 clear A30
 have H' := Az.mk H
 clear H
 go_enter Try.func58, Try.ntmps58
 go_wp2_with (first | ((with_reducible refine Yc (f := 64) rfl ?_); refine Yg (some 7) rfl rfl Try.func64 (by kernel_rfl) rfl #[.int .i64 6] rfl (by (try simp only [List.map_toArray, List.map_cons, List.map_nil]); first | done | rfl | (simp only [List.length_drop, List.length_take]; rfl)) ?_; (with_reducible refine (spec_MemNew.calls k 6 t131 _ A2.out).mono ?_); rintro e w4 ⟨v132, rfl, ho0, hb⟩; refine ⟨_, rfl, ?_⟩; have n0_ := Az.mk (Kd.Sl_ ho0 (keep_size (w := w) (g := g) (row := none) (by repeat (first | (with_reducible first | exact HK.out | apply KeepBut.set_ | apply keep_drewN | apply keep_drew | apply keep_alloc) | exact HK.out)))); have n1_ := Az.mk (IsS93.below (by repeat (first | (with_reducible first | exact HI0.out | apply IsS93.alloc | apply IsS93.drewN | apply IsS93.drew | apply IsS93.set_1) | exact HI0.out)) hb); have n2_ := Az.mk (KeepBut.trans (by repeat (first | (with_reducible first | exact HK.out | apply KeepBut.set_ | apply keep_drewN | apply keep_drew | apply keep_alloc) | exact HK.out)) (KeepBut.of_below hb g none) (.inl rfl)); have n3_ := Az.mk (Yt (by repeat (first | (with_reducible first | exact HB.out | apply Ya | apply Yn | apply Yw | refine Ys ?_ (IsS93.ge HI0.out)) | exact HB.out)) hb); clear HI0; clear HK; clear HB; have HO133 := n0_; have HI0 := n1_; have HK := n2_; have HB := n3_; clear n0_ n1_ n2_ n3_; (try clear hb); (try clear hb2); (try clear hk); (try clear hi); (try clear ho0)) | ((with_reducible refine Yc (f := 57) rfl ?_); refine Yg (some 9) rfl rfl Try.func57 (by kernel_rfl) rfl #[.pointer (some ⟨g, 0, none⟩), .int .i64 26] rfl (by (try simp only [List.map_toArray, List.map_cons, List.map_nil]); first | done | rfl | (simp only [List.length_drop, List.length_take]; rfl)) ?_; (with_reducible refine (spec_l6Rd_pick.calls k g s0_0 s0_1 26 t134 t135 w0 _ ?side1 ?side2 A3.out).mono ?_); (case side1 => repeat (first | (with_reducible first | exact HI0.out | apply IsS93.alloc | apply IsS93.drewN | apply IsS93.drew | apply IsS93.set_1) | exact HI0.out)); (case side2 => repeat (first | (with_reducible first | exact HB.out | apply Ya | apply Yn | apply Yw | refine Ys ?_ (IsS93.ge HI0.out)) | exact HB.out)); rintro e w5 ⟨rfl, hi, hb, hk⟩; refine ⟨_, rfl, ?_⟩; have n0_ := Az.mk (Kd.Sm_ (Kd.S_keep (IsS93.apartS (show IsS93 w0 _ g s0_0 s0_1 from by repeat (first | (with_reducible first | exact HI0.out | apply IsS93.alloc | apply IsS93.drewN | apply IsS93.drew | apply IsS93.set_1) | exact HI0.out)) (by (with_reducible repeat (first | apply Kd.Sa_ | apply Kd.Sn_ | apply Kd.Sw_)); exact HO133.out) (by decide)) hk (fun _ h => h.2)) (fun _ h => h.1)); have n1_ := Az.mk (KeepBut.trans (by repeat (first | (with_reducible first | exact HK.out | apply KeepBut.set_ | apply keep_drewN | apply keep_drew | apply keep_alloc) | exact HK.out)) hk (.inl rfl)); have n2_ := Az.mk (hb); have n3_ := Az.mk (hi); clear HO133; clear HK; clear HB; clear HI0; have HO133 := n0_; have HK := n1_; have HB := n2_; have HI0 := n3_; clear n0_ n1_ n2_ n3_; (try clear hb); (try clear hb2); (try clear hk); (try clear hi)))
 go_loopg [4] k (fun kq v4 w' => ∃ (x3_1 : List (List Int)) (x4_1 : Int) (x1001_1 : Int), v4 = .int .i64 x4_1 ∧ Az (spec_l71Mem.l0 kq x3_1 x4_1 s0_0 x1001_1 = some (r1, r2)) ∧ Az (kq ≤ k) ∧ Az (Kd.S (Kd.slice 3 (Kd.int .i64)) 45 w' w.heap.size (fun _ => True) v132 x3_1) ∧ Az (IsS93 w0 w' g s0_0 x1001_1) ∧ Az (KeepBut w w' g none) ∧ Az (Below w0.heap.size w0 w'))
 case atStart => exact ⟨(t131), (t134), (t135), (by first | rfl | (simp; done) | (simp [*]; done)), H', ⟨Nat.le_refl _⟩, ⟨by (with_reducible repeat (first | apply Kd.Sa_ | apply Kd.Sn_ | apply Kd.Sw_)); exact HO133.out⟩, ⟨by repeat (first | (with_reducible first | exact HI0.out | apply IsS93.alloc | apply IsS93.drewN | apply IsS93.drew | apply IsS93.set_1) | exact HI0.out)⟩, ⟨by repeat (first | (with_reducible first | exact HK.out | apply KeepBut.set_ | apply keep_drewN | apply keep_drew | apply keep_alloc) | exact HK.out)⟩, ⟨by repeat (first | (with_reducible first | exact HB.out | apply Ya | apply Yn | apply Yw | refine Ys ?_ (IsS93.ge HI0.out)) | exact HB.out)⟩⟩
 case round =>
  clear H'
  try clear p2
  try clear c5
  obtain ⟨x3_1, x4_1, x1001_1, rfl, HA, HK1, HO_3, HI0, HK, HB⟩ := hrel
  cases gk with
  | zero => exact absurd HA.out (by simp [spec_l71Mem.l0])
  | succ k1 =>
   have H := HA.out
   clear HA
   simp only [spec_l71Mem.l0] at H
   by_cases c6 : x4_1 > 0
   ·rw [if_pos c6] at H
    have c6b0 : decide (0 < x4_1) = true := decide_eq_true c6
    clear c6
    replace H := Option.bind_eq_some_iff.mp H
    obtain ⟨⟨t136, t137⟩, A70, H⟩ := H
    replace H : (if 0 ≤ t136 then (if t136 < (x3_1.length : Int) then ((spec_l6Rd_pick.f k1 s0_0 t137 4).bind fun bt139 => ((spec_l71Word.f k1 s0_0 bt139.2).bind fun bt141 => (if 0 ≤ bt139.1 then (if bt139.1 < ((rd_L1 x3_1 t136).length : Int) then (spec_l71Mem.l0 k1 (x3_1.set (t136 : Int).toNat ((rd_L1 x3_1 t136).set (bt139.1 : Int).toNat bt141.1)) (wrap64 (x4_1 - 1)) s0_0 bt141.2) else (none)) else (none)))) else (none)) else (none)) = some (r1, r2) := H
    have A7 := Az.mk A70
    clear A70
    by_cases c8 : 0 ≤ t136
    ·rw [if_pos c8] at H
     have c8b0 : decide (0 ≤ t136) = true := decide_eq_true c8
     clear c8
     by_cases c9 : t136 < (x3_1.length : Int)
     ·rw [if_pos c9] at H
      have c9b0 : decide (t136 < (x3_1.length : Int)) = true := decide_eq_true c9
      clear c9
      replace H := Option.bind_eq_some_iff.mp H
      obtain ⟨⟨t139, t140⟩, A100, H⟩ := H
      replace H : ((spec_l71Word.f k1 s0_0 t140).bind fun bt141 => (if 0 ≤ t139 then (if t139 < ((rd_L1 x3_1 t136).length : Int) then (spec_l71Mem.l0 k1 (x3_1.set (t136 : Int).toNat ((rd_L1 x3_1 t136).set (t139 : Int).toNat bt141.1)) (wrap64 (x4_1 - 1)) s0_0 bt141.2) else (none)) else (none))) = some (r1, r2) := H
      have A10 := Az.mk A100
      clear A100
      replace H := Option.bind_eq_some_iff.mp H
      obtain ⟨⟨t141, t142⟩, A110, H⟩ := H
      replace H : (if 0 ≤ t139 then (if t139 < ((rd_L1 x3_1 t136).length : Int) then (spec_l71Mem.l0 k1 (x3_1.set (t136 : Int).toNat ((rd_L1 x3_1 t136).set (t139 : Int).toNat t141)) (wrap64 (x4_1 - 1)) s0_0 t142) else (none)) else (none)) = some (r1, r2) := H
      have A11 := Az.mk A110
      clear A110
      by_cases c12 : 0 ≤ t139
      ·rw [if_pos c12] at H
       have c12b0 : decide (0 ≤ t139) = true := decide_eq_true c12
       clear c12
       by_cases c13 : t139 < ((rd_L1 x3_1 t136).length : Int)
       ·rw [if_pos c13] at H
        have c13b0 : decide (t139 < ((rd_L1 x3_1 t136).length : Int)) = true := decide_eq_true c13
        clear c13
        obtain ⟨y143, hy143⟩ : ∃ y_ : List Int, y_ = ((rd_L1 x3_1 t136).set (t139 : Int).toNat t141) := ⟨_, rfl⟩
        replace H : (spec_l71Mem.l0 k1 (x3_1.set (t136 : Int).toNat y143) (wrap64 (x4_1 - 1)) s0_0 t142) = some (r1, r2) := by first | (rw [hy143]; with_reducible exact H) | (have H2_ := (Option.bind_some _ _).symm.trans H; rw [hy143]; with_reducible exact H2_) | (have H2_ := (Option.bind_some _ _).symm.trans H; with_reducible exact H2_) | with_reducible exact H | (rw [hy143]; exact H) | exact H
        have Ny143 := Az.mk hy143
        clear hy143
        obtain ⟨y145, hy145⟩ : ∃ y_ : List (List Int), y_ = (x3_1.set (t136 : Int).toNat y143) := ⟨_, rfl⟩
        replace H : (spec_l71Mem.l0 k1 y145 (wrap64 (x4_1 - 1)) s0_0 t142) = some (r1, r2) := by first | (rw [hy145]; with_reducible exact H) | (have H2_ := (Option.bind_some _ _).symm.trans H; rw [hy145]; with_reducible exact H2_) | (have H2_ := (Option.bind_some _ _).symm.trans H; with_reducible exact H2_) | with_reducible exact H | (rw [hy145]; exact H) | exact H
        have Ny145 := Az.mk hy145
        clear hy145
        have H' := Az.mk H
        clear H
        try go_wp2
        have n0_ := Az.mk (Kd.Sw_ HO_3.out)
        have n1_ := Az.mk (IsS93.drew HI0.out)
        have n2_ := Az.mk (keep_drew HK.out)
        have n3_ := Az.mk (Yw HB.out)
        clear HO_3
        clear HI0
        clear HK
        clear HB
        have HO_3 := n0_
        have HI0 := n1_
        have HK := n2_
        have HB := n3_
        clear n0_ n1_ n2_ n3_
        have p138 : 0 ≤ (t136 : Int) := of_decide_eq_true (by first | (with_reducible assumption) | assumption)
        have q138 : t136 < (x3_1.length : Int) := of_decide_eq_true (by first | (with_reducible assumption) | assumption)
        (try (obtain ⟨Aq138, cq138, eq138⟩ := Kd.Ss_ HO_3.out; subst eq138))
        obtain ⟨ad138, A138_0, c138_0, e138, hx138_0, hl138_0, hi138_0⟩ := at_L1 (Kd.Sr_ HO_3.out).2.2 t136 p138 q138
        cases e138
        obtain ⟨ce138, hce138, hMe138, hcc138⟩ := Kd.S_get HO_3.out [] t136 p138 (by first | exact q138 | exact of_decide_eq_true (by first | (with_reducible assumption) | assumption) | (have e_ := (Kd.Sr_ HO_3.out).1; omega))
        obtain ⟨ve138_0, rfl, ge138_0⟩ := hMe138
        have hv138_0 := hcc138 0 _ rfl
        rw [Nat.add_zero, show ((Kd.slice 3 (Kd.int .i64))).sz = 1 from rfl, Nat.mul_one] at hv138_0
        replace hv138_0 := Option.some.inj (hv138_0.symm.trans hx138_0)
        rw [hv138_0] at ge138_0
        have HL138_0 := Az.mk (show Kd.R (Kd.int .i64) 3 _ _ _ _ (rd_L1 x3_1 t136) from ge138_0)
        clear hv138_0 ge138_0
        have HX138_0 := Az.mk hx138_0
        clear hcc138 hce138
        have HR138_0 := Az.mk hi138_0
        have HC138_0 := Az.mk hl138_0
        clear hi138_0 hl138_0
        replace p138 := eq_true p138
        replace q138 := eq_true q138
        refine start_ (n := 11) (S := fun w' => w'.cell? (ad138.add (t136).toNat) = some (.slice A138_0 (rd_L1 x3_1 t136).length c138_0)) (ds := [10]) #[false, false, false, false, false, false, false, false, false, false, false] (by kernel_rfl) rfl rfl (hx138_0) (fun hHeld => ?_); refine with_tabW spec_l71Mem.tab5 spec_l71Mem.bits5 (fun HT_ HW_ => ?_)
        generalize wr.drew = w15 at HO_3 HI0 HK HB HL138_0 HR138_0 HX138_0 hx138_0 hHeld ⊢
        refine pure_ (i := 0) (N := some 14) (v := ?_) (a' := ?_) #[true, false, false, false, false, false, false, false, false, false, false] rfl rfl (any_of HT_.out (by kernel_rfl)) (fun _ _ _ h => h) (Or.inl ⟨by rfl, ?_⟩) ?_ ?_
        rotate_left
        ·intro w'
         go_simp
         with_reducible rfl
        rotate_left
        ·simp only [Act.put, List.setIfInBounds_toArray, List.set_cons_zero, List.set_cons_succ, i64_w, i32_w]
         rfl
        refine pure_ (i := 1) (N := some 15) (v := ?_) (a' := ?_) #[true, true, false, false, false, false, false, false, false, false, false] rfl rfl (any_of HT_.out (by kernel_rfl)) (fun _ _ _ h => h) (Or.inl ⟨by rfl, ?_⟩) ?_ ?_
        rotate_left
        ·intro w'
         go_simp
         with_reducible rfl
        rotate_left
        ·simp only [Act.put, List.setIfInBounds_toArray, List.set_cons_zero, List.set_cons_succ, i64_w, i32_w]
         rfl
        refine pure_ (i := 5) (N := some 19) (v := ?_) (a' := ?_) #[true, true, false, false, false, true, false, false, false, false, false] rfl rfl (any_of HT_.out (by kernel_rfl)) (fun _ _ _ h => h) (Or.inl ⟨by rfl, ?_⟩) ?_ ?_
        rotate_left
        ·intro w'
         go_simp
         with_reducible rfl
        rotate_left
        ·simp only [Act.put, List.setIfInBounds_toArray, List.set_cons_zero, List.set_cons_succ, i64_w, i32_w]
         rfl
        refine pure_ (i := 7) (N := some 21) (v := ?_) (a' := ?_) #[true, true, false, false, false, true, false, true, false, false, false] rfl rfl (any_of HT_.out (by kernel_rfl)) (fun _ _ _ h => h) (Or.inl ⟨by rfl, ?_⟩) ?_ ?_
        rotate_left
        ·intro w'
         go_simp
         with_reducible rfl
        rotate_left
        ·simp only [Act.put, List.setIfInBounds_toArray, List.set_cons_zero, List.set_cons_succ, i64_w, i32_w]
         rfl
        refine one_ (i := 2) (N := some 16) #[true, true, true, false, false, true, false, true, false, false, false] rfl rfl (one_of HT_.out (by kernel_rfl)) (by decide) (fun K hK => ?_)
        refine goes_ Try.func57 (by kernel_rfl) rfl #[.pointer (some ⟨g, 0, none⟩), .int .i64 6] (by rfl) rfl rfl (by (try simp only [List.map_toArray, List.map_cons, List.map_nil]); first | done | rfl | (simp only [List.length_drop, List.length_take]; rfl)) ?_
        with_reducible refine (spec_l6Rd_pick.calls k1 g s0_0 x1001_1 6 t136 t137 w0 _ ?side1 ?side2 A7.out).mono ?_
        (case side1 => repeat (first | (with_reducible first | exact HI0.out | apply IsS93.alloc | apply IsS93.drewN | apply IsS93.drew | apply IsS93.set_1) | exact HI0.out))
        (case side2 => repeat (first | (with_reducible first | exact HB.out | apply Ya | apply Yn | apply Yw | refine Ys ?_ (IsS93.ge HI0.out)) | exact HB.out))
        rintro e w16 ⟨rfl, hi, hb, hk⟩
        have HS0_ := keep_cell hk (hHeld) (by first | (rw [add_block]; exact Kd.own_blk (IsS93.own_neS HI0.out HO_3.out (by decide))) | (show (Addr.add _ _).block ≠ _; rw [add_block]; exact Kd.own_blk (IsS93.own_neS HI0.out HO_3.out (by decide))) | exact Kd.own_blk (IsS93.own_neS HI0.out HO_3.out (by decide)))
        refine ⟨_, rfl, ?_⟩
        have m0_ := Az.mk (Kd.Rm_ (Kd.R_keep (IsS93.apart (show IsS93 w0 _ g s0_0 x1001_1 from by repeat (first | (with_reducible first | exact HI0.out | apply IsS93.alloc | apply IsS93.drewN | apply IsS93.drew | apply IsS93.set_1) | exact HI0.out)) (by (with_reducible repeat (first | apply Kd.Ra_ | apply Kd.Rn_ | apply Kd.Rw_)); exact HL138_0.out) (by decide)) hk (fun _ h => h.2)) (fun _ h => h.1))
        have m1_ := Az.mk (keep_cell hk HX138_0.out (by first | (rw [add_block]; exact Kd.own_blk (IsS93.own_neS HI0.out HO_3.out (by decide))) | (show (Addr.add _ _).block ≠ _; rw [add_block]; exact Kd.own_blk (IsS93.own_neS HI0.out HO_3.out (by decide))) | exact Kd.own_blk (IsS93.own_neS HI0.out HO_3.out (by decide)) | (dsimp only; exact Kd.own_blk (IsS93.own_neS HI0.out HO_3.out (by decide)))))
        have n0_ := Az.mk (Kd.Sm_ (Kd.S_keep (IsS93.apartS (show IsS93 w0 _ g s0_0 x1001_1 from by repeat (first | (with_reducible first | exact HI0.out | apply IsS93.alloc | apply IsS93.drewN | apply IsS93.drew | apply IsS93.set_1) | exact HI0.out)) (by (with_reducible repeat (first | apply Kd.Sa_ | apply Kd.Sn_ | apply Kd.Sw_)); exact HO_3.out) (by decide)) hk (fun _ h => h.2)) (fun _ h => h.1))
        have n1_ := Az.mk (KeepBut.trans (by repeat (first | (with_reducible first | exact HK.out | apply KeepBut.set_ | apply keep_drewN | apply keep_drew | apply keep_alloc) | exact HK.out)) hk (.inl rfl))
        have n2_ := Az.mk (hb)
        have n3_ := Az.mk (hi)
        clear HO_3
        clear HK
        clear HB
        clear HI0
        have HO_3 := n0_
        have HK := n1_
        have HB := n2_
        have HI0 := n3_
        clear n0_ n1_ n2_ n3_
        clear HL138_0
        have HL138_0 := m0_
        clear m0_
        clear HX138_0
        have HX138_0 := m1_
        clear m1_
        (try clear hb)
        (try clear hb2)
        (try clear hk)
        (try clear hi)
        obtain ⟨Ao17, co17, eo17⟩ := Kd.Ss_ HO_3.out
        (first | subst eo17 | (injection eo17 with f1_ f2_ f3_; have f4_ := f1_.symm; have f5_ := f3_.symm; clear f1_ f2_ f3_; subst f4_; subst f5_))
        refine hK.out _ _ (HS0_) (fun hHeld => ?_)
        clear hK K
        refine norm_ (a' := ?_) ?_ ?_
        rotate_left
        ·show Act.put _ (some 16) _ = _
         simp only [Act.put, List.setIfInBounds_toArray, List.set_cons_zero, List.set_cons_succ, i64_w, i32_w]
         rfl
        refine pure_ (i := 3) (N := some 17) (v := ?_) (a' := ?_) #[true, true, true, true, false, true, false, true, false, false, false] rfl rfl (any_of HT_.out (by kernel_rfl)) (fun _ _ _ h => h) (Or.inl ⟨by rfl, ?_⟩) ?_ ?_
        rotate_left
        ·intro w'
         go_simp
         with_reducible rfl
        rotate_left
        ·simp only [Act.put, List.setIfInBounds_toArray, List.set_cons_zero, List.set_cons_succ, i64_w, i32_w]
         rfl
        refine take_ (i := 4) (N := some 18) (v := ?_) (a' := ?_) #[true, true, true, true, true, true, false, true, false, false, false] rfl rfl (take_ofW HT_.out HW_.out (by kernel_rfl)) (fun _ _ _ h => h) (Or.inl ⟨by rfl, ?_⟩) hHeld ?_ ?_
        rotate_left
        ·intro w' s0
         go_simp
         with_reducible rfl
        rotate_left
        ·simp only [Act.put, List.setIfInBounds_toArray, List.set_cons_zero, List.set_cons_succ, i64_w, i32_w]
         rfl
        refine one_ (i := 6) (N := some 20) #[true, true, true, true, true, true, true, true, false, false, false] rfl rfl (one_of HT_.out (by kernel_rfl)) (by decide) (fun K hK => ?_)
        refine goes_ Try.func57 (by kernel_rfl) rfl #[.pointer (some ⟨g, 0, none⟩), .int .i64 4] (by rfl) rfl rfl (by (try simp only [List.map_toArray, List.map_cons, List.map_nil]); first | done | rfl | (simp only [List.length_drop, List.length_take]; rfl)) ?_
        with_reducible refine (spec_l6Rd_pick.calls k1 g s0_0 t137 4 t139 t140 w0 _ ?side1 ?side2 A10.out).mono ?_
        (case side1 => repeat (first | (with_reducible first | exact HI0.out | apply IsS93.alloc | apply IsS93.drewN | apply IsS93.drew | apply IsS93.set_1) | exact HI0.out))
        (case side2 => repeat (first | (with_reducible first | exact HB.out | apply Ya | apply Yn | apply Yw | refine Ys ?_ (IsS93.ge HI0.out)) | exact HB.out))
        rintro e w18 ⟨rfl, hi, hb, hk⟩
        have HS0_ := keep_cell hk (hHeld) (by first | (rw [add_block]; exact Kd.own_blk (IsS93.own_neS HI0.out HO_3.out (by decide))) | (show (Addr.add _ _).block ≠ _; rw [add_block]; exact Kd.own_blk (IsS93.own_neS HI0.out HO_3.out (by decide))) | exact Kd.own_blk (IsS93.own_neS HI0.out HO_3.out (by decide)))
        refine ⟨_, rfl, ?_⟩
        have n0_ := Az.mk (Kd.Sm_ (Kd.S_keep (IsS93.apartS (show IsS93 w0 _ g s0_0 t137 from by repeat (first | (with_reducible first | exact HI0.out | apply IsS93.alloc | apply IsS93.drewN | apply IsS93.drew | apply IsS93.set_1) | exact HI0.out)) (by (with_reducible repeat (first | apply Kd.Sa_ | apply Kd.Sn_ | apply Kd.Sw_)); exact HO_3.out) (by decide)) hk (fun _ h => h.2)) (fun _ h => h.1))
        have n1_ := Az.mk (Kd.Rm_ (Kd.R_keep (IsS93.apart (show IsS93 w0 _ g s0_0 t137 from by repeat (first | (with_reducible first | exact HI0.out | apply IsS93.alloc | apply IsS93.drewN | apply IsS93.drew | apply IsS93.set_1) | exact HI0.out)) (by (with_reducible repeat (first | apply Kd.Ra_ | apply Kd.Rn_ | apply Kd.Rw_)); exact HL138_0.out) (by decide)) hk (fun _ h => h.2)) (fun _ h => h.1))
        have n2_ := Az.mk (keep_cell hk HX138_0.out (by first | (rw [add_block]; exact Kd.own_blk (IsS93.own_neS HI0.out HO_3.out (by decide))) | (show (Addr.add _ _).block ≠ _; rw [add_block]; exact Kd.own_blk (IsS93.own_neS HI0.out HO_3.out (by decide))) | exact Kd.own_blk (IsS93.own_neS HI0.out HO_3.out (by decide)) | (dsimp only; exact Kd.own_blk (IsS93.own_neS HI0.out HO_3.out (by decide)))))
        have n3_ := Az.mk (KeepBut.trans (by repeat (first | (with_reducible first | exact HK.out | apply KeepBut.set_ | apply keep_drewN | apply keep_drew | apply keep_alloc) | exact HK.out)) hk (.inl rfl))
        have n4_ := Az.mk (hb)
        have n5_ := Az.mk (hi)
        clear HO_3
        clear HL138_0
        clear HX138_0
        clear HK
        clear HB
        clear HI0
        have HO_3 := n0_
        have HL138_0 := n1_
        have HX138_0 := n2_
        have HK := n3_
        have HB := n4_
        have HI0 := n5_
        clear n0_ n1_ n2_ n3_ n4_ n5_
        (try clear hb)
        (try clear hb2)
        (try clear hk)
        (try clear hi)
        refine hK.out _ _ (HS0_) (fun hHeld => ?_)
        clear hK K
        refine norm_ (a' := ?_) ?_ ?_
        rotate_left
        ·show Act.put _ (some 20) _ = _
         simp only [Act.put, List.setIfInBounds_toArray, List.set_cons_zero, List.set_cons_succ, i64_w, i32_w]
         rfl
        refine one_ (i := 8) (N := some 22) #[true, true, true, true, true, true, true, true, true, false, false] rfl rfl (one_of HT_.out (by kernel_rfl)) (by decide) (fun K hK => ?_)
        refine goes_ Try.func84 (by kernel_rfl) rfl #[.pointer (some ⟨g, 0, none⟩)] (by rfl) rfl rfl (by (try simp only [List.map_toArray, List.map_cons, List.map_nil]); first | done | rfl | (simp only [List.length_drop, List.length_take]; rfl)) ?_
        with_reducible refine (spec_l71Word.calls k1 g s0_0 t140 t141 t142 w0 _ ?side1 ?side2 A11.out).mono ?_
        (case side1 => repeat (first | (with_reducible first | exact HI0.out | apply IsS93.alloc | apply IsS93.drewN | apply IsS93.drew | apply IsS93.set_1) | exact HI0.out))
        (case side2 => repeat (first | (with_reducible first | exact HB.out | apply Ya | apply Yn | apply Yw | refine Ys ?_ (IsS93.ge HI0.out)) | exact HB.out))
        rintro e w19 ⟨rfl, hi, hb, hk⟩
        have HS0_ := keep_cell hk (hHeld) (by first | (rw [add_block]; exact Kd.own_blk (IsS93.own_neS HI0.out HO_3.out (by decide))) | (show (Addr.add _ _).block ≠ _; rw [add_block]; exact Kd.own_blk (IsS93.own_neS HI0.out HO_3.out (by decide))) | exact Kd.own_blk (IsS93.own_neS HI0.out HO_3.out (by decide)))
        refine ⟨_, rfl, ?_⟩
        have n0_ := Az.mk (Kd.Sm_ (Kd.S_keep (IsS93.apartS (show IsS93 w0 _ g s0_0 t140 from by repeat (first | (with_reducible first | exact HI0.out | apply IsS93.alloc | apply IsS93.drewN | apply IsS93.drew | apply IsS93.set_1) | exact HI0.out)) (by (with_reducible repeat (first | apply Kd.Sa_ | apply Kd.Sn_ | apply Kd.Sw_)); exact HO_3.out) (by decide)) hk (fun _ h => h.2)) (fun _ h => h.1))
        have n1_ := Az.mk (Kd.Rm_ (Kd.R_keep (IsS93.apart (show IsS93 w0 _ g s0_0 t140 from by repeat (first | (with_reducible first | exact HI0.out | apply IsS93.alloc | apply IsS93.drewN | apply IsS93.drew | apply IsS93.set_1) | exact HI0.out)) (by (with_reducible repeat (first | apply Kd.Ra_ | apply Kd.Rn_ | apply Kd.Rw_)); exact HL138_0.out) (by decide)) hk (fun _ h => h.2)) (fun _ h => h.1))
        have n2_ := Az.mk (keep_cell hk HX138_0.out (by first | (rw [add_block]; exact Kd.own_blk (IsS93.own_neS HI0.out HO_3.out (by decide))) | (show (Addr.add _ _).block ≠ _; rw [add_block]; exact Kd.own_blk (IsS93.own_neS HI0.out HO_3.out (by decide))) | exact Kd.own_blk (IsS93.own_neS HI0.out HO_3.out (by decide)) | (dsimp only; exact Kd.own_blk (IsS93.own_neS HI0.out HO_3.out (by decide)))))
        have n3_ := Az.mk (KeepBut.trans (by repeat (first | (with_reducible first | exact HK.out | apply KeepBut.set_ | apply keep_drewN | apply keep_drew | apply keep_alloc) | exact HK.out)) hk (.inl rfl))
        have n4_ := Az.mk (hb)
        have n5_ := Az.mk (hi)
        clear HO_3
        clear HL138_0
        clear HX138_0
        clear HK
        clear HB
        clear HI0
        have HO_3 := n0_
        have HL138_0 := n1_
        have HX138_0 := n2_
        have HK := n3_
        have HB := n4_
        have HI0 := n5_
        clear n0_ n1_ n2_ n3_ n4_ n5_
        (try clear hb)
        (try clear hb2)
        (try clear hk)
        (try clear hi)
        have p14 : 0 ≤ (t139 : Int) := of_decide_eq_true (by first | (with_reducible assumption) | assumption)
        have q14 : (t139 : Int) < (((rd_L1 x3_1 t136).length : Int) : Int) := of_decide_eq_true (by first | (with_reducible assumption) | assumption)
        obtain ⟨go14, co14, eo14, gb14, gl14, cl14, HG14⟩ := Kd.R_form HL138_0.out (by omega)
        (first | cases eo14 | (injection eo14 with ea_ en_ ec_; (first | subst ea_ | (injection ea_ with ea_; subst ea_)); subst ec_; clear en_))
        have GB14 := Az.mk gb14
        have GG14 := Az.mk HG14
        clear gb14 gl14 HG14
        obtain ⟨hx14_0, hf14_0⟩ := Kd.R_celln 0 HL138_0.out (t139 : Int) p14 q14
        replace p14 := eq_true p14
        replace q14 := eq_true q14
        have hq20 : (t136 : Int) < (x3_1.length : Int) := (by have h_ : (t136 : Int) < ((x3_1.length : Int) : Int) := of_decide_eq_true (by first | (with_reducible assumption) | assumption); first | exact h_ | (have e_ := (Kd.Sr_ HO_3.out).1; omega) | simpa only [List.length_set, List.length_set] using h_)
        obtain ⟨oki20, ce20, hcl20, hM20, hcc20, hok20, hbk20⟩ := Kd.S_borrow HO_3.out [] (t136 : Int) (of_decide_eq_true (by first | (with_reducible assumption) | assumption)) hq20
        obtain ⟨ve20_0, rfl, ge20_0⟩ := hM20
        have hv20 := hcc20 0 _ rfl
        rw [Nat.add_zero, show ((Kd.slice 3 (Kd.int .i64))).sz = 1 from rfl, Nat.mul_one] at hv20
        replace hv20 := Option.some.inj (hv20.symm.trans HX138_0.out)
        subst hv20
        clear hcc20 hcl20
        replace ge20_0 := (show Kd.R (Kd.int .i64) 3 _ _ _ _ (rd_L1 x3_1 t136) from ge20_0)
        have HP20 := Kd.R_putg ge20_0 (t139 : Int) t141
        have HN0_go14 := Az.mk (show g ≠ go14 from by have h_ := IsS93.own_ne HI0.out HL138_0.out (by decide); intro e_; exact h_ (by rw [e_]; rfl))
        rw [← Ny143.out] at HP20
        have HS20 := hbk20 HP20.2 (fun k_ e_ => by injection e_ with e_; subst e_; exact ge20_0.1 _ rfl) (x' := y143) (Kd.M_row HP20.1)
        rw [← Ny145.out] at HS20
        have HQ20 := Az.mk HS20
        clear HP20 HS20 hbk20 hok20
        refine hK.out _ _ (HS0_) (fun hHeld => ?_)
        clear hK K
        refine norm_ (a' := ?_) ?_ ?_
        rotate_left
        ·show Act.put _ (some 22) _ = _
         simp only [Act.put, List.setIfInBounds_toArray, List.set_cons_zero, List.set_cons_succ, i64_w, i32_w]
         rfl
        refine pure_ (i := 9) (N := some 23) (v := ?_) (a' := ?_) #[true, true, true, true, true, true, true, true, true, true, false] rfl rfl (any_of HT_.out (by kernel_rfl)) (fun _ _ _ h => h) (Or.inl ⟨by rfl, ?_⟩) ?_ ?_
        rotate_left
        ·intro w'
         go_simp
         with_reducible rfl
        rotate_left
        ·simp only [Act.put, List.setIfInBounds_toArray, List.set_cons_zero, List.set_cons_succ, i64_w, i32_w]
         rfl
        refine last_ (i := 10) (N := none) #[true, true, true, true, true, true, true, true, true, true, true] rfl rfl (one_of HT_.out (by kernel_rfl)) (by decide) (fun K hK => ?_)
        refine skip_ (w1 := ?_) (by rfl) rfl ?_ ?_
        rotate_left
        ·go_simp
         rfl
        refine hK.out _ _ ?_
        clear hK K
        refine done_ (done_of HT_.out (by kernel_rfl)) ?_
        try go_wp2
        go_roundg k1
        case measure => have := HK1.out; omega
        case rel => exact ⟨(y145), (wrap64 (x4_1 - 1)), (t142), (by first | rfl | (simp; done) | (simp [*]; done)), H', ⟨by have := HK1.out; omega⟩, ⟨by (with_reducible repeat (first | apply Kd.Sa_ | apply Kd.Sn_ | apply Kd.Sw_)); exact HQ20.out⟩, ⟨by repeat (first | (with_reducible first | exact HI0.out | apply IsS93.alloc | apply IsS93.drewN | apply IsS93.drew | apply IsS93.set_1 | refine IsS93.far ?_ HN0_go14.out _) | exact HI0.out)⟩, ⟨by repeat (first | (with_reducible first | exact HK.out | apply KeepBut.set_ | apply keep_drewN | apply keep_drew | apply keep_alloc | refine keep_far ?_ GB14.out _) | exact HK.out)⟩, ⟨by repeat (first | (with_reducible first | exact HB.out | apply Ya | apply Yn | apply Yw | refine Ys ?_ (Nat.le_trans HL.out GB14.out) | refine Ys ?_ (IsS93.ge HI0.out)) | exact HB.out)⟩⟩
       ·rw [if_neg c13] at H
        exact absurd H (by simp)
      ·rw [if_neg c12] at H
       exact absurd H (by simp)
     ·rw [if_neg c9] at H
      exact absurd H (by simp)
    ·rw [if_neg c8] at H
     exact absurd H (by simp)
   ·rw [if_neg c6] at H
    have c6b0 : decide (0 < x4_1) = false := decide_eq_false c6
    clear c6
    replace H := Option.bind_eq_some_iff.mp H
    obtain ⟨⟨t146, t147⟩, A220, H⟩ := H
    replace H : (spec_l71Mem.l1 k1 x3_1 t146 s0_0 t147) = some (r1, r2) := H
    have A22 := Az.mk A220
    clear A220
    have H' := Az.mk H
    clear H
    go_wp2_with (first | ((with_reducible refine Yc (f := 57) rfl ?_); refine Yg (some 25) rfl rfl Try.func57 (by kernel_rfl) rfl #[.pointer (some ⟨g, 0, none⟩), .int .i64 7] rfl (by (try simp only [List.map_toArray, List.map_cons, List.map_nil]); first | done | rfl | (simp only [List.length_drop, List.length_take]; rfl)) ?_; (with_reducible refine (spec_l6Rd_pick.calls k1 g s0_0 x1001_1 7 t146 t147 w0 _ ?side1 ?side2 A22.out).mono ?_); (case side1 => repeat (first | (with_reducible first | exact HI0.out | apply IsS93.alloc | apply IsS93.drewN | apply IsS93.drew | apply IsS93.set_1) | exact HI0.out)); (case side2 => repeat (first | (with_reducible first | exact HB.out | apply Ya | apply Yn | apply Yw | refine Ys ?_ (IsS93.ge HI0.out)) | exact HB.out)); rintro e w23 ⟨rfl, hi, hb, hk⟩; refine ⟨_, rfl, ?_⟩; have n0_ := Az.mk (Kd.Sm_ (Kd.S_keep (IsS93.apartS (show IsS93 w0 _ g s0_0 x1001_1 from by repeat (first | (with_reducible first | exact HI0.out | apply IsS93.alloc | apply IsS93.drewN | apply IsS93.drew | apply IsS93.set_1) | exact HI0.out)) (by (with_reducible repeat (first | apply Kd.Sa_ | apply Kd.Sn_ | apply Kd.Sw_)); exact HO_3.out) (by decide)) hk (fun _ h => h.2)) (fun _ h => h.1)); have n1_ := Az.mk (KeepBut.trans (by repeat (first | (with_reducible first | exact HK.out | apply KeepBut.set_ | apply keep_drewN | apply keep_drew | apply keep_alloc) | exact HK.out)) hk (.inl rfl)); have n2_ := Az.mk (hb); have n3_ := Az.mk (hi); clear HO_3; clear HK; clear HB; clear HI0; have HO_3 := n0_; have HK := n1_; have HB := n2_; have HI0 := n3_; clear n0_ n1_ n2_ n3_; (try clear hb); (try clear hb2); (try clear hk); (try clear hi)))
    go_loopg [5] k1 (fun kq v5 w' => ∃ (x3_2 : List (List Int)) (x5_2 : Int) (x1001_2 : Int), v5 = .int .i64 x5_2 ∧ Az (spec_l71Mem.l1 kq x3_2 x5_2 s0_0 x1001_2 = some (r1, r2)) ∧ Az (kq ≤ k1) ∧ Az (Kd.S (Kd.slice 3 (Kd.int .i64)) 45 w' w.heap.size (fun _ => True) v132 x3_2) ∧ Az (IsS93 w0 w' g s0_0 x1001_2) ∧ Az (KeepBut w w' g none) ∧ Az (Below w0.heap.size w0 w'))
    case atStart => exact ⟨(x3_1), (t146), (t147), (by first | rfl | (simp; done) | (simp [*]; done)), H', ⟨Nat.le_refl _⟩, ⟨by (with_reducible repeat (first | apply Kd.Sa_ | apply Kd.Sn_ | apply Kd.Sw_)); exact HO_3.out⟩, ⟨by repeat (first | (with_reducible first | exact HI0.out | apply IsS93.alloc | apply IsS93.drewN | apply IsS93.drew | apply IsS93.set_1) | exact HI0.out)⟩, ⟨by repeat (first | (with_reducible first | exact HK.out | apply KeepBut.set_ | apply keep_drewN | apply keep_drew | apply keep_alloc) | exact HK.out)⟩, ⟨by repeat (first | (with_reducible first | exact HB.out | apply Ya | apply Yn | apply Yw | refine Ys ?_ (IsS93.ge HI0.out)) | exact HB.out)⟩⟩
    case round =>
     clear H'
     try clear c1
     try clear p1
     try clear q1
     try clear hx1
     try clear hf1
     try clear c2
     try clear p2
     try clear q2
     try clear c5
     try clear c6
     try clear c6b0
     try clear p6
     try clear c8
     try clear c8b0
     try clear c9
     try clear c9b0
     try clear c12
     try clear c12b0
     try clear c13
     try clear c13b0
     try clear p13
     try clear q13
     try clear hx13
     try clear p14
     try clear q14
     try clear hx14
     try clear hf14
     try clear c20
     try clear q20
     try clear hx138_0
     try clear hx14_0
     try clear p138
     try clear p14
     try clear p2
     try clear q138
     try clear q14
     obtain ⟨x3_2, x5_2, x1001_2, rfl, HA, HK2, HO_3, HI0, HK, HB⟩ := hrel
     cases gk with
     | zero => exact absurd HA.out (by simp [spec_l71Mem.l1])
     | succ k2 =>
      have H := HA.out
      clear HA
      simp only [spec_l71Mem.l1] at H
      by_cases c24 : x5_2 > 0
      ·rw [if_pos c24] at H
       have c24b0 : decide (0 < x5_2) = true := decide_eq_true c24
       clear c24
       replace H := Option.bind_eq_some_iff.mp H
       obtain ⟨⟨t148, t149⟩, A250, H⟩ := H
       replace H : (if 0 ≤ (wrap64 (Int.tdiv t148 4)) then (if (wrap64 (Int.tdiv t148 4)) < (x3_2.length : Int) then ((spec_l6Rd_pick.f k2 s0_0 t149 8).bind fun bt151 => (if 0 ≤ (Int.tmod t148 4) then (if (Int.tmod t148 4) < ((rd_L1 x3_2 (wrap64 (Int.tdiv t148 4))).length : Int) then (spec_l71Mem.l1 k2 (x3_2.set ((wrap64 (Int.tdiv t148 4)) : Int).toNat ((rd_L1 x3_2 (wrap64 (Int.tdiv t148 4))).set ((Int.tmod t148 4) : Int).toNat (wrap64 (5 + bt151.1)))) (wrap64 (x5_2 - 1)) s0_0 bt151.2) else (none)) else (none))) else (none)) else (none)) = some (r1, r2) := H
       have A25 := Az.mk A250
       clear A250
       obtain ⟨ji26, hji26⟩ : ∃ j_ : Int, (wrap64 (Int.tdiv t148 4)) = j_ := ⟨_, rfl⟩
       replace H : (if 0 ≤ (ji26) then (if (ji26) < (x3_2.length : Int) then ((spec_l6Rd_pick.f k2 s0_0 t149 8).bind fun bt151 => (if 0 ≤ (Int.tmod t148 4) then (if (Int.tmod t148 4) < ((rd_L1 x3_2 (ji26)).length : Int) then (spec_l71Mem.l1 k2 (x3_2.set ((ji26) : Int).toNat ((rd_L1 x3_2 (ji26)).set ((Int.tmod t148 4) : Int).toNat (wrap64 (5 + bt151.1)))) (wrap64 (x5_2 - 1)) s0_0 bt151.2) else (none)) else (none))) else (none)) else (none)) = some (r1, r2) := by first | (rw [hji26] at H; exact H) | (simp only [hji26] at H ⊢; exact H)
       (try rw [hji26] at A25)
       have hji26w : (IntKind.i64.wrap (Int.tdiv t148 4)) = ji26 := (i64_w _).trans hji26
       by_cases c27 : 0 ≤ (ji26)
       ·rw [if_pos c27] at H
        have c27b0 : decide (0 ≤ (ji26)) = true := decide_eq_true c27
        clear c27
        by_cases c28 : (ji26) < (x3_2.length : Int)
        ·rw [if_pos c28] at H
         have c28b0 : decide ((ji26) < (x3_2.length : Int)) = true := decide_eq_true c28
         clear c28
         replace H := Option.bind_eq_some_iff.mp H
         obtain ⟨⟨t151, t152⟩, A290, H⟩ := H
         replace H : (if 0 ≤ (Int.tmod t148 4) then (if (Int.tmod t148 4) < ((rd_L1 x3_2 (ji26)).length : Int) then (spec_l71Mem.l1 k2 (x3_2.set ((ji26) : Int).toNat ((rd_L1 x3_2 (ji26)).set ((Int.tmod t148 4) : Int).toNat (wrap64 (5 + t151)))) (wrap64 (x5_2 - 1)) s0_0 t152) else (none)) else (none)) = some (r1, r2) := H
         have A29 := Az.mk A290
         clear A290
         obtain ⟨ji30, hji30⟩ : ∃ j_ : Int, (Int.tmod t148 4) = j_ := ⟨_, rfl⟩
         replace H : (if 0 ≤ (ji30) then (if (ji30) < ((rd_L1 x3_2 (ji26)).length : Int) then (spec_l71Mem.l1 k2 (x3_2.set ((ji26) : Int).toNat ((rd_L1 x3_2 (ji26)).set ((ji30) : Int).toNat (wrap64 (5 + t151)))) (wrap64 (x5_2 - 1)) s0_0 t152) else (none)) else (none)) = some (r1, r2) := by first | (rw [hji30] at H; exact H) | (simp only [hji30] at H ⊢; exact H)
         (try rw [hji30] at A25)
         (try rw [hji30] at A29)
         by_cases c31 : 0 ≤ (ji30)
         ·rw [if_pos c31] at H
          have c31b0 : decide (0 ≤ (ji30)) = true := decide_eq_true c31
          clear c31
          by_cases c32 : (ji30) < ((rd_L1 x3_2 (ji26)).length : Int)
          ·rw [if_pos c32] at H
           have c32b0 : decide ((ji30) < ((rd_L1 x3_2 (ji26)).length : Int)) = true := decide_eq_true c32
           clear c32
           obtain ⟨y153, hy153⟩ : ∃ y_ : List Int, y_ = ((rd_L1 x3_2 (ji26)).set ((ji30) : Int).toNat (wrap64 (5 + t151))) := ⟨_, rfl⟩
           replace H : (spec_l71Mem.l1 k2 (x3_2.set ((ji26) : Int).toNat y153) (wrap64 (x5_2 - 1)) s0_0 t152) = some (r1, r2) := by first | (rw [hy153]; with_reducible exact H) | (have H2_ := (Option.bind_some _ _).symm.trans H; rw [hy153]; with_reducible exact H2_) | (have H2_ := (Option.bind_some _ _).symm.trans H; with_reducible exact H2_) | with_reducible exact H | (rw [hy153]; exact H) | exact H
           have Ny153 := Az.mk hy153
           clear hy153
           obtain ⟨y155, hy155⟩ : ∃ y_ : List (List Int), y_ = (x3_2.set ((ji26) : Int).toNat y153) := ⟨_, rfl⟩
           replace H : (spec_l71Mem.l1 k2 y155 (wrap64 (x5_2 - 1)) s0_0 t152) = some (r1, r2) := by first | (rw [hy155]; with_reducible exact H) | (have H2_ := (Option.bind_some _ _).symm.trans H; rw [hy155]; with_reducible exact H2_) | (have H2_ := (Option.bind_some _ _).symm.trans H; with_reducible exact H2_) | with_reducible exact H | (rw [hy155]; exact H) | exact H
           have Ny155 := Az.mk hy155
           clear hy155
           have H' := Az.mk H
           clear H
           try go_wp2_with (first | ((with_reducible refine Yc (f := 57) rfl ?_); refine Yg (some 31) rfl rfl Try.func57 (by kernel_rfl) rfl #[.pointer (some ⟨g, 0, none⟩), .int .i64 6] rfl (by (try simp only [List.map_toArray, List.map_cons, List.map_nil]); first | done | rfl | (simp only [List.length_drop, List.length_take]; rfl)) ?_; (with_reducible refine (spec_l6Rd_pick.calls k2 g s0_0 x1001_2 6 t148 t149 w0 _ ?side1 ?side2 A25.out).mono ?_); (case side1 => repeat (first | (with_reducible first | exact HI0.out | apply IsS93.alloc | apply IsS93.drewN | apply IsS93.drew | apply IsS93.set_1) | exact HI0.out)); (case side2 => repeat (first | (with_reducible first | exact HB.out | apply Ya | apply Yn | apply Yw | refine Ys ?_ (IsS93.ge HI0.out)) | exact HB.out)); rintro e w34 ⟨rfl, hi, hb, hk⟩; refine ⟨_, rfl, ?_⟩; have n0_ := Az.mk (Kd.Sm_ (Kd.S_keep (IsS93.apartS (show IsS93 w0 _ g s0_0 x1001_2 from by repeat (first | (with_reducible first | exact HI0.out | apply IsS93.alloc | apply IsS93.drewN | apply IsS93.drew | apply IsS93.set_1) | exact HI0.out)) (by (with_reducible repeat (first | apply Kd.Sa_ | apply Kd.Sn_ | apply Kd.Sw_)); exact HO_3.out) (by decide)) hk (fun _ h => h.2)) (fun _ h => h.1)); have n1_ := Az.mk (KeepBut.trans (by repeat (first | (with_reducible first | exact HK.out | apply KeepBut.set_ | apply keep_drewN | apply keep_drew | apply keep_alloc) | exact HK.out)) hk (.inl rfl)); have n2_ := Az.mk (hb); have n3_ := Az.mk (hi); clear HO_3; clear HK; clear HB; clear HI0; have HO_3 := n0_; have HK := n1_; have HB := n2_; have HI0 := n3_; clear n0_ n1_ n2_ n3_; (try clear hb); (try clear hb2); (try clear hk); (try clear hi)))
           have n0_ := Az.mk (Kd.Sw_ HO_3.out)
           have n1_ := Az.mk (IsS93.drew HI0.out)
           have n2_ := Az.mk (keep_drew HK.out)
           have n3_ := Az.mk (Yw HB.out)
           clear HO_3
           clear HI0
           clear HK
           clear HB
           have HO_3 := n0_
           have HI0 := n1_
           have HK := n2_
           have HB := n3_
           clear n0_ n1_ n2_ n3_
           obtain ⟨Ao36, co36, eo36⟩ := Kd.Ss_ HO_3.out
           (first | subst eo36 | (injection eo36 with f1_ f2_ f3_; have f4_ := f1_.symm; have f5_ := f3_.symm; clear f1_ f2_ f3_; subst f4_; subst f5_))
           have p150 : 0 ≤ ((ji26) : Int) := of_decide_eq_true (by first | (with_reducible assumption) | assumption)
           have q150 : (ji26) < (x3_2.length : Int) := of_decide_eq_true (by first | (with_reducible assumption) | assumption)
           (try (obtain ⟨Aq150, cq150, eq150⟩ := Kd.Ss_ HO_3.out; subst eq150))
           obtain ⟨ad150, A150_0, c150_0, e150, hx150_0, hl150_0, hi150_0⟩ := at_L1 (Kd.Sr_ HO_3.out).2.2 (ji26) p150 q150
           cases e150
           obtain ⟨ce150, hce150, hMe150, hcc150⟩ := Kd.S_get HO_3.out [] (ji26) p150 (by first | exact q150 | exact of_decide_eq_true (by first | (with_reducible assumption) | assumption) | (have e_ := (Kd.Sr_ HO_3.out).1; omega))
           obtain ⟨ve150_0, rfl, ge150_0⟩ := hMe150
           have hv150_0 := hcc150 0 _ rfl
           rw [Nat.add_zero, show ((Kd.slice 3 (Kd.int .i64))).sz = 1 from rfl, Nat.mul_one] at hv150_0
           replace hv150_0 := Option.some.inj (hv150_0.symm.trans hx150_0)
           rw [hv150_0] at ge150_0
           have HL150_0 := Az.mk (show Kd.R (Kd.int .i64) 3 _ _ _ _ (rd_L1 x3_2 (ji26)) from ge150_0)
           clear hv150_0 ge150_0
           have HX150_0 := Az.mk hx150_0
           clear hcc150 hce150
           have HR150_0 := Az.mk hi150_0
           have HC150_0 := Az.mk hl150_0
           clear hi150_0 hl150_0
           replace p150 := eq_true p150
           replace q150 := eq_true q150
           refine start_ (n := 12) (S := fun w' => w'.cell? (ad150.add ((ji26)).toNat) = some (.slice A150_0 (rd_L1 x3_2 (ji26)).length c150_0)) (ds := [11]) #[false, false, false, false, false, false, false, false, false, false, false, false] (by kernel_rfl) rfl rfl (hx150_0) (fun hHeld => ?_); refine with_tabW spec_l71Mem.tab10 spec_l71Mem.bits10 (fun HT_ HW_ => ?_)
           generalize w34.drew = w35 at HO_3 HI0 HK HB HL150_0 HR150_0 HX150_0 hx150_0 hHeld ⊢
           refine pure_ (i := 0) (N := some 32) (v := ?_) (a' := ?_) #[true, false, false, false, false, false, false, false, false, false, false, false] rfl rfl (any_of HT_.out (by kernel_rfl)) (fun _ _ _ h => h) (Or.inl ⟨by rfl, ?_⟩) ?_ ?_
           rotate_left
           ·intro w'
            go_simp
            with_reducible rfl
           rotate_left
           ·simp only [Act.put, List.setIfInBounds_toArray, List.set_cons_zero, List.set_cons_succ, i64_w, i32_w]
            rfl
           refine pure_ (i := 1) (N := some 33) (v := ?_) (a' := ?_) #[true, true, false, false, false, false, false, false, false, false, false, false] rfl rfl (any_of HT_.out (by kernel_rfl)) (fun _ _ _ h => h) (Or.inl ⟨by rfl, ?_⟩) ?_ ?_
           rotate_left
           ·intro w'
            go_simp
            with_reducible rfl
           rotate_left
           ·simp only [Act.put, List.setIfInBounds_toArray, List.set_cons_zero, List.set_cons_succ, i64_w, i32_w]
            rfl
           refine pure_ (i := 2) (N := some 34) (v := ?_) (a' := ?_) #[true, true, true, false, false, false, false, false, false, false, false, false] rfl rfl (any_of HT_.out (by kernel_rfl)) (fun _ _ _ h => h) (Or.inl ⟨by rfl, ?_⟩) ?_ ?_
           rotate_left
           ·intro w'
            go_simp
            with_reducible rfl
           rotate_left
           ·simp only [Act.put, List.setIfInBounds_toArray, List.set_cons_zero, List.set_cons_succ, i64_w, i32_w]
            rfl
           refine pure_ (i := 3) (N := some 35) (v := ?_) (a' := ?_) #[true, true, true, true, false, false, false, false, false, false, false, false] rfl rfl (any_of HT_.out (by kernel_rfl)) (fun _ _ _ h => h) (Or.inl ⟨by rfl, ?_⟩) ?_ ?_
           rotate_left
           ·intro w'
            go_simp
            with_reducible rfl
           rotate_left
           ·simp only [Act.put, List.setIfInBounds_toArray, List.set_cons_zero, List.set_cons_succ, i64_w, i32_w]
            rfl
           refine pure_ (i := 5) (N := some 37) (v := ?_) (a' := ?_) #[true, true, true, true, false, true, false, false, false, false, false, false] rfl rfl (any_of HT_.out (by kernel_rfl)) (fun _ _ _ h => h) (Or.inl ⟨by rfl, ?_⟩) ?_ ?_
           rotate_left
           ·intro w'
            go_simp
            with_reducible rfl
           rotate_left
           ·simp only [Act.put, List.setIfInBounds_toArray, List.set_cons_zero, List.set_cons_succ, i64_w, i32_w]
            rfl
           refine pure_ (i := 6) (N := some 38) (v := ?_) (a' := ?_) #[true, true, true, true, false, true, true, false, false, false, false, false] rfl rfl (any_of HT_.out (by kernel_rfl)) (fun _ _ _ h => h) (Or.inl ⟨by rfl, ?_⟩) ?_ ?_
           rotate_left
           ·intro w'
            go_simp
            with_reducible rfl
           rotate_left
           ·simp only [Act.put, List.setIfInBounds_toArray, List.set_cons_zero, List.set_cons_succ, i64_w, i32_w]
            rfl
           refine pure_ (i := 7) (N := some 39) (v := ?_) (a' := ?_) #[true, true, true, true, false, true, true, true, false, false, false, false] rfl rfl (any_of HT_.out (by kernel_rfl)) (fun _ _ _ h => h) (Or.inl ⟨by rfl, ?_⟩) ?_ ?_
           rotate_left
           ·intro w'
            go_simp
            with_reducible rfl
           rotate_left
           ·simp only [Act.put, List.setIfInBounds_toArray, List.set_cons_zero, List.set_cons_succ, i64_w, i32_w]
            rfl
           refine take_ (i := 4) (N := some 36) (v := ?_) (a' := ?_) #[true, true, true, true, true, true, true, true, false, false, false, false] rfl rfl (take_ofW HT_.out HW_.out (by kernel_rfl)) (fun _ _ _ h => h) (Or.inl ⟨by rfl, ?_⟩) hHeld ?_ ?_
           rotate_left
           ·intro w' s0
            go_simp
            with_reducible rfl
           rotate_left
           ·simp only [Act.put, List.setIfInBounds_toArray, List.set_cons_zero, List.set_cons_succ, i64_w, i32_w]
            rfl
           refine one_ (i := 8) (N := some 40) #[true, true, true, true, true, true, true, true, true, false, false, false] rfl rfl (one_of HT_.out (by kernel_rfl)) (by decide) (fun K hK => ?_)
           refine goes_ Try.func57 (by kernel_rfl) rfl #[.pointer (some ⟨g, 0, none⟩), .int .i64 8] (by rfl) rfl rfl (by (try simp only [List.map_toArray, List.map_cons, List.map_nil]); first | done | rfl | (simp only [List.length_drop, List.length_take]; rfl)) ?_
           with_reducible refine (spec_l6Rd_pick.calls k2 g s0_0 t149 8 t151 t152 w0 _ ?side1 ?side2 A29.out).mono ?_
           (case side1 => repeat (first | (with_reducible first | exact HI0.out | apply IsS93.alloc | apply IsS93.drewN | apply IsS93.drew | apply IsS93.set_1) | exact HI0.out))
           (case side2 => repeat (first | (with_reducible first | exact HB.out | apply Ya | apply Yn | apply Yw | refine Ys ?_ (IsS93.ge HI0.out)) | exact HB.out))
           rintro e w37 ⟨rfl, hi, hb, hk⟩
           have HS0_ := keep_cell hk (hHeld) (by first | (rw [add_block]; exact Kd.own_blk (IsS93.own_neS HI0.out HO_3.out (by decide))) | (show (Addr.add _ _).block ≠ _; rw [add_block]; exact Kd.own_blk (IsS93.own_neS HI0.out HO_3.out (by decide))) | exact Kd.own_blk (IsS93.own_neS HI0.out HO_3.out (by decide)))
           refine ⟨_, rfl, ?_⟩
           have n0_ := Az.mk (Kd.Sm_ (Kd.S_keep (IsS93.apartS (show IsS93 w0 _ g s0_0 t149 from by repeat (first | (with_reducible first | exact HI0.out | apply IsS93.alloc | apply IsS93.drewN | apply IsS93.drew | apply IsS93.set_1) | exact HI0.out)) (by (with_reducible repeat (first | apply Kd.Sa_ | apply Kd.Sn_ | apply Kd.Sw_)); exact HO_3.out) (by decide)) hk (fun _ h => h.2)) (fun _ h => h.1))
           have n1_ := Az.mk (Kd.Rm_ (Kd.R_keep (IsS93.apart (show IsS93 w0 _ g s0_0 t149 from by repeat (first | (with_reducible first | exact HI0.out | apply IsS93.alloc | apply IsS93.drewN | apply IsS93.drew | apply IsS93.set_1) | exact HI0.out)) (by (with_reducible repeat (first | apply Kd.Ra_ | apply Kd.Rn_ | apply Kd.Rw_)); exact HL150_0.out) (by decide)) hk (fun _ h => h.2)) (fun _ h => h.1))
           have n2_ := Az.mk (keep_cell hk HX150_0.out (by first | (rw [add_block]; exact Kd.own_blk (IsS93.own_neS HI0.out HO_3.out (by decide))) | (show (Addr.add _ _).block ≠ _; rw [add_block]; exact Kd.own_blk (IsS93.own_neS HI0.out HO_3.out (by decide))) | exact Kd.own_blk (IsS93.own_neS HI0.out HO_3.out (by decide)) | (dsimp only; exact Kd.own_blk (IsS93.own_neS HI0.out HO_3.out (by decide)))))
           have n3_ := Az.mk (KeepBut.trans (by repeat (first | (with_reducible first | exact HK.out | apply KeepBut.set_ | apply keep_drewN | apply keep_drew | apply keep_alloc) | exact HK.out)) hk (.inl rfl))
           have n4_ := Az.mk (hb)
           have n5_ := Az.mk (hi)
           clear HO_3
           clear HL150_0
           clear HX150_0
           clear HK
           clear HB
           clear HI0
           have HO_3 := n0_
           have HL150_0 := n1_
           have HX150_0 := n2_
           have HK := n3_
           have HB := n4_
           have HI0 := n5_
           clear n0_ n1_ n2_ n3_ n4_ n5_
           (try clear hb)
           (try clear hb2)
           (try clear hk)
           (try clear hi)
           have p33 : 0 ≤ ((ji30) : Int) := of_decide_eq_true (by first | (with_reducible assumption) | assumption)
           have q33 : ((ji30) : Int) < (((rd_L1 x3_2 (ji26)).length : Int) : Int) := of_decide_eq_true (by first | (with_reducible assumption) | assumption)
           obtain ⟨go33, co33, eo33, gb33, gl33, cl33, HG33⟩ := Kd.R_form HL150_0.out (by omega)
           (first | cases eo33 | (injection eo33 with ea_ en_ ec_; (first | subst ea_ | (injection ea_ with ea_; subst ea_)); subst ec_; clear en_))
           have GB33 := Az.mk gb33
           have GG33 := Az.mk HG33
           clear gb33 gl33 HG33
           obtain ⟨hx33_0, hf33_0⟩ := Kd.R_celln 0 HL150_0.out ((ji30) : Int) p33 q33
           replace p33 := eq_true p33
           replace q33 := eq_true q33
           have hq38 : ((ji26) : Int) < (x3_2.length : Int) := (by have h_ : ((ji26) : Int) < ((x3_2.length : Int) : Int) := of_decide_eq_true (by first | (with_reducible assumption) | assumption); first | exact h_ | (have e_ := (Kd.Sr_ HO_3.out).1; omega) | simpa only [List.length_set, List.length_set] using h_)
           obtain ⟨oki38, ce38, hcl38, hM38, hcc38, hok38, hbk38⟩ := Kd.S_borrow HO_3.out [] ((ji26) : Int) (of_decide_eq_true (by first | (with_reducible assumption) | assumption)) hq38
           obtain ⟨ve38_0, rfl, ge38_0⟩ := hM38
           have hv38 := hcc38 0 _ rfl
           rw [Nat.add_zero, show ((Kd.slice 3 (Kd.int .i64))).sz = 1 from rfl, Nat.mul_one] at hv38
           replace hv38 := Option.some.inj (hv38.symm.trans HX150_0.out)
           subst hv38
           clear hcc38 hcl38
           replace ge38_0 := (show Kd.R (Kd.int .i64) 3 _ _ _ _ (rd_L1 x3_2 (ji26)) from ge38_0)
           have HP38 := Kd.R_putg ge38_0 ((ji30) : Int) (wrap64 (5 + t151))
           have HN0_go33 := Az.mk (show g ≠ go33 from by have h_ := IsS93.own_ne HI0.out HL150_0.out (by decide); intro e_; exact h_ (by rw [e_]; rfl))
           rw [← Ny153.out] at HP38
           have HS38 := hbk38 HP38.2 (fun k_ e_ => by injection e_ with e_; subst e_; exact ge38_0.1 _ rfl) (x' := y153) (Kd.M_row HP38.1)
           rw [← Ny155.out] at HS38
           have HQ38 := Az.mk HS38
           clear HP38 HS38 hbk38 hok38
           refine hK.out _ _ (HS0_) (fun hHeld => ?_)
           clear hK K
           refine norm_ (a' := ?_) ?_ ?_
           rotate_left
           ·show Act.put _ (some 40) _ = _
            simp only [Act.put, List.setIfInBounds_toArray, List.set_cons_zero, List.set_cons_succ, i64_w, i32_w]
            rfl
           refine pure_ (i := 9) (N := some 41) (v := ?_) (a' := ?_) #[true, true, true, true, true, true, true, true, true, true, false, false] rfl rfl (any_of HT_.out (by kernel_rfl)) (fun _ _ _ h => h) (Or.inl ⟨by rfl, ?_⟩) ?_ ?_
           rotate_left
           ·intro w'
            go_simp
            with_reducible rfl
           rotate_left
           ·simp only [Act.put, List.setIfInBounds_toArray, List.set_cons_zero, List.set_cons_succ, i64_w, i32_w]
            rfl
           refine pure_ (i := 10) (N := some 42) (v := ?_) (a' := ?_) #[true, true, true, true, true, true, true, true, true, true, true, false] rfl rfl (any_of HT_.out (by kernel_rfl)) (fun _ _ _ h => h) (Or.inl ⟨by rfl, ?_⟩) ?_ ?_
           rotate_left
           ·intro w'
            go_simp
            with_reducible rfl
           rotate_left
           ·simp only [Act.put, List.setIfInBounds_toArray, List.set_cons_zero, List.set_cons_succ, i64_w, i32_w]
            rfl
           refine last_ (i := 11) (N := none) #[true, true, true, true, true, true, true, true, true, true, true, true] rfl rfl (one_of HT_.out (by kernel_rfl)) (by decide) (fun K hK => ?_)
           refine skip_ (w1 := ?_) (by rfl) rfl ?_ ?_
           rotate_left
           ·go_simp
            rfl
           refine hK.out _ _ ?_
           clear hK K
           refine done_ (done_of HT_.out (by kernel_rfl)) ?_
           try go_wp2
           go_roundg k2
           case measure => have := HK1.out; have := HK2.out; omega
           case rel => exact ⟨(y155), (wrap64 (x5_2 - 1)), (t152), (by first | rfl | (simp; done) | (simp [*]; done)), H', ⟨by have := HK1.out; have := HK2.out; omega⟩, ⟨by (with_reducible repeat (first | apply Kd.Sa_ | apply Kd.Sn_ | apply Kd.Sw_)); exact HQ38.out⟩, ⟨by repeat (first | (with_reducible first | exact HI0.out | apply IsS93.alloc | apply IsS93.drewN | apply IsS93.drew | apply IsS93.set_1 | refine IsS93.far ?_ HN0_go33.out _) | exact HI0.out)⟩, ⟨by repeat (first | (with_reducible first | exact HK.out | apply KeepBut.set_ | apply keep_drewN | apply keep_drew | apply keep_alloc | refine keep_far ?_ GB33.out _) | exact HK.out)⟩, ⟨by repeat (first | (with_reducible first | exact HB.out | apply Ya | apply Yn | apply Yw | refine Ys ?_ (Nat.le_trans HL.out GB33.out) | refine Ys ?_ (IsS93.ge HI0.out)) | exact HB.out)⟩⟩
          ·rw [if_neg c32] at H
           exact absurd H (by simp)
         ·rw [if_neg c31] at H
          exact absurd H (by simp)
        ·rw [if_neg c28] at H
         exact absurd H (by simp)
       ·rw [if_neg c27] at H
        exact absurd H (by simp)
      ·rw [if_neg c24] at H
       have c24b0 : decide (0 < x5_2) = false := decide_eq_false c24
       clear c24
       simp only [Option.some.injEq, Prod.mk.injEq] at H
       obtain ⟨rfl, rfl⟩ := H
       go_wp2
       go_ret
       exact ⟨_, by first | rfl | (simp [errW_none, errW_some] <;> rfl) | (simp [*, errW_none, errW_some] <;> rfl), by (with_reducible repeat (first | apply Kd.Sa_ | apply Kd.Sn_ | apply Kd.Sw_)); exact HO_3.out, by repeat (first | (with_reducible first | exact HI0.out | apply IsS93.alloc | apply IsS93.drewN | apply IsS93.drew | apply IsS93.set_1) | exact HI0.out), by repeat (first | (with_reducible first | exact HB.out | apply Ya | apply Yn | apply Yw | refine Ys ?_ (IsS93.ge HI0.out)) | exact HB.out), by repeat (first | (with_reducible first | exact HK.out | apply KeepBut.set_ | apply keep_drewN | apply keep_drew | apply keep_alloc) | exact HK.out)⟩

end Go.Proofs.Ytfamknibfokfmaa.QFnHostLoad
