/- Walks of this claim: each Go function that the law reaches comes to what the Lean function beside it says. Conditions: none beyond those that each theorem names. -/
import Derived.Test.YtjgcfpclddfifaaVFnExactHostNewx0
import Derived.Test.YtjgcfpclddfifaaVFnExactHostNewx8
namespace Go.Proofs.Ytjgcfpclddfifaa.QFnExactHostNew
open Go.RowKit Go.Proofs.YtjgcfpclddfifaaW.PrintWords Go.Proofs.YtjgcfpclddfifaaW.PrintLast Go.Proofs.YtjgcfpclddfifaaW.PrintMore
attribute [local go_sem] max2_int min2_int max_two min_two max_three min_three max_four min_four   -- for this text's walks alone
set_option linter.unusedVariables false
set_option linter.unusedSimpArgs false

/-! ### laws_heldShadeS: function 60 -/
def laws_heldShadeS.l0 : Nat → List (S86) → Int → Int → Option (Int)
 | 0, _, _, _ => none
 | k + 1, x0, x1, x5 => if x5 < (x0.length : Int) then (if 0 ≤ x5 then (if (((rd_T86 x0 x5).f0) != ((Int.tmod x1 3) == 0)) = true then (some (-1)) else (if ((rd_T86 x0 x5).f1) = (wrap64 (x1 + 1)) then (if ((rd_T86 x0 x5).f2) = (wrap64 ((wrap64 (x1 + 1)) + 1)) then (if (((rd_T86 x0 x5).f3) != ((Int.tmod (wrap64 ((wrap64 ((wrap64 (x1 + 1)) + 1)) + 1)) 3) == 0)) = true then (some (-1)) else (laws_heldShadeS.l0 k x0 (wrap64 ((wrap64 ((wrap64 ((wrap64 (x1 + 1)) + 1)) + 1)) + 1)) (wrap64 (x5 + 1)))) else (some (-1))) else (some (-1)))) else (none)) else (some x1)
def laws_heldShadeS.f (k : Nat) (l0 : List (S86)) (a1 : Int) : Option (Int) := laws_heldShadeS.l0 k l0 a1 0
set_option maxHeartbeats 8000000 in
set_option maxRecDepth 100000 in
theorem laws_heldShadeS.calls (k : Nat) (A0 : Option Addr) (c0 : Nat) (l0 : List (S86)) (a1 : Int) (r : Int) (w : World) (hr0 : Kd.C k86 w A0 l0.length l0) (hc0 : l0.length ≤ c0) (h : laws_heldShadeS.f k l0 a1 = some r) :
  Calls Try.prog 60 #[.slice A0 l0.length c0, .int .i64 a1] w fun e w' => e = .returned (.int .i64 r) ∧ Drawn0 w w' := by
 have HR0 := Az.mk hr0
 have HC0 := Az.mk hc0
 clear hr0 hc0
 have H : (laws_heldShadeS.l0 k l0 a1 0) = some r := h
 clear h
 have H' := Az.mk H
 clear H
 go_enter Try.func60, Try.ntmps60
 go_wp2
 go_loopg [1, 5] k (fun kq v1 v5 w' => ∃ (x1_1 : Int) (x5_1 : Int), v1 = .int .i64 x1_1 ∧ v5 = .int .i64 x5_1 ∧ Az (laws_heldShadeS.l0 kq l0 x1_1 x5_1 = some r) ∧ Az (kq ≤ k) ∧ Drawn0 w w')
 case atStart => exact ⟨(a1), (0), (by first | rfl | (simp; done) | (simp [*]; done)), (by first | rfl | (simp; done) | (simp [*]; done)), H', ⟨Nat.le_refl _⟩, by repeat (first | exact Drawn0.refl _ | apply Drawn0.step)⟩
 case round =>
  clear H'
  try clear p2
  obtain ⟨x1_1, x5_1, rfl, rfl, HA, HK1, ⟨m1, rfl⟩⟩ := hrel
  cases gk with
  | zero => exact absurd HA.out (by simp [laws_heldShadeS.l0])
  | succ k1 =>
   have H := HA.out
   clear HA
   simp only [laws_heldShadeS.l0] at H
   by_cases c3 : x5_1 < (l0.length : Int)
   ·rw [if_pos c3] at H
    have c3b0 : decide (x5_1 < (l0.length : Int)) = true := decide_eq_true c3
    clear c3
    by_cases c4 : 0 ≤ x5_1
    ·rw [if_pos c4] at H
     have c4b0 : decide (0 ≤ x5_1) = true := decide_eq_true c4
     clear c4
     by_cases c5 : (((rd_T86 l0 x5_1).f0) != ((Int.tmod x1_1 3) == 0)) = true
     ·rw [if_pos c5] at H
      have c5b0 : (((rd_T86 l0 x5_1).f0) != ((Int.tmod x1_1 3) == 0)) = true := c5
      (try (have c5b1 : decide (((rd_T86 l0 x5_1).f0) = ((Int.tmod x1_1 3) == 0)) = false := by simpa using c5))
      (try (have c5b2 : (((rd_T86 l0 x5_1).f0) == ((Int.tmod x1_1 3) == 0)) = false := by simpa using c5))
      (try (have c5b3 : ¬ (((rd_T86 l0 x5_1).f0) = ((Int.tmod x1_1 3) == 0)) := by simpa using c5))
      clear c5
      obtain rfl := Option.some.inj H
      have p291 : 0 ≤ (x5_1 : Int) := of_decide_eq_true (by first | (with_reducible assumption) | assumption)
      have q291 : x5_1 < (l0.length : Int) := of_decide_eq_true (by first | (with_reducible assumption) | assumption)
      obtain ⟨ad291, e291, hx291_0, hx291_1, hx291_2, hx291_3⟩ := at_T86 HR0.out x5_1 p291 q291
      cases e291
      replace p291 := eq_true p291
      replace q291 := eq_true q291
      go_wp2
      go_ret
      exact ⟨by first | rfl | (simp; done) | (simp [*]; done), by repeat (first | exact Drawn0.refl _ | apply Drawn0.step)⟩
     ·rw [if_neg c5] at H
      have c5b0 : (((rd_T86 l0 x5_1).f0) != ((Int.tmod x1_1 3) == 0)) = false := by simpa using c5
      (try (have c5b1 : decide (((rd_T86 l0 x5_1).f0) = ((Int.tmod x1_1 3) == 0)) = true := by simpa using c5))
      (try (have c5b2 : (((rd_T86 l0 x5_1).f0) == ((Int.tmod x1_1 3) == 0)) = true := by simpa using c5))
      clear c5
      by_cases c6 : ((rd_T86 l0 x5_1).f1) = (wrap64 (x1_1 + 1))
      ·rw [if_pos c6] at H
       have c6b0 : (((rd_T86 l0 x5_1).f1) == (wrap64 (x1_1 + 1))) = true := beq_iff_eq.mpr c6
       have c6b1 : (((rd_T86 l0 x5_1).f1) != (wrap64 (x1_1 + 1))) = false := bne_eq_false_iff_eq.mpr c6
       clear c6
       by_cases c7 : ((rd_T86 l0 x5_1).f2) = (wrap64 ((wrap64 (x1_1 + 1)) + 1))
       ·rw [if_pos c7] at H
        have c7b0 : (((rd_T86 l0 x5_1).f2) == (wrap64 ((wrap64 (x1_1 + 1)) + 1))) = true := beq_iff_eq.mpr c7
        have c7b1 : (((rd_T86 l0 x5_1).f2) != (wrap64 ((wrap64 (x1_1 + 1)) + 1))) = false := bne_eq_false_iff_eq.mpr c7
        clear c7
        by_cases c8 : (((rd_T86 l0 x5_1).f3) != ((Int.tmod (wrap64 ((wrap64 ((wrap64 (x1_1 + 1)) + 1)) + 1)) 3) == 0)) = true
        ·rw [if_pos c8] at H
         have c8b0 : (((rd_T86 l0 x5_1).f3) != ((Int.tmod (wrap64 ((wrap64 ((wrap64 (x1_1 + 1)) + 1)) + 1)) 3) == 0)) = true := c8
         (try (have c8b1 : decide (((rd_T86 l0 x5_1).f3) = ((Int.tmod (wrap64 ((wrap64 ((wrap64 (x1_1 + 1)) + 1)) + 1)) 3) == 0)) = false := by simpa using c8))
         (try (have c8b2 : (((rd_T86 l0 x5_1).f3) == ((Int.tmod (wrap64 ((wrap64 ((wrap64 (x1_1 + 1)) + 1)) + 1)) 3) == 0)) = false := by simpa using c8))
         (try (have c8b3 : ¬ (((rd_T86 l0 x5_1).f3) = ((Int.tmod (wrap64 ((wrap64 ((wrap64 (x1_1 + 1)) + 1)) + 1)) 3) == 0)) := by simpa using c8))
         clear c8
         obtain rfl := Option.some.inj H
         have p291 : 0 ≤ (x5_1 : Int) := of_decide_eq_true (by first | (with_reducible assumption) | assumption)
         have q291 : x5_1 < (l0.length : Int) := of_decide_eq_true (by first | (with_reducible assumption) | assumption)
         obtain ⟨ad291, e291, hx291_0, hx291_1, hx291_2, hx291_3⟩ := at_T86 HR0.out x5_1 p291 q291
         cases e291
         replace p291 := eq_true p291
         replace q291 := eq_true q291
         have p292 : 0 ≤ (x5_1 : Int) := of_decide_eq_true (by first | (with_reducible assumption) | assumption)
         have q292 : x5_1 < (l0.length : Int) := of_decide_eq_true (by first | (with_reducible assumption) | assumption)
         obtain ⟨ad292, e292, hx292_0, hx292_1, hx292_2, hx292_3⟩ := at_T86 HR0.out x5_1 p292 q292
         obtain rfl : ad291 = ad292 := (by injection e292)
         replace p292 := eq_true p292
         replace q292 := eq_true q292
         have p293 : 0 ≤ (x5_1 : Int) := of_decide_eq_true (by first | (with_reducible assumption) | assumption)
         have q293 : x5_1 < (l0.length : Int) := of_decide_eq_true (by first | (with_reducible assumption) | assumption)
         obtain ⟨ad293, e293, hx293_0, hx293_1, hx293_2, hx293_3⟩ := at_T86 HR0.out x5_1 p293 q293
         obtain rfl : ad291 = ad293 := (by injection e293)
         replace p293 := eq_true p293
         replace q293 := eq_true q293
         have p294 : 0 ≤ (x5_1 : Int) := of_decide_eq_true (by first | (with_reducible assumption) | assumption)
         have q294 : x5_1 < (l0.length : Int) := of_decide_eq_true (by first | (with_reducible assumption) | assumption)
         obtain ⟨ad294, e294, hx294_0, hx294_1, hx294_2, hx294_3⟩ := at_T86 HR0.out x5_1 p294 q294
         obtain rfl : ad291 = ad294 := (by injection e294)
         replace p294 := eq_true p294
         replace q294 := eq_true q294
         go_wp2
         go_ret
         exact ⟨by first | rfl | (simp; done) | (simp [*]; done), by repeat (first | exact Drawn0.refl _ | apply Drawn0.step)⟩
        ·rw [if_neg c8] at H
         have c8b0 : (((rd_T86 l0 x5_1).f3) != ((Int.tmod (wrap64 ((wrap64 ((wrap64 (x1_1 + 1)) + 1)) + 1)) 3) == 0)) = false := by simpa using c8
         (try (have c8b1 : decide (((rd_T86 l0 x5_1).f3) = ((Int.tmod (wrap64 ((wrap64 ((wrap64 (x1_1 + 1)) + 1)) + 1)) 3) == 0)) = true := by simpa using c8))
         (try (have c8b2 : (((rd_T86 l0 x5_1).f3) == ((Int.tmod (wrap64 ((wrap64 ((wrap64 (x1_1 + 1)) + 1)) + 1)) 3) == 0)) = true := by simpa using c8))
         clear c8
         have H' := Az.mk H
         clear H
         have p291 : 0 ≤ (x5_1 : Int) := of_decide_eq_true (by first | (with_reducible assumption) | assumption)
         have q291 : x5_1 < (l0.length : Int) := of_decide_eq_true (by first | (with_reducible assumption) | assumption)
         obtain ⟨ad291, e291, hx291_0, hx291_1, hx291_2, hx291_3⟩ := at_T86 HR0.out x5_1 p291 q291
         cases e291
         replace p291 := eq_true p291
         replace q291 := eq_true q291
         have p292 : 0 ≤ (x5_1 : Int) := of_decide_eq_true (by first | (with_reducible assumption) | assumption)
         have q292 : x5_1 < (l0.length : Int) := of_decide_eq_true (by first | (with_reducible assumption) | assumption)
         obtain ⟨ad292, e292, hx292_0, hx292_1, hx292_2, hx292_3⟩ := at_T86 HR0.out x5_1 p292 q292
         obtain rfl : ad291 = ad292 := (by injection e292)
         replace p292 := eq_true p292
         replace q292 := eq_true q292
         have p293 : 0 ≤ (x5_1 : Int) := of_decide_eq_true (by first | (with_reducible assumption) | assumption)
         have q293 : x5_1 < (l0.length : Int) := of_decide_eq_true (by first | (with_reducible assumption) | assumption)
         obtain ⟨ad293, e293, hx293_0, hx293_1, hx293_2, hx293_3⟩ := at_T86 HR0.out x5_1 p293 q293
         obtain rfl : ad291 = ad293 := (by injection e293)
         replace p293 := eq_true p293
         replace q293 := eq_true q293
         have p294 : 0 ≤ (x5_1 : Int) := of_decide_eq_true (by first | (with_reducible assumption) | assumption)
         have q294 : x5_1 < (l0.length : Int) := of_decide_eq_true (by first | (with_reducible assumption) | assumption)
         obtain ⟨ad294, e294, hx294_0, hx294_1, hx294_2, hx294_3⟩ := at_T86 HR0.out x5_1 p294 q294
         obtain rfl : ad291 = ad294 := (by injection e294)
         replace p294 := eq_true p294
         replace q294 := eq_true q294
         go_wp2
         go_roundg k1
         case measure => have := HK1.out; omega
         case rel => exact ⟨(wrap64 ((wrap64 ((wrap64 ((wrap64 (x1_1 + 1)) + 1)) + 1)) + 1)), (wrap64 (x5_1 + 1)), (by first | rfl | (simp; done) | (simp [*]; done)), (by first | rfl | (simp; done) | (simp [*]; done)), H', ⟨by have := HK1.out; omega⟩, by repeat (first | exact Drawn0.refl _ | apply Drawn0.step)⟩
       ·rw [if_neg c7] at H
        have c7b0 : (((rd_T86 l0 x5_1).f2) == (wrap64 ((wrap64 (x1_1 + 1)) + 1))) = false := beq_eq_false_iff_ne.mpr c7
        have c7b1 : (((rd_T86 l0 x5_1).f2) != (wrap64 ((wrap64 (x1_1 + 1)) + 1))) = true := bne_iff_ne.mpr c7
        obtain rfl := Option.some.inj H
        have p291 : 0 ≤ (x5_1 : Int) := of_decide_eq_true (by first | (with_reducible assumption) | assumption)
        have q291 : x5_1 < (l0.length : Int) := of_decide_eq_true (by first | (with_reducible assumption) | assumption)
        obtain ⟨ad291, e291, hx291_0, hx291_1, hx291_2, hx291_3⟩ := at_T86 HR0.out x5_1 p291 q291
        cases e291
        replace p291 := eq_true p291
        replace q291 := eq_true q291
        have p292 : 0 ≤ (x5_1 : Int) := of_decide_eq_true (by first | (with_reducible assumption) | assumption)
        have q292 : x5_1 < (l0.length : Int) := of_decide_eq_true (by first | (with_reducible assumption) | assumption)
        obtain ⟨ad292, e292, hx292_0, hx292_1, hx292_2, hx292_3⟩ := at_T86 HR0.out x5_1 p292 q292
        obtain rfl : ad291 = ad292 := (by injection e292)
        replace p292 := eq_true p292
        replace q292 := eq_true q292
        have p293 : 0 ≤ (x5_1 : Int) := of_decide_eq_true (by first | (with_reducible assumption) | assumption)
        have q293 : x5_1 < (l0.length : Int) := of_decide_eq_true (by first | (with_reducible assumption) | assumption)
        obtain ⟨ad293, e293, hx293_0, hx293_1, hx293_2, hx293_3⟩ := at_T86 HR0.out x5_1 p293 q293
        obtain rfl : ad291 = ad293 := (by injection e293)
        replace p293 := eq_true p293
        replace q293 := eq_true q293
        go_wp2
        go_ret
        exact ⟨by first | rfl | (simp; done) | (simp [*]; done), by repeat (first | exact Drawn0.refl _ | apply Drawn0.step)⟩
      ·rw [if_neg c6] at H
       have c6b0 : (((rd_T86 l0 x5_1).f1) == (wrap64 (x1_1 + 1))) = false := beq_eq_false_iff_ne.mpr c6
       have c6b1 : (((rd_T86 l0 x5_1).f1) != (wrap64 (x1_1 + 1))) = true := bne_iff_ne.mpr c6
       obtain rfl := Option.some.inj H
       have p291 : 0 ≤ (x5_1 : Int) := of_decide_eq_true (by first | (with_reducible assumption) | assumption)
       have q291 : x5_1 < (l0.length : Int) := of_decide_eq_true (by first | (with_reducible assumption) | assumption)
       obtain ⟨ad291, e291, hx291_0, hx291_1, hx291_2, hx291_3⟩ := at_T86 HR0.out x5_1 p291 q291
       cases e291
       replace p291 := eq_true p291
       replace q291 := eq_true q291
       have p292 : 0 ≤ (x5_1 : Int) := of_decide_eq_true (by first | (with_reducible assumption) | assumption)
       have q292 : x5_1 < (l0.length : Int) := of_decide_eq_true (by first | (with_reducible assumption) | assumption)
       obtain ⟨ad292, e292, hx292_0, hx292_1, hx292_2, hx292_3⟩ := at_T86 HR0.out x5_1 p292 q292
       obtain rfl : ad291 = ad292 := (by injection e292)
       replace p292 := eq_true p292
       replace q292 := eq_true q292
       go_wp2
       go_ret
       exact ⟨by first | rfl | (simp; done) | (simp [*]; done), by repeat (first | exact Drawn0.refl _ | apply Drawn0.step)⟩
    ·rw [if_neg c4] at H
     exact absurd H (by simp)
   ·rw [if_neg c3] at H
    have c3b0 : decide (x5_1 < (l0.length : Int)) = false := decide_eq_false c3
    clear c3
    obtain rfl := Option.some.inj H
    go_wp2
    go_ret
    exact ⟨by first | rfl | (simp; done) | (simp [*]; done), by repeat (first | exact Drawn0.refl _ | apply Drawn0.step)⟩

/-! ### laws_heldGuestS: function 43 -/
def laws_heldGuestS.l0 : Nat → List (S61) → Int → Int → Option (Int)
 | 0, _, _, _ => none
 | k + 1, x0, x1, x5 => if x5 < (x0.length : Int) then (if 0 ≤ x5 then ((laws_heldMapS.f k ((rd_T61 x0 x5).f0) x1).bind fun t296 => (if t296 < 0 then (some (-1)) else ((laws_heldIntSS.f k ((rd_T61 x0 x5).f1) t296).bind fun t298 => (if t298 < 0 then (some (-1)) else ((laws_heldShadeS.f k ((rd_T61 x0 x5).f2) t298).bind fun t300 => (if t300 < 0 then (some (-1)) else (laws_heldGuestS.l0 k x0 t300 (wrap64 (x5 + 1))))))))) else (none)) else (some x1)
def laws_heldGuestS.f (k : Nat) (l0 : List (S61)) (a1 : Int) : Option (Int) := laws_heldGuestS.l0 k l0 a1 0
set_option maxHeartbeats 8000000 in
set_option maxRecDepth 100000 in
theorem laws_heldGuestS.calls (k : Nat) (A0 : Option Addr) (c0 : Nat) (l0 : List (S61)) (a1 : Int) (r : Int) (w : World) (hr0 : Kd.C k61 w A0 l0.length l0) (hc0 : l0.length ≤ c0) (h : laws_heldGuestS.f k l0 a1 = some r) :
  Calls Try.prog 43 #[.slice A0 l0.length c0, .int .i64 a1] w fun e w' => e = .returned (.int .i64 r) ∧ Drawn0 w w' := by
 have HR0 := Az.mk hr0
 have HC0 := Az.mk hc0
 clear hr0 hc0
 have H : (laws_heldGuestS.l0 k l0 a1 0) = some r := h
 clear h
 have H' := Az.mk H
 clear H
 go_enter Try.func43, Try.ntmps43
 go_wp2
 go_loopg [1, 5] k (fun kq v1 v5 w' => ∃ (x1_1 : Int) (x5_1 : Int), v1 = .int .i64 x1_1 ∧ v5 = .int .i64 x5_1 ∧ Az (laws_heldGuestS.l0 kq l0 x1_1 x5_1 = some r) ∧ Az (kq ≤ k) ∧ Drawn0 w w')
 case atStart => exact ⟨(a1), (0), (by first | rfl | (simp; done) | (simp [*]; done)), (by first | rfl | (simp; done) | (simp [*]; done)), H', ⟨Nat.le_refl _⟩, by repeat (first | exact Drawn0.refl _ | apply Drawn0.step)⟩
 case round =>
  clear H'
  try clear p2
  obtain ⟨x1_1, x5_1, rfl, rfl, HA, HK1, ⟨m1, rfl⟩⟩ := hrel
  cases gk with
  | zero => exact absurd HA.out (by simp [laws_heldGuestS.l0])
  | succ k1 =>
   have H := HA.out
   clear HA
   simp only [laws_heldGuestS.l0] at H
   by_cases c3 : x5_1 < (l0.length : Int)
   ·rw [if_pos c3] at H
    have c3b0 : decide (x5_1 < (l0.length : Int)) = true := decide_eq_true c3
    clear c3
    by_cases c4 : 0 ≤ x5_1
    ·rw [if_pos c4] at H
     have c4b0 : decide (0 ≤ x5_1) = true := decide_eq_true c4
     clear c4
     replace H := Option.bind_eq_some_iff.mp H
     obtain ⟨t296, A50, H⟩ := H
     replace H : (if t296 < 0 then (some (-1)) else ((laws_heldIntSS.f k1 ((rd_T61 l0 x5_1).f1) t296).bind fun t298 => (if t298 < 0 then (some (-1)) else ((laws_heldShadeS.f k1 ((rd_T61 l0 x5_1).f2) t298).bind fun t300 => (if t300 < 0 then (some (-1)) else (laws_heldGuestS.l0 k1 l0 t300 (wrap64 (x5_1 + 1)))))))) = some r := H
     have A5 := Az.mk A50
     clear A50
     by_cases c6 : t296 < 0
     ·rw [if_pos c6] at H
      have c6b0 : decide (t296 < 0) = true := decide_eq_true c6
      clear c6
      obtain rfl := Option.some.inj H
      have p295 : 0 ≤ (x5_1 : Int) := of_decide_eq_true (by first | (with_reducible assumption) | assumption)
      have q295 : x5_1 < (l0.length : Int) := of_decide_eq_true (by first | (with_reducible assumption) | assumption)
      obtain ⟨ad295, A295_0, c295_0, A295_1, c295_1, A295_2, c295_2, e295, hx295_0, hx295_1, hx295_2, hl295_0, hi295_0, hl295_1, hi295_1, hl295_2, hi295_2⟩ := at_T61 HR0.out x5_1 p295 q295
      cases e295
      have HR295_0 := Az.mk hi295_0
      have HC295_0 := Az.mk hl295_0
      clear hi295_0 hl295_0
      have HR295_1 := Az.mk hi295_1
      have HC295_1 := Az.mk hl295_1
      clear hi295_1 hl295_1
      have HR295_2 := Az.mk hi295_2
      have HC295_2 := Az.mk hl295_2
      clear hi295_2 hl295_2
      replace p295 := eq_true p295
      replace q295 := eq_true q295
      go_wp2_with (first | ((with_reducible refine Yc (f := 59) rfl ?_); refine Yg (some 18) rfl rfl Try.func59 (by kernel_rfl) rfl #[.slice A295_0 ((rd_T61 l0 x5_1).f0).length c295_0, .int .i64 x1_1] rfl (by (try simp only [List.map_toArray, List.map_cons, List.map_nil]); first | done | rfl | (simp only [List.length_drop, List.length_take]; rfl)) ?_; (with_reducible refine (laws_heldMapS.calls k1 _ _ ((rd_T61 l0 x5_1).f0) x1_1 t296 _ ?side1 ?side2 A5.out).mono ?_); (case side1 => repeat (first | exact HR295_0.out | (with_reducible refine Kd.Ca_ ?_ _) | (with_reducible refine Kd.Cn_ ?_ _) | (with_reducible refine Kd.Cw_ ?_))); (case side2 => exact HC295_0.out); rintro e w' ⟨rfl, ⟨nd, rfl⟩⟩; refine ⟨_, rfl, ?_⟩))
      go_ret
      exact ⟨by first | rfl | (simp; done) | (simp [*]; done), by repeat (first | exact Drawn0.refl _ | apply Drawn0.step)⟩
     ·rw [if_neg c6] at H
      have c6b0 : decide (t296 < 0) = false := decide_eq_false c6
      clear c6
      replace H := Option.bind_eq_some_iff.mp H
      obtain ⟨t298, A70, H⟩ := H
      replace H : (if t298 < 0 then (some (-1)) else ((laws_heldShadeS.f k1 ((rd_T61 l0 x5_1).f2) t298).bind fun t300 => (if t300 < 0 then (some (-1)) else (laws_heldGuestS.l0 k1 l0 t300 (wrap64 (x5_1 + 1)))))) = some r := H
      have A7 := Az.mk A70
      clear A70
      by_cases c8 : t298 < 0
      ·rw [if_pos c8] at H
       have c8b0 : decide (t298 < 0) = true := decide_eq_true c8
       clear c8
       obtain rfl := Option.some.inj H
       have p295 : 0 ≤ (x5_1 : Int) := of_decide_eq_true (by first | (with_reducible assumption) | assumption)
       have q295 : x5_1 < (l0.length : Int) := of_decide_eq_true (by first | (with_reducible assumption) | assumption)
       obtain ⟨ad295, A295_0, c295_0, A295_1, c295_1, A295_2, c295_2, e295, hx295_0, hx295_1, hx295_2, hl295_0, hi295_0, hl295_1, hi295_1, hl295_2, hi295_2⟩ := at_T61 HR0.out x5_1 p295 q295
       cases e295
       have HR295_0 := Az.mk hi295_0
       have HC295_0 := Az.mk hl295_0
       clear hi295_0 hl295_0
       have HR295_1 := Az.mk hi295_1
       have HC295_1 := Az.mk hl295_1
       clear hi295_1 hl295_1
       have HR295_2 := Az.mk hi295_2
       have HC295_2 := Az.mk hl295_2
       clear hi295_2 hl295_2
       replace p295 := eq_true p295
       replace q295 := eq_true q295
       go_wp2_with (first | ((with_reducible refine Yc (f := 59) rfl ?_); refine Yg (some 18) rfl rfl Try.func59 (by kernel_rfl) rfl #[.slice A295_0 ((rd_T61 l0 x5_1).f0).length c295_0, .int .i64 x1_1] rfl (by (try simp only [List.map_toArray, List.map_cons, List.map_nil]); first | done | rfl | (simp only [List.length_drop, List.length_take]; rfl)) ?_; (with_reducible refine (laws_heldMapS.calls k1 _ _ ((rd_T61 l0 x5_1).f0) x1_1 t296 _ ?side1 ?side2 A5.out).mono ?_); (case side1 => repeat (first | exact HR295_0.out | (with_reducible refine Kd.Ca_ ?_ _) | (with_reducible refine Kd.Cn_ ?_ _) | (with_reducible refine Kd.Cw_ ?_))); (case side2 => exact HC295_0.out); rintro e w' ⟨rfl, ⟨nd, rfl⟩⟩; refine ⟨_, rfl, ?_⟩; have p297 : 0 ≤ (x5_1 : Int) := of_decide_eq_true (by first | (with_reducible assumption) | assumption); have q297 : x5_1 < (l0.length : Int) := of_decide_eq_true (by first | (with_reducible assumption) | assumption); obtain ⟨ad297, A297_0, c297_0, A297_1, c297_1, A297_2, c297_2, e297, hx297_0, hx297_1, hx297_2, hl297_0, hi297_0, hl297_1, hi297_1, hl297_2, hi297_2⟩ := at_T61 HR0.out x5_1 p297 q297; obtain rfl : ad295 = ad297 := (by injection e297); have HR297_0 := Az.mk hi297_0; have HC297_0 := Az.mk hl297_0; clear hi297_0 hl297_0; have HR297_1 := Az.mk hi297_1; have HC297_1 := Az.mk hl297_1; clear hi297_1 hl297_1; have HR297_2 := Az.mk hi297_2; have HC297_2 := Az.mk hl297_2; clear hi297_2 hl297_2; replace p297 := eq_true p297; replace q297 := eq_true q297; have ea_ := Option.some.inj (hx295_0.symm.trans hx297_0); injection ea_ with ea_ en_ ec_; subst ea_; subst ec_; clear en_; have ea_ := Option.some.inj (hx295_1.symm.trans hx297_1); injection ea_ with ea_ en_ ec_; subst ea_; subst ec_; clear en_; have ea_ := Option.some.inj (hx295_2.symm.trans hx297_2); injection ea_ with ea_ en_ ec_; subst ea_; subst ec_; clear en_) | ((with_reducible refine Yc (f := 42) rfl ?_); refine Yg (some 27) rfl rfl Try.func42 (by kernel_rfl) rfl #[.slice A295_1 ((rd_T61 l0 x5_1).f1).length c295_1, .int .i64 t296] rfl (by (try simp only [List.map_toArray, List.map_cons, List.map_nil]); first | done | rfl | (simp only [List.length_drop, List.length_take]; rfl)) ?_; (with_reducible refine (laws_heldIntSS.calls k1 _ _ ((rd_T61 l0 x5_1).f1) t296 t298 _ ?side1 ?side2 A7.out).mono ?_); (case side1 => repeat (first | exact HR297_1.out | (with_reducible refine Kd.Ca_ ?_ _) | (with_reducible refine Kd.Cn_ ?_ _) | (with_reducible refine Kd.Cw_ ?_))); (case side2 => exact HC297_1.out); rintro e w' ⟨rfl, ⟨nd, rfl⟩⟩; refine ⟨_, rfl, ?_⟩))
       go_ret
       exact ⟨by first | rfl | (simp; done) | (simp [*]; done), by repeat (first | exact Drawn0.refl _ | apply Drawn0.step)⟩
      ·rw [if_neg c8] at H
       have c8b0 : decide (t298 < 0) = false := decide_eq_false c8
       clear c8
       replace H := Option.bind_eq_some_iff.mp H
       obtain ⟨t300, A90, H⟩ := H
       replace H : (if t300 < 0 then (some (-1)) else (laws_heldGuestS.l0 k1 l0 t300 (wrap64 (x5_1 + 1)))) = some r := H
       have A9 := Az.mk A90
       clear A90
       by_cases c10 : t300 < 0
       ·rw [if_pos c10] at H
        have c10b0 : decide (t300 < 0) = true := decide_eq_true c10
        clear c10
        obtain rfl := Option.some.inj H
        have p295 : 0 ≤ (x5_1 : Int) := of_decide_eq_true (by first | (with_reducible assumption) | assumption)
        have q295 : x5_1 < (l0.length : Int) := of_decide_eq_true (by first | (with_reducible assumption) | assumption)
        obtain ⟨ad295, A295_0, c295_0, A295_1, c295_1, A295_2, c295_2, e295, hx295_0, hx295_1, hx295_2, hl295_0, hi295_0, hl295_1, hi295_1, hl295_2, hi295_2⟩ := at_T61 HR0.out x5_1 p295 q295
        cases e295
        have HR295_0 := Az.mk hi295_0
        have HC295_0 := Az.mk hl295_0
        clear hi295_0 hl295_0
        have HR295_1 := Az.mk hi295_1
        have HC295_1 := Az.mk hl295_1
        clear hi295_1 hl295_1
        have HR295_2 := Az.mk hi295_2
        have HC295_2 := Az.mk hl295_2
        clear hi295_2 hl295_2
        replace p295 := eq_true p295
        replace q295 := eq_true q295
        go_wp2_with (first | ((with_reducible refine Yc (f := 59) rfl ?_); refine Yg (some 18) rfl rfl Try.func59 (by kernel_rfl) rfl #[.slice A295_0 ((rd_T61 l0 x5_1).f0).length c295_0, .int .i64 x1_1] rfl (by (try simp only [List.map_toArray, List.map_cons, List.map_nil]); first | done | rfl | (simp only [List.length_drop, List.length_take]; rfl)) ?_; (with_reducible refine (laws_heldMapS.calls k1 _ _ ((rd_T61 l0 x5_1).f0) x1_1 t296 _ ?side1 ?side2 A5.out).mono ?_); (case side1 => repeat (first | exact HR295_0.out | (with_reducible refine Kd.Ca_ ?_ _) | (with_reducible refine Kd.Cn_ ?_ _) | (with_reducible refine Kd.Cw_ ?_))); (case side2 => exact HC295_0.out); rintro e w' ⟨rfl, ⟨nd, rfl⟩⟩; refine ⟨_, rfl, ?_⟩; have p297 : 0 ≤ (x5_1 : Int) := of_decide_eq_true (by first | (with_reducible assumption) | assumption); have q297 : x5_1 < (l0.length : Int) := of_decide_eq_true (by first | (with_reducible assumption) | assumption); obtain ⟨ad297, A297_0, c297_0, A297_1, c297_1, A297_2, c297_2, e297, hx297_0, hx297_1, hx297_2, hl297_0, hi297_0, hl297_1, hi297_1, hl297_2, hi297_2⟩ := at_T61 HR0.out x5_1 p297 q297; obtain rfl : ad295 = ad297 := (by injection e297); have HR297_0 := Az.mk hi297_0; have HC297_0 := Az.mk hl297_0; clear hi297_0 hl297_0; have HR297_1 := Az.mk hi297_1; have HC297_1 := Az.mk hl297_1; clear hi297_1 hl297_1; have HR297_2 := Az.mk hi297_2; have HC297_2 := Az.mk hl297_2; clear hi297_2 hl297_2; replace p297 := eq_true p297; replace q297 := eq_true q297; have ea_ := Option.some.inj (hx295_0.symm.trans hx297_0); injection ea_ with ea_ en_ ec_; subst ea_; subst ec_; clear en_; have ea_ := Option.some.inj (hx295_1.symm.trans hx297_1); injection ea_ with ea_ en_ ec_; subst ea_; subst ec_; clear en_; have ea_ := Option.some.inj (hx295_2.symm.trans hx297_2); injection ea_ with ea_ en_ ec_; subst ea_; subst ec_; clear en_) | ((with_reducible refine Yc (f := 42) rfl ?_); refine Yg (some 27) rfl rfl Try.func42 (by kernel_rfl) rfl #[.slice A295_1 ((rd_T61 l0 x5_1).f1).length c295_1, .int .i64 t296] rfl (by (try simp only [List.map_toArray, List.map_cons, List.map_nil]); first | done | rfl | (simp only [List.length_drop, List.length_take]; rfl)) ?_; (with_reducible refine (laws_heldIntSS.calls k1 _ _ ((rd_T61 l0 x5_1).f1) t296 t298 _ ?side1 ?side2 A7.out).mono ?_); (case side1 => repeat (first | exact HR297_1.out | (with_reducible refine Kd.Ca_ ?_ _) | (with_reducible refine Kd.Cn_ ?_ _) | (with_reducible refine Kd.Cw_ ?_))); (case side2 => exact HC297_1.out); rintro e w' ⟨rfl, ⟨nd, rfl⟩⟩; refine ⟨_, rfl, ?_⟩; have p299 : 0 ≤ (x5_1 : Int) := of_decide_eq_true (by first | (with_reducible assumption) | assumption); have q299 : x5_1 < (l0.length : Int) := of_decide_eq_true (by first | (with_reducible assumption) | assumption); obtain ⟨ad299, A299_0, c299_0, A299_1, c299_1, A299_2, c299_2, e299, hx299_0, hx299_1, hx299_2, hl299_0, hi299_0, hl299_1, hi299_1, hl299_2, hi299_2⟩ := at_T61 HR0.out x5_1 p299 q299; obtain rfl : ad295 = ad299 := (by injection e299); have HR299_0 := Az.mk hi299_0; have HC299_0 := Az.mk hl299_0; clear hi299_0 hl299_0; have HR299_1 := Az.mk hi299_1; have HC299_1 := Az.mk hl299_1; clear hi299_1 hl299_1; have HR299_2 := Az.mk hi299_2; have HC299_2 := Az.mk hl299_2; clear hi299_2 hl299_2; replace p299 := eq_true p299; replace q299 := eq_true q299; have ea_ := Option.some.inj (hx295_0.symm.trans hx299_0); injection ea_ with ea_ en_ ec_; subst ea_; subst ec_; clear en_; have ea_ := Option.some.inj (hx295_1.symm.trans hx299_1); injection ea_ with ea_ en_ ec_; subst ea_; subst ec_; clear en_; have ea_ := Option.some.inj (hx295_2.symm.trans hx299_2); injection ea_ with ea_ en_ ec_; subst ea_; subst ec_; clear en_) | ((with_reducible refine Yc (f := 60) rfl ?_); refine Yg (some 36) rfl rfl Try.func60 (by kernel_rfl) rfl #[.slice A295_2 ((rd_T61 l0 x5_1).f2).length c295_2, .int .i64 t298] rfl (by (try simp only [List.map_toArray, List.map_cons, List.map_nil]); first | done | rfl | (simp only [List.length_drop, List.length_take]; rfl)) ?_; (with_reducible refine (laws_heldShadeS.calls k1 _ _ ((rd_T61 l0 x5_1).f2) t298 t300 _ ?side1 ?side2 A9.out).mono ?_); (case side1 => repeat (first | exact HR299_2.out | (with_reducible refine Kd.Ca_ ?_ _) | (with_reducible refine Kd.Cn_ ?_ _) | (with_reducible refine Kd.Cw_ ?_))); (case side2 => exact HC299_2.out); rintro e w' ⟨rfl, ⟨nd, rfl⟩⟩; refine ⟨_, rfl, ?_⟩))
        go_ret
        exact ⟨by first | rfl | (simp; done) | (simp [*]; done), by repeat (first | exact Drawn0.refl _ | apply Drawn0.step)⟩
       ·rw [if_neg c10] at H
        have c10b0 : decide (t300 < 0) = false := decide_eq_false c10
        clear c10
        have H' := Az.mk H
        clear H
        have p295 : 0 ≤ (x5_1 : Int) := of_decide_eq_true (by first | (with_reducible assumption) | assumption)
        have q295 : x5_1 < (l0.length : Int) := of_decide_eq_true (by first | (with_reducible assumption) | assumption)
        obtain ⟨ad295, A295_0, c295_0, A295_1, c295_1, A295_2, c295_2, e295, hx295_0, hx295_1, hx295_2, hl295_0, hi295_0, hl295_1, hi295_1, hl295_2, hi295_2⟩ := at_T61 HR0.out x5_1 p295 q295
        cases e295
        have HR295_0 := Az.mk hi295_0
        have HC295_0 := Az.mk hl295_0
        clear hi295_0 hl295_0
        have HR295_1 := Az.mk hi295_1
        have HC295_1 := Az.mk hl295_1
        clear hi295_1 hl295_1
        have HR295_2 := Az.mk hi295_2
        have HC295_2 := Az.mk hl295_2
        clear hi295_2 hl295_2
        replace p295 := eq_true p295
        replace q295 := eq_true q295
        go_wp2_with (first | ((with_reducible refine Yc (f := 59) rfl ?_); refine Yg (some 18) rfl rfl Try.func59 (by kernel_rfl) rfl #[.slice A295_0 ((rd_T61 l0 x5_1).f0).length c295_0, .int .i64 x1_1] rfl (by (try simp only [List.map_toArray, List.map_cons, List.map_nil]); first | done | rfl | (simp only [List.length_drop, List.length_take]; rfl)) ?_; (with_reducible refine (laws_heldMapS.calls k1 _ _ ((rd_T61 l0 x5_1).f0) x1_1 t296 _ ?side1 ?side2 A5.out).mono ?_); (case side1 => repeat (first | exact HR295_0.out | (with_reducible refine Kd.Ca_ ?_ _) | (with_reducible refine Kd.Cn_ ?_ _) | (with_reducible refine Kd.Cw_ ?_))); (case side2 => exact HC295_0.out); rintro e w' ⟨rfl, ⟨nd, rfl⟩⟩; refine ⟨_, rfl, ?_⟩; have p297 : 0 ≤ (x5_1 : Int) := of_decide_eq_true (by first | (with_reducible assumption) | assumption); have q297 : x5_1 < (l0.length : Int) := of_decide_eq_true (by first | (with_reducible assumption) | assumption); obtain ⟨ad297, A297_0, c297_0, A297_1, c297_1, A297_2, c297_2, e297, hx297_0, hx297_1, hx297_2, hl297_0, hi297_0, hl297_1, hi297_1, hl297_2, hi297_2⟩ := at_T61 HR0.out x5_1 p297 q297; obtain rfl : ad295 = ad297 := (by injection e297); have HR297_0 := Az.mk hi297_0; have HC297_0 := Az.mk hl297_0; clear hi297_0 hl297_0; have HR297_1 := Az.mk hi297_1; have HC297_1 := Az.mk hl297_1; clear hi297_1 hl297_1; have HR297_2 := Az.mk hi297_2; have HC297_2 := Az.mk hl297_2; clear hi297_2 hl297_2; replace p297 := eq_true p297; replace q297 := eq_true q297; have ea_ := Option.some.inj (hx295_0.symm.trans hx297_0); injection ea_ with ea_ en_ ec_; subst ea_; subst ec_; clear en_; have ea_ := Option.some.inj (hx295_1.symm.trans hx297_1); injection ea_ with ea_ en_ ec_; subst ea_; subst ec_; clear en_; have ea_ := Option.some.inj (hx295_2.symm.trans hx297_2); injection ea_ with ea_ en_ ec_; subst ea_; subst ec_; clear en_) | ((with_reducible refine Yc (f := 42) rfl ?_); refine Yg (some 27) rfl rfl Try.func42 (by kernel_rfl) rfl #[.slice A295_1 ((rd_T61 l0 x5_1).f1).length c295_1, .int .i64 t296] rfl (by (try simp only [List.map_toArray, List.map_cons, List.map_nil]); first | done | rfl | (simp only [List.length_drop, List.length_take]; rfl)) ?_; (with_reducible refine (laws_heldIntSS.calls k1 _ _ ((rd_T61 l0 x5_1).f1) t296 t298 _ ?side1 ?side2 A7.out).mono ?_); (case side1 => repeat (first | exact HR297_1.out | (with_reducible refine Kd.Ca_ ?_ _) | (with_reducible refine Kd.Cn_ ?_ _) | (with_reducible refine Kd.Cw_ ?_))); (case side2 => exact HC297_1.out); rintro e w' ⟨rfl, ⟨nd, rfl⟩⟩; refine ⟨_, rfl, ?_⟩; have p299 : 0 ≤ (x5_1 : Int) := of_decide_eq_true (by first | (with_reducible assumption) | assumption); have q299 : x5_1 < (l0.length : Int) := of_decide_eq_true (by first | (with_reducible assumption) | assumption); obtain ⟨ad299, A299_0, c299_0, A299_1, c299_1, A299_2, c299_2, e299, hx299_0, hx299_1, hx299_2, hl299_0, hi299_0, hl299_1, hi299_1, hl299_2, hi299_2⟩ := at_T61 HR0.out x5_1 p299 q299; obtain rfl : ad295 = ad299 := (by injection e299); have HR299_0 := Az.mk hi299_0; have HC299_0 := Az.mk hl299_0; clear hi299_0 hl299_0; have HR299_1 := Az.mk hi299_1; have HC299_1 := Az.mk hl299_1; clear hi299_1 hl299_1; have HR299_2 := Az.mk hi299_2; have HC299_2 := Az.mk hl299_2; clear hi299_2 hl299_2; replace p299 := eq_true p299; replace q299 := eq_true q299; have ea_ := Option.some.inj (hx295_0.symm.trans hx299_0); injection ea_ with ea_ en_ ec_; subst ea_; subst ec_; clear en_; have ea_ := Option.some.inj (hx295_1.symm.trans hx299_1); injection ea_ with ea_ en_ ec_; subst ea_; subst ec_; clear en_; have ea_ := Option.some.inj (hx295_2.symm.trans hx299_2); injection ea_ with ea_ en_ ec_; subst ea_; subst ec_; clear en_) | ((with_reducible refine Yc (f := 60) rfl ?_); refine Yg (some 36) rfl rfl Try.func60 (by kernel_rfl) rfl #[.slice A295_2 ((rd_T61 l0 x5_1).f2).length c295_2, .int .i64 t298] rfl (by (try simp only [List.map_toArray, List.map_cons, List.map_nil]); first | done | rfl | (simp only [List.length_drop, List.length_take]; rfl)) ?_; (with_reducible refine (laws_heldShadeS.calls k1 _ _ ((rd_T61 l0 x5_1).f2) t298 t300 _ ?side1 ?side2 A9.out).mono ?_); (case side1 => repeat (first | exact HR299_2.out | (with_reducible refine Kd.Ca_ ?_ _) | (with_reducible refine Kd.Cn_ ?_ _) | (with_reducible refine Kd.Cw_ ?_))); (case side2 => exact HC299_2.out); rintro e w' ⟨rfl, ⟨nd, rfl⟩⟩; refine ⟨_, rfl, ?_⟩))
        go_roundg k1
        case measure => have := HK1.out; omega
        case rel => exact ⟨(t300), (wrap64 (x5_1 + 1)), (by first | rfl | (simp; done) | (simp [*]; done)), (by first | rfl | (simp; done) | (simp [*]; done)), H', ⟨by have := HK1.out; omega⟩, by repeat (first | exact Drawn0.refl _ | apply Drawn0.step)⟩
    ·rw [if_neg c4] at H
     exact absurd H (by simp)
   ·rw [if_neg c3] at H
    have c3b0 : decide (x5_1 < (l0.length : Int)) = false := decide_eq_false c3
    clear c3
    obtain rfl := Option.some.inj H
    go_wp2
    go_ret
    exact ⟨by first | rfl | (simp; done) | (simp [*]; done), by repeat (first | exact Drawn0.refl _ | apply Drawn0.step)⟩

/-! ### laws_heldHost: function 15 -/
def laws_heldHost.f (k : Nat) (l0_0 : List (List Int)) (l0_1 : List (S61)) (a0_2 : Int) (a1 : Int) : Option (Int) := (laws_heldIntSS.f k l0_0 a1).bind fun t302 => (if t302 < 0 then (some (-1)) else ((laws_heldGuestS.f k l0_1 t302).bind fun t303 => (if t303 < 0 then (some (-1)) else (some t303))))
set_option maxHeartbeats 8000000 in
set_option maxRecDepth 100000 in
theorem laws_heldHost.calls (k : Nat) (A0_0 : Option Addr) (c0_0 : Nat) (l0_0 : List (List Int)) (A0_1 : Option Addr) (c0_1 : Nat) (l0_1 : List (S61)) (a0_2 : Int) (a1 : Int) (r : Int) (w : World) (hr0_0 : Kd.C (Kd.slice 3 (Kd.int .i64)) w A0_0 l0_0.length l0_0) (hc0_0 : l0_0.length ≤ c0_0) (hr0_1 : Kd.C k61 w A0_1 l0_1.length l0_1) (hc0_1 : l0_1.length ≤ c0_1) (h : laws_heldHost.f k l0_0 l0_1 a0_2 a1 = some r) :
  Calls Try.prog 15 #[.agg #[.slice A0_0 l0_0.length c0_0, .slice A0_1 l0_1.length c0_1, .int .i64 a0_2], .int .i64 a1] w fun e w' => e = .returned (.int .i64 r) ∧ Below w.heap.size w w' := by
 have hu31 := Try.underlying31
 have HR0_0 := Az.mk hr0_0
 have HC0_0 := Az.mk hc0_0
 clear hr0_0 hc0_0
 have HR0_1 := Az.mk hr0_1
 have HC0_1 := Az.mk hc0_1
 clear hr0_1 hc0_1
 have HB := Az.mk (Below.refl w.heap.size w)
 have H : ((laws_heldIntSS.f k l0_0 a1).bind fun t302 => (if t302 < 0 then (some (-1)) else ((laws_heldGuestS.f k l0_1 t302).bind fun t303 => (if t303 < 0 then (some (-1)) else (some t303))))) = some r := h
 clear h
 replace H := Option.bind_eq_some_iff.mp H
 obtain ⟨t302, A30, H⟩ := H
 replace H : (if t302 < 0 then (some (-1)) else ((laws_heldGuestS.f k l0_1 t302).bind fun t303 => (if t303 < 0 then (some (-1)) else (some t303)))) = some r := H
 have A3 := Az.mk A30
 clear A30
 by_cases c4 : t302 < 0
 ·rw [if_pos c4] at H
  have c4b0 : decide (t302 < 0) = true := decide_eq_true c4
  clear c4
  obtain rfl := Option.some.inj H
  go_enter Try.func15, Try.ntmps15
  go_wp2_with (first | ((with_reducible refine Yd (N := 2) rfl ?_); refine Yv ?hg (N := 2) ?hd (cs := #[.slice A0_0 l0_0.length c0_0, .slice A0_1 l0_1.length c0_1, .int .i64 a0_2]) (t := 31) ?hr ?_; (case hd => rfl); (case hg => rfl); (case hr => first | (go_simp; done) | (go_simp; rfl)); intro gb301 hg w5 hbox hb; have n0_ := Az.mk (Yt (by repeat (first | (with_reducible first | exact HB.out | apply Ya | apply Yn | apply Yw) | exact HB.out)) hb); have n1_ := Az.mk (hbox); have n2_ := Az.mk ((by rw [hg]; exact (Yz (by repeat (first | (with_reducible first | exact HB.out | apply Ya | apply Yn | apply Yw) | exact HB.out))) : w.heap.size ≤ gb301)); have n3_ := Az.mk ((by rw [hg]; exact (Yz (by repeat (first | (with_reducible first | exact HB.out | apply Ya | apply Yn | apply Yw) | exact HB.out))) : w.heap.size ≤ gb301)); clear HB; have HB := n0_; have BK301 := n1_; have GW301 := n2_; have GE301 := n3_; clear n0_ n1_ n2_ n3_; clear hb hbox hg; have hcz6_0 : w5.cell? ⟨gb301, 0, none⟩ = some (.slice A0_0 l0_0.length c0_0) := (Zc BK301.out 0).trans rfl; have hcz6_1 : w5.cell? ⟨gb301, 1, none⟩ = some (.slice A0_1 l0_1.length c0_1) := (Zc BK301.out 1).trans rfl; have hcz6_2 : w5.cell? ⟨gb301, 2, none⟩ = some (.int .i64 a0_2) := (Zc BK301.out 2).trans rfl; have hfz6_0 := Zf BK301.out 0; have hfz6_1 := Zf BK301.out 1; have hfz6_2 := Zf BK301.out 2) | ((with_reducible refine Yc (f := 42) rfl ?_); refine Yg (some 8) rfl rfl Try.func42 (by kernel_rfl) rfl #[.slice A0_0 l0_0.length c0_0, .int .i64 a1] rfl (by (try simp only [List.map_toArray, List.map_cons, List.map_nil]); first | done | rfl | (simp only [List.length_drop, List.length_take]; rfl)) ?_; (with_reducible refine (laws_heldIntSS.calls k _ _ l0_0 a1 t302 _ ?side1 ?side2 A3.out).mono ?_); (case side1 => repeat (first | exact (Kd.Cb_ HR0_0.out HB.out) | exact HR0_0.out | (with_reducible refine Kd.Ca_ ?_ _) | (with_reducible refine Kd.Cn_ ?_ _) | (with_reducible refine Kd.Cw_ ?_))); (case side2 => exact HC0_0.out); rintro e w' ⟨rfl, ⟨nd, rfl⟩⟩; refine ⟨_, rfl, ?_⟩))
  go_ret
  exact ⟨by first | rfl | (simp [errW_none, errW_some] <;> rfl) | (simp [*, errW_none, errW_some] <;> rfl), by repeat (first | (with_reducible first | exact HB.out | apply Ya | apply Yn | apply Yw | refine Ys ?_ GE301.out) | exact HB.out)⟩
 ·rw [if_neg c4] at H
  have c4b0 : decide (t302 < 0) = false := decide_eq_false c4
  clear c4
  replace H := Option.bind_eq_some_iff.mp H
  obtain ⟨t303, A70, H⟩ := H
  replace H : (if t303 < 0 then (some (-1)) else (some t303)) = some r := H
  have A7 := Az.mk A70
  clear A70
  by_cases c8 : t303 < 0
  ·rw [if_pos c8] at H
   have c8b0 : decide (t303 < 0) = true := decide_eq_true c8
   clear c8
   obtain rfl := Option.some.inj H
   go_enter Try.func15, Try.ntmps15
   go_wp2_with (first | ((with_reducible refine Yd (N := 2) rfl ?_); refine Yv ?hg (N := 2) ?hd (cs := #[.slice A0_0 l0_0.length c0_0, .slice A0_1 l0_1.length c0_1, .int .i64 a0_2]) (t := 31) ?hr ?_; (case hd => rfl); (case hg => rfl); (case hr => first | (go_simp; done) | (go_simp; rfl)); intro gb301 hg w9 hbox hb; have n0_ := Az.mk (Yt (by repeat (first | (with_reducible first | exact HB.out | apply Ya | apply Yn | apply Yw) | exact HB.out)) hb); have n1_ := Az.mk (hbox); have n2_ := Az.mk ((by rw [hg]; exact (Yz (by repeat (first | (with_reducible first | exact HB.out | apply Ya | apply Yn | apply Yw) | exact HB.out))) : w.heap.size ≤ gb301)); have n3_ := Az.mk ((by rw [hg]; exact (Yz (by repeat (first | (with_reducible first | exact HB.out | apply Ya | apply Yn | apply Yw) | exact HB.out))) : w.heap.size ≤ gb301)); clear HB; have HB := n0_; have BK301 := n1_; have GW301 := n2_; have GE301 := n3_; clear n0_ n1_ n2_ n3_; clear hb hbox hg; have hcz10_0 : w9.cell? ⟨gb301, 0, none⟩ = some (.slice A0_0 l0_0.length c0_0) := (Zc BK301.out 0).trans rfl; have hcz10_1 : w9.cell? ⟨gb301, 1, none⟩ = some (.slice A0_1 l0_1.length c0_1) := (Zc BK301.out 1).trans rfl; have hcz10_2 : w9.cell? ⟨gb301, 2, none⟩ = some (.int .i64 a0_2) := (Zc BK301.out 2).trans rfl; have hfz10_0 := Zf BK301.out 0; have hfz10_1 := Zf BK301.out 1; have hfz10_2 := Zf BK301.out 2) | ((with_reducible refine Yc (f := 42) rfl ?_); refine Yg (some 8) rfl rfl Try.func42 (by kernel_rfl) rfl #[.slice A0_0 l0_0.length c0_0, .int .i64 a1] rfl (by (try simp only [List.map_toArray, List.map_cons, List.map_nil]); first | done | rfl | (simp only [List.length_drop, List.length_take]; rfl)) ?_; (with_reducible refine (laws_heldIntSS.calls k _ _ l0_0 a1 t302 _ ?side1 ?side2 A3.out).mono ?_); (case side1 => repeat (first | exact (Kd.Cb_ HR0_0.out HB.out) | exact HR0_0.out | (with_reducible refine Kd.Ca_ ?_ _) | (with_reducible refine Kd.Cn_ ?_ _) | (with_reducible refine Kd.Cw_ ?_))); (case side2 => exact HC0_0.out); rintro e w' ⟨rfl, ⟨nd, rfl⟩⟩; refine ⟨_, rfl, ?_⟩) | ((with_reducible refine Yc (f := 43) rfl ?_); refine Yg (some 14) rfl rfl Try.func43 (by kernel_rfl) rfl #[.slice A0_1 l0_1.length c0_1, .int .i64 t302] rfl (by (try simp only [List.map_toArray, List.map_cons, List.map_nil]); first | done | rfl | (simp only [List.length_drop, List.length_take]; rfl)) ?_; (with_reducible refine (laws_heldGuestS.calls k _ _ l0_1 t302 t303 _ ?side1 ?side2 A7.out).mono ?_); (case side1 => repeat (first | exact (Kd.Cb_ HR0_1.out (by repeat (first | (with_reducible first | exact HB.out | apply Ya | apply Yn | apply Yw | refine Ys ?_ GE301.out) | exact HB.out))) | (with_reducible refine Kd.Ca_ ?_ _) | (with_reducible refine Kd.Cn_ ?_ _) | (with_reducible refine Kd.Cw_ ?_))); (case side2 => exact HC0_1.out); rintro e w' ⟨rfl, ⟨nd, rfl⟩⟩; refine ⟨_, rfl, ?_⟩))
   go_ret
   exact ⟨by first | rfl | (simp [errW_none, errW_some] <;> rfl) | (simp [*, errW_none, errW_some] <;> rfl), by repeat (first | (with_reducible first | exact HB.out | apply Ya | apply Yn | apply Yw | refine Ys ?_ GE301.out) | exact HB.out)⟩
  ·rw [if_neg c8] at H
   have c8b0 : decide (t303 < 0) = false := decide_eq_false c8
   clear c8
   obtain rfl := Option.some.inj H
   go_enter Try.func15, Try.ntmps15
   go_wp2_with (first | ((with_reducible refine Yd (N := 2) rfl ?_); refine Yv ?hg (N := 2) ?hd (cs := #[.slice A0_0 l0_0.length c0_0, .slice A0_1 l0_1.length c0_1, .int .i64 a0_2]) (t := 31) ?hr ?_; (case hd => rfl); (case hg => rfl); (case hr => first | (go_simp; done) | (go_simp; rfl)); intro gb301 hg w11 hbox hb; have n0_ := Az.mk (Yt (by repeat (first | (with_reducible first | exact HB.out | apply Ya | apply Yn | apply Yw) | exact HB.out)) hb); have n1_ := Az.mk (hbox); have n2_ := Az.mk ((by rw [hg]; exact (Yz (by repeat (first | (with_reducible first | exact HB.out | apply Ya | apply Yn | apply Yw) | exact HB.out))) : w.heap.size ≤ gb301)); have n3_ := Az.mk ((by rw [hg]; exact (Yz (by repeat (first | (with_reducible first | exact HB.out | apply Ya | apply Yn | apply Yw) | exact HB.out))) : w.heap.size ≤ gb301)); clear HB; have HB := n0_; have BK301 := n1_; have GW301 := n2_; have GE301 := n3_; clear n0_ n1_ n2_ n3_; clear hb hbox hg; have hcz12_0 : w11.cell? ⟨gb301, 0, none⟩ = some (.slice A0_0 l0_0.length c0_0) := (Zc BK301.out 0).trans rfl; have hcz12_1 : w11.cell? ⟨gb301, 1, none⟩ = some (.slice A0_1 l0_1.length c0_1) := (Zc BK301.out 1).trans rfl; have hcz12_2 : w11.cell? ⟨gb301, 2, none⟩ = some (.int .i64 a0_2) := (Zc BK301.out 2).trans rfl; have hfz12_0 := Zf BK301.out 0; have hfz12_1 := Zf BK301.out 1; have hfz12_2 := Zf BK301.out 2) | ((with_reducible refine Yc (f := 42) rfl ?_); refine Yg (some 8) rfl rfl Try.func42 (by kernel_rfl) rfl #[.slice A0_0 l0_0.length c0_0, .int .i64 a1] rfl (by (try simp only [List.map_toArray, List.map_cons, List.map_nil]); first | done | rfl | (simp only [List.length_drop, List.length_take]; rfl)) ?_; (with_reducible refine (laws_heldIntSS.calls k _ _ l0_0 a1 t302 _ ?side1 ?side2 A3.out).mono ?_); (case side1 => repeat (first | exact (Kd.Cb_ HR0_0.out HB.out) | exact HR0_0.out | (with_reducible refine Kd.Ca_ ?_ _) | (with_reducible refine Kd.Cn_ ?_ _) | (with_reducible refine Kd.Cw_ ?_))); (case side2 => exact HC0_0.out); rintro e w' ⟨rfl, ⟨nd, rfl⟩⟩; refine ⟨_, rfl, ?_⟩) | ((with_reducible refine Yc (f := 43) rfl ?_); refine Yg (some 14) rfl rfl Try.func43 (by kernel_rfl) rfl #[.slice A0_1 l0_1.length c0_1, .int .i64 t302] rfl (by (try simp only [List.map_toArray, List.map_cons, List.map_nil]); first | done | rfl | (simp only [List.length_drop, List.length_take]; rfl)) ?_; (with_reducible refine (laws_heldGuestS.calls k _ _ l0_1 t302 t303 _ ?side1 ?side2 A7.out).mono ?_); (case side1 => repeat (first | exact (Kd.Cb_ HR0_1.out (by repeat (first | (with_reducible first | exact HB.out | apply Ya | apply Yn | apply Yw | refine Ys ?_ GE301.out) | exact HB.out))) | (with_reducible refine Kd.Ca_ ?_ _) | (with_reducible refine Kd.Cn_ ?_ _) | (with_reducible refine Kd.Cw_ ?_))); (case side2 => exact HC0_1.out); rintro e w' ⟨rfl, ⟨nd, rfl⟩⟩; refine ⟨_, rfl, ?_⟩))
   go_ret
   exact ⟨by first | rfl | (simp [errW_none, errW_some] <;> rfl) | (simp [*, errW_none, errW_some] <;> rfl), by repeat (first | (with_reducible first | exact HB.out | apply Ya | apply Yn | apply Yw | refine Ys ?_ GE301.out) | exact HB.out)⟩

end Go.Proofs.Ytjgcfpclddfifaa.QFnExactHostNew
