/- A part of the proof of the claim's statement. -/
import Derived.Test.YtnhbgahfmcicnaaGreatDoorPtK0
import Derived.Test.YtnhbgahfmcicnaaGreatDoorPtPAx0
import Derived.Test.YtnhbgahfmcicnaaGreatDoorPtPAx1
import Derived.Test.YtnhbgahfmcicnaaGreatDoorPtPAx2
section
namespace Go.Proofs.YtnhbgahfmcicnaaGreatDoor.PA
open Go.RowKit Go.Proofs.YtnhbgahfmcicnaaGreatDoorW.PrintWords Go.Proofs.YtnhbgahfmcicnaaGreatDoorW.PrintLast Go.Proofs.YtnhbgahfmcicnaaGreatDoorW.PrintMore
attribute [local go_sem] max2_int min2_int max_two min_two max_three min_three max_four min_four   -- for this text's walks alone
set_option linter.unusedVariables false
set_option linter.unusedSimpArgs false
attribute [local go_sem high] eqA35
mutual
def sorobanref21_Whole.l0 : Nat → List (S35) → List Int → Int → Option (Bool)
 | 0, _, _, _ => none
 | k + 1, x0, x3, x4 => (sorobanref21_Most.f k x0).bind fun t121 => (if x4 ≤ t121 then (sorobanref21_Whole.l1 k x0 x3 x4 false 0) else (some true))
def sorobanref21_Whole.l1 : Nat → List (S35) → List Int → Int → Bool → Int → Option (Bool)
 | 0, _, _, _, _, _ => none
 | k + 1, x0, x3, x4, x5, x6 => if x6 < (x3.length : Int) then (if x5 = true then (sorobanref21_Whole.l1 k x0 x3 x4 true (wrap64 (x6 + 1))) else (if 0 ≤ x6 then (sorobanref21_Whole.l1 k x0 x3 x4 ((rd x3 x6) == x4) (wrap64 (x6 + 1))) else (none))) else (if x5 = true then (sorobanref21_Whole.l0 k x0 x3 (wrap64 (x4 + 1))) else (some false))
end
def sorobanref21_Whole.f (k : Nat) (l0 : List (S35)) : Option (Bool) := (sorobanref21_Numbers.f k l0).bind fun t118 => (sorobanref21_Whole.l0 k l0 t118 1)
set_option maxHeartbeats 8000000 in
set_option maxRecDepth 100000 in
theorem sorobanref21_Whole.calls (k : Nat) (A0 : Option Addr) (c0 : Nat) (l0 : List (S35)) (r : Bool) (w : World) (hr0 : Kd.C k35 w A0 l0.length l0) (hc0 : l0.length ≤ c0) (h : sorobanref21_Whole.f k l0 = some r) :
  Calls Tryz.prog 36 #[.slice A0 l0.length c0] w fun e w' => e = .returned (.bool r) ∧ Below w.heap.size w w' := by
 have HR0 := Aside0.mk hr0
 have HC0 := Aside0.mk hc0
 clear hr0 hc0
 have HB := Aside0.mk (Below.refl w.heap.size w)
 have H : ((sorobanref21_Numbers.f k l0).bind fun t118 => (sorobanref21_Whole.l0 k l0 t118 1)) = some r := h
 clear h
 replace H := Option.bind_eq_some_iff.mp H
 obtain ⟨t118, A20, H⟩ := H
 replace H : (sorobanref21_Whole.l0 k l0 t118 1) = some r := H
 have A2 := Aside0.mk A20
 clear A20
 have H' := Aside0.mk H
 clear H
 go_enter Tryz.func36, Tryz.ntmps36
 go_wp2_with (first | ((with_reducible refine gate_callee (f := 51) rfl ?_); refine gL_ (some 8) rfl rfl Tryz.func51 rfl #[.slice A0 l0.length c0] rfl ?_; (with_reducible refine (sorobanref21_Numbers.calls k _ _ l0 t118 _ ?side1 ?side2 A2.out).mono ?_); (case side1 => exact yC_ HR0.out); (case side2 => exact HC0.out); rintro e w3 ⟨v119, rfl, ho0, hb⟩; refine ⟨_, rfl, ?_⟩; have HO120 := Aside0.mk (Kd.R_lower ho0 (below_size (by exact yB_ HB.out))); replace HB := Aside0.mk (below_step (by exact yB_ HB.out) hb); (try clear hb); (try clear ho0)))
 go_loopg [4] k (fun kq v4 w' => ∃ (x4_1 : Int), v4 = .int .i64 x4_1 ∧ Aside0 (sorobanref21_Whole.l0 kq l0 t118 x4_1 = some r) ∧ Aside0 (kq ≤ k) ∧ Aside0 (Kd.R (Kd.int .i64) 3 w' w.heap.size (fun _ => True) v119 t118) ∧ Aside0 (Below w.heap.size w w'))
 case atStart => exact ⟨(1), (by first | rfl | (simp; done) | (simp [*]; done)), H', ⟨Nat.le_refl _⟩, ⟨by exact yR_ HO120.out⟩, ⟨by exact yB_ HB.out⟩⟩
 case round =>
  clear H'
  try clear p2
  try clear c3
  obtain ⟨x4_1, rfl, HA, HK1, HO_3, HB⟩ := hrel
  cases gk with
  | zero => exact absurd HA.out (by simp [sorobanref21_Whole.l0])
  | succ k1 =>
   have H := HA.out
   clear HA
   simp only [sorobanref21_Whole.l0] at H
   replace H := Option.bind_eq_some_iff.mp H
   obtain ⟨t121, A40, H⟩ := H
   replace H : (if x4_1 ≤ t121 then (sorobanref21_Whole.l1 k1 l0 t118 x4_1 false 0) else (some true)) = some r := H
   have A4 := Aside0.mk A40
   clear A40
   by_cases c5 : x4_1 ≤ t121
   ·rw [if_pos c5] at H
    have c5b0 : decide (x4_1 ≤ t121) = true := decide_eq_true c5
    clear c5
    have H' := Aside0.mk H
    clear H
    go_wp2_with (first | ((with_reducible refine gate_callee (f := 27) rfl ?_); refine gL_ (some 11) rfl rfl Tryz.func27 rfl #[.slice A0 l0.length c0] rfl ?_; (with_reducible refine (sorobanref21_Most.calls k1 _ _ l0 t121 _ ?side1 ?side2 A4.out).mono ?_); (case side1 => exact yC_ (Kd.C_below HR0.out HB.out)); (case side2 => exact HC0.out); rintro e w6 ⟨rfl, hb⟩; refine ⟨_, rfl, ?_⟩; replace HO_3 := Aside0.mk (Kd.R_below (by exact yR_ HO_3.out) hb); replace HB := Aside0.mk (below_step (by exact yB_ HB.out) hb); (try clear hb)))
    go_loopg [5, 6] k1 (fun kq v5 v6 w' => ∃ (x5_2 : Bool) (x6_2 : Int), v5 = .bool x5_2 ∧ v6 = .int .i64 x6_2 ∧ Aside0 (sorobanref21_Whole.l1 kq l0 t118 x4_1 x5_2 x6_2 = some r) ∧ Aside0 (kq ≤ k1) ∧ Aside0 (Kd.R (Kd.int .i64) 3 w' w.heap.size (fun _ => True) v119 t118) ∧ Aside0 (Below w.heap.size w w'))
    case atStart => exact ⟨(false), (0), (by first | rfl | (simp; done) | (simp [*]; done)), (by first | rfl | (simp; done) | (simp [*]; done)), H', ⟨Nat.le_refl _⟩, ⟨by exact yR_ HO_3.out⟩, ⟨by exact yB_ HB.out⟩⟩
    case round =>
     clear H'
     try clear c2
     try clear p2
     try clear c3
     try clear c5
     try clear c5b0
     try clear p2
     obtain ⟨x5_2, x6_2, rfl, rfl, HA, HK2, HO_3, HB⟩ := hrel
     cases gk with
     | zero => exact absurd HA.out (by simp [sorobanref21_Whole.l1])
     | succ k2 =>
      have H := HA.out
      clear HA
      simp only [sorobanref21_Whole.l1] at H
      by_cases c7 : x6_2 < (t118.length : Int)
      ·rw [if_pos c7] at H
       have c7b0 : decide (x6_2 < (t118.length : Int)) = true := decide_eq_true c7
       clear c7
       by_cases c8 : x5_2 = true
       ·subst c8
        have H1 : (sorobanref21_Whole.l1 k2 l0 t118 x4_1 true (wrap64 (x6_2 + 1))) = some r := by rw [if_pos rfl] at H; exact H
        clear H
        have H := H1
        clear H1
        have H' := Aside0.mk H
        clear H
        obtain ⟨Ao9, co9, eo9⟩ := Kd.R_slice HO_3.out
        subst eo9
        go_wp2
        go_roundg k2
        case measure => have := HK1.out; have := HK2.out; omega
        case rel => exact ⟨(true), (wrap64 (x6_2 + 1)), (by first | rfl | (simp; done) | (simp [*]; done)), (by first | rfl | (simp; done) | (simp [*]; done)), H', ⟨by have := HK1.out; have := HK2.out; omega⟩, ⟨by exact yR_ HO_3.out⟩, ⟨by exact yB_ HB.out⟩⟩
       ·replace c8 := Bool.eq_false_iff.mpr c8
        subst c8
        have H1 : (if 0 ≤ x6_2 then (sorobanref21_Whole.l1 k2 l0 t118 x4_1 ((rd t118 x6_2) == x4_1) (wrap64 (x6_2 + 1))) else (none)) = some r := by rw [if_neg (show ¬ (false = true) by decide)] at H; exact H
        clear H
        have H := H1
        clear H1
        by_cases c10 : 0 ≤ x6_2
        ·rw [if_pos c10] at H
         have c10b0 : decide (0 ≤ x6_2) = true := decide_eq_true c10
         clear c10
         have H' := Aside0.mk H
         clear H
         obtain ⟨Ao11, co11, eo11⟩ := Kd.R_slice HO_3.out
         subst eo11
         have p122 : 0 ≤ (x6_2 : Int) := of_decide_eq_true (by first | (with_reducible assumption) | assumption)
         have q122 : x6_2 < (t118.length : Int) := of_decide_eq_true (by first | (with_reducible assumption) | assumption)
         obtain ⟨ad122, e122, hx122_0⟩ := Kd.at_int (Kd.R_reads' HO_3.out).2.2 x6_2 p122 q122
         cases e122
         replace p122 := eq_true p122
         replace q122 := eq_true q122
         go_wp2
         go_roundg k2
         case measure => have := HK1.out; have := HK2.out; omega
         case rel => exact ⟨(((rd t118 x6_2) == x4_1)), (wrap64 (x6_2 + 1)), (by first | rfl | (simp; done) | (simp [*]; done)), (by first | rfl | (simp; done) | (simp [*]; done)), H', ⟨by have := HK1.out; have := HK2.out; omega⟩, ⟨by exact yR_ HO_3.out⟩, ⟨by exact yB_ HB.out⟩⟩
        ·rw [if_neg c10] at H
         exact absurd H (by simp)
      ·rw [if_neg c7] at H
       have c7b0 : decide (x6_2 < (t118.length : Int)) = false := decide_eq_false c7
       clear c7
       by_cases c12 : x5_2 = true
       ·subst c12
        have H1 : (sorobanref21_Whole.l0 k2 l0 t118 (wrap64 (x4_1 + 1))) = some r := by rw [if_pos rfl] at H; exact H
        clear H
        have H := H1
        clear H1
        have H' := Aside0.mk H
        clear H
        obtain ⟨Ao13, co13, eo13⟩ := Kd.R_slice HO_3.out
        subst eo13
        go_wp2
        go_roundg k2
        case measure => have := HK1.out; have := HK2.out; omega
        case rel => exact ⟨(wrap64 (x4_1 + 1)), (by first | rfl | (simp; done) | (simp [*]; done)), H', ⟨by have := HK1.out; have := HK2.out; omega⟩, ⟨by exact yR_ HO_3.out⟩, ⟨by exact yB_ HB.out⟩⟩
       ·replace c12 := Bool.eq_false_iff.mpr c12
        subst c12
        have H1 : (some false) = some r := by rw [if_neg (show ¬ (false = true) by decide)] at H; exact H
        clear H
        have H := H1
        clear H1
        obtain rfl := Option.some.inj H
        obtain ⟨Ao14, co14, eo14⟩ := Kd.R_slice HO_3.out
        subst eo14
        go_wp2
        go_ret
        exact ⟨yE_, by exact yB_ HB.out⟩
   ·rw [if_neg c5] at H
    have c5b0 : decide (x4_1 ≤ t121) = false := decide_eq_false c5
    clear c5
    obtain rfl := Option.some.inj H
    go_wp2_with (first | ((with_reducible refine gate_callee (f := 27) rfl ?_); refine gL_ (some 11) rfl rfl Tryz.func27 rfl #[.slice A0 l0.length c0] rfl ?_; (with_reducible refine (sorobanref21_Most.calls k1 _ _ l0 t121 _ ?side1 ?side2 A4.out).mono ?_); (case side1 => exact yC_ (Kd.C_below HR0.out HB.out)); (case side2 => exact HC0.out); rintro e w15 ⟨rfl, hb⟩; refine ⟨_, rfl, ?_⟩; replace HO_3 := Aside0.mk (Kd.R_below (by exact yR_ HO_3.out) hb); replace HB := Aside0.mk (below_step (by exact yB_ HB.out) hb); (try clear hb)))
    go_ret
    exact ⟨yE_, by exact yB_ HB.out⟩
def spec_within.f (a0 : Int) (a1 : Int) : Option (Bool) := if a0 = (-1) then (some true) else (if a0 ≥ a1 then (some (decide (a0 ≤ 10000))) else (some false))
set_option maxHeartbeats 8000000 in
set_option maxRecDepth 100000 in
theorem spec_within.calls (a0 : Int) (a1 : Int) (r : Bool) (w : World) (h : spec_within.f a0 a1 = some r) :
  Calls Tryz.prog 77 #[.int .i64 a0, .int .i64 a1] w fun e w' => e = .returned (.bool r) ∧ Drawn0 w w' := by
 have H : (if a0 = (-1) then (some true) else (if a0 ≥ a1 then (some (decide (a0 ≤ 10000))) else (some false))) = some r := h
 clear h
 by_cases c3 : a0 = (-1)
 ·rw [if_pos c3] at H
  have c3b0 : (a0 == (-1)) = true := beq_iff_eq.mpr c3
  have c3b1 : (a0 != (-1)) = false := bne_eq_false_iff_eq.mpr c3
  clear c3
  obtain rfl := Option.some.inj H
  go_enter Tryz.func77, Tryz.ntmps77
  go_wp2
  go_ret
  exact ⟨by first | rfl | (simp; done) | (simp [*]; done), by repeat (first | exact Drawn0.refl _ | apply Drawn0.step)⟩
 ·rw [if_neg c3] at H
  have c3b0 : (a0 == (-1)) = false := beq_eq_false_iff_ne.mpr c3
  have c3b1 : (a0 != (-1)) = true := bne_iff_ne.mpr c3
  by_cases c4 : a0 ≥ a1
  ·rw [if_pos c4] at H
   have c4b0 : decide (a1 ≤ a0) = true := decide_eq_true c4
   clear c4
   obtain rfl := Option.some.inj H
   go_enter Tryz.func77, Tryz.ntmps77
   go_wp2
   go_ret
   exact ⟨by first | rfl | (simp; done) | (simp [*]; done), by repeat (first | exact Drawn0.refl _ | apply Drawn0.step)⟩
  ·rw [if_neg c4] at H
   have c4b0 : decide (a1 ≤ a0) = false := decide_eq_false c4
   clear c4
   obtain rfl := Option.some.inj H
   go_enter Tryz.func77, Tryz.ntmps77
   go_wp2
   go_ret
   exact ⟨by first | rfl | (simp; done) | (simp [*]; done), by repeat (first | exact Drawn0.refl _ | apply Drawn0.step)⟩
end Go.Proofs.YtnhbgahfmcicnaaGreatDoor.PA
end
