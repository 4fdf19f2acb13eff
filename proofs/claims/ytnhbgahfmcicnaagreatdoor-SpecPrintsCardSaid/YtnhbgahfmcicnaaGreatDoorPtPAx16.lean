/- A part of the proof of the claim's statement. -/
import Derived.Test.YtnhbgahfmcicnaaGreatDoorPtK0
import Derived.Test.YtnhbgahfmcicnaaGreatDoorPtPAx0
import Derived.Test.YtnhbgahfmcicnaaGreatDoorPtPAx2
import Derived.Test.YtnhbgahfmcicnaaGreatDoorPtG2i
section
namespace Go.Proofs.YtnhbgahfmcicnaaGreatDoor.PA
open Go.RowKit Go.Proofs.YtnhbgahfmcicnaaGreatDoorW.PrintWords Go.Proofs.YtnhbgahfmcicnaaGreatDoorW.PrintLast Go.Proofs.YtnhbgahfmcicnaaGreatDoorW.PrintMore
attribute [local go_sem] max2_int min2_int max_two min_two max_three min_three max_four min_four   -- for this text's walks alone
set_option linter.unusedVariables false
set_option linter.unusedSimpArgs false
def sorobanref21_Ordered.l0 : Nat → List Int → Int → Option (Bool)
 | 0, _, _ => none
 | k + 1, x3, x4 => if x4 < (x3.length : Int) then (if 0 ≤ x4 then (if (rd x3 x4) = (wrap64 (x4 + 1)) then (sorobanref21_Ordered.l0 k x3 (wrap64 (x4 + 1))) else (some false)) else (none)) else (some true)
def sorobanref21_Ordered.f (k : Nat) (l0 : List (S35)) : Option (Bool) := (sorobanref21_Numbers.f k l0).bind fun t373 => (sorobanref21_Ordered.l0 k t373 0)
set_option maxHeartbeats 8000000 in
set_option maxRecDepth 100000 in
theorem sorobanref21_Ordered.calls (k : Nat) (A0 : Option Addr) (c0 : Nat) (l0 : List (S35)) (r : Bool) (w : World) (hr0 : Kd.C k35 w A0 l0.length l0) (hc0 : l0.length ≤ c0) (h : sorobanref21_Ordered.f k l0 = some r) :
  Calls Tryz.prog 28 #[.slice A0 l0.length c0] w fun e w' => e = .returned (.bool r) ∧ Below w.heap.size w w' := by
 have HR0 := Aside0.mk hr0
 have HC0 := Aside0.mk hc0
 clear hr0 hc0
 have HB := Aside0.mk (Below.refl w.heap.size w)
 have H : ((sorobanref21_Numbers.f k l0).bind fun t373 => (sorobanref21_Ordered.l0 k t373 0)) = some r := h
 clear h
 replace H := Option.bind_eq_some_iff.mp H
 obtain ⟨t373, A20, H⟩ := H
 replace H : (sorobanref21_Ordered.l0 k t373 0) = some r := H
 have A2 := Aside0.mk A20
 clear A20
 have H' := Aside0.mk H
 clear H
 go_enter Tryz.func28, Tryz.ntmps28
 go_wp2_with (first | ((with_reducible refine gate_callee (f := 51) rfl ?_); refine gL_ (some 6) rfl rfl Tryz.func51 rfl #[.slice A0 l0.length c0] rfl ?_; (with_reducible refine (sorobanref21_Numbers.calls k _ _ l0 t373 _ ?side1 ?side2 A2.out).mono ?_); (case side1 => exact yC_ HR0.out); (case side2 => exact HC0.out); rintro e w3 ⟨v374, rfl, ho0, hb⟩; refine ⟨_, rfl, ?_⟩; have HO375 := Aside0.mk (Kd.R_lower ho0 (below_size (by exact yB_ HB.out))); replace HB := Aside0.mk (below_step (by exact yB_ HB.out) hb); (try clear hb); (try clear ho0)))
 go_loopg [4] k (fun kq v4 w' => ∃ (x4_1 : Int), v4 = .int .i64 x4_1 ∧ Aside0 (sorobanref21_Ordered.l0 kq t373 x4_1 = some r) ∧ Aside0 (kq ≤ k) ∧ Aside0 (Kd.R (Kd.int .i64) 3 w' w.heap.size (fun _ => True) v374 t373) ∧ Aside0 (Below w.heap.size w w'))
 case atStart => exact ⟨(0), (by first | rfl | (simp; done) | (simp [*]; done)), H', ⟨Nat.le_refl _⟩, ⟨by exact yR_ HO375.out⟩, ⟨by exact yB_ HB.out⟩⟩
 case round =>
  clear H'
  try clear c2
  try clear p2
  obtain ⟨x4_1, rfl, HA, HK1, HO_3, HB⟩ := hrel
  cases gk with
  | zero => exact absurd HA.out (by simp [sorobanref21_Ordered.l0])
  | succ k1 =>
   have H := HA.out
   clear HA
   simp only [sorobanref21_Ordered.l0] at H
   by_cases c4 : x4_1 < (t373.length : Int)
   ·rw [if_pos c4] at H
    have c4b0 : decide (x4_1 < (t373.length : Int)) = true := decide_eq_true c4
    clear c4
    by_cases c5 : 0 ≤ x4_1
    ·rw [if_pos c5] at H
     have c5b0 : decide (0 ≤ x4_1) = true := decide_eq_true c5
     clear c5
     by_cases c6 : (rd t373 x4_1) = (wrap64 (x4_1 + 1))
     ·rw [if_pos c6] at H
      have c6b0 : ((rd t373 x4_1) == (wrap64 (x4_1 + 1))) = true := beq_iff_eq.mpr c6
      have c6b1 : ((rd t373 x4_1) != (wrap64 (x4_1 + 1))) = false := bne_eq_false_iff_eq.mpr c6
      clear c6
      have H' := Aside0.mk H
      clear H
      obtain ⟨Ao7, co7, eo7⟩ := Kd.R_slice HO_3.out
      subst eo7
      have p376 : 0 ≤ (x4_1 : Int) := of_decide_eq_true (by first | (with_reducible assumption) | assumption)
      have q376 : x4_1 < (t373.length : Int) := of_decide_eq_true (by first | (with_reducible assumption) | assumption)
      obtain ⟨ad376, e376, hx376_0⟩ := Kd.at_int (Kd.R_reads' HO_3.out).2.2 x4_1 p376 q376
      cases e376
      replace p376 := eq_true p376
      replace q376 := eq_true q376
      go_wp2
      go_roundg k1
      case measure => have := HK1.out; omega
      case rel => exact ⟨(wrap64 (x4_1 + 1)), (by first | rfl | (simp; done) | (simp [*]; done)), H', ⟨by have := HK1.out; omega⟩, ⟨by exact yR_ HO_3.out⟩, ⟨by exact yB_ HB.out⟩⟩
     ·rw [if_neg c6] at H
      have c6b0 : ((rd t373 x4_1) == (wrap64 (x4_1 + 1))) = false := beq_eq_false_iff_ne.mpr c6
      have c6b1 : ((rd t373 x4_1) != (wrap64 (x4_1 + 1))) = true := bne_iff_ne.mpr c6
      obtain rfl := Option.some.inj H
      obtain ⟨Ao8, co8, eo8⟩ := Kd.R_slice HO_3.out
      subst eo8
      have p376 : 0 ≤ (x4_1 : Int) := of_decide_eq_true (by first | (with_reducible assumption) | assumption)
      have q376 : x4_1 < (t373.length : Int) := of_decide_eq_true (by first | (with_reducible assumption) | assumption)
      obtain ⟨ad376, e376, hx376_0⟩ := Kd.at_int (Kd.R_reads' HO_3.out).2.2 x4_1 p376 q376
      cases e376
      replace p376 := eq_true p376
      replace q376 := eq_true q376
      go_wp2
      go_ret
      exact ⟨yE_, by exact yB_ HB.out⟩
    ·rw [if_neg c5] at H
     exact absurd H (by simp)
   ·rw [if_neg c4] at H
    have c4b0 : decide (x4_1 < (t373.length : Int)) = false := decide_eq_false c4
    clear c4
    obtain rfl := Option.some.inj H
    obtain ⟨Ao9, co9, eo9⟩ := Kd.R_slice HO_3.out
    subst eo9
    go_wp2
    go_ret
    exact ⟨yE_, by exact yB_ HB.out⟩
def sorobanref21_Text.l0 : Nat → List (S35) → ByteArray → Bool → Int → Option (ByteArray)
 | 0, _, _, _, _ => none
 | k + 1, x0, x3, x4, x5 => if x5 < (x0.length : Int) then (if 0 ≤ x5 then (if ((rd_T35 x0 x5).f8) = 0 then (if x3.size + ((rd_T35 x0 x5).f0).size ≤ 9223372036854775807 then (sorobanref21_Text.l0 k x0 (x3 ++ ((rd_T35 x0 x5).f0)) x4 (wrap64 (x5 + 1))) else (none)) else (if ((rd_T35 x0 x5).f8) = 37 then (if x3.size + 2 ≤ 9223372036854775807 then (sorobanref21_Text.l0 k x0 (x3 ++ (⟨#[37, 37]⟩ : ByteArray)) x4 (wrap64 (x5 + 1))) else (none)) else ((sorobanref21_piece.f k ((rd_T35 x0 x5).f0) ((rd_T35 x0 x5).f1) ((rd_T35 x0 x5).f2) ((rd_T35 x0 x5).f3) ((rd_T35 x0 x5).f4) ((rd_T35 x0 x5).f5) ((rd_T35 x0 x5).f6) ((rd_T35 x0 x5).f7) ((rd_T35 x0 x5).f8) x4).bind fun t381 => (if x3.size + t381.size ≤ 9223372036854775807 then (sorobanref21_Text.l0 k x0 (x3 ++ t381) x4 (wrap64 (x5 + 1))) else (none))))) else (none)) else (some x3)
def sorobanref21_Text.f (k : Nat) (l0 : List (S35)) : Option (ByteArray) := (sorobanref21_Ordered.f k l0).bind fun t377 => (sorobanref21_Text.l0 k l0 (⟨#[]⟩ : ByteArray) t377 0)
set_option maxHeartbeats 8000000 in
set_option maxRecDepth 100000 in
theorem sorobanref21_Text.calls (k : Nat) (A0 : Option Addr) (c0 : Nat) (l0 : List (S35)) (r : ByteArray) (w : World) (hr0 : Kd.C k35 w A0 l0.length l0) (hc0 : l0.length ≤ c0) (hLD : LD w) (h : sorobanref21_Text.f k l0 = some r) :
  Calls Tryz.prog 26 #[.slice A0 l0.length c0] w fun e w' => e = .returned (.string r) ∧ Below w.heap.size w w' := by
 have HLD := Aside0.mk hLD
 clear hLD
 have hu35 := Tryz.underlying35
 have HR0 := Aside0.mk hr0
 have HC0 := Aside0.mk hc0
 clear hr0 hc0
 have HB := Aside0.mk (Below.refl w.heap.size w)
 have H : ((sorobanref21_Ordered.f k l0).bind fun t377 => (sorobanref21_Text.l0 k l0 (⟨#[]⟩ : ByteArray) t377 0)) = some r := h
 clear h
 replace H := Option.bind_eq_some_iff.mp H
 obtain ⟨t377, A20, H⟩ := H
 replace H : (sorobanref21_Text.l0 k l0 (⟨#[]⟩ : ByteArray) t377 0) = some r := H
 have A2 := Aside0.mk A20
 clear A20
 have H' := Aside0.mk H
 clear H
 go_enter Tryz.func26, Tryz.ntmps26
 go_wp2_with (first | ((with_reducible refine gate_callee (f := 28) rfl ?_); refine gL_ (some 7) rfl rfl Tryz.func28 rfl #[.slice A0 l0.length c0] rfl ?_; (with_reducible refine (sorobanref21_Ordered.calls k _ _ l0 t377 _ ?side1 ?side2 A2.out).mono ?_); (case side1 => exact yC_ HR0.out); (case side2 => exact HC0.out); rintro e w3 ⟨rfl, hb⟩; refine ⟨_, rfl, ?_⟩; replace HB := Aside0.mk (below_step (by exact yB_ HB.out) hb); (try clear hb)))
 go_loopg [3, 5] k (fun kq v3 v5 w' => ∃ (x3_1 : ByteArray) (x5_1 : Int), v3 = .string x3_1 ∧ v5 = .int .i64 x5_1 ∧ Aside0 (sorobanref21_Text.l0 kq l0 x3_1 t377 x5_1 = some r) ∧ Aside0 (kq ≤ k) ∧ Aside0 (Below w.heap.size w w'))
 case atStart => exact ⟨((⟨#[]⟩ : ByteArray)), (0), (by first | rfl | (simp; done) | (simp [*]; done)), (by first | rfl | (simp; done) | (simp [*]; done)), H', ⟨Nat.le_refl _⟩, ⟨by exact yB_ HB.out⟩⟩
 case round =>
  clear H'
  try clear c2
  try clear p2
  obtain ⟨x3_1, x5_1, rfl, rfl, HA, HK1, HB⟩ := hrel
  cases gk with
  | zero => exact absurd HA.out (by simp [sorobanref21_Text.l0])
  | succ k1 =>
   have H := HA.out
   clear HA
   simp only [sorobanref21_Text.l0] at H
   by_cases c4 : x5_1 < (l0.length : Int)
   ·rw [if_pos c4] at H
    have c4b0 : decide (x5_1 < (l0.length : Int)) = true := decide_eq_true c4
    clear c4
    by_cases c5 : 0 ≤ x5_1
    ·rw [if_pos c5] at H
     have c5b0 : decide (0 ≤ x5_1) = true := decide_eq_true c5
     clear c5
     by_cases c6 : ((rd_T35 l0 x5_1).f8) = 0
     ·rw [if_pos c6] at H
      have c6b0 : (((rd_T35 l0 x5_1).f8) == 0) = true := beq_iff_eq.mpr c6
      have c6b1 : (((rd_T35 l0 x5_1).f8) != 0) = false := bne_eq_false_iff_eq.mpr c6
      clear c6
      by_cases c7 : x3_1.size + ((rd_T35 l0 x5_1).f0).size ≤ 9223372036854775807
      ·rw [if_pos c7] at H
       have c7b0 := eq_true c7
       have c7b1 : decide (x3_1.size + ((rd_T35 l0 x5_1).f0).size ≤ 9223372036854775807) = true := decide_eq_true c7
       try have c7b2 : (9223372036854775807 < x3_1.size + ((rd_T35 l0 x5_1).f0).size) = False := eq_false (Nat.not_lt.2 c7)
       have H' := Aside0.mk H
       clear H
       have p378 : 0 ≤ (x5_1 : Int) := of_decide_eq_true (by first | (with_reducible assumption) | assumption)
       have q378 : x5_1 < (l0.length : Int) := of_decide_eq_true (by first | (with_reducible assumption) | assumption)
       obtain ⟨ad378, e378, hx378_0, hx378_1, hx378_2, hx378_3, hx378_4, hx378_5, hx378_6, hx378_7, hx378_8⟩ := at_T35 HR0.out x5_1 p378 q378
       cases e378
       replace hx378_0 := (HB.out.cell (World.block_lt_of_cell? w _ hx378_0)).trans hx378_0
       replace hx378_1 := (HB.out.cell (World.block_lt_of_cell? w _ hx378_1)).trans hx378_1
       replace hx378_2 := (HB.out.cell (World.block_lt_of_cell? w _ hx378_2)).trans hx378_2
       replace hx378_3 := (HB.out.cell (World.block_lt_of_cell? w _ hx378_3)).trans hx378_3
       replace hx378_4 := (HB.out.cell (World.block_lt_of_cell? w _ hx378_4)).trans hx378_4
       replace hx378_5 := (HB.out.cell (World.block_lt_of_cell? w _ hx378_5)).trans hx378_5
       replace hx378_6 := (HB.out.cell (World.block_lt_of_cell? w _ hx378_6)).trans hx378_6
       replace hx378_7 := (HB.out.cell (World.block_lt_of_cell? w _ hx378_7)).trans hx378_7
       replace hx378_8 := (HB.out.cell (World.block_lt_of_cell? w _ hx378_8)).trans hx378_8
       replace p378 := eq_true p378
       replace q378 := eq_true q378
       have p379 : 0 ≤ (x5_1 : Int) := of_decide_eq_true (by first | (with_reducible assumption) | assumption)
       have q379 : x5_1 < (l0.length : Int) := of_decide_eq_true (by first | (with_reducible assumption) | assumption)
       obtain ⟨ad379, e379, hx379_0, hx379_1, hx379_2, hx379_3, hx379_4, hx379_5, hx379_6, hx379_7, hx379_8⟩ := at_T35 HR0.out x5_1 p379 q379
       obtain rfl : ad378 = ad379 := (by injection e379)
       replace hx379_0 := (HB.out.cell (World.block_lt_of_cell? w _ hx379_0)).trans hx379_0
       replace hx379_1 := (HB.out.cell (World.block_lt_of_cell? w _ hx379_1)).trans hx379_1
       replace hx379_2 := (HB.out.cell (World.block_lt_of_cell? w _ hx379_2)).trans hx379_2
       replace hx379_3 := (HB.out.cell (World.block_lt_of_cell? w _ hx379_3)).trans hx379_3
       replace hx379_4 := (HB.out.cell (World.block_lt_of_cell? w _ hx379_4)).trans hx379_4
       replace hx379_5 := (HB.out.cell (World.block_lt_of_cell? w _ hx379_5)).trans hx379_5
       replace hx379_6 := (HB.out.cell (World.block_lt_of_cell? w _ hx379_6)).trans hx379_6
       replace hx379_7 := (HB.out.cell (World.block_lt_of_cell? w _ hx379_7)).trans hx379_7
       replace hx379_8 := (HB.out.cell (World.block_lt_of_cell? w _ hx379_8)).trans hx379_8
       replace p379 := eq_true p379
       replace q379 := eq_true q379
       go_wp2
       go_roundg k1
       case measure => have := HK1.out; omega
       case rel => exact ⟨(x3_1 ++ ((rd_T35 l0 x5_1).f0)), (wrap64 (x5_1 + 1)), (by first | rfl | (simp; done) | (simp [*]; done)), (by first | rfl | (simp; done) | (simp [*]; done)), H', ⟨by have := HK1.out; omega⟩, ⟨by exact yB_ HB.out⟩⟩
      ·rw [if_neg c7] at H
       exact absurd H (by simp)
     ·rw [if_neg c6] at H
      have c6b0 : (((rd_T35 l0 x5_1).f8) == 0) = false := beq_eq_false_iff_ne.mpr c6
      have c6b1 : (((rd_T35 l0 x5_1).f8) != 0) = true := bne_iff_ne.mpr c6
      by_cases c8 : ((rd_T35 l0 x5_1).f8) = 37
      ·rw [if_pos c8] at H
       have c8b0 : (((rd_T35 l0 x5_1).f8) == 37) = true := beq_iff_eq.mpr c8
       have c8b1 : (((rd_T35 l0 x5_1).f8) != 37) = false := bne_eq_false_iff_eq.mpr c8
       clear c8
       by_cases c9 : x3_1.size + 2 ≤ 9223372036854775807
       ·rw [if_pos c9] at H
        have c9b0 := eq_true c9
        have c9b1 : decide (x3_1.size + 2 ≤ 9223372036854775807) = true := decide_eq_true c9
        try have c9b2 : (9223372036854775807 < x3_1.size + 2) = False := eq_false (Nat.not_lt.2 c9)
        have H' := Aside0.mk H
        clear H
        have p378 : 0 ≤ (x5_1 : Int) := of_decide_eq_true (by first | (with_reducible assumption) | assumption)
        have q378 : x5_1 < (l0.length : Int) := of_decide_eq_true (by first | (with_reducible assumption) | assumption)
        obtain ⟨ad378, e378, hx378_0, hx378_1, hx378_2, hx378_3, hx378_4, hx378_5, hx378_6, hx378_7, hx378_8⟩ := at_T35 HR0.out x5_1 p378 q378
        cases e378
        replace hx378_0 := (HB.out.cell (World.block_lt_of_cell? w _ hx378_0)).trans hx378_0
        replace hx378_1 := (HB.out.cell (World.block_lt_of_cell? w _ hx378_1)).trans hx378_1
        replace hx378_2 := (HB.out.cell (World.block_lt_of_cell? w _ hx378_2)).trans hx378_2
        replace hx378_3 := (HB.out.cell (World.block_lt_of_cell? w _ hx378_3)).trans hx378_3
        replace hx378_4 := (HB.out.cell (World.block_lt_of_cell? w _ hx378_4)).trans hx378_4
        replace hx378_5 := (HB.out.cell (World.block_lt_of_cell? w _ hx378_5)).trans hx378_5
        replace hx378_6 := (HB.out.cell (World.block_lt_of_cell? w _ hx378_6)).trans hx378_6
        replace hx378_7 := (HB.out.cell (World.block_lt_of_cell? w _ hx378_7)).trans hx378_7
        replace hx378_8 := (HB.out.cell (World.block_lt_of_cell? w _ hx378_8)).trans hx378_8
        replace p378 := eq_true p378
        replace q378 := eq_true q378
        go_wp2
        go_roundg k1
        case measure => have := HK1.out; omega
        case rel => exact ⟨(x3_1 ++ (⟨#[37, 37]⟩ : ByteArray)), (wrap64 (x5_1 + 1)), (by first | rfl | (simp; done) | (simp [*]; done)), (by first | rfl | (simp; done) | (simp [*]; done)), H', ⟨by have := HK1.out; omega⟩, ⟨by exact yB_ HB.out⟩⟩
       ·rw [if_neg c9] at H
        exact absurd H (by simp)
      ·rw [if_neg c8] at H
       have c8b0 : (((rd_T35 l0 x5_1).f8) == 37) = false := beq_eq_false_iff_ne.mpr c8
       have c8b1 : (((rd_T35 l0 x5_1).f8) != 37) = true := bne_iff_ne.mpr c8
       replace H := Option.bind_eq_some_iff.mp H
       obtain ⟨t381, A100, H⟩ := H
       replace H : (if x3_1.size + t381.size ≤ 9223372036854775807 then (sorobanref21_Text.l0 k1 l0 (x3_1 ++ t381) t377 (wrap64 (x5_1 + 1))) else (none)) = some r := H
       have A10 := Aside0.mk A100
       clear A100
       by_cases c11 : x3_1.size + t381.size ≤ 9223372036854775807
       ·rw [if_pos c11] at H
        have c11b0 := eq_true c11
        have c11b1 : decide (x3_1.size + t381.size ≤ 9223372036854775807) = true := decide_eq_true c11
        try have c11b2 : (9223372036854775807 < x3_1.size + t381.size) = False := eq_false (Nat.not_lt.2 c11)
        have H' := Aside0.mk H
        clear H
        have p378 : 0 ≤ (x5_1 : Int) := of_decide_eq_true (by first | (with_reducible assumption) | assumption)
        have q378 : x5_1 < (l0.length : Int) := of_decide_eq_true (by first | (with_reducible assumption) | assumption)
        obtain ⟨ad378, e378, hx378_0, hx378_1, hx378_2, hx378_3, hx378_4, hx378_5, hx378_6, hx378_7, hx378_8⟩ := at_T35 HR0.out x5_1 p378 q378
        cases e378
        replace hx378_0 := (HB.out.cell (World.block_lt_of_cell? w _ hx378_0)).trans hx378_0
        replace hx378_1 := (HB.out.cell (World.block_lt_of_cell? w _ hx378_1)).trans hx378_1
        replace hx378_2 := (HB.out.cell (World.block_lt_of_cell? w _ hx378_2)).trans hx378_2
        replace hx378_3 := (HB.out.cell (World.block_lt_of_cell? w _ hx378_3)).trans hx378_3
        replace hx378_4 := (HB.out.cell (World.block_lt_of_cell? w _ hx378_4)).trans hx378_4
        replace hx378_5 := (HB.out.cell (World.block_lt_of_cell? w _ hx378_5)).trans hx378_5
        replace hx378_6 := (HB.out.cell (World.block_lt_of_cell? w _ hx378_6)).trans hx378_6
        replace hx378_7 := (HB.out.cell (World.block_lt_of_cell? w _ hx378_7)).trans hx378_7
        replace hx378_8 := (HB.out.cell (World.block_lt_of_cell? w _ hx378_8)).trans hx378_8
        replace p378 := eq_true p378
        replace q378 := eq_true q378
        have p380 : 0 ≤ (x5_1 : Int) := of_decide_eq_true (by first | (with_reducible assumption) | assumption)
        have q380 : x5_1 < (l0.length : Int) := of_decide_eq_true (by first | (with_reducible assumption) | assumption)
        obtain ⟨ad380, e380, hx380_0, hx380_1, hx380_2, hx380_3, hx380_4, hx380_5, hx380_6, hx380_7, hx380_8⟩ := at_T35 HR0.out x5_1 p380 q380
        obtain rfl : ad378 = ad380 := (by injection e380)
        replace hx380_0 := (HB.out.cell (World.block_lt_of_cell? w _ hx380_0)).trans hx380_0
        replace hx380_1 := (HB.out.cell (World.block_lt_of_cell? w _ hx380_1)).trans hx380_1
        replace hx380_2 := (HB.out.cell (World.block_lt_of_cell? w _ hx380_2)).trans hx380_2
        replace hx380_3 := (HB.out.cell (World.block_lt_of_cell? w _ hx380_3)).trans hx380_3
        replace hx380_4 := (HB.out.cell (World.block_lt_of_cell? w _ hx380_4)).trans hx380_4
        replace hx380_5 := (HB.out.cell (World.block_lt_of_cell? w _ hx380_5)).trans hx380_5
        replace hx380_6 := (HB.out.cell (World.block_lt_of_cell? w _ hx380_6)).trans hx380_6
        replace hx380_7 := (HB.out.cell (World.block_lt_of_cell? w _ hx380_7)).trans hx380_7
        replace hx380_8 := (HB.out.cell (World.block_lt_of_cell? w _ hx380_8)).trans hx380_8
        replace p380 := eq_true p380
        replace q380 := eq_true q380
        go_wp2_with (first | ((with_reducible refine gate_callee (f := 50) rfl ?_); refine gL_ (some 25) rfl rfl Tryz.func50 rfl #[.agg #[.string ((rd_T35 l0 x5_1).f0), .int .i64 ((rd_T35 l0 x5_1).f1), .int .i64 ((rd_T35 l0 x5_1).f2), .int .i64 ((rd_T35 l0 x5_1).f3), .int .i64 ((rd_T35 l0 x5_1).f4), .int .i64 ((rd_T35 l0 x5_1).f5), .int .i64 ((rd_T35 l0 x5_1).f6), .int .i64 ((rd_T35 l0 x5_1).f7), .int .u8 ((rd_T35 l0 x5_1).f8)], .bool t377] rfl ?_; (with_reducible refine (sorobanref21_piece.calls k1 ((rd_T35 l0 x5_1).f0) ((rd_T35 l0 x5_1).f1) ((rd_T35 l0 x5_1).f2) ((rd_T35 l0 x5_1).f3) ((rd_T35 l0 x5_1).f4) ((rd_T35 l0 x5_1).f5) ((rd_T35 l0 x5_1).f6) ((rd_T35 l0 x5_1).f7) ((rd_T35 l0 x5_1).f8) t377 t381 _ ?side1 A10.out).mono ?_); (case side1 => refine LD.below HLD.out ?_; exact yB_ HB.out); rintro e w12 ⟨rfl, hb⟩; refine ⟨_, rfl, ?_⟩; replace HB := Aside0.mk (below_step (by exact yB_ HB.out) hb); (try clear hb)))
        go_roundg k1
        case measure => have := HK1.out; omega
        case rel => exact ⟨(x3_1 ++ t381), (wrap64 (x5_1 + 1)), (by first | rfl | (simp; done) | (simp [*]; done)), (by first | rfl | (simp; done) | (simp [*]; done)), H', ⟨by have := HK1.out; omega⟩, ⟨by exact yB_ HB.out⟩⟩
       ·rw [if_neg c11] at H
        exact absurd H (by simp)
    ·rw [if_neg c5] at H
     exact absurd H (by simp)
   ·rw [if_neg c4] at H
    have c4b0 : decide (x5_1 < (l0.length : Int)) = false := decide_eq_false c4
    clear c4
    obtain rfl := Option.some.inj H
    go_wp2
    go_ret
    exact ⟨yE_, by exact yB_ HB.out⟩
end Go.Proofs.YtnhbgahfmcicnaaGreatDoor.PA
end
