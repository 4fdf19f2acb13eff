/- A part of the proof of the claim's statement. -/
import Derived.Test.YtnhbgahfmcicnaaGreatDoorPcK0
import Derived.Test.YtnhbgahfmcicnaaGreatDoorPcPAx0
import Derived.Test.YtnhbgahfmcicnaaGreatDoorPcG2a
section
namespace Go.Proofs.YtnhbgahfmcicnaaGreatDoor.PA
open Go.RowKit Go.Proofs.YtnhbgahfmcicnaaGreatDoorW.PrintWords Go.Proofs.YtnhbgahfmcicnaaGreatDoorW.PrintLast Go.Proofs.YtnhbgahfmcicnaaGreatDoorW.PrintMore
attribute [local go_sem] max2_int min2_int max_two min_two max_three min_three max_four min_four   -- for this text's walks alone
set_option linter.unusedVariables false
set_option linter.unusedSimpArgs false
mutual
def spec_ruleOf.j0 : Nat → Int → Bool → Option (Int × ByteArray × Bool × Bool × Bool)
 | 0, _, _ => none
 | k + 1, x4, x5 => if x5 = true then (some (55, (⟨#[105, 110, 116]⟩ : ByteArray), true, true, true)) else (if x4 = 117 then (some (49, (⟨#[105, 110, 116]⟩ : ByteArray), true, true, true)) else (if x4 = 111 then (spec_ruleOf.j1 k x4 (x4 == 111)) else (if x4 = 120 then (spec_ruleOf.j1 k x4 (x4 == 120)) else (if x4 = 88 then (spec_ruleOf.j1 k x4 (x4 == 88)) else (if x4 = 98 then (spec_ruleOf.j1 k x4 (x4 == 98)) else (spec_ruleOf.j1 k x4 (x4 == 66)))))))
def spec_ruleOf.j1 : Nat → Int → Bool → Option (Int × ByteArray × Bool × Bool × Bool)
 | 0, _, _ => none
 | k + 1, x4, x12 => if x12 = true then (some (25, (⟨#[105, 110, 116]⟩ : ByteArray), true, true, true)) else (if x4 = 101 then (spec_ruleOf.j2 k x4 (x4 == 101)) else (if x4 = 69 then (spec_ruleOf.j2 k x4 (x4 == 69)) else (if x4 = 97 then (spec_ruleOf.j2 k x4 (x4 == 97)) else (spec_ruleOf.j2 k x4 (x4 == 65)))))
def spec_ruleOf.j2 : Nat → Int → Bool → Option (Int × ByteArray × Bool × Bool × Bool)
 | 0, _, _ => none
 | k + 1, x4, x19 => if x19 = true then (some (31, (⟨#[102, 108, 111, 97, 116]⟩ : ByteArray), true, true, true)) else (if x4 = 102 then (spec_ruleOf.j3 k x4 (x4 == 102)) else (if x4 = 70 then (spec_ruleOf.j3 k x4 (x4 == 70)) else (if x4 = 103 then (spec_ruleOf.j3 k x4 (x4 == 103)) else (spec_ruleOf.j3 k x4 (x4 == 71)))))
def spec_ruleOf.j3 : Nat → Int → Bool → Option (Int × ByteArray × Bool × Bool × Bool)
 | 0, _, _ => none
 | k + 1, x4, x25 => if x25 = true then (some (63, (⟨#[102, 108, 111, 97, 116]⟩ : ByteArray), true, true, true)) else (if x4 = 99 then (some (1, (⟨#[99, 104, 97, 114]⟩ : ByteArray), true, false, true)) else (if x4 = 115 then (some (1, (⟨#[99, 104, 97, 114]⟩ : ByteArray), true, true, true)) else (if x4 = 112 then (some (1, (⟨#[]⟩ : ByteArray), true, false, true)) else (if x4 = 110 then (some (0, (⟨#[105, 110, 116]⟩ : ByteArray), false, false, true)) else (some (0, (⟨#[]⟩ : ByteArray), false, false, false))))))
end
def spec_ruleOf.f (k : Nat) (a0 : Int) : Option (Int × ByteArray × Bool × Bool × Bool) := if a0 = 100 then (spec_ruleOf.j0 k a0 (a0 == 100)) else (spec_ruleOf.j0 k a0 (a0 == 105))
theorem spec_ruleOf.mono_l : ∀ k, (∀ y0 y1, LeO (spec_ruleOf.j0 k y0 y1) (spec_ruleOf.j0 (k + 1) y0 y1)) ∧ (∀ y0 y1, LeO (spec_ruleOf.j1 k y0 y1) (spec_ruleOf.j1 (k + 1) y0 y1)) ∧ (∀ y0 y1, LeO (spec_ruleOf.j2 k y0 y1) (spec_ruleOf.j2 (k + 1) y0 y1)) ∧ (∀ y0 y1, LeO (spec_ruleOf.j3 k y0 y1) (spec_ruleOf.j3 (k + 1) y0 y1))
 | 0 => ⟨fun _ _ r h => by simp [spec_ruleOf.j0] at h, fun _ _ r h => by simp [spec_ruleOf.j1] at h, fun _ _ r h => by simp [spec_ruleOf.j2] at h, fun _ _ r h => by simp [spec_ruleOf.j3] at h⟩
 | k + 1 => by
  obtain ⟨ih0, ih1, ih2, ih3⟩ := spec_ruleOf.mono_l k
  refine ⟨?_, ?_, ?_, ?_⟩
  ·intro y0 y1
   unfold spec_ruleOf.j0
   repeat' first
   | (with_reducible exact ih0 _ _)
   | (with_reducible exact ih1 _ _)
   | (with_reducible exact ih2 _ _)
   | (with_reducible exact ih3 _ _)
   | (with_reducible exact LeO.refl _)
   | (with_reducible exact LeO.none _)
   | (with_reducible refine LeO.ite ?_ ?_)
   | (with_reducible refine LeO.bind ?_ (fun _ => ?_))
   | exact ih0 _ _
   | exact ih1 _ _
   | exact ih2 _ _
   | exact ih3 _ _
   | exact LeO.none _
   | refine LeO.ite ?_ ?_
   | refine LeO.bind ?_ (fun _ => ?_)
  ·intro y0 y1
   unfold spec_ruleOf.j1
   repeat' first
   | (with_reducible exact ih0 _ _)
   | (with_reducible exact ih1 _ _)
   | (with_reducible exact ih2 _ _)
   | (with_reducible exact ih3 _ _)
   | (with_reducible exact LeO.refl _)
   | (with_reducible exact LeO.none _)
   | (with_reducible refine LeO.ite ?_ ?_)
   | (with_reducible refine LeO.bind ?_ (fun _ => ?_))
   | exact ih0 _ _
   | exact ih1 _ _
   | exact ih2 _ _
   | exact ih3 _ _
   | exact LeO.none _
   | refine LeO.ite ?_ ?_
   | refine LeO.bind ?_ (fun _ => ?_)
  ·intro y0 y1
   unfold spec_ruleOf.j2
   repeat' first
   | (with_reducible exact ih0 _ _)
   | (with_reducible exact ih1 _ _)
   | (with_reducible exact ih2 _ _)
   | (with_reducible exact ih3 _ _)
   | (with_reducible exact LeO.refl _)
   | (with_reducible exact LeO.none _)
   | (with_reducible refine LeO.ite ?_ ?_)
   | (with_reducible refine LeO.bind ?_ (fun _ => ?_))
   | exact ih0 _ _
   | exact ih1 _ _
   | exact ih2 _ _
   | exact ih3 _ _
   | exact LeO.none _
   | refine LeO.ite ?_ ?_
   | refine LeO.bind ?_ (fun _ => ?_)
  ·intro y0 y1
   unfold spec_ruleOf.j3
   repeat' first
   | (with_reducible exact ih0 _ _)
   | (with_reducible exact ih1 _ _)
   | (with_reducible exact ih2 _ _)
   | (with_reducible exact ih3 _ _)
   | (with_reducible exact LeO.refl _)
   | (with_reducible exact LeO.none _)
   | (with_reducible refine LeO.ite ?_ ?_)
   | (with_reducible refine LeO.bind ?_ (fun _ => ?_))
   | exact ih0 _ _
   | exact ih1 _ _
   | exact ih2 _ _
   | exact ih3 _ _
   | exact LeO.none _
   | refine LeO.ite ?_ ?_
   | refine LeO.bind ?_ (fun _ => ?_)
theorem spec_ruleOf.mono : ∀ a0 k, LeO (spec_ruleOf.f k a0) (spec_ruleOf.f (k + 1) a0) := by
 intro a0 k
 obtain ⟨ih0, ih1, ih2, ih3⟩ := spec_ruleOf.mono_l k
 unfold spec_ruleOf.f
 repeat' first
   | (with_reducible exact ih0 _ _)
   | (with_reducible exact ih1 _ _)
   | (with_reducible exact ih2 _ _)
   | (with_reducible exact ih3 _ _)
   | (with_reducible exact LeO.refl _)
   | (with_reducible exact LeO.none _)
   | (with_reducible refine LeO.ite ?_ ?_)
   | (with_reducible refine LeO.bind ?_ (fun _ => ?_))
   | exact ih0 _ _
   | exact ih1 _ _
   | exact ih2 _ _
   | exact ih3 _ _
   | exact LeO.none _
   | refine LeO.ite ?_ ?_
   | refine LeO.bind ?_ (fun _ => ?_)
set_option maxHeartbeats 8000000 in
set_option maxRecDepth 100000 in
theorem spec_ruleOf.calls (k : Nat) (a0 : Int) (r1 : Int) (r2 : ByteArray) (r3 : Bool) (r4 : Bool) (r5 : Bool) (w : World) (h : spec_ruleOf.f k a0 = some (r1, r2, r3, r4, r5)) :
  Calls Tryz.prog 46 #[.int .u8 a0] w fun e w' => e = .returned (.tuple #[.agg #[.int .i64 r1, .string r2, .bool r3, .bool r4], .bool r5]) ∧ Below w.heap.size w w' := by
 have hu85 := Tryz.underlying85
 have HB := Aside0.mk (Below.refl w.heap.size w)
 have H : (if a0 = 100 then (spec_ruleOf.j0 k a0 (a0 == 100)) else (spec_ruleOf.j0 k a0 (a0 == 105))) = some (r1, r2, r3, r4, r5) := h
 clear h
 have HC2 := Aside0.mk H
 clear H
 go_enter Tryz.func46, Tryz.ntmps46
 go_upto_if 5 with (first | ((with_reducible refine gate_dst (N := 2) rfl ?_); refine box_event ?hg (N := 2) ?hd (cs := #[.int .i64 0, .string (⟨#[]⟩ : ByteArray), .bool false, .bool false]) (t := 85) ?hr ?_; (case hd => rfl); (case hg => rfl); (case hr => first | (go_simp; done) | (go_simp; rfl)); intro gb125 hg w3 hbox hb; have n0_ := Aside0.mk (below_step (by exact yB_ HB.out) hb); have n1_ := Aside0.mk (hbox); have n2_ := Aside0.mk ((by rw [hg]; exact (below_size (by exact yB_ HB.out)) : w.heap.size ≤ gb125)); have n3_ := n2_; clear HB; have HB := n0_; have BK125 := n1_; have GW125 := n2_; have GE125 := n3_; clear n0_ n1_ n2_ n3_; clear hb hbox hg))
 (try simp only [Act.put, List.setIfInBounds_toArray, List.set_cons_zero, List.set_cons_succ])
 go_cut [5] (fun v5 wc => ∃ (kq : Nat) (x5_1 : Bool), v5 = .bool x5_1 ∧ Aside0 (spec_ruleOf.j0 kq a0 x5_1 = some (r1, r2, r3, r4, r5)) ∧ Aside0 (kq ≤ k) ∧ Aside0 (wc.heap[gb125]? = some (.cells #[.int .i64 0, .string (⟨#[]⟩ : ByteArray), .bool false, .bool false] 85 (0, 0))) ∧ Aside0 (Below w.heap.size w wc))
 case first =>
  have H := HC2.out
  clear HC2
  by_cases c4 : a0 = 100
  ·rw [if_pos c4] at H
   have c4b0 : (a0 == 100) = true := beq_iff_eq.mpr c4
   have c4b1 : (a0 != 100) = false := bne_eq_false_iff_eq.mpr c4
   clear c4
   (first | rw [c4b0] | (simp only [i64_w, i32_w]; rw [c4b0]) | skip)
   have H' := Aside0.mk H
   clear H
   go_wp2
   go_meet
   case rel => exact ⟨_, ((a0 == 100)), (by first | rfl | (simp; done) | (simp [*]; done)), H', ⟨by first | omega | exact Nat.le_refl _⟩, ⟨by exact yK_ BK125.out⟩, ⟨by exact yS_ HB.out GE125.out⟩⟩
  ·rw [if_neg c4] at H
   have c4b0 : (a0 == 100) = false := beq_eq_false_iff_ne.mpr c4
   have c4b1 : (a0 != 100) = true := bne_iff_ne.mpr c4
   (first | rw [c4b0] | (simp only [i64_w, i32_w]; rw [c4b0]) | skip)
   have H' := Aside0.mk H
   clear H
   go_wp2
   go_meet
   case rel => exact ⟨_, ((a0 == 105)), (by first | rfl | (simp; done) | (simp [*]; done)), H', ⟨by first | omega | exact Nat.le_refl _⟩, ⟨by exact yK_ BK125.out⟩, ⟨by exact yS_ HB.out GE125.out⟩⟩
 case rest =>
  clear HC2
  try clear p2
  try clear c4
  try clear c4b0
  try clear c4b1
  obtain ⟨kq, x5_1, rfl, HA, HJ1, BK125, HB⟩ := hcut
  cases kq with
  | zero => exact absurd HA.out (by simp [spec_ruleOf.j0])
  | succ kj1 =>
   have H := HA.out
   clear HA
   simp only [spec_ruleOf.j0] at H
   by_cases c5 : x5_1 = true
   ·subst c5
    have H1 : (some (55, (⟨#[105, 110, 116]⟩ : ByteArray), true, true, true)) = some (r1, r2, r3, r4, r5) := by rw [if_pos rfl] at H; exact H
    clear H
    have H := H1
    clear H1
    simp only [Option.some.injEq, Prod.mk.injEq] at H
    obtain ⟨rfl, rfl, rfl, rfl, rfl⟩ := H
    have hcz6_0 : wc.cell? ⟨gb125, 0, none⟩ = some (.int .i64 0) := (blk_cell BK125.out 0).trans rfl
    have hcz6_1 : wc.cell? ⟨gb125, 1, none⟩ = some (.string (⟨#[]⟩ : ByteArray)) := (blk_cell BK125.out 1).trans rfl
    have hcz6_2 : wc.cell? ⟨gb125, 2, none⟩ = some (.bool false) := (blk_cell BK125.out 2).trans rfl
    have hcz6_3 : wc.cell? ⟨gb125, 3, none⟩ = some (.bool false) := (blk_cell BK125.out 3).trans rfl
    have hfz6_0 := blk_frozen BK125.out 0
    have hfz6_1 := blk_frozen BK125.out 1
    have hfz6_2 := blk_frozen BK125.out 2
    have hfz6_3 := blk_frozen BK125.out 3
    go_wp2
    refine bodyPost_ret (results_ct rfl _ _ gb125 85 #[.int .i64 55, .string (⟨#[105, 110, 116]⟩ : ByteArray), .bool true, .bool true] (0, 0) _ rfl (by (with_reducible repeat (first | refine blk_drewN ?_ _ | refine blk_drew ?_ | refine blk_alloc ?_ _)); refine blk_put (cs := #[.int .i64 55, .string (⟨#[105, 110, 116]⟩ : ByteArray), .bool true, .bool false]) ?_ 3 _ rfl; (with_reducible repeat (first | refine blk_drewN ?_ _ | refine blk_drew ?_ | refine blk_alloc ?_ _)); refine blk_put (cs := #[.int .i64 55, .string (⟨#[105, 110, 116]⟩ : ByteArray), .bool false, .bool false]) ?_ 2 _ rfl; (with_reducible repeat (first | refine blk_drewN ?_ _ | refine blk_drew ?_ | refine blk_alloc ?_ _)); refine blk_put (cs := #[.int .i64 55, .string (⟨#[]⟩ : ByteArray), .bool false, .bool false]) ?_ 1 _ rfl; (with_reducible repeat (first | refine blk_drewN ?_ _ | refine blk_drew ?_ | refine blk_alloc ?_ _)); refine blk_put (cs := #[.int .i64 0, .string (⟨#[]⟩ : ByteArray), .bool false, .bool false]) ?_ 0 _ rfl; exact yK_ BK125.out) Tryz.underlying85 rfl (by kernel_rfl)) rfl ?_
    exact ⟨yE_, by exact yS_ HB.out GE125.out⟩
   ·replace c5 := Bool.eq_false_iff.mpr c5
    subst c5
    have H1 : (if a0 = 117 then (some (49, (⟨#[105, 110, 116]⟩ : ByteArray), true, true, true)) else (if a0 = 111 then (spec_ruleOf.j1 kj1 a0 (a0 == 111)) else (if a0 = 120 then (spec_ruleOf.j1 kj1 a0 (a0 == 120)) else (if a0 = 88 then (spec_ruleOf.j1 kj1 a0 (a0 == 88)) else (if a0 = 98 then (spec_ruleOf.j1 kj1 a0 (a0 == 98)) else (spec_ruleOf.j1 kj1 a0 (a0 == 66))))))) = some (r1, r2, r3, r4, r5) := by rw [if_neg (show ¬ (false = true) by decide)] at H; exact H
    clear H
    have H := H1
    clear H1
    by_cases c7 : a0 = 117
    ·rw [if_pos c7] at H
     have c7b0 : (a0 == 117) = true := beq_iff_eq.mpr c7
     have c7b1 : (a0 != 117) = false := bne_eq_false_iff_eq.mpr c7
     clear c7
     simp only [Option.some.injEq, Prod.mk.injEq] at H
     obtain ⟨rfl, rfl, rfl, rfl, rfl⟩ := H
     have hcz8_0 : wc.cell? ⟨gb125, 0, none⟩ = some (.int .i64 0) := (blk_cell BK125.out 0).trans rfl
     have hcz8_1 : wc.cell? ⟨gb125, 1, none⟩ = some (.string (⟨#[]⟩ : ByteArray)) := (blk_cell BK125.out 1).trans rfl
     have hcz8_2 : wc.cell? ⟨gb125, 2, none⟩ = some (.bool false) := (blk_cell BK125.out 2).trans rfl
     have hcz8_3 : wc.cell? ⟨gb125, 3, none⟩ = some (.bool false) := (blk_cell BK125.out 3).trans rfl
     have hfz8_0 := blk_frozen BK125.out 0
     have hfz8_1 := blk_frozen BK125.out 1
     have hfz8_2 := blk_frozen BK125.out 2
     have hfz8_3 := blk_frozen BK125.out 3
     go_wp2
     refine bodyPost_ret (results_ct rfl _ _ gb125 85 #[.int .i64 49, .string (⟨#[105, 110, 116]⟩ : ByteArray), .bool true, .bool true] (0, 0) _ rfl (by (with_reducible repeat (first | refine blk_drewN ?_ _ | refine blk_drew ?_ | refine blk_alloc ?_ _)); refine blk_put (cs := #[.int .i64 49, .string (⟨#[105, 110, 116]⟩ : ByteArray), .bool true, .bool false]) ?_ 3 _ rfl; (with_reducible repeat (first | refine blk_drewN ?_ _ | refine blk_drew ?_ | refine blk_alloc ?_ _)); refine blk_put (cs := #[.int .i64 49, .string (⟨#[105, 110, 116]⟩ : ByteArray), .bool false, .bool false]) ?_ 2 _ rfl; (with_reducible repeat (first | refine blk_drewN ?_ _ | refine blk_drew ?_ | refine blk_alloc ?_ _)); refine blk_put (cs := #[.int .i64 49, .string (⟨#[]⟩ : ByteArray), .bool false, .bool false]) ?_ 1 _ rfl; (with_reducible repeat (first | refine blk_drewN ?_ _ | refine blk_drew ?_ | refine blk_alloc ?_ _)); refine blk_put (cs := #[.int .i64 0, .string (⟨#[]⟩ : ByteArray), .bool false, .bool false]) ?_ 0 _ rfl; exact yK_ BK125.out) Tryz.underlying85 rfl (by kernel_rfl)) rfl ?_
     exact ⟨yE_, by exact yS_ HB.out GE125.out⟩
    ·rw [if_neg c7] at H
     have c7b0 : (a0 == 117) = false := beq_eq_false_iff_ne.mpr c7
     have c7b1 : (a0 != 117) = true := bne_iff_ne.mpr c7
     have HC9 := Aside0.mk H
     clear H
     go_upto_if 12 with (fail)
     go_cut [12] (fun v12 wc => ∃ (kq : Nat) (x12_8 : Bool), v12 = .bool x12_8 ∧ Aside0 (spec_ruleOf.j1 kq a0 x12_8 = some (r1, r2, r3, r4, r5)) ∧ Aside0 (kq ≤ kj1) ∧ Aside0 (wc.heap[gb125]? = some (.cells #[.int .i64 0, .string (⟨#[]⟩ : ByteArray), .bool false, .bool false] 85 (0, 0))) ∧ Aside0 (Below w.heap.size w wc))
     case first =>
      have H := HC9.out
      clear HC9
      by_cases c10 : a0 = 111
      ·rw [if_pos c10] at H
       have c10b0 : (a0 == 111) = true := beq_iff_eq.mpr c10
       have c10b1 : (a0 != 111) = false := bne_eq_false_iff_eq.mpr c10
       clear c10
       (first | rw [c10b0] | (simp only [i64_w, i32_w]; rw [c10b0]) | skip)
       have H' := Aside0.mk H
       clear H
       go_wp2
       go_meet
       case rel => exact ⟨_, ((a0 == 111)), (by first | rfl | (simp; done) | (simp [*]; done)), H', ⟨by have := HJ1.out; first | omega | exact Nat.le_refl _⟩, ⟨by exact yK_ BK125.out⟩, ⟨by exact yS_ HB.out GE125.out⟩⟩
      ·rw [if_neg c10] at H
       have c10b0 : (a0 == 111) = false := beq_eq_false_iff_ne.mpr c10
       have c10b1 : (a0 != 111) = true := bne_iff_ne.mpr c10
       (first | rw [c10b0] | (simp only [i64_w, i32_w]; rw [c10b0]) | skip)
       by_cases c11 : a0 = 120
       ·rw [if_pos c11] at H
        have c11b0 : (a0 == 120) = true := beq_iff_eq.mpr c11
        have c11b1 : (a0 != 120) = false := bne_eq_false_iff_eq.mpr c11
        clear c11
        have H' := Aside0.mk H
        clear H
        go_wp2
        go_meet
        case rel => exact ⟨_, ((a0 == 120)), (by first | rfl | (simp; done) | (simp [*]; done)), H', ⟨by have := HJ1.out; first | omega | exact Nat.le_refl _⟩, ⟨by exact yK_ BK125.out⟩, ⟨by exact yS_ HB.out GE125.out⟩⟩
       ·rw [if_neg c11] at H
        have c11b0 : (a0 == 120) = false := beq_eq_false_iff_ne.mpr c11
        have c11b1 : (a0 != 120) = true := bne_iff_ne.mpr c11
        by_cases c12 : a0 = 88
        ·rw [if_pos c12] at H
         have c12b0 : (a0 == 88) = true := beq_iff_eq.mpr c12
         have c12b1 : (a0 != 88) = false := bne_eq_false_iff_eq.mpr c12
         clear c12
         have H' := Aside0.mk H
         clear H
         go_wp2
         go_meet
         case rel => exact ⟨_, ((a0 == 88)), (by first | rfl | (simp; done) | (simp [*]; done)), H', ⟨by have := HJ1.out; first | omega | exact Nat.le_refl _⟩, ⟨by exact yK_ BK125.out⟩, ⟨by exact yS_ HB.out GE125.out⟩⟩
        ·rw [if_neg c12] at H
         have c12b0 : (a0 == 88) = false := beq_eq_false_iff_ne.mpr c12
         have c12b1 : (a0 != 88) = true := bne_iff_ne.mpr c12
         by_cases c13 : a0 = 98
         ·rw [if_pos c13] at H
          have c13b0 : (a0 == 98) = true := beq_iff_eq.mpr c13
          have c13b1 : (a0 != 98) = false := bne_eq_false_iff_eq.mpr c13
          clear c13
          have H' := Aside0.mk H
          clear H
          go_wp2
          go_meet
          case rel => exact ⟨_, ((a0 == 98)), (by first | rfl | (simp; done) | (simp [*]; done)), H', ⟨by have := HJ1.out; first | omega | exact Nat.le_refl _⟩, ⟨by exact yK_ BK125.out⟩, ⟨by exact yS_ HB.out GE125.out⟩⟩
         ·rw [if_neg c13] at H
          have c13b0 : (a0 == 98) = false := beq_eq_false_iff_ne.mpr c13
          have c13b1 : (a0 != 98) = true := bne_iff_ne.mpr c13
          have H' := Aside0.mk H
          clear H
          go_wp2
          go_meet
          case rel => exact ⟨_, ((a0 == 66)), (by first | rfl | (simp; done) | (simp [*]; done)), H', ⟨by have := HJ1.out; first | omega | exact Nat.le_refl _⟩, ⟨by exact yK_ BK125.out⟩, ⟨by exact yS_ HB.out GE125.out⟩⟩
     case rest =>
      clear HC9
      try clear c1
      try clear p2
      try clear c4
      try clear c4b0
      try clear c4b1
      try clear c5
      try clear c7
      try clear c7b0
      try clear c7b1
      try clear c10
      try clear c10b0
      try clear c10b1
      try clear c11
      try clear c11b0
      try clear c11b1
      try clear c12
      try clear c12b0
      try clear c12b1
      try clear c13
      try clear c13b0
      try clear c13b1
      try clear hcz6_0
      try clear hcz6_1
      try clear hcz6_2
      try clear hcz6_3
      try clear hcz8_0
      try clear hcz8_1
      try clear hcz8_2
      try clear hcz8_3
      try clear hfz6_0
      try clear hfz6_1
      try clear hfz6_2
      try clear hfz6_3
      try clear hfz8_0
      try clear hfz8_1
      try clear hfz8_2
      try clear hfz8_3
      try clear p2
      obtain ⟨kq, x12_8, rfl, HA, HJ8, BK125, HB⟩ := hcut
      cases kq with
      | zero => exact absurd HA.out (by simp [spec_ruleOf.j1])
      | succ kj8 =>
       have H := HA.out
       clear HA
       simp only [spec_ruleOf.j1] at H
       by_cases c14 : x12_8 = true
       ·subst c14
        have H1 : (some (25, (⟨#[105, 110, 116]⟩ : ByteArray), true, true, true)) = some (r1, r2, r3, r4, r5) := by rw [if_pos rfl] at H; exact H
        clear H
        have H := H1
        clear H1
        simp only [Option.some.injEq, Prod.mk.injEq] at H
        obtain ⟨rfl, rfl, rfl, rfl, rfl⟩ := H
        have hcz15_0 : wc.cell? ⟨gb125, 0, none⟩ = some (.int .i64 0) := (blk_cell BK125.out 0).trans rfl
        have hcz15_1 : wc.cell? ⟨gb125, 1, none⟩ = some (.string (⟨#[]⟩ : ByteArray)) := (blk_cell BK125.out 1).trans rfl
        have hcz15_2 : wc.cell? ⟨gb125, 2, none⟩ = some (.bool false) := (blk_cell BK125.out 2).trans rfl
        have hcz15_3 : wc.cell? ⟨gb125, 3, none⟩ = some (.bool false) := (blk_cell BK125.out 3).trans rfl
        have hfz15_0 := blk_frozen BK125.out 0
        have hfz15_1 := blk_frozen BK125.out 1
        have hfz15_2 := blk_frozen BK125.out 2
        have hfz15_3 := blk_frozen BK125.out 3
        go_wp2
        refine bodyPost_ret (results_ct rfl _ _ gb125 85 #[.int .i64 25, .string (⟨#[105, 110, 116]⟩ : ByteArray), .bool true, .bool true] (0, 0) _ rfl (by (with_reducible repeat (first | refine blk_drewN ?_ _ | refine blk_drew ?_ | refine blk_alloc ?_ _)); refine blk_put (cs := #[.int .i64 25, .string (⟨#[105, 110, 116]⟩ : ByteArray), .bool true, .bool false]) ?_ 3 _ rfl; (with_reducible repeat (first | refine blk_drewN ?_ _ | refine blk_drew ?_ | refine blk_alloc ?_ _)); refine blk_put (cs := #[.int .i64 25, .string (⟨#[105, 110, 116]⟩ : ByteArray), .bool false, .bool false]) ?_ 2 _ rfl; (with_reducible repeat (first | refine blk_drewN ?_ _ | refine blk_drew ?_ | refine blk_alloc ?_ _)); refine blk_put (cs := #[.int .i64 25, .string (⟨#[]⟩ : ByteArray), .bool false, .bool false]) ?_ 1 _ rfl; (with_reducible repeat (first | refine blk_drewN ?_ _ | refine blk_drew ?_ | refine blk_alloc ?_ _)); refine blk_put (cs := #[.int .i64 0, .string (⟨#[]⟩ : ByteArray), .bool false, .bool false]) ?_ 0 _ rfl; exact yK_ BK125.out) Tryz.underlying85 rfl (by kernel_rfl)) rfl ?_
        exact ⟨yE_, by exact yS_ HB.out GE125.out⟩
       ·replace c14 := Bool.eq_false_iff.mpr c14
        subst c14
        have H1 : (if a0 = 101 then (spec_ruleOf.j2 kj8 a0 (a0 == 101)) else (if a0 = 69 then (spec_ruleOf.j2 kj8 a0 (a0 == 69)) else (if a0 = 97 then (spec_ruleOf.j2 kj8 a0 (a0 == 97)) else (spec_ruleOf.j2 kj8 a0 (a0 == 65))))) = some (r1, r2, r3, r4, r5) := by rw [if_neg (show ¬ (false = true) by decide)] at H; exact H
        clear H
        have H := H1
        clear H1
        have HC16 := Aside0.mk H
        clear H
        go_upto_if 19 with (fail)
        go_cut [19] (fun v19 wc => ∃ (kq : Nat) (x19_15 : Bool), v19 = .bool x19_15 ∧ Aside0 (spec_ruleOf.j2 kq a0 x19_15 = some (r1, r2, r3, r4, r5)) ∧ Aside0 (kq ≤ kj8) ∧ Aside0 (wc.heap[gb125]? = some (.cells #[.int .i64 0, .string (⟨#[]⟩ : ByteArray), .bool false, .bool false] 85 (0, 0))) ∧ Aside0 (Below w.heap.size w wc))
        case first =>
         have H := HC16.out
         clear HC16
         by_cases c17 : a0 = 101
         ·rw [if_pos c17] at H
          have c17b0 : (a0 == 101) = true := beq_iff_eq.mpr c17
          have c17b1 : (a0 != 101) = false := bne_eq_false_iff_eq.mpr c17
          clear c17
          (first | rw [c17b0] | (simp only [i64_w, i32_w]; rw [c17b0]) | skip)
          have H' := Aside0.mk H
          clear H
          go_wp2
          go_meet
          case rel => exact ⟨_, ((a0 == 101)), (by first | rfl | (simp; done) | (simp [*]; done)), H', ⟨by have := HJ1.out; have := HJ8.out; first | omega | exact Nat.le_refl _⟩, ⟨by exact yK_ BK125.out⟩, ⟨by exact yS_ HB.out GE125.out⟩⟩
         ·rw [if_neg c17] at H
          have c17b0 : (a0 == 101) = false := beq_eq_false_iff_ne.mpr c17
          have c17b1 : (a0 != 101) = true := bne_iff_ne.mpr c17
          (first | rw [c17b0] | (simp only [i64_w, i32_w]; rw [c17b0]) | skip)
          by_cases c18 : a0 = 69
          ·rw [if_pos c18] at H
           have c18b0 : (a0 == 69) = true := beq_iff_eq.mpr c18
           have c18b1 : (a0 != 69) = false := bne_eq_false_iff_eq.mpr c18
           clear c18
           have H' := Aside0.mk H
           clear H
           go_wp2
           go_meet
           case rel => exact ⟨_, ((a0 == 69)), (by first | rfl | (simp; done) | (simp [*]; done)), H', ⟨by have := HJ1.out; have := HJ8.out; first | omega | exact Nat.le_refl _⟩, ⟨by exact yK_ BK125.out⟩, ⟨by exact yS_ HB.out GE125.out⟩⟩
          ·rw [if_neg c18] at H
           have c18b0 : (a0 == 69) = false := beq_eq_false_iff_ne.mpr c18
           have c18b1 : (a0 != 69) = true := bne_iff_ne.mpr c18
           by_cases c19 : a0 = 97
           ·rw [if_pos c19] at H
            have c19b0 : (a0 == 97) = true := beq_iff_eq.mpr c19
            have c19b1 : (a0 != 97) = false := bne_eq_false_iff_eq.mpr c19
            clear c19
            have H' := Aside0.mk H
            clear H
            go_wp2
            go_meet
            case rel => exact ⟨_, ((a0 == 97)), (by first | rfl | (simp; done) | (simp [*]; done)), H', ⟨by have := HJ1.out; have := HJ8.out; first | omega | exact Nat.le_refl _⟩, ⟨by exact yK_ BK125.out⟩, ⟨by exact yS_ HB.out GE125.out⟩⟩
           ·rw [if_neg c19] at H
            have c19b0 : (a0 == 97) = false := beq_eq_false_iff_ne.mpr c19
            have c19b1 : (a0 != 97) = true := bne_iff_ne.mpr c19
            have H' := Aside0.mk H
            clear H
            go_wp2
            go_meet
            case rel => exact ⟨_, ((a0 == 65)), (by first | rfl | (simp; done) | (simp [*]; done)), H', ⟨by have := HJ1.out; have := HJ8.out; first | omega | exact Nat.le_refl _⟩, ⟨by exact yK_ BK125.out⟩, ⟨by exact yS_ HB.out GE125.out⟩⟩
        case rest =>
         clear HC16
         try clear c1
         try clear p2
         try clear c4
         try clear c4b0
         try clear c4b1
         try clear c5
         try clear c7
         try clear c7b0
         try clear c7b1
         try clear c10
         try clear c10b0
         try clear c10b1
         try clear c11
         try clear c11b0
         try clear c11b1
         try clear c12
         try clear c12b0
         try clear c12b1
         try clear c13
         try clear c13b0
         try clear c13b1
         try clear c14
         try clear c17
         try clear c17b0
         try clear c17b1
         try clear c18
         try clear c18b0
         try clear c18b1
         try clear c19
         try clear c19b0
         try clear c19b1
         try clear hcz15_0
         try clear hcz15_1
         try clear hcz15_2
         try clear hcz15_3
         try clear hcz6_0
         try clear hcz6_1
         try clear hcz6_2
         try clear hcz6_3
         try clear hcz8_0
         try clear hcz8_1
         try clear hcz8_2
         try clear hcz8_3
         try clear hfz15_0
         try clear hfz15_1
         try clear hfz15_2
         try clear hfz15_3
         try clear hfz6_0
         try clear hfz6_1
         try clear hfz6_2
         try clear hfz6_3
         try clear hfz8_0
         try clear hfz8_1
         try clear hfz8_2
         try clear hfz8_3
         try clear p2
         obtain ⟨kq, x19_15, rfl, HA, HJ15, BK125, HB⟩ := hcut
         cases kq with
         | zero => exact absurd HA.out (by simp [spec_ruleOf.j2])
         | succ kj15 =>
          have H := HA.out
          clear HA
          simp only [spec_ruleOf.j2] at H
          by_cases c20 : x19_15 = true
          ·subst c20
           have H1 : (some (31, (⟨#[102, 108, 111, 97, 116]⟩ : ByteArray), true, true, true)) = some (r1, r2, r3, r4, r5) := by rw [if_pos rfl] at H; exact H
           clear H
           have H := H1
           clear H1
           simp only [Option.some.injEq, Prod.mk.injEq] at H
           obtain ⟨rfl, rfl, rfl, rfl, rfl⟩ := H
           have hcz21_0 : wc.cell? ⟨gb125, 0, none⟩ = some (.int .i64 0) := (blk_cell BK125.out 0).trans rfl
           have hcz21_1 : wc.cell? ⟨gb125, 1, none⟩ = some (.string (⟨#[]⟩ : ByteArray)) := (blk_cell BK125.out 1).trans rfl
           have hcz21_2 : wc.cell? ⟨gb125, 2, none⟩ = some (.bool false) := (blk_cell BK125.out 2).trans rfl
           have hcz21_3 : wc.cell? ⟨gb125, 3, none⟩ = some (.bool false) := (blk_cell BK125.out 3).trans rfl
           have hfz21_0 := blk_frozen BK125.out 0
           have hfz21_1 := blk_frozen BK125.out 1
           have hfz21_2 := blk_frozen BK125.out 2
           have hfz21_3 := blk_frozen BK125.out 3
           go_wp2
           refine bodyPost_ret (results_ct rfl _ _ gb125 85 #[.int .i64 31, .string (⟨#[102, 108, 111, 97, 116]⟩ : ByteArray), .bool true, .bool true] (0, 0) _ rfl (by (with_reducible repeat (first | refine blk_drewN ?_ _ | refine blk_drew ?_ | refine blk_alloc ?_ _)); refine blk_put (cs := #[.int .i64 31, .string (⟨#[102, 108, 111, 97, 116]⟩ : ByteArray), .bool true, .bool false]) ?_ 3 _ rfl; (with_reducible repeat (first | refine blk_drewN ?_ _ | refine blk_drew ?_ | refine blk_alloc ?_ _)); refine blk_put (cs := #[.int .i64 31, .string (⟨#[102, 108, 111, 97, 116]⟩ : ByteArray), .bool false, .bool false]) ?_ 2 _ rfl; (with_reducible repeat (first | refine blk_drewN ?_ _ | refine blk_drew ?_ | refine blk_alloc ?_ _)); refine blk_put (cs := #[.int .i64 31, .string (⟨#[]⟩ : ByteArray), .bool false, .bool false]) ?_ 1 _ rfl; (with_reducible repeat (first | refine blk_drewN ?_ _ | refine blk_drew ?_ | refine blk_alloc ?_ _)); refine blk_put (cs := #[.int .i64 0, .string (⟨#[]⟩ : ByteArray), .bool false, .bool false]) ?_ 0 _ rfl; exact yK_ BK125.out) Tryz.underlying85 rfl (by kernel_rfl)) rfl ?_
           exact ⟨yE_, by exact yS_ HB.out GE125.out⟩
          ·replace c20 := Bool.eq_false_iff.mpr c20
           subst c20
           have H1 : (if a0 = 102 then (spec_ruleOf.j3 kj15 a0 (a0 == 102)) else (if a0 = 70 then (spec_ruleOf.j3 kj15 a0 (a0 == 70)) else (if a0 = 103 then (spec_ruleOf.j3 kj15 a0 (a0 == 103)) else (spec_ruleOf.j3 kj15 a0 (a0 == 71))))) = some (r1, r2, r3, r4, r5) := by rw [if_neg (show ¬ (false = true) by decide)] at H; exact H
           clear H
           have H := H1
           clear H1
           have HC22 := Aside0.mk H
           clear H
           go_upto_if 25 with (fail)
           go_cut [25] (fun v25 wc => ∃ (kq : Nat) (x25_21 : Bool), v25 = .bool x25_21 ∧ Aside0 (spec_ruleOf.j3 kq a0 x25_21 = some (r1, r2, r3, r4, r5)) ∧ Aside0 (kq ≤ kj15) ∧ Aside0 (wc.heap[gb125]? = some (.cells #[.int .i64 0, .string (⟨#[]⟩ : ByteArray), .bool false, .bool false] 85 (0, 0))) ∧ Aside0 (Below w.heap.size w wc))
           case first =>
            have H := HC22.out
            clear HC22
            by_cases c23 : a0 = 102
            ·rw [if_pos c23] at H
             have c23b0 : (a0 == 102) = true := beq_iff_eq.mpr c23
             have c23b1 : (a0 != 102) = false := bne_eq_false_iff_eq.mpr c23
             clear c23
             (first | rw [c23b0] | (simp only [i64_w, i32_w]; rw [c23b0]) | skip)
             have H' := Aside0.mk H
             clear H
             go_wp2
             go_meet
             case rel => exact ⟨_, ((a0 == 102)), (by first | rfl | (simp; done) | (simp [*]; done)), H', ⟨by have := HJ1.out; have := HJ8.out; have := HJ15.out; first | omega | exact Nat.le_refl _⟩, ⟨by exact yK_ BK125.out⟩, ⟨by exact yS_ HB.out GE125.out⟩⟩
            ·rw [if_neg c23] at H
             have c23b0 : (a0 == 102) = false := beq_eq_false_iff_ne.mpr c23
             have c23b1 : (a0 != 102) = true := bne_iff_ne.mpr c23
             (first | rw [c23b0] | (simp only [i64_w, i32_w]; rw [c23b0]) | skip)
             by_cases c24 : a0 = 70
             ·rw [if_pos c24] at H
              have c24b0 : (a0 == 70) = true := beq_iff_eq.mpr c24
              have c24b1 : (a0 != 70) = false := bne_eq_false_iff_eq.mpr c24
              clear c24
              have H' := Aside0.mk H
              clear H
              go_wp2
              go_meet
              case rel => exact ⟨_, ((a0 == 70)), (by first | rfl | (simp; done) | (simp [*]; done)), H', ⟨by have := HJ1.out; have := HJ8.out; have := HJ15.out; first | omega | exact Nat.le_refl _⟩, ⟨by exact yK_ BK125.out⟩, ⟨by exact yS_ HB.out GE125.out⟩⟩
             ·rw [if_neg c24] at H
              have c24b0 : (a0 == 70) = false := beq_eq_false_iff_ne.mpr c24
              have c24b1 : (a0 != 70) = true := bne_iff_ne.mpr c24
              by_cases c25 : a0 = 103
              ·rw [if_pos c25] at H
               have c25b0 : (a0 == 103) = true := beq_iff_eq.mpr c25
               have c25b1 : (a0 != 103) = false := bne_eq_false_iff_eq.mpr c25
               clear c25
               have H' := Aside0.mk H
               clear H
               go_wp2
               go_meet
               case rel => exact ⟨_, ((a0 == 103)), (by first | rfl | (simp; done) | (simp [*]; done)), H', ⟨by have := HJ1.out; have := HJ8.out; have := HJ15.out; first | omega | exact Nat.le_refl _⟩, ⟨by exact yK_ BK125.out⟩, ⟨by exact yS_ HB.out GE125.out⟩⟩
              ·rw [if_neg c25] at H
               have c25b0 : (a0 == 103) = false := beq_eq_false_iff_ne.mpr c25
               have c25b1 : (a0 != 103) = true := bne_iff_ne.mpr c25
               have H' := Aside0.mk H
               clear H
               go_wp2
               go_meet
               case rel => exact ⟨_, ((a0 == 71)), (by first | rfl | (simp; done) | (simp [*]; done)), H', ⟨by have := HJ1.out; have := HJ8.out; have := HJ15.out; first | omega | exact Nat.le_refl _⟩, ⟨by exact yK_ BK125.out⟩, ⟨by exact yS_ HB.out GE125.out⟩⟩
           case rest =>
            clear HC22
            try clear c1
            try clear c2
            try clear p2
            try clear c4
            try clear c4b0
            try clear c4b1
            try clear c5
            try clear c7
            try clear c7b0
            try clear c7b1
            try clear c10
            try clear c10b0
            try clear c10b1
            try clear c11
            try clear c11b0
            try clear c11b1
            try clear c12
            try clear c12b0
            try clear c12b1
            try clear c13
            try clear c13b0
            try clear c13b1
            try clear c14
            try clear c17
            try clear c17b0
            try clear c17b1
            try clear c18
            try clear c18b0
            try clear c18b1
            try clear c19
            try clear c19b0
            try clear c19b1
            try clear c20
            try clear c23
            try clear c23b0
            try clear c23b1
            try clear c24
            try clear c24b0
            try clear c24b1
            try clear c25
            try clear c25b0
            try clear c25b1
            try clear hcz15_0
            try clear hcz15_1
            try clear hcz15_2
            try clear hcz15_3
            try clear hcz21_0
            try clear hcz21_1
            try clear hcz21_2
            try clear hcz21_3
            try clear hcz6_0
            try clear hcz6_1
            try clear hcz6_2
            try clear hcz6_3
            try clear hcz8_0
            try clear hcz8_1
            try clear hcz8_2
            try clear hcz8_3
            try clear hfz15_0
            try clear hfz15_1
            try clear hfz15_2
            try clear hfz15_3
            try clear hfz21_0
            try clear hfz21_1
            try clear hfz21_2
            try clear hfz21_3
            try clear hfz6_0
            try clear hfz6_1
            try clear hfz6_2
            try clear hfz6_3
            try clear hfz8_0
            try clear hfz8_1
            try clear hfz8_2
            try clear hfz8_3
            try clear p2
            obtain ⟨kq, x25_21, rfl, HA, HJ21, BK125, HB⟩ := hcut
            cases kq with
            | zero => exact absurd HA.out (by simp [spec_ruleOf.j3])
            | succ kj21 =>
             have H := HA.out
             clear HA
             simp only [spec_ruleOf.j3] at H
             by_cases c26 : x25_21 = true
             ·subst c26
              have H1 : (some (63, (⟨#[102, 108, 111, 97, 116]⟩ : ByteArray), true, true, true)) = some (r1, r2, r3, r4, r5) := by rw [if_pos rfl] at H; exact H
              clear H
              have H := H1
              clear H1
              simp only [Option.some.injEq, Prod.mk.injEq] at H
              obtain ⟨rfl, rfl, rfl, rfl, rfl⟩ := H
              have hcz27_0 : wc.cell? ⟨gb125, 0, none⟩ = some (.int .i64 0) := (blk_cell BK125.out 0).trans rfl
              have hcz27_1 : wc.cell? ⟨gb125, 1, none⟩ = some (.string (⟨#[]⟩ : ByteArray)) := (blk_cell BK125.out 1).trans rfl
              have hcz27_2 : wc.cell? ⟨gb125, 2, none⟩ = some (.bool false) := (blk_cell BK125.out 2).trans rfl
              have hcz27_3 : wc.cell? ⟨gb125, 3, none⟩ = some (.bool false) := (blk_cell BK125.out 3).trans rfl
              have hfz27_0 := blk_frozen BK125.out 0
              have hfz27_1 := blk_frozen BK125.out 1
              have hfz27_2 := blk_frozen BK125.out 2
              have hfz27_3 := blk_frozen BK125.out 3
              go_wp2
              refine bodyPost_ret (results_ct rfl _ _ gb125 85 #[.int .i64 63, .string (⟨#[102, 108, 111, 97, 116]⟩ : ByteArray), .bool true, .bool true] (0, 0) _ rfl (by (with_reducible repeat (first | refine blk_drewN ?_ _ | refine blk_drew ?_ | refine blk_alloc ?_ _)); refine blk_put (cs := #[.int .i64 63, .string (⟨#[102, 108, 111, 97, 116]⟩ : ByteArray), .bool true, .bool false]) ?_ 3 _ rfl; (with_reducible repeat (first | refine blk_drewN ?_ _ | refine blk_drew ?_ | refine blk_alloc ?_ _)); refine blk_put (cs := #[.int .i64 63, .string (⟨#[102, 108, 111, 97, 116]⟩ : ByteArray), .bool false, .bool false]) ?_ 2 _ rfl; (with_reducible repeat (first | refine blk_drewN ?_ _ | refine blk_drew ?_ | refine blk_alloc ?_ _)); refine blk_put (cs := #[.int .i64 63, .string (⟨#[]⟩ : ByteArray), .bool false, .bool false]) ?_ 1 _ rfl; (with_reducible repeat (first | refine blk_drewN ?_ _ | refine blk_drew ?_ | refine blk_alloc ?_ _)); refine blk_put (cs := #[.int .i64 0, .string (⟨#[]⟩ : ByteArray), .bool false, .bool false]) ?_ 0 _ rfl; exact yK_ BK125.out) Tryz.underlying85 rfl (by kernel_rfl)) rfl ?_
              exact ⟨yE_, by exact yS_ HB.out GE125.out⟩
             ·replace c26 := Bool.eq_false_iff.mpr c26
              subst c26
              have H1 : (if a0 = 99 then (some (1, (⟨#[99, 104, 97, 114]⟩ : ByteArray), true, false, true)) else (if a0 = 115 then (some (1, (⟨#[99, 104, 97, 114]⟩ : ByteArray), true, true, true)) else (if a0 = 112 then (some (1, (⟨#[]⟩ : ByteArray), true, false, true)) else (if a0 = 110 then (some (0, (⟨#[105, 110, 116]⟩ : ByteArray), false, false, true)) else (some (0, (⟨#[]⟩ : ByteArray), false, false, false)))))) = some (r1, r2, r3, r4, r5) := by rw [if_neg (show ¬ (false = true) by decide)] at H; exact H
              clear H
              have H := H1
              clear H1
              by_cases c28 : a0 = 99
              ·rw [if_pos c28] at H
               have c28b0 : (a0 == 99) = true := beq_iff_eq.mpr c28
               have c28b1 : (a0 != 99) = false := bne_eq_false_iff_eq.mpr c28
               clear c28
               simp only [Option.some.injEq, Prod.mk.injEq] at H
               obtain ⟨rfl, rfl, rfl, rfl, rfl⟩ := H
               have hcz29_0 : wc.cell? ⟨gb125, 0, none⟩ = some (.int .i64 0) := (blk_cell BK125.out 0).trans rfl
               have hcz29_1 : wc.cell? ⟨gb125, 1, none⟩ = some (.string (⟨#[]⟩ : ByteArray)) := (blk_cell BK125.out 1).trans rfl
               have hcz29_2 : wc.cell? ⟨gb125, 2, none⟩ = some (.bool false) := (blk_cell BK125.out 2).trans rfl
               have hcz29_3 : wc.cell? ⟨gb125, 3, none⟩ = some (.bool false) := (blk_cell BK125.out 3).trans rfl
               have hfz29_0 := blk_frozen BK125.out 0
               have hfz29_1 := blk_frozen BK125.out 1
               have hfz29_2 := blk_frozen BK125.out 2
               have hfz29_3 := blk_frozen BK125.out 3
               go_wp2
               refine bodyPost_ret (results_ct rfl _ _ gb125 85 #[.int .i64 1, .string (⟨#[99, 104, 97, 114]⟩ : ByteArray), .bool true, .bool false] (0, 0) _ rfl (by (with_reducible repeat (first | refine blk_drewN ?_ _ | refine blk_drew ?_ | refine blk_alloc ?_ _)); refine blk_put (cs := #[.int .i64 1, .string (⟨#[99, 104, 97, 114]⟩ : ByteArray), .bool true, .bool false]) ?_ 3 _ rfl; (with_reducible repeat (first | refine blk_drewN ?_ _ | refine blk_drew ?_ | refine blk_alloc ?_ _)); refine blk_put (cs := #[.int .i64 1, .string (⟨#[99, 104, 97, 114]⟩ : ByteArray), .bool false, .bool false]) ?_ 2 _ rfl; (with_reducible repeat (first | refine blk_drewN ?_ _ | refine blk_drew ?_ | refine blk_alloc ?_ _)); refine blk_put (cs := #[.int .i64 1, .string (⟨#[]⟩ : ByteArray), .bool false, .bool false]) ?_ 1 _ rfl; (with_reducible repeat (first | refine blk_drewN ?_ _ | refine blk_drew ?_ | refine blk_alloc ?_ _)); refine blk_put (cs := #[.int .i64 0, .string (⟨#[]⟩ : ByteArray), .bool false, .bool false]) ?_ 0 _ rfl; exact yK_ BK125.out) Tryz.underlying85 rfl (by kernel_rfl)) rfl ?_
               exact ⟨yE_, by exact yS_ HB.out GE125.out⟩
              ·rw [if_neg c28] at H
               have c28b0 : (a0 == 99) = false := beq_eq_false_iff_ne.mpr c28
               have c28b1 : (a0 != 99) = true := bne_iff_ne.mpr c28
               by_cases c30 : a0 = 115
               ·rw [if_pos c30] at H
                have c30b0 : (a0 == 115) = true := beq_iff_eq.mpr c30
                have c30b1 : (a0 != 115) = false := bne_eq_false_iff_eq.mpr c30
                clear c30
                simp only [Option.some.injEq, Prod.mk.injEq] at H
                obtain ⟨rfl, rfl, rfl, rfl, rfl⟩ := H
                have hcz31_0 : wc.cell? ⟨gb125, 0, none⟩ = some (.int .i64 0) := (blk_cell BK125.out 0).trans rfl
                have hcz31_1 : wc.cell? ⟨gb125, 1, none⟩ = some (.string (⟨#[]⟩ : ByteArray)) := (blk_cell BK125.out 1).trans rfl
                have hcz31_2 : wc.cell? ⟨gb125, 2, none⟩ = some (.bool false) := (blk_cell BK125.out 2).trans rfl
                have hcz31_3 : wc.cell? ⟨gb125, 3, none⟩ = some (.bool false) := (blk_cell BK125.out 3).trans rfl
                have hfz31_0 := blk_frozen BK125.out 0
                have hfz31_1 := blk_frozen BK125.out 1
                have hfz31_2 := blk_frozen BK125.out 2
                have hfz31_3 := blk_frozen BK125.out 3
                go_wp2
                refine bodyPost_ret (results_ct rfl _ _ gb125 85 #[.int .i64 1, .string (⟨#[99, 104, 97, 114]⟩ : ByteArray), .bool true, .bool true] (0, 0) _ rfl (by (with_reducible repeat (first | refine blk_drewN ?_ _ | refine blk_drew ?_ | refine blk_alloc ?_ _)); refine blk_put (cs := #[.int .i64 1, .string (⟨#[99, 104, 97, 114]⟩ : ByteArray), .bool true, .bool false]) ?_ 3 _ rfl; (with_reducible repeat (first | refine blk_drewN ?_ _ | refine blk_drew ?_ | refine blk_alloc ?_ _)); refine blk_put (cs := #[.int .i64 1, .string (⟨#[99, 104, 97, 114]⟩ : ByteArray), .bool false, .bool false]) ?_ 2 _ rfl; (with_reducible repeat (first | refine blk_drewN ?_ _ | refine blk_drew ?_ | refine blk_alloc ?_ _)); refine blk_put (cs := #[.int .i64 1, .string (⟨#[]⟩ : ByteArray), .bool false, .bool false]) ?_ 1 _ rfl; (with_reducible repeat (first | refine blk_drewN ?_ _ | refine blk_drew ?_ | refine blk_alloc ?_ _)); refine blk_put (cs := #[.int .i64 0, .string (⟨#[]⟩ : ByteArray), .bool false, .bool false]) ?_ 0 _ rfl; exact yK_ BK125.out) Tryz.underlying85 rfl (by kernel_rfl)) rfl ?_
                exact ⟨yE_, by exact yS_ HB.out GE125.out⟩
               ·rw [if_neg c30] at H
                have c30b0 : (a0 == 115) = false := beq_eq_false_iff_ne.mpr c30
                have c30b1 : (a0 != 115) = true := bne_iff_ne.mpr c30
                by_cases c32 : a0 = 112
                ·rw [if_pos c32] at H
                 have c32b0 : (a0 == 112) = true := beq_iff_eq.mpr c32
                 have c32b1 : (a0 != 112) = false := bne_eq_false_iff_eq.mpr c32
                 clear c32
                 simp only [Option.some.injEq, Prod.mk.injEq] at H
                 obtain ⟨rfl, rfl, rfl, rfl, rfl⟩ := H
                 have hcz33_0 : wc.cell? ⟨gb125, 0, none⟩ = some (.int .i64 0) := (blk_cell BK125.out 0).trans rfl
                 have hcz33_1 : wc.cell? ⟨gb125, 1, none⟩ = some (.string (⟨#[]⟩ : ByteArray)) := (blk_cell BK125.out 1).trans rfl
                 have hcz33_2 : wc.cell? ⟨gb125, 2, none⟩ = some (.bool false) := (blk_cell BK125.out 2).trans rfl
                 have hcz33_3 : wc.cell? ⟨gb125, 3, none⟩ = some (.bool false) := (blk_cell BK125.out 3).trans rfl
                 have hfz33_0 := blk_frozen BK125.out 0
                 have hfz33_1 := blk_frozen BK125.out 1
                 have hfz33_2 := blk_frozen BK125.out 2
                 have hfz33_3 := blk_frozen BK125.out 3
                 go_wp2
                 refine bodyPost_ret (results_ct rfl _ _ gb125 85 #[.int .i64 1, .string (⟨#[]⟩ : ByteArray), .bool true, .bool false] (0, 0) _ rfl (by (with_reducible repeat (first | refine blk_drewN ?_ _ | refine blk_drew ?_ | refine blk_alloc ?_ _)); refine blk_put (cs := #[.int .i64 1, .string (⟨#[]⟩ : ByteArray), .bool true, .bool false]) ?_ 3 _ rfl; (with_reducible repeat (first | refine blk_drewN ?_ _ | refine blk_drew ?_ | refine blk_alloc ?_ _)); refine blk_put (cs := #[.int .i64 1, .string (⟨#[]⟩ : ByteArray), .bool false, .bool false]) ?_ 2 _ rfl; (with_reducible repeat (first | refine blk_drewN ?_ _ | refine blk_drew ?_ | refine blk_alloc ?_ _)); refine blk_put (cs := #[.int .i64 1, .string (⟨#[]⟩ : ByteArray), .bool false, .bool false]) ?_ 1 _ rfl; (with_reducible repeat (first | refine blk_drewN ?_ _ | refine blk_drew ?_ | refine blk_alloc ?_ _)); refine blk_put (cs := #[.int .i64 0, .string (⟨#[]⟩ : ByteArray), .bool false, .bool false]) ?_ 0 _ rfl; exact yK_ BK125.out) Tryz.underlying85 rfl (by kernel_rfl)) rfl ?_
                 exact ⟨yE_, by exact yS_ HB.out GE125.out⟩
                ·rw [if_neg c32] at H
                 have c32b0 : (a0 == 112) = false := beq_eq_false_iff_ne.mpr c32
                 have c32b1 : (a0 != 112) = true := bne_iff_ne.mpr c32
                 by_cases c34 : a0 = 110
                 ·rw [if_pos c34] at H
                  have c34b0 : (a0 == 110) = true := beq_iff_eq.mpr c34
                  have c34b1 : (a0 != 110) = false := bne_eq_false_iff_eq.mpr c34
                  clear c34
                  simp only [Option.some.injEq, Prod.mk.injEq] at H
                  obtain ⟨rfl, rfl, rfl, rfl, rfl⟩ := H
                  have hcz35_0 : wc.cell? ⟨gb125, 0, none⟩ = some (.int .i64 0) := (blk_cell BK125.out 0).trans rfl
                  have hcz35_1 : wc.cell? ⟨gb125, 1, none⟩ = some (.string (⟨#[]⟩ : ByteArray)) := (blk_cell BK125.out 1).trans rfl
                  have hcz35_2 : wc.cell? ⟨gb125, 2, none⟩ = some (.bool false) := (blk_cell BK125.out 2).trans rfl
                  have hcz35_3 : wc.cell? ⟨gb125, 3, none⟩ = some (.bool false) := (blk_cell BK125.out 3).trans rfl
                  have hfz35_0 := blk_frozen BK125.out 0
                  have hfz35_1 := blk_frozen BK125.out 1
                  have hfz35_2 := blk_frozen BK125.out 2
                  have hfz35_3 := blk_frozen BK125.out 3
                  go_wp2
                  refine bodyPost_ret (results_ct rfl _ _ gb125 85 #[.int .i64 0, .string (⟨#[105, 110, 116]⟩ : ByteArray), .bool false, .bool false] (0, 0) _ rfl (by (with_reducible repeat (first | refine blk_drewN ?_ _ | refine blk_drew ?_ | refine blk_alloc ?_ _)); refine blk_put (cs := #[.int .i64 0, .string (⟨#[105, 110, 116]⟩ : ByteArray), .bool false, .bool false]) ?_ 3 _ rfl; (with_reducible repeat (first | refine blk_drewN ?_ _ | refine blk_drew ?_ | refine blk_alloc ?_ _)); refine blk_put (cs := #[.int .i64 0, .string (⟨#[105, 110, 116]⟩ : ByteArray), .bool false, .bool false]) ?_ 2 _ rfl; (with_reducible repeat (first | refine blk_drewN ?_ _ | refine blk_drew ?_ | refine blk_alloc ?_ _)); refine blk_put (cs := #[.int .i64 0, .string (⟨#[]⟩ : ByteArray), .bool false, .bool false]) ?_ 1 _ rfl; (with_reducible repeat (first | refine blk_drewN ?_ _ | refine blk_drew ?_ | refine blk_alloc ?_ _)); refine blk_put (cs := #[.int .i64 0, .string (⟨#[]⟩ : ByteArray), .bool false, .bool false]) ?_ 0 _ rfl; exact yK_ BK125.out) Tryz.underlying85 rfl (by kernel_rfl)) rfl ?_
                  exact ⟨yE_, by exact yS_ HB.out GE125.out⟩
                 ·rw [if_neg c34] at H
                  have c34b0 : (a0 == 110) = false := beq_eq_false_iff_ne.mpr c34
                  have c34b1 : (a0 != 110) = true := bne_iff_ne.mpr c34
                  simp only [Option.some.injEq, Prod.mk.injEq] at H
                  obtain ⟨rfl, rfl, rfl, rfl, rfl⟩ := H
                  have hcz36_0 : wc.cell? ⟨gb125, 0, none⟩ = some (.int .i64 0) := (blk_cell BK125.out 0).trans rfl
                  have hcz36_1 : wc.cell? ⟨gb125, 1, none⟩ = some (.string (⟨#[]⟩ : ByteArray)) := (blk_cell BK125.out 1).trans rfl
                  have hcz36_2 : wc.cell? ⟨gb125, 2, none⟩ = some (.bool false) := (blk_cell BK125.out 2).trans rfl
                  have hcz36_3 : wc.cell? ⟨gb125, 3, none⟩ = some (.bool false) := (blk_cell BK125.out 3).trans rfl
                  have hfz36_0 := blk_frozen BK125.out 0
                  have hfz36_1 := blk_frozen BK125.out 1
                  have hfz36_2 := blk_frozen BK125.out 2
                  have hfz36_3 := blk_frozen BK125.out 3
                  go_wp2
                  refine bodyPost_ret (results_ct rfl _ _ gb125 85 #[.int .i64 0, .string (⟨#[]⟩ : ByteArray), .bool false, .bool false] (0, 0) _ rfl (by (with_reducible repeat (first | refine blk_drewN ?_ _ | refine blk_drew ?_ | refine blk_alloc ?_ _)); refine blk_put (cs := #[.int .i64 0, .string (⟨#[]⟩ : ByteArray), .bool false, .bool false]) ?_ 3 _ rfl; (with_reducible repeat (first | refine blk_drewN ?_ _ | refine blk_drew ?_ | refine blk_alloc ?_ _)); refine blk_put (cs := #[.int .i64 0, .string (⟨#[]⟩ : ByteArray), .bool false, .bool false]) ?_ 2 _ rfl; (with_reducible repeat (first | refine blk_drewN ?_ _ | refine blk_drew ?_ | refine blk_alloc ?_ _)); refine blk_put (cs := #[.int .i64 0, .string (⟨#[]⟩ : ByteArray), .bool false, .bool false]) ?_ 1 _ rfl; (with_reducible repeat (first | refine blk_drewN ?_ _ | refine blk_drew ?_ | refine blk_alloc ?_ _)); refine blk_put (cs := #[.int .i64 0, .string (⟨#[]⟩ : ByteArray), .bool false, .bool false]) ?_ 0 _ rfl; exact yK_ BK125.out) Tryz.underlying85 rfl (by kernel_rfl)) rfl ?_
                  exact ⟨yE_, by exact yS_ HB.out GE125.out⟩
def spec_all.l0 : Nat → List Int → List (S35) → Int → Int → Option (List Int)
 | 0, _, _, _, _ => none
 | k + 1, x3, x6, x7, x8 => if x8 < x7 then (if 0 ≤ x8 then (if x8 < (x6.length : Int) then ((spec_numbers.f ((rd_T35 x6 x8).f0) ((rd_T35 x6 x8).f1) ((rd_T35 x6 x8).f2) ((rd_T35 x6 x8).f3) ((rd_T35 x6 x8).f4) ((rd_T35 x6 x8).f5) ((rd_T35 x6 x8).f6) ((rd_T35 x6 x8).f7) ((rd_T35 x6 x8).f8)).bind fun t128 => (if x3.length + t128.length < 17592186044416 then (spec_all.l0 k (x3 ++ t128) x6 x7 (wrap64 (x8 + 1))) else (none))) else (none)) else (none)) else (some x3)
def spec_all.f (k : Nat) (l0 : List (S35)) : Option (List Int) := spec_all.l0 k ([] : List Int) l0 (l0.length : Int) 0
set_option maxHeartbeats 8000000 in
set_option maxRecDepth 100000 in
theorem spec_all.calls (k : Nat) (A0 : Option Addr) (c0 : Nat) (l0 : List (S35)) (r : List Int) (w : World) (hr0 : Kd.C k35 w A0 l0.length l0) (hc0 : l0.length ≤ c0) (h : spec_all.f k l0 = some r) :
  Calls Tryz.prog 34 #[.slice A0 l0.length c0] w fun e w' => ∃ v0_ : Value, e = .returned (v0_) ∧ Kd.R (Kd.int .i64) 3 w' w.heap.size (fun _ => True) v0_ r ∧ Below w.heap.size w w' := by
 have hu35 := Tryz.underlying35
 have HR0 := Aside0.mk hr0
 have HC0 := Aside0.mk hc0
 clear hr0 hc0
 have HB := Aside0.mk (Below.refl w.heap.size w)
 have H : (spec_all.l0 k ([] : List Int) l0 (l0.length : Int) 0) = some r := h
 clear h
 have H' := Aside0.mk H
 clear H
 go_enter Tryz.func34, Tryz.ntmps34
 go_wp2
 go_loopg [3, 8] k (fun kq v3 v8 w' => ∃ (x3_1 : List Int) (x8_1 : Int), v8 = .int .i64 x8_1 ∧ Aside0 (spec_all.l0 kq x3_1 l0 (l0.length : Int) x8_1 = some r) ∧ Aside0 (kq ≤ k) ∧ Aside0 (Kd.R (Kd.int .i64) 3 w' w.heap.size (fun _ => True) v3 x3_1) ∧ Aside0 (Below w.heap.size w w'))
 case atStart => exact ⟨(([] : List Int)), (0), (by first | rfl | (simp; done) | (simp [*]; done)), H', ⟨Nat.le_refl _⟩, ⟨by first | exact Kd.R_nil _ _ _ _ _ | exact Kd.N_nil _ _ _ _ _ | exact Kd.V_nil _ _ _ _ _ | exact Kd.Q_nil _ _ _ _ _ | exact Kd.S_nil _ _ _ _ _⟩, ⟨by exact yB_ HB.out⟩⟩
 case round =>
  clear H'
  obtain ⟨x3_1, x8_1, rfl, HA, HK1, HO_3, HB⟩ := hrel
  cases gk with
  | zero => exact absurd HA.out (by simp [spec_all.l0])
  | succ k1 =>
   have H := HA.out
   clear HA
   simp only [spec_all.l0] at H
   by_cases c2 : x8_1 < (l0.length : Int)
   ·rw [if_pos c2] at H
    have c2b0 : decide (x8_1 < (l0.length : Int)) = true := decide_eq_true c2
    clear c2
    by_cases c3 : 0 ≤ x8_1
    ·rw [if_pos c3] at H
     have c3b0 : decide (0 ≤ x8_1) = true := decide_eq_true c3
     clear c3
     by_cases c4 : x8_1 < (l0.length : Int)
     ·rw [if_pos c4] at H
      have c4b0 : decide (x8_1 < (l0.length : Int)) = true := decide_eq_true c4
      clear c4
      replace H := Option.bind_eq_some_iff.mp H
      obtain ⟨t128, A50, H⟩ := H
      replace H : (if x3_1.length + t128.length < 17592186044416 then (spec_all.l0 k1 (x3_1 ++ t128) l0 (l0.length : Int) (wrap64 (x8_1 + 1))) else (none)) = some r := H
      have A5 := Aside0.mk A50
      clear A50
      by_cases c6 : x3_1.length + t128.length < 17592186044416
      ·rw [if_pos c6] at H
       have LMc6 := Aside0.mk c6
       clear c6
       obtain ⟨y131, hy131⟩ : ∃ y_ : List Int, y_ = (x3_1 ++ t128) := ⟨_, rfl⟩
       replace H : (spec_all.l0 k1 y131 l0 (l0.length : Int) (wrap64 (x8_1 + 1))) = some r := by first | (rw [hy131]; with_reducible exact H) | (have H2_ := (Option.bind_some _ _).symm.trans H; rw [hy131]; with_reducible exact H2_) | (have H2_ := (Option.bind_some _ _).symm.trans H; with_reducible exact H2_) | with_reducible exact H | (rw [hy131]; exact H) | exact H
       have Ny131 := Aside0.mk hy131
       clear hy131
       have H' := Aside0.mk H
       clear H
       have p126 : 0 ≤ (x8_1 : Int) := of_decide_eq_true (by first | (with_reducible assumption) | assumption)
       have q126 : x8_1 < (l0.length : Int) := of_decide_eq_true (by first | (with_reducible assumption) | assumption)
       obtain ⟨ad126, e126, hx126_0, hx126_1, hx126_2, hx126_3, hx126_4, hx126_5, hx126_6, hx126_7, hx126_8⟩ := at_T35 HR0.out x8_1 p126 q126
       cases e126
       replace hx126_0 := (HB.out.cell (World.block_lt_of_cell? w _ hx126_0)).trans hx126_0
       replace hx126_1 := (HB.out.cell (World.block_lt_of_cell? w _ hx126_1)).trans hx126_1
       replace hx126_2 := (HB.out.cell (World.block_lt_of_cell? w _ hx126_2)).trans hx126_2
       replace hx126_3 := (HB.out.cell (World.block_lt_of_cell? w _ hx126_3)).trans hx126_3
       replace hx126_4 := (HB.out.cell (World.block_lt_of_cell? w _ hx126_4)).trans hx126_4
       replace hx126_5 := (HB.out.cell (World.block_lt_of_cell? w _ hx126_5)).trans hx126_5
       replace hx126_6 := (HB.out.cell (World.block_lt_of_cell? w _ hx126_6)).trans hx126_6
       replace hx126_7 := (HB.out.cell (World.block_lt_of_cell? w _ hx126_7)).trans hx126_7
       replace hx126_8 := (HB.out.cell (World.block_lt_of_cell? w _ hx126_8)).trans hx126_8
       replace p126 := eq_true p126
       replace q126 := eq_true q126
       go_wp2_with (first | ((with_reducible refine gate_dst (N := 5) rfl ?_); refine box_event ?hg (N := 5) ?hd (cs := #[.string (⟨#[]⟩ : ByteArray), .int .i64 0, .int .i64 0, .int .i64 0, .int .i64 0, .int .i64 0, .int .i64 0, .int .i64 0, .int .u8 0]) (t := 35) ?hr ?_; (case hd => rfl); (case hg => rfl); (case hr => first | (go_simp; done) | (go_simp; rfl)); intro gb127 hg w7 hbox hb; have n0_ := Aside0.mk (Kd.R_below (by exact yR_ HO_3.out) hb); have n1_ := Aside0.mk (below_step (by exact yB_ HB.out) hb); have n2_ := Aside0.mk (hbox); have n3_ := Aside0.mk ((by rw [hg]; exact (below_size (by exact yB_ HB.out)) : w.heap.size ≤ gb127)); have n4_ := Aside0.mk ((by rw [hg]; exact (below_size (by exact yB_ HB.out)) : w.heap.size ≤ gb127)); clear HO_3; clear HB; have HO_3 := n0_; have HB := n1_; have BK127 := n2_; have GW127 := n3_; have GE127 := n4_; clear n0_ n1_ n2_ n3_ n4_; clear hb hbox hg; obtain ⟨hcz8_0, hcz8_1, hcz8_2, hcz8_3, hcz8_4, hcz8_5, hcz8_6, hcz8_7, hcz8_8, hfz8_0, hfz8_1, hfz8_2, hfz8_3, hfz8_4, hfz8_5, hfz8_6, hfz8_7, hfz8_8⟩ : At9 w7 gb127 (.string (⟨#[]⟩ : ByteArray)) (.int .i64 0) (.int .i64 0) (.int .i64 0) (.int .i64 0) (.int .i64 0) (.int .i64 0) (.int .i64 0) (.int .u8 0) := at9 BK127.out rfl) | ((with_reducible refine gate_callee (f := 60) rfl ?_); refine gL_ (some 14) rfl rfl Tryz.func60 rfl #[.agg #[.string ((rd_T35 l0 x8_1).f0), .int .i64 ((rd_T35 l0 x8_1).f1), .int .i64 ((rd_T35 l0 x8_1).f2), .int .i64 ((rd_T35 l0 x8_1).f3), .int .i64 ((rd_T35 l0 x8_1).f4), .int .i64 ((rd_T35 l0 x8_1).f5), .int .i64 ((rd_T35 l0 x8_1).f6), .int .i64 ((rd_T35 l0 x8_1).f7), .int .u8 ((rd_T35 l0 x8_1).f8)]] rfl ?_; (with_reducible refine (spec_numbers.calls ((rd_T35 l0 x8_1).f0) ((rd_T35 l0 x8_1).f1) ((rd_T35 l0 x8_1).f2) ((rd_T35 l0 x8_1).f3) ((rd_T35 l0 x8_1).f4) ((rd_T35 l0 x8_1).f5) ((rd_T35 l0 x8_1).f6) ((rd_T35 l0 x8_1).f7) ((rd_T35 l0 x8_1).f8) t128 _ A5.out).mono ?_); rintro e w9 ⟨v129, rfl, ho0, hb⟩; refine ⟨_, rfl, ?_⟩; have n0_ := Aside0.mk (Kd.R_elder' (by (with_reducible repeat (first | apply Kd.R_alloc | apply Kd.R_drewN | apply Kd.R_drew)); exact (Kd.R_mono (Kd.R_far (p := ⟨gb127, 8, none⟩) (Kd.R_far (p := ⟨gb127, 7, none⟩) (Kd.R_far (p := ⟨gb127, 6, none⟩) (Kd.R_far (p := ⟨gb127, 5, none⟩) (Kd.R_far (p := ⟨gb127, 4, none⟩) (Kd.R_far (p := ⟨gb127, 3, none⟩) (Kd.R_far (p := ⟨gb127, 2, none⟩) (Kd.R_far (p := ⟨gb127, 1, none⟩) (Kd.R_far (p := ⟨gb127, 0, none⟩) (Kd.R_types HO_3.out BK127.out (by decide)) (fun _ hk => hk.2) (.string ((rd_T35 l0 x8_1).f0))) (fun _ hk => hk.2) (.int .i64 ((rd_T35 l0 x8_1).f1))) (fun _ hk => hk.2) (.int .i64 ((rd_T35 l0 x8_1).f2))) (fun _ hk => hk.2) (.int .i64 ((rd_T35 l0 x8_1).f3))) (fun _ hk => hk.2) (.int .i64 ((rd_T35 l0 x8_1).f4))) (fun _ hk => hk.2) (.int .i64 ((rd_T35 l0 x8_1).f5))) (fun _ hk => hk.2) (.int .i64 ((rd_T35 l0 x8_1).f6))) (fun _ hk => hk.2) (.int .i64 ((rd_T35 l0 x8_1).f7))) (fun _ hk => hk.2) (.int .u8 ((rd_T35 l0 x8_1).f8))) (fun _ h_ => h_.1))) (Kd.R_base ho0) hb); have n1_ := Aside0.mk (Kd.R_lower (Kd.R_new' ho0 (Kd.R_lt (by (with_reducible repeat (first | apply Kd.R_alloc | apply Kd.R_drewN | apply Kd.R_drew)); exact (Kd.R_mono (Kd.R_far (p := ⟨gb127, 8, none⟩) (Kd.R_far (p := ⟨gb127, 7, none⟩) (Kd.R_far (p := ⟨gb127, 6, none⟩) (Kd.R_far (p := ⟨gb127, 5, none⟩) (Kd.R_far (p := ⟨gb127, 4, none⟩) (Kd.R_far (p := ⟨gb127, 3, none⟩) (Kd.R_far (p := ⟨gb127, 2, none⟩) (Kd.R_far (p := ⟨gb127, 1, none⟩) (Kd.R_far (p := ⟨gb127, 0, none⟩) (Kd.R_types HO_3.out BK127.out (by decide)) (fun _ hk => hk.2) (.string ((rd_T35 l0 x8_1).f0))) (fun _ hk => hk.2) (.int .i64 ((rd_T35 l0 x8_1).f1))) (fun _ hk => hk.2) (.int .i64 ((rd_T35 l0 x8_1).f2))) (fun _ hk => hk.2) (.int .i64 ((rd_T35 l0 x8_1).f3))) (fun _ hk => hk.2) (.int .i64 ((rd_T35 l0 x8_1).f4))) (fun _ hk => hk.2) (.int .i64 ((rd_T35 l0 x8_1).f5))) (fun _ hk => hk.2) (.int .i64 ((rd_T35 l0 x8_1).f6))) (fun _ hk => hk.2) (.int .i64 ((rd_T35 l0 x8_1).f7))) (fun _ hk => hk.2) (.int .u8 ((rd_T35 l0 x8_1).f8))) (fun _ h_ => h_.1))))) (below_size (by exact yS_ HB.out GE127.out))); have n2_ := Aside0.mk (blk_below (g := gb127) (o := .cells #[.string ((rd_T35 l0 x8_1).f0), .int .i64 ((rd_T35 l0 x8_1).f1), .int .i64 ((rd_T35 l0 x8_1).f2), .int .i64 ((rd_T35 l0 x8_1).f3), .int .i64 ((rd_T35 l0 x8_1).f4), .int .i64 ((rd_T35 l0 x8_1).f5), .int .i64 ((rd_T35 l0 x8_1).f6), .int .i64 ((rd_T35 l0 x8_1).f7), .int .u8 ((rd_T35 l0 x8_1).f8)] 35 (0, 0)) (by (with_reducible repeat (first | refine blk_drewN ?_ _ | refine blk_drew ?_ | refine blk_alloc ?_ _)); refine blk_put (cs := #[.string ((rd_T35 l0 x8_1).f0), .int .i64 ((rd_T35 l0 x8_1).f1), .int .i64 ((rd_T35 l0 x8_1).f2), .int .i64 ((rd_T35 l0 x8_1).f3), .int .i64 ((rd_T35 l0 x8_1).f4), .int .i64 ((rd_T35 l0 x8_1).f5), .int .i64 ((rd_T35 l0 x8_1).f6), .int .i64 ((rd_T35 l0 x8_1).f7), .int .u8 0]) ?_ 8 _ rfl; (with_reducible repeat (first | refine blk_drewN ?_ _ | refine blk_drew ?_ | refine blk_alloc ?_ _)); refine blk_put (cs := #[.string ((rd_T35 l0 x8_1).f0), .int .i64 ((rd_T35 l0 x8_1).f1), .int .i64 ((rd_T35 l0 x8_1).f2), .int .i64 ((rd_T35 l0 x8_1).f3), .int .i64 ((rd_T35 l0 x8_1).f4), .int .i64 ((rd_T35 l0 x8_1).f5), .int .i64 ((rd_T35 l0 x8_1).f6), .int .i64 0, .int .u8 0]) ?_ 7 _ rfl; (with_reducible repeat (first | refine blk_drewN ?_ _ | refine blk_drew ?_ | refine blk_alloc ?_ _)); refine blk_put (cs := #[.string ((rd_T35 l0 x8_1).f0), .int .i64 ((rd_T35 l0 x8_1).f1), .int .i64 ((rd_T35 l0 x8_1).f2), .int .i64 ((rd_T35 l0 x8_1).f3), .int .i64 ((rd_T35 l0 x8_1).f4), .int .i64 ((rd_T35 l0 x8_1).f5), .int .i64 0, .int .i64 0, .int .u8 0]) ?_ 6 _ rfl; (with_reducible repeat (first | refine blk_drewN ?_ _ | refine blk_drew ?_ | refine blk_alloc ?_ _)); refine blk_put (cs := #[.string ((rd_T35 l0 x8_1).f0), .int .i64 ((rd_T35 l0 x8_1).f1), .int .i64 ((rd_T35 l0 x8_1).f2), .int .i64 ((rd_T35 l0 x8_1).f3), .int .i64 ((rd_T35 l0 x8_1).f4), .int .i64 0, .int .i64 0, .int .i64 0, .int .u8 0]) ?_ 5 _ rfl; (with_reducible repeat (first | refine blk_drewN ?_ _ | refine blk_drew ?_ | refine blk_alloc ?_ _)); refine blk_put (cs := #[.string ((rd_T35 l0 x8_1).f0), .int .i64 ((rd_T35 l0 x8_1).f1), .int .i64 ((rd_T35 l0 x8_1).f2), .int .i64 ((rd_T35 l0 x8_1).f3), .int .i64 0, .int .i64 0, .int .i64 0, .int .i64 0, .int .u8 0]) ?_ 4 _ rfl; (with_reducible repeat (first | refine blk_drewN ?_ _ | refine blk_drew ?_ | refine blk_alloc ?_ _)); refine blk_put (cs := #[.string ((rd_T35 l0 x8_1).f0), .int .i64 ((rd_T35 l0 x8_1).f1), .int .i64 ((rd_T35 l0 x8_1).f2), .int .i64 0, .int .i64 0, .int .i64 0, .int .i64 0, .int .i64 0, .int .u8 0]) ?_ 3 _ rfl; (with_reducible repeat (first | refine blk_drewN ?_ _ | refine blk_drew ?_ | refine blk_alloc ?_ _)); refine blk_put (cs := #[.string ((rd_T35 l0 x8_1).f0), .int .i64 ((rd_T35 l0 x8_1).f1), .int .i64 0, .int .i64 0, .int .i64 0, .int .i64 0, .int .i64 0, .int .i64 0, .int .u8 0]) ?_ 2 _ rfl; (with_reducible repeat (first | refine blk_drewN ?_ _ | refine blk_drew ?_ | refine blk_alloc ?_ _)); refine blk_put (cs := #[.string ((rd_T35 l0 x8_1).f0), .int .i64 0, .int .i64 0, .int .i64 0, .int .i64 0, .int .i64 0, .int .i64 0, .int .i64 0, .int .u8 0]) ?_ 1 _ rfl; (with_reducible repeat (first | refine blk_drewN ?_ _ | refine blk_drew ?_ | refine blk_alloc ?_ _)); refine blk_put (cs := #[.string (⟨#[]⟩ : ByteArray), .int .i64 0, .int .i64 0, .int .i64 0, .int .i64 0, .int .i64 0, .int .i64 0, .int .i64 0, .int .u8 0]) ?_ 0 _ rfl; exact yK_ BK127.out) hb); have n3_ := Aside0.mk (below_step (by exact yS_ HB.out GE127.out) hb); clear HO_3; clear BK127; clear HB; have HO_3 := n0_; have HO130 := n1_; have BK127 := n2_; have HB := n3_; clear n0_ n1_ n2_ n3_; (try clear hb); (try clear ho0); obtain ⟨Ao11, co11, eo11⟩ := Kd.R_slice HO130.out; subst eo11) | ((with_reducible refine gate_builtin (b := .append) (xs := #[.tmp 12, .tmp 14]) rfl ?_); at_builtin; refine Kd.R_append_rows (Kd.int .i64) (w0 := w) w.heap.size rfl (.tmp 12) (.tmp 14) 62 3 (.int .i64 0) 8 rfl Tryz.underlying62 info3 rfl (by decide) (by omega) u3 x3_1 t128 _ _ _ (fun k_ => some k_ ≠ (.slice Ao11 t128.length co11 : Value).ownBlock) (fun _ => False) rfl rfl ?aO ?aR (fun _ _ h => h) (fun _ h => h.elim) ?aF ?aB ?aS ?aL ?_; (case aR => exact yC_ (Kd.R_reads' HO130.out).2.2); (case aB => exact (by exact yS_ HB.out GE127.out)); (case aF => exact (fun k_ hk => Kd.fresh' (Kd.R_lt (by exact yR_ HO130.out)) k_ hk)); (case aO => exact (by (with_reducible repeat (first | apply Kd.R_alloc | apply Kd.R_drewN | apply Kd.R_drew)); exact Kd.R_mono HO_3.out (fun _ hk => hk.2))); (case aS => exact (below_size (by exact yS_ HB.out GE127.out))); (case aL => have := LMc6.out; omega); intro v132 w10 ho hb hg hat; rw [← Ny131.out] at ho; have n0_ := Aside0.mk (blk_grown (g := gb127) (o := .cells #[.string ((rd_T35 l0 x8_1).f0), .int .i64 ((rd_T35 l0 x8_1).f1), .int .i64 ((rd_T35 l0 x8_1).f2), .int .i64 ((rd_T35 l0 x8_1).f3), .int .i64 ((rd_T35 l0 x8_1).f4), .int .i64 ((rd_T35 l0 x8_1).f5), .int .i64 ((rd_T35 l0 x8_1).f6), .int .i64 ((rd_T35 l0 x8_1).f7), .int .u8 ((rd_T35 l0 x8_1).f8)] 35 (0, 0)) (by exact yK_ BK127.out) hg (Kd.R_ne HO_3.out BK127.out (by decide))); have n1_ := Aside0.mk (Kd.R_after (ok := (fun _ => True)) (by exact yR_ HO130.out) hg hat); have n2_ := Aside0.mk (hb); have n3_ := Aside0.mk (ho); clear BK127; clear HO130; clear HB; clear HO_3; have BK127 := n0_; have HO130 := n1_; have HB := n2_; have HO133 := n3_; clear n0_ n1_ n2_ n3_; clear ho hb hg hat))
       go_roundg k1
       case measure => have := HK1.out; omega
       case rel => exact ⟨(y131), (wrap64 (x8_1 + 1)), (by first | rfl | (simp; done) | (simp [*]; done)), H', ⟨by have := HK1.out; omega⟩, ⟨by (with_reducible repeat (first | apply Kd.R_alloc | apply Kd.R_drewN | apply Kd.R_drew)); exact Kd.R_mono HO133.out (fun _ hk => trivial)⟩, ⟨by exact yS_ HB.out GE127.out⟩⟩
      ·rw [if_neg c6] at H
       exact absurd H (by simp)
     ·rw [if_neg c4] at H
      exact absurd H (by simp)
    ·rw [if_neg c3] at H
     exact absurd H (by simp)
   ·rw [if_neg c2] at H
    have c2b0 : decide (x8_1 < (l0.length : Int)) = false := decide_eq_false c2
    clear c2
    obtain rfl := Option.some.inj H
    go_wp2
    go_ret
    exact ⟨_, by first | rfl | (simp [errW_none, errW_some] <;> rfl) | (simp [*, errW_none, errW_some] <;> rfl), by exact yR_ HO_3.out, by exact yB_ HB.out⟩
end Go.Proofs.YtnhbgahfmcicnaaGreatDoor.PA
end
