/- A part of the proof of the claim's statement. -/
import Derived.Test.YtnhbgahfmcicnaaGreatDoorPtK0
import Derived.Test.YtnhbgahfmcicnaaGreatDoorPtPAx0
import Derived.Test.YtnhbgahfmcicnaaGreatDoorPtPAx1
import Derived.Test.YtnhbgahfmcicnaaGreatDoorPtPAx2
import Derived.Test.YtnhbgahfmcicnaaGreatDoorPtPAx14
import Derived.Test.YtnhbgahfmcicnaaGreatDoorPtPAx15
import Derived.Test.YtnhbgahfmcicnaaGreatDoorPtPAx16
import Derived.Test.YtnhbgahfmcicnaaGreatDoorPtG2d
import Derived.Test.YtnhbgahfmcicnaaGreatDoorPtG2e
import Derived.Test.YtnhbgahfmcicnaaGreatDoorPtG2f
import Derived.Test.YtnhbgahfmcicnaaGreatDoorPtG4
section
namespace Go.Proofs.YtnhbgahfmcicnaaGreatDoor.PA
open Go.RowKit Go.Proofs.YtnhbgahfmcicnaaGreatDoorW.PrintWords Go.Proofs.YtnhbgahfmcicnaaGreatDoorW.PrintLast Go.Proofs.YtnhbgahfmcicnaaGreatDoorW.PrintMore
attribute [local go_sem] max2_int min2_int max_two min_two max_three min_three max_four min_four   -- for this text's walks alone
set_option linter.unusedVariables false
set_option linter.unusedSimpArgs false
attribute [local go_sem high] eqA35
mutual
def sorobanlaw21_SpecPrints.j0 : Nat → List (S35) → List (S35) → Int → Int → Int → Bool → Int → Option (Bool)
 | 0, _, _, _, _, _, _, _ => none
 | k + 1, x0, x5, x6, x7, x8, x9, x10 => if x6 = 0 then (if (x5.length : Int) = (x0.length : Int) then (if x8 = 0 then ((sorobanref21_Most.f k x0).bind fun t398 => (if x7 = t398 then (if x10 = 0 then ((sorobanref21_Ordered.f k x0).bind fun t399 => (sorobanlaw21_SpecPrints.j1 k x0 x5 (x9 != t399))) else (sorobanlaw21_SpecPrints.j1 k x0 x5 true)) else (sorobanlaw21_SpecPrints.j1 k x0 x5 true))) else (sorobanlaw21_SpecPrints.j1 k x0 x5 true)) else (sorobanlaw21_SpecPrints.j1 k x0 x5 true)) else (sorobanlaw21_SpecPrints.j1 k x0 x5 true)
def sorobanlaw21_SpecPrints.j1 : Nat → List (S35) → List (S35) → Bool → Option (Bool)
 | 0, _, _, _ => none
 | k + 1, x0, x5, x130 => if x130 = true then (some false) else (sorobanlaw21_SpecPrints.l0 k x0 x5 0)
def sorobanlaw21_SpecPrints.l0 : Nat → List (S35) → List (S35) → Int → Option (Bool)
 | 0, _, _, _ => none
 | k + 1, x0, x5, x14 => if x14 < (x5.length : Int) then (if 0 ≤ x14 then (if x14 < (x0.length : Int) then ((sorobanref21_Simple.f ((rd_T35 x0 x14).f0) ((rd_T35 x0 x14).f1) ((rd_T35 x0 x14).f2) ((rd_T35 x0 x14).f3) ((rd_T35 x0 x14).f4) ((rd_T35 x0 x14).f5) ((rd_T35 x0 x14).f6) ((rd_T35 x0 x14).f7) ((rd_T35 x0 x14).f8)).bind fun bt402 => (if (!((((rd_T35 x5 x14).f0).toList) == bt402.1.toList) || (!(((rd_T35 x5 x14).f1) == bt402.2.1) || (!(((rd_T35 x5 x14).f2) == bt402.2.2.1) || (!(((rd_T35 x5 x14).f3) == bt402.2.2.2.1) || (!(((rd_T35 x5 x14).f4) == bt402.2.2.2.2.1) || (!(((rd_T35 x5 x14).f5) == bt402.2.2.2.2.2.1) || (!(((rd_T35 x5 x14).f6) == bt402.2.2.2.2.2.2.1) || (!(((rd_T35 x5 x14).f7) == bt402.2.2.2.2.2.2.2.1) || (!(((rd_T35 x5 x14).f8) == bt402.2.2.2.2.2.2.2.2)))))))))) = true then (some false) else (sorobanlaw21_SpecPrints.l0 k x0 x5 (wrap64 (x14 + 1))))) else (none)) else (none)) else ((sorobanlaw21_sanity.f k).bind fun t411 => (some t411))
end
def sorobanlaw21_SpecPrints.f (k : Nat) (l0 : List (S35)) : Option (Bool) := (sorobanlaw21_small.f k l0).bind fun t382 => (if t382 = true then ((spec_Print.f k l0).bind fun bt384 => ((spec_Canonical.f k l0).bind fun bt386 => ((spec_Args.f k l0).bind fun bt390 => ((spec_Ordered.f k l0).bind fun bt392 => ((sorobanref21_Check.f k l0).bind fun bt394 => (if bt394.1 = 0 then ((sorobanref21_Text.f k l0).bind fun t397 => (if (t397.size : Int) > 2000 then (if bt384.2 = 2 then (if bt384.1.toList = ([] : List UInt8) then (sorobanlaw21_SpecPrints.j0 k l0 bt386.1 bt386.2 bt390.1 bt390.2 bt392.1 bt392.2) else (some false)) else (some false)) else (if bt384.2 = 0 then (if bt384.1.toList = t397.toList then (sorobanlaw21_SpecPrints.j0 k l0 bt386.1 bt386.2 bt390.1 bt390.2 bt392.1 bt392.2) else (some false)) else (some false)))) else ((sorobanlaw21_sanity.f k).bind fun t396 => (if t396 = true then (if bt384.2 = bt394.1 then (if bt386.2 = bt394.1 then (if bt390.2 = bt394.1 then (if bt392.2 = bt394.1 then (if bt384.1.toList = ([] : List UInt8) then (if (bt386.1.length : Int) = 0 then (if bt390.1 = 0 then (some (!bt392.1)) else (some false)) else (some false)) else (some false)) else (some false)) else (some false)) else (some false)) else (some false)) else (some false))))))))) else ((sorobanlaw21_sanity.f k).bind fun t383 => (some t383)))
def sorobanlaw21_SpecPrints.T21 : Bool × List (List Nat × List Nat) := (true, [([], []), ([], []), ([0, 1], [0, 1]), ([2], [2]), ([], []), ([], []), ([4, 5], [4, 5]), ([6], [6]), ([7], [7]), ([3, 8], [3, 8])])
def sorobanlaw21_SpecPrints.B21 : List Nat := [0, 0, 3, 7, 0, 0, 48, 112, 240, 511]
theorem sorobanlaw21_SpecPrints.tab21 : rtab .any (opsOf Tryz.f10 21) = sorobanlaw21_SpecPrints.T21 := by kernel_rfl
theorem sorobanlaw21_SpecPrints.bits21 : waitsOk sorobanlaw21_SpecPrints.T21.2 sorobanlaw21_SpecPrints.B21 = true := by kernel_rfl
set_option maxHeartbeats 8000000 in
set_option maxRecDepth 100000 in
theorem sorobanlaw21_SpecPrints.calls (k : Nat) (A0 : Option Addr) (c0 : Nat) (l0 : List (S35)) (r : Bool) (w : World) (hr0 : Kd.C k35 w A0 l0.length l0) (hc0 : l0.length ≤ c0) (hLD : LD w) (h : sorobanlaw21_SpecPrints.f k l0 = some r) :
  Calls Tryz.prog 10 #[.slice A0 l0.length c0] w fun e w' => e = .returned (.bool r) ∧ Below w.heap.size w w' := by
 have HLD := Aside0.mk hLD
 clear hLD
 have hu35 := Tryz.underlying35
 have HR0 := Aside0.mk hr0
 have HC0 := Aside0.mk hc0
 clear hr0 hc0
 have HB := Aside0.mk (Below.refl w.heap.size w)
 have H : ((sorobanlaw21_small.f k l0).bind fun t382 => (if t382 = true then ((spec_Print.f k l0).bind fun bt384 => ((spec_Canonical.f k l0).bind fun bt386 => ((spec_Args.f k l0).bind fun bt390 => ((spec_Ordered.f k l0).bind fun bt392 => ((sorobanref21_Check.f k l0).bind fun bt394 => (if bt394.1 = 0 then ((sorobanref21_Text.f k l0).bind fun t397 => (if (t397.size : Int) > 2000 then (if bt384.2 = 2 then (if bt384.1.toList = ([] : List UInt8) then (sorobanlaw21_SpecPrints.j0 k l0 bt386.1 bt386.2 bt390.1 bt390.2 bt392.1 bt392.2) else (some false)) else (some false)) else (if bt384.2 = 0 then (if bt384.1.toList = t397.toList then (sorobanlaw21_SpecPrints.j0 k l0 bt386.1 bt386.2 bt390.1 bt390.2 bt392.1 bt392.2) else (some false)) else (some false)))) else ((sorobanlaw21_sanity.f k).bind fun t396 => (if t396 = true then (if bt384.2 = bt394.1 then (if bt386.2 = bt394.1 then (if bt390.2 = bt394.1 then (if bt392.2 = bt394.1 then (if bt384.1.toList = ([] : List UInt8) then (if (bt386.1.length : Int) = 0 then (if bt390.1 = 0 then (some (!bt392.1)) else (some false)) else (some false)) else (some false)) else (some false)) else (some false)) else (some false)) else (some false)) else (some false))))))))) else ((sorobanlaw21_sanity.f k).bind fun t383 => (some t383)))) = some r := h
 clear h
 replace H := Option.bind_eq_some_iff.mp H
 obtain ⟨t382, A20, H⟩ := H
 replace H : (if t382 = true then ((spec_Print.f k l0).bind fun bt384 => ((spec_Canonical.f k l0).bind fun bt386 => ((spec_Args.f k l0).bind fun bt390 => ((spec_Ordered.f k l0).bind fun bt392 => ((sorobanref21_Check.f k l0).bind fun bt394 => (if bt394.1 = 0 then ((sorobanref21_Text.f k l0).bind fun t397 => (if (t397.size : Int) > 2000 then (if bt384.2 = 2 then (if bt384.1.toList = ([] : List UInt8) then (sorobanlaw21_SpecPrints.j0 k l0 bt386.1 bt386.2 bt390.1 bt390.2 bt392.1 bt392.2) else (some false)) else (some false)) else (if bt384.2 = 0 then (if bt384.1.toList = t397.toList then (sorobanlaw21_SpecPrints.j0 k l0 bt386.1 bt386.2 bt390.1 bt390.2 bt392.1 bt392.2) else (some false)) else (some false)))) else ((sorobanlaw21_sanity.f k).bind fun t396 => (if t396 = true then (if bt384.2 = bt394.1 then (if bt386.2 = bt394.1 then (if bt390.2 = bt394.1 then (if bt392.2 = bt394.1 then (if bt384.1.toList = ([] : List UInt8) then (if (bt386.1.length : Int) = 0 then (if bt390.1 = 0 then (some (!bt392.1)) else (some false)) else (some false)) else (some false)) else (some false)) else (some false)) else (some false)) else (some false)) else (some false))))))))) else ((sorobanlaw21_sanity.f k).bind fun t383 => (some t383))) = some r := H
 have A2 := Aside0.mk A20
 clear A20
 by_cases c3 : t382 = true
 ·subst c3
  have H1 : ((spec_Print.f k l0).bind fun bt384 => ((spec_Canonical.f k l0).bind fun bt386 => ((spec_Args.f k l0).bind fun bt390 => ((spec_Ordered.f k l0).bind fun bt392 => ((sorobanref21_Check.f k l0).bind fun bt394 => (if bt394.1 = 0 then ((sorobanref21_Text.f k l0).bind fun t397 => (if (t397.size : Int) > 2000 then (if bt384.2 = 2 then (if bt384.1.toList = ([] : List UInt8) then (sorobanlaw21_SpecPrints.j0 k l0 bt386.1 bt386.2 bt390.1 bt390.2 bt392.1 bt392.2) else (some false)) else (some false)) else (if bt384.2 = 0 then (if bt384.1.toList = t397.toList then (sorobanlaw21_SpecPrints.j0 k l0 bt386.1 bt386.2 bt390.1 bt390.2 bt392.1 bt392.2) else (some false)) else (some false)))) else ((sorobanlaw21_sanity.f k).bind fun t396 => (if t396 = true then (if bt384.2 = bt394.1 then (if bt386.2 = bt394.1 then (if bt390.2 = bt394.1 then (if bt392.2 = bt394.1 then (if bt384.1.toList = ([] : List UInt8) then (if (bt386.1.length : Int) = 0 then (if bt390.1 = 0 then (some (!bt392.1)) else (some false)) else (some false)) else (some false)) else (some false)) else (some false)) else (some false)) else (some false)) else (some false))))))))) = some r := by rw [if_pos rfl] at H; exact H
  clear H
  have H := H1
  clear H1
  replace H := Option.bind_eq_some_iff.mp H
  obtain ⟨⟨t384, t385⟩, A40, H⟩ := H
  replace H : ((spec_Canonical.f k l0).bind fun bt386 => ((spec_Args.f k l0).bind fun bt390 => ((spec_Ordered.f k l0).bind fun bt392 => ((sorobanref21_Check.f k l0).bind fun bt394 => (if bt394.1 = 0 then ((sorobanref21_Text.f k l0).bind fun t397 => (if (t397.size : Int) > 2000 then (if t385 = 2 then (if t384.toList = ([] : List UInt8) then (sorobanlaw21_SpecPrints.j0 k l0 bt386.1 bt386.2 bt390.1 bt390.2 bt392.1 bt392.2) else (some false)) else (some false)) else (if t385 = 0 then (if t384.toList = t397.toList then (sorobanlaw21_SpecPrints.j0 k l0 bt386.1 bt386.2 bt390.1 bt390.2 bt392.1 bt392.2) else (some false)) else (some false)))) else ((sorobanlaw21_sanity.f k).bind fun t396 => (if t396 = true then (if t385 = bt394.1 then (if bt386.2 = bt394.1 then (if bt390.2 = bt394.1 then (if bt392.2 = bt394.1 then (if t384.toList = ([] : List UInt8) then (if (bt386.1.length : Int) = 0 then (if bt390.1 = 0 then (some (!bt392.1)) else (some false)) else (some false)) else (some false)) else (some false)) else (some false)) else (some false)) else (some false)) else (some false)))))))) = some r := H
  have A4 := Aside0.mk A40
  clear A40
  replace H := Option.bind_eq_some_iff.mp H
  obtain ⟨⟨t386, t387⟩, A50, H⟩ := H
  replace H : ((spec_Args.f k l0).bind fun bt390 => ((spec_Ordered.f k l0).bind fun bt392 => ((sorobanref21_Check.f k l0).bind fun bt394 => (if bt394.1 = 0 then ((sorobanref21_Text.f k l0).bind fun t397 => (if (t397.size : Int) > 2000 then (if t385 = 2 then (if t384.toList = ([] : List UInt8) then (sorobanlaw21_SpecPrints.j0 k l0 t386 t387 bt390.1 bt390.2 bt392.1 bt392.2) else (some false)) else (some false)) else (if t385 = 0 then (if t384.toList = t397.toList then (sorobanlaw21_SpecPrints.j0 k l0 t386 t387 bt390.1 bt390.2 bt392.1 bt392.2) else (some false)) else (some false)))) else ((sorobanlaw21_sanity.f k).bind fun t396 => (if t396 = true then (if t385 = bt394.1 then (if t387 = bt394.1 then (if bt390.2 = bt394.1 then (if bt392.2 = bt394.1 then (if t384.toList = ([] : List UInt8) then (if (t386.length : Int) = 0 then (if bt390.1 = 0 then (some (!bt392.1)) else (some false)) else (some false)) else (some false)) else (some false)) else (some false)) else (some false)) else (some false)) else (some false))))))) = some r := H
  have A5 := Aside0.mk A50
  clear A50
  replace H := Option.bind_eq_some_iff.mp H
  obtain ⟨⟨t390, t391⟩, A60, H⟩ := H
  replace H : ((spec_Ordered.f k l0).bind fun bt392 => ((sorobanref21_Check.f k l0).bind fun bt394 => (if bt394.1 = 0 then ((sorobanref21_Text.f k l0).bind fun t397 => (if (t397.size : Int) > 2000 then (if t385 = 2 then (if t384.toList = ([] : List UInt8) then (sorobanlaw21_SpecPrints.j0 k l0 t386 t387 t390 t391 bt392.1 bt392.2) else (some false)) else (some false)) else (if t385 = 0 then (if t384.toList = t397.toList then (sorobanlaw21_SpecPrints.j0 k l0 t386 t387 t390 t391 bt392.1 bt392.2) else (some false)) else (some false)))) else ((sorobanlaw21_sanity.f k).bind fun t396 => (if t396 = true then (if t385 = bt394.1 then (if t387 = bt394.1 then (if t391 = bt394.1 then (if bt392.2 = bt394.1 then (if t384.toList = ([] : List UInt8) then (if (t386.length : Int) = 0 then (if t390 = 0 then (some (!bt392.1)) else (some false)) else (some false)) else (some false)) else (some false)) else (some false)) else (some false)) else (some false)) else (some false)))))) = some r := H
  have A6 := Aside0.mk A60
  clear A60
  replace H := Option.bind_eq_some_iff.mp H
  obtain ⟨⟨t392, t393⟩, A70, H⟩ := H
  replace H : ((sorobanref21_Check.f k l0).bind fun bt394 => (if bt394.1 = 0 then ((sorobanref21_Text.f k l0).bind fun t397 => (if (t397.size : Int) > 2000 then (if t385 = 2 then (if t384.toList = ([] : List UInt8) then (sorobanlaw21_SpecPrints.j0 k l0 t386 t387 t390 t391 t392 t393) else (some false)) else (some false)) else (if t385 = 0 then (if t384.toList = t397.toList then (sorobanlaw21_SpecPrints.j0 k l0 t386 t387 t390 t391 t392 t393) else (some false)) else (some false)))) else ((sorobanlaw21_sanity.f k).bind fun t396 => (if t396 = true then (if t385 = bt394.1 then (if t387 = bt394.1 then (if t391 = bt394.1 then (if t393 = bt394.1 then (if t384.toList = ([] : List UInt8) then (if (t386.length : Int) = 0 then (if t390 = 0 then (some (!t392)) else (some false)) else (some false)) else (some false)) else (some false)) else (some false)) else (some false)) else (some false)) else (some false))))) = some r := H
  have A7 := Aside0.mk A70
  clear A70
  replace H := Option.bind_eq_some_iff.mp H
  obtain ⟨⟨t394, t395⟩, A80, H⟩ := H
  replace H : (if t394 = 0 then ((sorobanref21_Text.f k l0).bind fun t397 => (if (t397.size : Int) > 2000 then (if t385 = 2 then (if t384.toList = ([] : List UInt8) then (sorobanlaw21_SpecPrints.j0 k l0 t386 t387 t390 t391 t392 t393) else (some false)) else (some false)) else (if t385 = 0 then (if t384.toList = t397.toList then (sorobanlaw21_SpecPrints.j0 k l0 t386 t387 t390 t391 t392 t393) else (some false)) else (some false)))) else ((sorobanlaw21_sanity.f k).bind fun t396 => (if t396 = true then (if t385 = t394 then (if t387 = t394 then (if t391 = t394 then (if t393 = t394 then (if t384.toList = ([] : List UInt8) then (if (t386.length : Int) = 0 then (if t390 = 0 then (some (!t392)) else (some false)) else (some false)) else (some false)) else (some false)) else (some false)) else (some false)) else (some false)) else (some false)))) = some r := H
  have A8 := Aside0.mk A80
  clear A80
  by_cases c9 : t394 = 0
  ·rw [if_pos c9] at H
   have c9b0 : (t394 == 0) = true := beq_iff_eq.mpr c9
   have c9b1 : (t394 != 0) = false := bne_eq_false_iff_eq.mpr c9
   clear c9
   replace H := Option.bind_eq_some_iff.mp H
   obtain ⟨t397, A100, H⟩ := H
   replace H : (if (t397.size : Int) > 2000 then (if t385 = 2 then (if t384.toList = ([] : List UInt8) then (sorobanlaw21_SpecPrints.j0 k l0 t386 t387 t390 t391 t392 t393) else (some false)) else (some false)) else (if t385 = 0 then (if t384.toList = t397.toList then (sorobanlaw21_SpecPrints.j0 k l0 t386 t387 t390 t391 t392 t393) else (some false)) else (some false))) = some r := H
   have A10 := Aside0.mk A100
   clear A100
   have HC11 := Aside0.mk H
   clear H
   go_enter Tryz.func10, Tryz.ntmps10
   go_upto_if 88 with (first | ((with_reducible refine gate_callee (f := 16) rfl ?_); refine gL_ (some 16) rfl rfl Tryz.func16 rfl #[.slice A0 l0.length c0] rfl ?_; (with_reducible refine (sorobanlaw21_small.calls k _ _ l0 true _ ?side1 ?side2 A2.out).mono ?_); (case side1 => exact yC_ HR0.out); (case side2 => exact HC0.out); rintro e w' ⟨rfl, ⟨nd, rfl⟩⟩; refine ⟨_, rfl, ?_⟩) | ((with_reducible refine gate_callee (f := 17) rfl ?_); refine gL_ (some 21) rfl rfl Tryz.func17 rfl #[.slice A0 l0.length c0] rfl ?_; (with_reducible refine (spec_Print.calls k _ _ l0 t384 t385 _ ?side1 ?side2 ?side3 A4.out).mono ?_); (case side1 => exact yC_ HR0.out); (case side2 => exact HC0.out); (case side3 => refine LD.below HLD.out ?_; exact yB_ HB.out); rintro e w12 ⟨rfl, hb⟩; refine ⟨_, rfl, ?_⟩; replace HB := Aside0.mk (below_step (by exact yB_ HB.out) hb); (try clear hb)) | ((with_reducible refine gate_callee (f := 19) rfl ?_); refine gL_ (some 26) rfl rfl Tryz.func19 rfl #[.slice A0 l0.length c0] rfl ?_; (with_reducible refine (spec_Canonical.calls k _ _ l0 t386 t387 _ ?side1 ?side2 A5.out).mono ?_); (case side1 => exact yC_ (Kd.C_below HR0.out HB.out)); (case side2 => exact HC0.out); rintro e w13 ⟨v388, rfl, ho0, hb⟩; refine ⟨_, rfl, ?_⟩; have HO389 := Aside0.mk (Kd.R_lower ho0 (below_size (by exact yB_ HB.out))); replace HB := Aside0.mk (below_step (by exact yB_ HB.out) hb); (try clear hb); (try clear ho0)) | ((with_reducible refine gate_callee (f := 23) rfl ?_); refine gL_ (some 31) rfl rfl Tryz.func23 rfl #[.slice A0 l0.length c0] rfl ?_; (with_reducible refine (spec_Args.calls k _ _ l0 t390 t391 _ ?side1 ?side2 A6.out).mono ?_); (case side1 => exact yC_ (Kd.C_below HR0.out HB.out)); (case side2 => exact HC0.out); rintro e w14 ⟨rfl, hb⟩; refine ⟨_, rfl, ?_⟩; replace HO389 := Aside0.mk (Kd.R_below (by exact yR_ HO389.out) hb); replace HB := Aside0.mk (below_step (by exact yB_ HB.out) hb); (try clear hb)) | ((with_reducible refine gate_callee (f := 25) rfl ?_); refine gL_ (some 36) rfl rfl Tryz.func25 rfl #[.slice A0 l0.length c0] rfl ?_; (with_reducible refine (spec_Ordered.calls k _ _ l0 t392 t393 _ ?side1 ?side2 A7.out).mono ?_); (case side1 => exact yC_ (Kd.C_below HR0.out HB.out)); (case side2 => exact HC0.out); rintro e w15 ⟨rfl, hb⟩; refine ⟨_, rfl, ?_⟩; replace HO389 := Aside0.mk (Kd.R_below (by exact yR_ HO389.out) hb); replace HB := Aside0.mk (below_step (by exact yB_ HB.out) hb); (try clear hb)) | ((with_reducible refine gate_callee (f := 20) rfl ?_); refine gL_ (some 41) rfl rfl Tryz.func20 rfl #[.slice A0 l0.length c0] rfl ?_; (with_reducible refine (sorobanref21_Check.calls k _ _ l0 t394 t395 _ ?side1 ?side2 A8.out).mono ?_); (case side1 => exact yC_ (Kd.C_below HR0.out HB.out)); (case side2 => exact HC0.out); rintro e w16 ⟨rfl, hb⟩; refine ⟨_, rfl, ?_⟩; replace HO389 := Aside0.mk (Kd.R_below (by exact yR_ HO389.out) hb); replace HB := Aside0.mk (below_step (by exact yB_ HB.out) hb); (try clear hb)) | ((with_reducible refine gate_callee (f := 26) rfl ?_); refine gL_ (some 85) rfl rfl Tryz.func26 rfl #[.slice A0 l0.length c0] rfl ?_; (with_reducible refine (sorobanref21_Text.calls k _ _ l0 t397 _ ?side1 ?side2 ?side3 A10.out).mono ?_); (case side1 => exact yC_ (Kd.C_below HR0.out HB.out)); (case side2 => exact HC0.out); (case side3 => refine LD.below HLD.out ?_; exact yB_ HB.out); rintro e w17 ⟨rfl, hb⟩; refine ⟨_, rfl, ?_⟩; replace HO389 := Aside0.mk (Kd.R_below (by exact yR_ HO389.out) hb); replace HB := Aside0.mk (below_step (by exact yB_ HB.out) hb); (try clear hb)))
   (try simp only [Act.put, List.setIfInBounds_toArray, List.set_cons_zero, List.set_cons_succ])
   go_cut [] (fun wc => ∃ (kq : Nat), Aside0 (sorobanlaw21_SpecPrints.j0 kq l0 t386 t387 t390 t391 t392 t393 = some r) ∧ Aside0 (kq ≤ k) ∧ Aside0 (Kd.R k35 35 wc w.heap.size (fun _ => True) v388 t386) ∧ Aside0 (Below w.heap.size w wc))
   case first =>
    have H := HC11.out
    clear HC11
    by_cases c18 : (t397.size : Int) > 2000
    ·rw [if_pos c18] at H
     have c18b0 : decide (2000 < (t397.size : Int)) = true := decide_eq_true c18
     have c18b1 : decide (2000 < t397.size) = true := decide_eq_true (by omega)
     clear c18
     (first | rw [c18b0] | (simp only [i64_w, i32_w]; rw [c18b0]) | skip)
     by_cases c19 : t385 = 2
     ·rw [if_pos c19] at H
      have c19b0 : (t385 == 2) = true := beq_iff_eq.mpr c19
      have c19b1 : (t385 != 2) = false := bne_eq_false_iff_eq.mpr c19
      clear c19
      by_cases c20 : t384.toList = ([] : List UInt8)
      ·rw [if_pos c20] at H
       have c20b0 : (t384.toList == ([] : List UInt8)) = true := beq_iff_eq.mpr c20
       have c20b1 : (t384.toList != ([] : List UInt8)) = false := bne_eq_false_iff_eq.mpr c20
       clear c20
       have H' := Aside0.mk H
       clear H
       go_wp2
       go_meet
       case rel => exact ⟨_, H', ⟨by first | omega | exact Nat.le_refl _⟩, ⟨by exact yR_ HO389.out⟩, ⟨by exact yB_ HB.out⟩⟩
      ·rw [if_neg c20] at H
       have c20b0 : (t384.toList == ([] : List UInt8)) = false := beq_eq_false_iff_ne.mpr c20
       have c20b1 : (t384.toList != ([] : List UInt8)) = true := bne_iff_ne.mpr c20
       obtain rfl := Option.some.inj H
       go_wp2
       go_ret
       exact ⟨yE_, by exact yB_ HB.out⟩
     ·rw [if_neg c19] at H
      have c19b0 : (t385 == 2) = false := beq_eq_false_iff_ne.mpr c19
      have c19b1 : (t385 != 2) = true := bne_iff_ne.mpr c19
      obtain rfl := Option.some.inj H
      go_wp2
      go_ret
      exact ⟨yE_, by exact yB_ HB.out⟩
    ·rw [if_neg c18] at H
     have c18b0 : decide (2000 < (t397.size : Int)) = false := decide_eq_false c18
     have c18b1 : decide (2000 < t397.size) = false := decide_eq_false (by omega)
     clear c18
     (first | rw [c18b0] | (simp only [i64_w, i32_w]; rw [c18b0]) | skip)
     by_cases c21 : t385 = 0
     ·rw [if_pos c21] at H
      have c21b0 : (t385 == 0) = true := beq_iff_eq.mpr c21
      have c21b1 : (t385 != 0) = false := bne_eq_false_iff_eq.mpr c21
      clear c21
      by_cases c22 : t384.toList = t397.toList
      ·rw [if_pos c22] at H
       have c22b0 : (t384.toList == t397.toList) = true := beq_iff_eq.mpr c22
       have c22b1 : (t384.toList != t397.toList) = false := bne_eq_false_iff_eq.mpr c22
       clear c22
       have H' := Aside0.mk H
       clear H
       go_wp2
       go_meet
       case rel => exact ⟨_, H', ⟨by first | omega | exact Nat.le_refl _⟩, ⟨by exact yR_ HO389.out⟩, ⟨by exact yB_ HB.out⟩⟩
      ·rw [if_neg c22] at H
       have c22b0 : (t384.toList == t397.toList) = false := beq_eq_false_iff_ne.mpr c22
       have c22b1 : (t384.toList != t397.toList) = true := bne_iff_ne.mpr c22
       obtain rfl := Option.some.inj H
       go_wp2
       go_ret
       exact ⟨yE_, by exact yB_ HB.out⟩
     ·rw [if_neg c21] at H
      have c21b0 : (t385 == 0) = false := beq_eq_false_iff_ne.mpr c21
      have c21b1 : (t385 != 0) = true := bne_iff_ne.mpr c21
      obtain rfl := Option.some.inj H
      go_wp2
      go_ret
      exact ⟨yE_, by exact yB_ HB.out⟩
   case rest =>
    clear HC11
    try clear c1
    try clear c2
    try clear p2
    try clear c3
    try clear c9
    try clear c9b0
    try clear c9b1
    try clear c10
    try clear c16
    try clear c17
    try clear c18
    try clear c18b0
    try clear c18b1
    try clear c19
    try clear c19b0
    try clear c19b1
    try clear c20
    try clear c20b0
    try clear c20b1
    try clear c21
    try clear c21b0
    try clear c21b1
    try clear c22
    try clear c22b0
    try clear c22b1
    obtain ⟨kq, HA, HJ10, HO_5, HB⟩ := hcut
    cases kq with
    | zero => exact absurd HA.out (by simp [sorobanlaw21_SpecPrints.j0])
    | succ kj10 =>
     have H := HA.out
     clear HA
     simp only [sorobanlaw21_SpecPrints.j0] at H
     have HC23 := Aside0.mk H
     clear H
     go_upto_region 16 with (fail)
     go_cut [130] (fun v130 wc => ∃ (kq : Nat) (x130_22 : Bool), v130 = .bool x130_22 ∧ Aside0 (sorobanlaw21_SpecPrints.j1 kq l0 t386 x130_22 = some r) ∧ Aside0 (kq ≤ kj10) ∧ Aside0 (Kd.R k35 35 wc w.heap.size (fun _ => True) v388 t386) ∧ Aside0 (Below w.heap.size w wc))
     case first =>
      have H := HC23.out
      clear HC23
      by_cases c24 : t387 = 0
      ·rw [if_pos c24] at H
       have c24b0 : (t387 == 0) = true := beq_iff_eq.mpr c24
       have c24b1 : (t387 != 0) = false := bne_eq_false_iff_eq.mpr c24
       clear c24
       (first | rw [c24b0] | (simp only [i64_w, i32_w]; rw [c24b0]) | skip)
       by_cases c25 : (t386.length : Int) = (l0.length : Int)
       ·rw [if_pos c25] at H
        have c25b0 : ((t386.length : Int) == (l0.length : Int)) = true := beq_iff_eq.mpr c25
        have c25b1 : ((t386.length : Int) != (l0.length : Int)) = false := bne_eq_false_iff_eq.mpr c25
        have c25b2 : (t386.length == l0.length) = true := by first | simpa using c25 | (simp at c25 ⊢; omega)
        clear c25
        by_cases c26 : t391 = 0
        ·rw [if_pos c26] at H
         have c26b0 : (t391 == 0) = true := beq_iff_eq.mpr c26
         have c26b1 : (t391 != 0) = false := bne_eq_false_iff_eq.mpr c26
         clear c26
         replace H := Option.bind_eq_some_iff.mp H
         obtain ⟨t398, A270, H⟩ := H
         replace H : (if t390 = t398 then (if t393 = 0 then ((sorobanref21_Ordered.f kj10 l0).bind fun t399 => (sorobanlaw21_SpecPrints.j1 kj10 l0 t386 (t392 != t399))) else (sorobanlaw21_SpecPrints.j1 kj10 l0 t386 true)) else (sorobanlaw21_SpecPrints.j1 kj10 l0 t386 true)) = some r := H
         have A27 := Aside0.mk A270
         clear A270
         by_cases c28 : t390 = t398
         ·rw [if_pos c28] at H
          have c28b0 : (t390 == t398) = true := beq_iff_eq.mpr c28
          have c28b1 : (t390 != t398) = false := bne_eq_false_iff_eq.mpr c28
          clear c28
          by_cases c29 : t393 = 0
          ·rw [if_pos c29] at H
           have c29b0 : (t393 == 0) = true := beq_iff_eq.mpr c29
           have c29b1 : (t393 != 0) = false := bne_eq_false_iff_eq.mpr c29
           clear c29
           replace H := Option.bind_eq_some_iff.mp H
           obtain ⟨t399, A300, H⟩ := H
           replace H : (sorobanlaw21_SpecPrints.j1 kj10 l0 t386 (t392 != t399)) = some r := H
           have A30 := Aside0.mk A300
           clear A300
           have H' := Aside0.mk H
           clear H
           obtain ⟨Ao31, co31, eo31⟩ := Kd.R_slice HO_5.out
           subst eo31
           go_wp2_with (first | (go_at_call 27; (with_reducible refine (sorobanref21_Most.calls kj10 _ _ l0 t398 _ ?side1 ?side2 A27.out).mono ?_); (case side1 => exact yC_ (Kd.C_below HR0.out HB.out)); (case side2 => exact HC0.out); rintro e w32 ⟨rfl, hb⟩; replace HO_5 := Aside0.mk (Kd.R_below (by exact yR_ HO_5.out) hb); replace HB := Aside0.mk (below_step (by exact yB_ HB.out) hb); (try clear hb)) | (go_at_call 28; (with_reducible refine (sorobanref21_Ordered.calls kj10 _ _ l0 t399 _ ?side1 ?side2 A30.out).mono ?_); (case side1 => exact yC_ (Kd.C_below HR0.out HB.out)); (case side2 => exact HC0.out); rintro e w33 ⟨rfl, hb⟩; replace HO_5 := Aside0.mk (Kd.R_below (by exact yR_ HO_5.out) hb); replace HB := Aside0.mk (below_step (by exact yB_ HB.out) hb); (try clear hb)))
           go_meet
           case rel => exact ⟨_, ((t392 != t399)), (by first | rfl | (simp; done) | (simp [*]; done)), H', ⟨by have := HJ10.out; first | omega | exact Nat.le_refl _⟩, ⟨by exact yR_ HO_5.out⟩, ⟨by exact yB_ HB.out⟩⟩
          ·rw [if_neg c29] at H
           have c29b0 : (t393 == 0) = false := beq_eq_false_iff_ne.mpr c29
           have c29b1 : (t393 != 0) = true := bne_iff_ne.mpr c29
           have H' := Aside0.mk H
           clear H
           obtain ⟨Ao34, co34, eo34⟩ := Kd.R_slice HO_5.out
           subst eo34
           go_wp2_with (first | (go_at_call 27; (with_reducible refine (sorobanref21_Most.calls kj10 _ _ l0 t398 _ ?side1 ?side2 A27.out).mono ?_); (case side1 => exact yC_ (Kd.C_below HR0.out HB.out)); (case side2 => exact HC0.out); rintro e w35 ⟨rfl, hb⟩; replace HO_5 := Aside0.mk (Kd.R_below (by exact yR_ HO_5.out) hb); replace HB := Aside0.mk (below_step (by exact yB_ HB.out) hb); (try clear hb)))
           go_meet
           case rel => exact ⟨_, (true), (by first | rfl | (simp; done) | (simp [*]; done)), H', ⟨by have := HJ10.out; first | omega | exact Nat.le_refl _⟩, ⟨by exact yR_ HO_5.out⟩, ⟨by exact yB_ HB.out⟩⟩
         ·rw [if_neg c28] at H
          have c28b0 : (t390 == t398) = false := beq_eq_false_iff_ne.mpr c28
          have c28b1 : (t390 != t398) = true := bne_iff_ne.mpr c28
          have H' := Aside0.mk H
          clear H
          obtain ⟨Ao36, co36, eo36⟩ := Kd.R_slice HO_5.out
          subst eo36
          go_wp2_with (first | (go_at_call 27; (with_reducible refine (sorobanref21_Most.calls kj10 _ _ l0 t398 _ ?side1 ?side2 A27.out).mono ?_); (case side1 => exact yC_ (Kd.C_below HR0.out HB.out)); (case side2 => exact HC0.out); rintro e w37 ⟨rfl, hb⟩; replace HO_5 := Aside0.mk (Kd.R_below (by exact yR_ HO_5.out) hb); replace HB := Aside0.mk (below_step (by exact yB_ HB.out) hb); (try clear hb)))
          go_meet
          case rel => exact ⟨_, (true), (by first | rfl | (simp; done) | (simp [*]; done)), H', ⟨by have := HJ10.out; first | omega | exact Nat.le_refl _⟩, ⟨by exact yR_ HO_5.out⟩, ⟨by exact yB_ HB.out⟩⟩
        ·rw [if_neg c26] at H
         have c26b0 : (t391 == 0) = false := beq_eq_false_iff_ne.mpr c26
         have c26b1 : (t391 != 0) = true := bne_iff_ne.mpr c26
         have H' := Aside0.mk H
         clear H
         obtain ⟨Ao38, co38, eo38⟩ := Kd.R_slice HO_5.out
         subst eo38
         go_wp2
         go_meet
         case rel => exact ⟨_, (true), (by first | rfl | (simp; done) | (simp [*]; done)), H', ⟨by have := HJ10.out; first | omega | exact Nat.le_refl _⟩, ⟨by exact yR_ HO_5.out⟩, ⟨by exact yB_ HB.out⟩⟩
       ·rw [if_neg c25] at H
        have c25b0 : ((t386.length : Int) == (l0.length : Int)) = false := beq_eq_false_iff_ne.mpr c25
        have c25b1 : ((t386.length : Int) != (l0.length : Int)) = true := bne_iff_ne.mpr c25
        have c25b2 : (t386.length == l0.length) = false := by first | simpa using c25 | (simp at c25 ⊢; omega)
        have H' := Aside0.mk H
        clear H
        obtain ⟨Ao39, co39, eo39⟩ := Kd.R_slice HO_5.out
        subst eo39
        go_wp2
        go_meet
        case rel => exact ⟨_, (true), (by first | rfl | (simp; done) | (simp [*]; done)), H', ⟨by have := HJ10.out; first | omega | exact Nat.le_refl _⟩, ⟨by exact yR_ HO_5.out⟩, ⟨by exact yB_ HB.out⟩⟩
      ·rw [if_neg c24] at H
       have c24b0 : (t387 == 0) = false := beq_eq_false_iff_ne.mpr c24
       have c24b1 : (t387 != 0) = true := bne_iff_ne.mpr c24
       (first | rw [c24b0] | (simp only [i64_w, i32_w]; rw [c24b0]) | skip)
       have H' := Aside0.mk H
       clear H
       go_wp2
       go_meet
       case rel => exact ⟨_, (true), (by first | rfl | (simp; done) | (simp [*]; done)), H', ⟨by have := HJ10.out; first | omega | exact Nat.le_refl _⟩, ⟨by exact yR_ HO_5.out⟩, ⟨by exact yB_ HB.out⟩⟩
     case rest =>
      clear HC23
      try clear c1
      try clear c2
      try clear p2
      try clear c3
      try clear c9
      try clear c9b0
      try clear c9b1
      try clear c10
      try clear c16
      try clear c17
      try clear c18
      try clear c18b0
      try clear c18b1
      try clear c19
      try clear c19b0
      try clear c19b1
      try clear c20
      try clear c20b0
      try clear c20b1
      try clear c21
      try clear c21b0
      try clear c21b1
      try clear c22
      try clear c22b0
      try clear c22b1
      try clear c23
      try clear c24
      try clear c24b0
      try clear c24b1
      try clear c25
      try clear c25b0
      try clear c25b1
      try clear c25b2
      try clear c26
      try clear c26b0
      try clear c26b1
      try clear c28
      try clear c28b0
      try clear c28b1
      try clear c29
      try clear c29b0
      try clear c29b1
      try clear p2
      obtain ⟨kq, x130_22, rfl, HA, HJ22, HO_5, HB⟩ := hcut
      cases kq with
      | zero => exact absurd HA.out (by simp [sorobanlaw21_SpecPrints.j1])
      | succ kj22 =>
       have H := HA.out
       clear HA
       simp only [sorobanlaw21_SpecPrints.j1] at H
       by_cases c40 : x130_22 = true
       ·subst c40
        have H1 : (some false) = some r := by rw [if_pos rfl] at H; exact H
        clear H
        have H := H1
        clear H1
        obtain rfl := Option.some.inj H
        go_wp2
        go_ret
        exact ⟨yE_, by exact yB_ HB.out⟩
       ·replace c40 := Bool.eq_false_iff.mpr c40
        subst c40
        have H1 : (sorobanlaw21_SpecPrints.l0 kj22 l0 t386 0) = some r := by rw [if_neg (show ¬ (false = true) by decide)] at H; exact H
        clear H
        have H := H1
        clear H1
        have H' := Aside0.mk H
        clear H
        go_wp2
        go_loopg [14] kj22 (fun kq v14 w' => ∃ (x14_3 : Int), v14 = .int .i64 x14_3 ∧ Aside0 (sorobanlaw21_SpecPrints.l0 kq l0 t386 x14_3 = some r) ∧ Aside0 (kq ≤ kj22) ∧ Aside0 (Kd.R k35 35 w' w.heap.size (fun _ => True) v388 t386) ∧ Aside0 (Below w.heap.size w w'))
        case atStart => exact ⟨(0), (by first | rfl | (simp; done) | (simp [*]; done)), H', ⟨Nat.le_refl _⟩, ⟨by exact yR_ HO_5.out⟩, ⟨by exact yB_ HB.out⟩⟩
        case round =>
         clear H'
         try clear c1
         try clear c2
         try clear p2
         try clear c3
         try clear c4
         try clear c9
         try clear c9b0
         try clear c9b1
         try clear c10
         try clear c16
         try clear c17
         try clear c18
         try clear c18b0
         try clear c18b1
         try clear c19
         try clear c19b0
         try clear c19b1
         try clear c20
         try clear c20b0
         try clear c20b1
         try clear c21
         try clear c21b0
         try clear c21b1
         try clear c22
         try clear c22b0
         try clear c22b1
         try clear c23
         try clear c24
         try clear c24b0
         try clear c24b1
         try clear c25
         try clear c25b0
         try clear c25b1
         try clear c25b2
         try clear c26
         try clear c26b0
         try clear c26b1
         try clear c28
         try clear c28b0
         try clear c28b1
         try clear c29
         try clear c29b0
         try clear c29b1
         try clear c40
         try clear p2
         obtain ⟨x14_3, rfl, HA, HK3, HO_5, HB⟩ := hrel
         cases gk with
         | zero => exact absurd HA.out (by simp [sorobanlaw21_SpecPrints.l0])
         | succ k3 =>
          have H := HA.out
          clear HA
          simp only [sorobanlaw21_SpecPrints.l0] at H
          by_cases c41 : x14_3 < (t386.length : Int)
          ·rw [if_pos c41] at H
           have c41b0 : decide (x14_3 < (t386.length : Int)) = true := decide_eq_true c41
           clear c41
           by_cases c42 : 0 ≤ x14_3
           ·rw [if_pos c42] at H
            have c42b0 : decide (0 ≤ x14_3) = true := decide_eq_true c42
            clear c42
            by_cases c43 : x14_3 < (l0.length : Int)
            ·rw [if_pos c43] at H
             have c43b0 : decide (x14_3 < (l0.length : Int)) = true := decide_eq_true c43
             clear c43
             replace H := Option.bind_eq_some_iff.mp H
             obtain ⟨⟨t402, t403, t404, t405, t406, t407, t408, t409, t410⟩, A440, H⟩ := H
             replace H : (if (!((((rd_T35 t386 x14_3).f0).toList) == t402.toList) || (!(((rd_T35 t386 x14_3).f1) == t403) || (!(((rd_T35 t386 x14_3).f2) == t404) || (!(((rd_T35 t386 x14_3).f3) == t405) || (!(((rd_T35 t386 x14_3).f4) == t406) || (!(((rd_T35 t386 x14_3).f5) == t407) || (!(((rd_T35 t386 x14_3).f6) == t408) || (!(((rd_T35 t386 x14_3).f7) == t409) || (!(((rd_T35 t386 x14_3).f8) == t410)))))))))) = true then (some false) else (sorobanlaw21_SpecPrints.l0 k3 l0 t386 (wrap64 (x14_3 + 1)))) = some r := H
             have A44 := Aside0.mk A440
             clear A440
             by_cases c45 : (!((((rd_T35 t386 x14_3).f0).toList) == t402.toList) || (!(((rd_T35 t386 x14_3).f1) == t403) || (!(((rd_T35 t386 x14_3).f2) == t404) || (!(((rd_T35 t386 x14_3).f3) == t405) || (!(((rd_T35 t386 x14_3).f4) == t406) || (!(((rd_T35 t386 x14_3).f5) == t407) || (!(((rd_T35 t386 x14_3).f6) == t408) || (!(((rd_T35 t386 x14_3).f7) == t409) || (!(((rd_T35 t386 x14_3).f8) == t410)))))))))) = true
             ·rw [if_pos c45] at H
              have c45b0 : (!((((rd_T35 t386 x14_3).f0).toList) == t402.toList) || (!(((rd_T35 t386 x14_3).f1) == t403) || (!(((rd_T35 t386 x14_3).f2) == t404) || (!(((rd_T35 t386 x14_3).f3) == t405) || (!(((rd_T35 t386 x14_3).f4) == t406) || (!(((rd_T35 t386 x14_3).f5) == t407) || (!(((rd_T35 t386 x14_3).f6) == t408) || (!(((rd_T35 t386 x14_3).f7) == t409) || (!(((rd_T35 t386 x14_3).f8) == t410)))))))))) = true := c45
              clear c45
              obtain rfl := Option.some.inj H
              obtain ⟨Ao46, co46, eo46⟩ := Kd.R_slice HO_5.out
              subst eo46
              try go_wp2
              have n0_ := Aside0.mk (Kd.R_drew HO_5.out)
              have n1_ := Aside0.mk (bD_ HB.out)
              clear HO_5
              clear HB
              have HO_5 := n0_
              have HB := n1_
              clear n0_ n1_
              have p400 : 0 ≤ (x14_3 : Int) := of_decide_eq_true (by first | (with_reducible assumption) | assumption)
              have q400 : x14_3 < (t386.length : Int) := of_decide_eq_true (by first | (with_reducible assumption) | assumption)
              obtain ⟨ad400, e400, hx400_0, hx400_1, hx400_2, hx400_3, hx400_4, hx400_5, hx400_6, hx400_7, hx400_8⟩ := at_T35 (Kd.R_reads' HO_5.out).2.2 x14_3 p400 q400
              cases e400
              replace p400 := eq_true p400
              replace q400 := eq_true q400
              have p401 : 0 ≤ (x14_3 : Int) := of_decide_eq_true (by first | (with_reducible assumption) | assumption)
              have q401 : x14_3 < (l0.length : Int) := of_decide_eq_true (by first | (with_reducible assumption) | assumption)
              obtain ⟨ad401, e401, hx401_0, hx401_1, hx401_2, hx401_3, hx401_4, hx401_5, hx401_6, hx401_7, hx401_8⟩ := at_T35 HR0.out x14_3 p401 q401
              have hw401_8 := hx401_8
              have hw401_7 := hx401_7
              have hw401_6 := hx401_6
              have hw401_5 := hx401_5
              have hw401_4 := hx401_4
              have hw401_3 := hx401_3
              have hw401_2 := hx401_2
              have hw401_1 := hx401_1
              have hw401_0 := hx401_0
              cases e401
              replace hx401_0 := (HB.out.cell (World.block_lt_of_cell? w _ hx401_0)).trans hx401_0
              replace hx401_1 := (HB.out.cell (World.block_lt_of_cell? w _ hx401_1)).trans hx401_1
              replace hx401_2 := (HB.out.cell (World.block_lt_of_cell? w _ hx401_2)).trans hx401_2
              replace hx401_3 := (HB.out.cell (World.block_lt_of_cell? w _ hx401_3)).trans hx401_3
              replace hx401_4 := (HB.out.cell (World.block_lt_of_cell? w _ hx401_4)).trans hx401_4
              replace hx401_5 := (HB.out.cell (World.block_lt_of_cell? w _ hx401_5)).trans hx401_5
              replace hx401_6 := (HB.out.cell (World.block_lt_of_cell? w _ hx401_6)).trans hx401_6
              replace hx401_7 := (HB.out.cell (World.block_lt_of_cell? w _ hx401_7)).trans hx401_7
              replace hx401_8 := (HB.out.cell (World.block_lt_of_cell? w _ hx401_8)).trans hx401_8
              replace p401 := eq_true p401
              replace q401 := eq_true q401
              refine start_ (n := 10) (S := fun w' => w'.cell? (ad400.add ((x14_3).toNat * 9)) = some (.string ((rd_T35 t386 x14_3).f0)) ∧ w'.cell? ⟨(ad400.add ((x14_3).toNat * 9)).block, (ad400.add ((x14_3).toNat * 9)).off + 1, none⟩ = some (.int .i64 ((rd_T35 t386 x14_3).f1)) ∧ w'.cell? ⟨(ad400.add ((x14_3).toNat * 9)).block, (ad400.add ((x14_3).toNat * 9)).off + 2, none⟩ = some (.int .i64 ((rd_T35 t386 x14_3).f2)) ∧ w'.cell? ⟨(ad400.add ((x14_3).toNat * 9)).block, (ad400.add ((x14_3).toNat * 9)).off + 3, none⟩ = some (.int .i64 ((rd_T35 t386 x14_3).f3)) ∧ w'.cell? ⟨(ad400.add ((x14_3).toNat * 9)).block, (ad400.add ((x14_3).toNat * 9)).off + 4, none⟩ = some (.int .i64 ((rd_T35 t386 x14_3).f4)) ∧ w'.cell? ⟨(ad400.add ((x14_3).toNat * 9)).block, (ad400.add ((x14_3).toNat * 9)).off + 5, none⟩ = some (.int .i64 ((rd_T35 t386 x14_3).f5)) ∧ w'.cell? ⟨(ad400.add ((x14_3).toNat * 9)).block, (ad400.add ((x14_3).toNat * 9)).off + 6, none⟩ = some (.int .i64 ((rd_T35 t386 x14_3).f6)) ∧ w'.cell? ⟨(ad400.add ((x14_3).toNat * 9)).block, (ad400.add ((x14_3).toNat * 9)).off + 7, none⟩ = some (.int .i64 ((rd_T35 t386 x14_3).f7)) ∧ w'.cell? ⟨(ad400.add ((x14_3).toNat * 9)).block, (ad400.add ((x14_3).toNat * 9)).off + 8, none⟩ = some (.int .u8 ((rd_T35 t386 x14_3).f8)) ∧ w'.cell? (ad401.add ((x14_3).toNat * 9)) = some (.string ((rd_T35 l0 x14_3).f0)) ∧ w'.cell? ⟨(ad401.add ((x14_3).toNat * 9)).block, (ad401.add ((x14_3).toNat * 9)).off + 1, none⟩ = some (.int .i64 ((rd_T35 l0 x14_3).f1)) ∧ w'.cell? ⟨(ad401.add ((x14_3).toNat * 9)).block, (ad401.add ((x14_3).toNat * 9)).off + 2, none⟩ = some (.int .i64 ((rd_T35 l0 x14_3).f2)) ∧ w'.cell? ⟨(ad401.add ((x14_3).toNat * 9)).block, (ad401.add ((x14_3).toNat * 9)).off + 3, none⟩ = some (.int .i64 ((rd_T35 l0 x14_3).f3)) ∧ w'.cell? ⟨(ad401.add ((x14_3).toNat * 9)).block, (ad401.add ((x14_3).toNat * 9)).off + 4, none⟩ = some (.int .i64 ((rd_T35 l0 x14_3).f4)) ∧ w'.cell? ⟨(ad401.add ((x14_3).toNat * 9)).block, (ad401.add ((x14_3).toNat * 9)).off + 5, none⟩ = some (.int .i64 ((rd_T35 l0 x14_3).f5)) ∧ w'.cell? ⟨(ad401.add ((x14_3).toNat * 9)).block, (ad401.add ((x14_3).toNat * 9)).off + 6, none⟩ = some (.int .i64 ((rd_T35 l0 x14_3).f6)) ∧ w'.cell? ⟨(ad401.add ((x14_3).toNat * 9)).block, (ad401.add ((x14_3).toNat * 9)).off + 7, none⟩ = some (.int .i64 ((rd_T35 l0 x14_3).f7)) ∧ w'.cell? ⟨(ad401.add ((x14_3).toNat * 9)).block, (ad401.add ((x14_3).toNat * 9)).off + 8, none⟩ = some (.int .u8 ((rd_T35 l0 x14_3).f8))) (ds := []) #[false, false, false, false, false, false, false, false, false, false] (by kernel_rfl) rfl rfl ⟨hx400_0, hx400_1, hx400_2, hx400_3, hx400_4, hx400_5, hx400_6, hx400_7, hx400_8, ((HB.out.cell (World.block_lt_of_cell? w _ hw401_0)).trans hw401_0), ((HB.out.cell (World.block_lt_of_cell? w _ hw401_1)).trans hw401_1), ((HB.out.cell (World.block_lt_of_cell? w _ hw401_2)).trans hw401_2), ((HB.out.cell (World.block_lt_of_cell? w _ hw401_3)).trans hw401_3), ((HB.out.cell (World.block_lt_of_cell? w _ hw401_4)).trans hw401_4), ((HB.out.cell (World.block_lt_of_cell? w _ hw401_5)).trans hw401_5), ((HB.out.cell (World.block_lt_of_cell? w _ hw401_6)).trans hw401_6), ((HB.out.cell (World.block_lt_of_cell? w _ hw401_7)).trans hw401_7), ((HB.out.cell (World.block_lt_of_cell? w _ hw401_8)).trans hw401_8)⟩ (fun hHeld => ?_); refine with_tabW sorobanlaw21_SpecPrints.tab21 sorobanlaw21_SpecPrints.bits21 (fun HT_ HW_ => ?_)
              generalize wr.drew = w47 at HO_5 HB hx400_0 hx400_1 hx400_2 hx400_3 hx400_4 hx400_5 hx400_6 hx400_7 hx400_8 hx401_0 hx401_1 hx401_2 hx401_3 hx401_4 hx401_5 hx401_6 hx401_7 hx401_8 hHeld ⊢
              refine pure_ (i := 0) (N := some 137) (v := ?_) (a' := ?_) #[true, false, false, false, false, false, false, false, false, false] rfl rfl (any_of HT_.out (by kernel_rfl)) (fun _ _ _ h => h) (Or.inl ⟨by rfl, ?_⟩) ?_ ?_
              rotate_left
              ·intro w'
               go_simp
               with_reducible rfl
              rotate_left
              ·simp only [Act.put, List.setIfInBounds_toArray, List.set_cons_zero, List.set_cons_succ, i64_w, i32_w]
               rfl
              refine pure_ (i := 1) (N := some 138) (v := ?_) (a' := ?_) #[true, true, false, false, false, false, false, false, false, false] rfl rfl (any_of HT_.out (by kernel_rfl)) (fun _ _ _ h => h) (Or.inl ⟨by rfl, ?_⟩) ?_ ?_
              rotate_left
              ·intro w'
               go_simp
               with_reducible rfl
              rotate_left
              ·simp only [Act.put, List.setIfInBounds_toArray, List.set_cons_zero, List.set_cons_succ, i64_w, i32_w]
               rfl
              refine pure_ (i := 2) (N := some 139) (v := ?_) (a' := ?_) #[true, true, true, false, false, false, false, false, false, false] rfl rfl (any_of HT_.out (by kernel_rfl)) (fun _ _ _ h => h) (Or.inl ⟨by rfl, ?_⟩) ?_ ?_
              rotate_left
              ·intro w'
               go_simp
               with_reducible rfl
              rotate_left
              ·simp only [Act.put, List.setIfInBounds_toArray, List.set_cons_zero, List.set_cons_succ, i64_w, i32_w]
               rfl
              refine pure_ (i := 4) (N := some 141) (v := ?_) (a' := ?_) #[true, true, true, false, true, false, false, false, false, false] rfl rfl (any_of HT_.out (by kernel_rfl)) (fun _ _ _ h => h) (Or.inl ⟨by rfl, ?_⟩) ?_ ?_
              rotate_left
              ·intro w'
               go_simp
               with_reducible rfl
              rotate_left
              ·simp only [Act.put, List.setIfInBounds_toArray, List.set_cons_zero, List.set_cons_succ, i64_w, i32_w]
               rfl
              refine pure_ (i := 5) (N := some 142) (v := ?_) (a' := ?_) #[true, true, true, false, true, true, false, false, false, false] rfl rfl (any_of HT_.out (by kernel_rfl)) (fun _ _ _ h => h) (Or.inl ⟨by rfl, ?_⟩) ?_ ?_
              rotate_left
              ·intro w'
               go_simp
               with_reducible rfl
              rotate_left
              ·simp only [Act.put, List.setIfInBounds_toArray, List.set_cons_zero, List.set_cons_succ, i64_w, i32_w]
               rfl
              refine pure_ (i := 6) (N := some 143) (v := ?_) (a' := ?_) #[true, true, true, false, true, true, true, false, false, false] rfl rfl (any_of HT_.out (by kernel_rfl)) (fun _ _ _ h => h) (Or.inl ⟨by rfl, ?_⟩) ?_ ?_
              rotate_left
              ·intro w'
               go_simp
               with_reducible rfl
              rotate_left
              ·simp only [Act.put, List.setIfInBounds_toArray, List.set_cons_zero, List.set_cons_succ, i64_w, i32_w]
               rfl
              refine take_ (i := 3) (N := some 140) (v := ?_) (a' := ?_) #[true, true, true, true, true, true, true, false, false, false] rfl rfl (take_ofW HT_.out HW_.out (by kernel_rfl)) (fun _ _ _ h => h) (Or.inl ⟨by rfl, ?_⟩) hHeld ?_ ?_
              rotate_left
              ·rintro w' ⟨s0, s1, s2, s3, s4, s5, s6, s7, s8, s9, s10, s11, s12, s13, s14, s15, s16, s17⟩
               go_simp
               with_reducible rfl
              rotate_left
              ·simp only [Act.put, List.setIfInBounds_toArray, List.set_cons_zero, List.set_cons_succ, i64_w, i32_w]
               rfl
              refine take_ (i := 7) (N := some 144) (v := ?_) (a' := ?_) #[true, true, true, true, true, true, true, true, false, false] rfl rfl (take_ofW HT_.out HW_.out (by kernel_rfl)) (fun _ _ _ h => h) (Or.inl ⟨by rfl, ?_⟩) hHeld ?_ ?_
              rotate_left
              ·rintro w' ⟨s0, s1, s2, s3, s4, s5, s6, s7, s8, s9, s10, s11, s12, s13, s14, s15, s16, s17⟩
               go_simp
               with_reducible rfl
              rotate_left
              ·simp only [Act.put, List.setIfInBounds_toArray, List.set_cons_zero, List.set_cons_succ, i64_w, i32_w]
               rfl
              refine one_ (i := 8) (N := some 145) #[true, true, true, true, true, true, true, true, true, false] rfl rfl (one_of HT_.out (by kernel_rfl)) (by decide) (fun K hK => ?_)
              refine goes_ Tryz.func29 (by kernel_rfl) rfl #[.agg #[.string ((rd_T35 l0 x14_3).f0), .int .i64 ((rd_T35 l0 x14_3).f1), .int .i64 ((rd_T35 l0 x14_3).f2), .int .i64 ((rd_T35 l0 x14_3).f3), .int .i64 ((rd_T35 l0 x14_3).f4), .int .i64 ((rd_T35 l0 x14_3).f5), .int .i64 ((rd_T35 l0 x14_3).f6), .int .i64 ((rd_T35 l0 x14_3).f7), .int .u8 ((rd_T35 l0 x14_3).f8)]] (by rfl) rfl rfl (by (try simp only [List.map_toArray, List.map_cons, List.map_nil]); first | done | rfl | (simp only [List.length_drop, List.length_take]; rfl)) ?_
              with_reducible refine (sorobanref21_Simple.calls ((rd_T35 l0 x14_3).f0) ((rd_T35 l0 x14_3).f1) ((rd_T35 l0 x14_3).f2) ((rd_T35 l0 x14_3).f3) ((rd_T35 l0 x14_3).f4) ((rd_T35 l0 x14_3).f5) ((rd_T35 l0 x14_3).f6) ((rd_T35 l0 x14_3).f7) ((rd_T35 l0 x14_3).f8) t402 t403 t404 t405 t406 t407 t408 t409 t410 _ A44.out).mono ?_
              rintro e w48 ⟨rfl, hb⟩
              have HS0_ := (hb.cell (World.block_lt_of_cell? _ _ (hHeld.1))).trans (hHeld.1)
              have HS1_ := (hb.cell (World.block_lt_of_cell? _ _ (hHeld.2.1))).trans (hHeld.2.1)
              have HS2_ := (hb.cell (World.block_lt_of_cell? _ _ (hHeld.2.2.1))).trans (hHeld.2.2.1)
              have HS3_ := (hb.cell (World.block_lt_of_cell? _ _ (hHeld.2.2.2.1))).trans (hHeld.2.2.2.1)
              have HS4_ := (hb.cell (World.block_lt_of_cell? _ _ (hHeld.2.2.2.2.1))).trans (hHeld.2.2.2.2.1)
              have HS5_ := (hb.cell (World.block_lt_of_cell? _ _ (hHeld.2.2.2.2.2.1))).trans (hHeld.2.2.2.2.2.1)
              have HS6_ := (hb.cell (World.block_lt_of_cell? _ _ (hHeld.2.2.2.2.2.2.1))).trans (hHeld.2.2.2.2.2.2.1)
              have HS7_ := (hb.cell (World.block_lt_of_cell? _ _ (hHeld.2.2.2.2.2.2.2.1))).trans (hHeld.2.2.2.2.2.2.2.1)
              have HS8_ := (hb.cell (World.block_lt_of_cell? _ _ (hHeld.2.2.2.2.2.2.2.2.1))).trans (hHeld.2.2.2.2.2.2.2.2.1)
              refine ⟨_, rfl, ?_⟩
              have n0_ := Aside0.mk (Kd.R_below (by exact yR_ HO_5.out) hb)
              have n1_ := Aside0.mk (below_step (by exact yB_ HB.out) hb)
              clear HO_5
              clear HB
              have HO_5 := n0_
              have HB := n1_
              clear n0_ n1_
              (try clear hb)
              (try clear hb2)
              (try clear hk)
              (try clear hi)
              refine hK.out _ _ ⟨HS0_, HS1_, HS2_, HS3_, HS4_, HS5_, HS6_, HS7_, HS8_, ((HB.out.cell (World.block_lt_of_cell? w _ hw401_0)).trans hw401_0), ((HB.out.cell (World.block_lt_of_cell? w _ hw401_1)).trans hw401_1), ((HB.out.cell (World.block_lt_of_cell? w _ hw401_2)).trans hw401_2), ((HB.out.cell (World.block_lt_of_cell? w _ hw401_3)).trans hw401_3), ((HB.out.cell (World.block_lt_of_cell? w _ hw401_4)).trans hw401_4), ((HB.out.cell (World.block_lt_of_cell? w _ hw401_5)).trans hw401_5), ((HB.out.cell (World.block_lt_of_cell? w _ hw401_6)).trans hw401_6), ((HB.out.cell (World.block_lt_of_cell? w _ hw401_7)).trans hw401_7), ((HB.out.cell (World.block_lt_of_cell? w _ hw401_8)).trans hw401_8)⟩ (fun hHeld => ?_)
              clear hK K
              refine norm_ (a' := ?_) ?_ ?_
              rotate_left
              ·show Act.put _ (some 145) _ = _
               simp only [Act.put, List.setIfInBounds_toArray, List.set_cons_zero, List.set_cons_succ, i64_w, i32_w]
               rfl
              refine pure_ (i := 9) (N := some 146) (v := ?_) (a' := ?_) #[true, true, true, true, true, true, true, true, true, true] rfl rfl (any_of HT_.out (by kernel_rfl)) (fun _ _ _ h => h) (Or.inl ⟨by rfl, ?_⟩) ?_ ?_
              rotate_left
              ·intro w'
               go_simp
               with_reducible rfl
              rotate_left
              ·simp only [Act.put, List.setIfInBounds_toArray, List.set_cons_zero, List.set_cons_succ, i64_w, i32_w]
               rfl
              refine done_ (done_of HT_.out (by kernel_rfl)) ?_
              try go_wp2
              go_ret
              exact ⟨yE_, by exact yB_ HB.out⟩
             ·rw [if_neg c45] at H
              have c45b0 : (!((((rd_T35 t386 x14_3).f0).toList) == t402.toList) || (!(((rd_T35 t386 x14_3).f1) == t403) || (!(((rd_T35 t386 x14_3).f2) == t404) || (!(((rd_T35 t386 x14_3).f3) == t405) || (!(((rd_T35 t386 x14_3).f4) == t406) || (!(((rd_T35 t386 x14_3).f5) == t407) || (!(((rd_T35 t386 x14_3).f6) == t408) || (!(((rd_T35 t386 x14_3).f7) == t409) || (!(((rd_T35 t386 x14_3).f8) == t410)))))))))) = false := by simpa using c45
              clear c45
              have H' := Aside0.mk H
              clear H
              obtain ⟨Ao49, co49, eo49⟩ := Kd.R_slice HO_5.out
              subst eo49
              try go_wp2
              have n0_ := Aside0.mk (Kd.R_drew HO_5.out)
              have n1_ := Aside0.mk (bD_ HB.out)
              clear HO_5
              clear HB
              have HO_5 := n0_
              have HB := n1_
              clear n0_ n1_
              have p400 : 0 ≤ (x14_3 : Int) := of_decide_eq_true (by first | (with_reducible assumption) | assumption)
              have q400 : x14_3 < (t386.length : Int) := of_decide_eq_true (by first | (with_reducible assumption) | assumption)
              obtain ⟨ad400, e400, hx400_0, hx400_1, hx400_2, hx400_3, hx400_4, hx400_5, hx400_6, hx400_7, hx400_8⟩ := at_T35 (Kd.R_reads' HO_5.out).2.2 x14_3 p400 q400
              cases e400
              replace p400 := eq_true p400
              replace q400 := eq_true q400
              have p401 : 0 ≤ (x14_3 : Int) := of_decide_eq_true (by first | (with_reducible assumption) | assumption)
              have q401 : x14_3 < (l0.length : Int) := of_decide_eq_true (by first | (with_reducible assumption) | assumption)
              obtain ⟨ad401, e401, hx401_0, hx401_1, hx401_2, hx401_3, hx401_4, hx401_5, hx401_6, hx401_7, hx401_8⟩ := at_T35 HR0.out x14_3 p401 q401
              have hw401_8 := hx401_8
              have hw401_7 := hx401_7
              have hw401_6 := hx401_6
              have hw401_5 := hx401_5
              have hw401_4 := hx401_4
              have hw401_3 := hx401_3
              have hw401_2 := hx401_2
              have hw401_1 := hx401_1
              have hw401_0 := hx401_0
              cases e401
              replace hx401_0 := (HB.out.cell (World.block_lt_of_cell? w _ hx401_0)).trans hx401_0
              replace hx401_1 := (HB.out.cell (World.block_lt_of_cell? w _ hx401_1)).trans hx401_1
              replace hx401_2 := (HB.out.cell (World.block_lt_of_cell? w _ hx401_2)).trans hx401_2
              replace hx401_3 := (HB.out.cell (World.block_lt_of_cell? w _ hx401_3)).trans hx401_3
              replace hx401_4 := (HB.out.cell (World.block_lt_of_cell? w _ hx401_4)).trans hx401_4
              replace hx401_5 := (HB.out.cell (World.block_lt_of_cell? w _ hx401_5)).trans hx401_5
              replace hx401_6 := (HB.out.cell (World.block_lt_of_cell? w _ hx401_6)).trans hx401_6
              replace hx401_7 := (HB.out.cell (World.block_lt_of_cell? w _ hx401_7)).trans hx401_7
              replace hx401_8 := (HB.out.cell (World.block_lt_of_cell? w _ hx401_8)).trans hx401_8
              replace p401 := eq_true p401
              replace q401 := eq_true q401
              refine start_ (n := 10) (S := fun w' => w'.cell? (ad400.add ((x14_3).toNat * 9)) = some (.string ((rd_T35 t386 x14_3).f0)) ∧ w'.cell? ⟨(ad400.add ((x14_3).toNat * 9)).block, (ad400.add ((x14_3).toNat * 9)).off + 1, none⟩ = some (.int .i64 ((rd_T35 t386 x14_3).f1)) ∧ w'.cell? ⟨(ad400.add ((x14_3).toNat * 9)).block, (ad400.add ((x14_3).toNat * 9)).off + 2, none⟩ = some (.int .i64 ((rd_T35 t386 x14_3).f2)) ∧ w'.cell? ⟨(ad400.add ((x14_3).toNat * 9)).block, (ad400.add ((x14_3).toNat * 9)).off + 3, none⟩ = some (.int .i64 ((rd_T35 t386 x14_3).f3)) ∧ w'.cell? ⟨(ad400.add ((x14_3).toNat * 9)).block, (ad400.add ((x14_3).toNat * 9)).off + 4, none⟩ = some (.int .i64 ((rd_T35 t386 x14_3).f4)) ∧ w'.cell? ⟨(ad400.add ((x14_3).toNat * 9)).block, (ad400.add ((x14_3).toNat * 9)).off + 5, none⟩ = some (.int .i64 ((rd_T35 t386 x14_3).f5)) ∧ w'.cell? ⟨(ad400.add ((x14_3).toNat * 9)).block, (ad400.add ((x14_3).toNat * 9)).off + 6, none⟩ = some (.int .i64 ((rd_T35 t386 x14_3).f6)) ∧ w'.cell? ⟨(ad400.add ((x14_3).toNat * 9)).block, (ad400.add ((x14_3).toNat * 9)).off + 7, none⟩ = some (.int .i64 ((rd_T35 t386 x14_3).f7)) ∧ w'.cell? ⟨(ad400.add ((x14_3).toNat * 9)).block, (ad400.add ((x14_3).toNat * 9)).off + 8, none⟩ = some (.int .u8 ((rd_T35 t386 x14_3).f8)) ∧ w'.cell? (ad401.add ((x14_3).toNat * 9)) = some (.string ((rd_T35 l0 x14_3).f0)) ∧ w'.cell? ⟨(ad401.add ((x14_3).toNat * 9)).block, (ad401.add ((x14_3).toNat * 9)).off + 1, none⟩ = some (.int .i64 ((rd_T35 l0 x14_3).f1)) ∧ w'.cell? ⟨(ad401.add ((x14_3).toNat * 9)).block, (ad401.add ((x14_3).toNat * 9)).off + 2, none⟩ = some (.int .i64 ((rd_T35 l0 x14_3).f2)) ∧ w'.cell? ⟨(ad401.add ((x14_3).toNat * 9)).block, (ad401.add ((x14_3).toNat * 9)).off + 3, none⟩ = some (.int .i64 ((rd_T35 l0 x14_3).f3)) ∧ w'.cell? ⟨(ad401.add ((x14_3).toNat * 9)).block, (ad401.add ((x14_3).toNat * 9)).off + 4, none⟩ = some (.int .i64 ((rd_T35 l0 x14_3).f4)) ∧ w'.cell? ⟨(ad401.add ((x14_3).toNat * 9)).block, (ad401.add ((x14_3).toNat * 9)).off + 5, none⟩ = some (.int .i64 ((rd_T35 l0 x14_3).f5)) ∧ w'.cell? ⟨(ad401.add ((x14_3).toNat * 9)).block, (ad401.add ((x14_3).toNat * 9)).off + 6, none⟩ = some (.int .i64 ((rd_T35 l0 x14_3).f6)) ∧ w'.cell? ⟨(ad401.add ((x14_3).toNat * 9)).block, (ad401.add ((x14_3).toNat * 9)).off + 7, none⟩ = some (.int .i64 ((rd_T35 l0 x14_3).f7)) ∧ w'.cell? ⟨(ad401.add ((x14_3).toNat * 9)).block, (ad401.add ((x14_3).toNat * 9)).off + 8, none⟩ = some (.int .u8 ((rd_T35 l0 x14_3).f8))) (ds := []) #[false, false, false, false, false, false, false, false, false, false] (by kernel_rfl) rfl rfl ⟨hx400_0, hx400_1, hx400_2, hx400_3, hx400_4, hx400_5, hx400_6, hx400_7, hx400_8, ((HB.out.cell (World.block_lt_of_cell? w _ hw401_0)).trans hw401_0), ((HB.out.cell (World.block_lt_of_cell? w _ hw401_1)).trans hw401_1), ((HB.out.cell (World.block_lt_of_cell? w _ hw401_2)).trans hw401_2), ((HB.out.cell (World.block_lt_of_cell? w _ hw401_3)).trans hw401_3), ((HB.out.cell (World.block_lt_of_cell? w _ hw401_4)).trans hw401_4), ((HB.out.cell (World.block_lt_of_cell? w _ hw401_5)).trans hw401_5), ((HB.out.cell (World.block_lt_of_cell? w _ hw401_6)).trans hw401_6), ((HB.out.cell (World.block_lt_of_cell? w _ hw401_7)).trans hw401_7), ((HB.out.cell (World.block_lt_of_cell? w _ hw401_8)).trans hw401_8)⟩ (fun hHeld => ?_); refine with_tabW sorobanlaw21_SpecPrints.tab21 sorobanlaw21_SpecPrints.bits21 (fun HT_ HW_ => ?_)
              generalize wr.drew = w50 at HO_5 HB hx400_0 hx400_1 hx400_2 hx400_3 hx400_4 hx400_5 hx400_6 hx400_7 hx400_8 hx401_0 hx401_1 hx401_2 hx401_3 hx401_4 hx401_5 hx401_6 hx401_7 hx401_8 hHeld ⊢
              refine pure_ (i := 0) (N := some 137) (v := ?_) (a' := ?_) #[true, false, false, false, false, false, false, false, false, false] rfl rfl (any_of HT_.out (by kernel_rfl)) (fun _ _ _ h => h) (Or.inl ⟨by rfl, ?_⟩) ?_ ?_
              rotate_left
              ·intro w'
               go_simp
               with_reducible rfl
              rotate_left
              ·simp only [Act.put, List.setIfInBounds_toArray, List.set_cons_zero, List.set_cons_succ, i64_w, i32_w]
               rfl
              refine pure_ (i := 1) (N := some 138) (v := ?_) (a' := ?_) #[true, true, false, false, false, false, false, false, false, false] rfl rfl (any_of HT_.out (by kernel_rfl)) (fun _ _ _ h => h) (Or.inl ⟨by rfl, ?_⟩) ?_ ?_
              rotate_left
              ·intro w'
               go_simp
               with_reducible rfl
              rotate_left
              ·simp only [Act.put, List.setIfInBounds_toArray, List.set_cons_zero, List.set_cons_succ, i64_w, i32_w]
               rfl
              refine pure_ (i := 2) (N := some 139) (v := ?_) (a' := ?_) #[true, true, true, false, false, false, false, false, false, false] rfl rfl (any_of HT_.out (by kernel_rfl)) (fun _ _ _ h => h) (Or.inl ⟨by rfl, ?_⟩) ?_ ?_
              rotate_left
              ·intro w'
               go_simp
               with_reducible rfl
              rotate_left
              ·simp only [Act.put, List.setIfInBounds_toArray, List.set_cons_zero, List.set_cons_succ, i64_w, i32_w]
               rfl
              refine pure_ (i := 4) (N := some 141) (v := ?_) (a' := ?_) #[true, true, true, false, true, false, false, false, false, false] rfl rfl (any_of HT_.out (by kernel_rfl)) (fun _ _ _ h => h) (Or.inl ⟨by rfl, ?_⟩) ?_ ?_
              rotate_left
              ·intro w'
               go_simp
               with_reducible rfl
              rotate_left
              ·simp only [Act.put, List.setIfInBounds_toArray, List.set_cons_zero, List.set_cons_succ, i64_w, i32_w]
               rfl
              refine pure_ (i := 5) (N := some 142) (v := ?_) (a' := ?_) #[true, true, true, false, true, true, false, false, false, false] rfl rfl (any_of HT_.out (by kernel_rfl)) (fun _ _ _ h => h) (Or.inl ⟨by rfl, ?_⟩) ?_ ?_
              rotate_left
              ·intro w'
               go_simp
               with_reducible rfl
              rotate_left
              ·simp only [Act.put, List.setIfInBounds_toArray, List.set_cons_zero, List.set_cons_succ, i64_w, i32_w]
               rfl
              refine pure_ (i := 6) (N := some 143) (v := ?_) (a' := ?_) #[true, true, true, false, true, true, true, false, false, false] rfl rfl (any_of HT_.out (by kernel_rfl)) (fun _ _ _ h => h) (Or.inl ⟨by rfl, ?_⟩) ?_ ?_
              rotate_left
              ·intro w'
               go_simp
               with_reducible rfl
              rotate_left
              ·simp only [Act.put, List.setIfInBounds_toArray, List.set_cons_zero, List.set_cons_succ, i64_w, i32_w]
               rfl
              refine take_ (i := 3) (N := some 140) (v := ?_) (a' := ?_) #[true, true, true, true, true, true, true, false, false, false] rfl rfl (take_ofW HT_.out HW_.out (by kernel_rfl)) (fun _ _ _ h => h) (Or.inl ⟨by rfl, ?_⟩) hHeld ?_ ?_
              rotate_left
              ·rintro w' ⟨s0, s1, s2, s3, s4, s5, s6, s7, s8, s9, s10, s11, s12, s13, s14, s15, s16, s17⟩
               go_simp
               with_reducible rfl
              rotate_left
              ·simp only [Act.put, List.setIfInBounds_toArray, List.set_cons_zero, List.set_cons_succ, i64_w, i32_w]
               rfl
              refine take_ (i := 7) (N := some 144) (v := ?_) (a' := ?_) #[true, true, true, true, true, true, true, true, false, false] rfl rfl (take_ofW HT_.out HW_.out (by kernel_rfl)) (fun _ _ _ h => h) (Or.inl ⟨by rfl, ?_⟩) hHeld ?_ ?_
              rotate_left
              ·rintro w' ⟨s0, s1, s2, s3, s4, s5, s6, s7, s8, s9, s10, s11, s12, s13, s14, s15, s16, s17⟩
               go_simp
               with_reducible rfl
              rotate_left
              ·simp only [Act.put, List.setIfInBounds_toArray, List.set_cons_zero, List.set_cons_succ, i64_w, i32_w]
               rfl
              refine one_ (i := 8) (N := some 145) #[true, true, true, true, true, true, true, true, true, false] rfl rfl (one_of HT_.out (by kernel_rfl)) (by decide) (fun K hK => ?_)
              refine goes_ Tryz.func29 (by kernel_rfl) rfl #[.agg #[.string ((rd_T35 l0 x14_3).f0), .int .i64 ((rd_T35 l0 x14_3).f1), .int .i64 ((rd_T35 l0 x14_3).f2), .int .i64 ((rd_T35 l0 x14_3).f3), .int .i64 ((rd_T35 l0 x14_3).f4), .int .i64 ((rd_T35 l0 x14_3).f5), .int .i64 ((rd_T35 l0 x14_3).f6), .int .i64 ((rd_T35 l0 x14_3).f7), .int .u8 ((rd_T35 l0 x14_3).f8)]] (by rfl) rfl rfl (by (try simp only [List.map_toArray, List.map_cons, List.map_nil]); first | done | rfl | (simp only [List.length_drop, List.length_take]; rfl)) ?_
              with_reducible refine (sorobanref21_Simple.calls ((rd_T35 l0 x14_3).f0) ((rd_T35 l0 x14_3).f1) ((rd_T35 l0 x14_3).f2) ((rd_T35 l0 x14_3).f3) ((rd_T35 l0 x14_3).f4) ((rd_T35 l0 x14_3).f5) ((rd_T35 l0 x14_3).f6) ((rd_T35 l0 x14_3).f7) ((rd_T35 l0 x14_3).f8) t402 t403 t404 t405 t406 t407 t408 t409 t410 _ A44.out).mono ?_
              rintro e w51 ⟨rfl, hb⟩
              have HS0_ := (hb.cell (World.block_lt_of_cell? _ _ (hHeld.1))).trans (hHeld.1)
              have HS1_ := (hb.cell (World.block_lt_of_cell? _ _ (hHeld.2.1))).trans (hHeld.2.1)
              have HS2_ := (hb.cell (World.block_lt_of_cell? _ _ (hHeld.2.2.1))).trans (hHeld.2.2.1)
              have HS3_ := (hb.cell (World.block_lt_of_cell? _ _ (hHeld.2.2.2.1))).trans (hHeld.2.2.2.1)
              have HS4_ := (hb.cell (World.block_lt_of_cell? _ _ (hHeld.2.2.2.2.1))).trans (hHeld.2.2.2.2.1)
              have HS5_ := (hb.cell (World.block_lt_of_cell? _ _ (hHeld.2.2.2.2.2.1))).trans (hHeld.2.2.2.2.2.1)
              have HS6_ := (hb.cell (World.block_lt_of_cell? _ _ (hHeld.2.2.2.2.2.2.1))).trans (hHeld.2.2.2.2.2.2.1)
              have HS7_ := (hb.cell (World.block_lt_of_cell? _ _ (hHeld.2.2.2.2.2.2.2.1))).trans (hHeld.2.2.2.2.2.2.2.1)
              have HS8_ := (hb.cell (World.block_lt_of_cell? _ _ (hHeld.2.2.2.2.2.2.2.2.1))).trans (hHeld.2.2.2.2.2.2.2.2.1)
              refine ⟨_, rfl, ?_⟩
              have n0_ := Aside0.mk (Kd.R_below (by exact yR_ HO_5.out) hb)
              have n1_ := Aside0.mk (below_step (by exact yB_ HB.out) hb)
              clear HO_5
              clear HB
              have HO_5 := n0_
              have HB := n1_
              clear n0_ n1_
              (try clear hb)
              (try clear hb2)
              (try clear hk)
              (try clear hi)
              refine hK.out _ _ ⟨HS0_, HS1_, HS2_, HS3_, HS4_, HS5_, HS6_, HS7_, HS8_, ((HB.out.cell (World.block_lt_of_cell? w _ hw401_0)).trans hw401_0), ((HB.out.cell (World.block_lt_of_cell? w _ hw401_1)).trans hw401_1), ((HB.out.cell (World.block_lt_of_cell? w _ hw401_2)).trans hw401_2), ((HB.out.cell (World.block_lt_of_cell? w _ hw401_3)).trans hw401_3), ((HB.out.cell (World.block_lt_of_cell? w _ hw401_4)).trans hw401_4), ((HB.out.cell (World.block_lt_of_cell? w _ hw401_5)).trans hw401_5), ((HB.out.cell (World.block_lt_of_cell? w _ hw401_6)).trans hw401_6), ((HB.out.cell (World.block_lt_of_cell? w _ hw401_7)).trans hw401_7), ((HB.out.cell (World.block_lt_of_cell? w _ hw401_8)).trans hw401_8)⟩ (fun hHeld => ?_)
              clear hK K
              refine norm_ (a' := ?_) ?_ ?_
              rotate_left
              ·show Act.put _ (some 145) _ = _
               simp only [Act.put, List.setIfInBounds_toArray, List.set_cons_zero, List.set_cons_succ, i64_w, i32_w]
               rfl
              refine pure_ (i := 9) (N := some 146) (v := ?_) (a' := ?_) #[true, true, true, true, true, true, true, true, true, true] rfl rfl (any_of HT_.out (by kernel_rfl)) (fun _ _ _ h => h) (Or.inl ⟨by rfl, ?_⟩) ?_ ?_
              rotate_left
              ·intro w'
               go_simp
               with_reducible rfl
              rotate_left
              ·simp only [Act.put, List.setIfInBounds_toArray, List.set_cons_zero, List.set_cons_succ, i64_w, i32_w]
               rfl
              refine done_ (done_of HT_.out (by kernel_rfl)) ?_
              try go_wp2
              go_roundg k3
              case measure => have := HJ10.out; have := HJ22.out; have := HK3.out; omega
              case rel => exact ⟨(wrap64 (x14_3 + 1)), (by first | rfl | (simp; done) | (simp [*]; done)), H', ⟨by have := HJ10.out; have := HJ22.out; have := HK3.out; omega⟩, ⟨by exact yR_ HO_5.out⟩, ⟨by exact yB_ HB.out⟩⟩
            ·rw [if_neg c43] at H
             exact absurd H (by simp)
           ·rw [if_neg c42] at H
            exact absurd H (by simp)
          ·rw [if_neg c41] at H
           have c41b0 : decide (x14_3 < (t386.length : Int)) = false := decide_eq_false c41
           clear c41
           replace H := Option.bind_eq_some_iff.mp H
           obtain ⟨t411, A520, H⟩ := H
           replace H : (some t411) = some r := H
           have A52 := Aside0.mk A520
           clear A520
           obtain rfl := Option.some.inj H
           obtain ⟨Ao53, co53, eo53⟩ := Kd.R_slice HO_5.out
           subst eo53
           go_wp2_with (first | ((with_reducible refine gate_callee (f := 13) rfl ?_); refine gL_ (some 147) rfl rfl Tryz.func13 rfl #[] rfl ?_; (with_reducible refine (sorobanlaw21_sanity.calls k3  t411 _ ?side1 A52.out).mono ?_); (case side1 => refine LD.below HLD.out ?_; exact yB_ HB.out); rintro e w54 ⟨rfl, hb⟩; refine ⟨_, rfl, ?_⟩; replace HO_5 := Aside0.mk (Kd.R_below (by exact yR_ HO_5.out) hb); replace HB := Aside0.mk (below_step (by exact yB_ HB.out) hb); (try clear hb)))
           go_ret
           exact ⟨yE_, by exact yB_ HB.out⟩
  ·rw [if_neg c9] at H
   have c9b0 : (t394 == 0) = false := beq_eq_false_iff_ne.mpr c9
   have c9b1 : (t394 != 0) = true := bne_iff_ne.mpr c9
   replace H := Option.bind_eq_some_iff.mp H
   obtain ⟨t396, A550, H⟩ := H
   replace H : (if t396 = true then (if t385 = t394 then (if t387 = t394 then (if t391 = t394 then (if t393 = t394 then (if t384.toList = ([] : List UInt8) then (if (t386.length : Int) = 0 then (if t390 = 0 then (some (!t392)) else (some false)) else (some false)) else (some false)) else (some false)) else (some false)) else (some false)) else (some false)) else (some false)) = some r := H
   have A55 := Aside0.mk A550
   clear A550
   by_cases c56 : t396 = true
   ·subst c56
    have H1 : (if t385 = t394 then (if t387 = t394 then (if t391 = t394 then (if t393 = t394 then (if t384.toList = ([] : List UInt8) then (if (t386.length : Int) = 0 then (if t390 = 0 then (some (!t392)) else (some false)) else (some false)) else (some false)) else (some false)) else (some false)) else (some false)) else (some false)) = some r := by rw [if_pos rfl] at H; exact H
    clear H
    have H := H1
    clear H1
    by_cases c57 : t385 = t394
    ·rw [if_pos c57] at H
     have c57b0 : (t385 == t394) = true := beq_iff_eq.mpr c57
     have c57b1 : (t385 != t394) = false := bne_eq_false_iff_eq.mpr c57
     clear c57
     by_cases c58 : t387 = t394
     ·rw [if_pos c58] at H
      have c58b0 : (t387 == t394) = true := beq_iff_eq.mpr c58
      have c58b1 : (t387 != t394) = false := bne_eq_false_iff_eq.mpr c58
      clear c58
      by_cases c59 : t391 = t394
      ·rw [if_pos c59] at H
       have c59b0 : (t391 == t394) = true := beq_iff_eq.mpr c59
       have c59b1 : (t391 != t394) = false := bne_eq_false_iff_eq.mpr c59
       clear c59
       by_cases c60 : t393 = t394
       ·rw [if_pos c60] at H
        have c60b0 : (t393 == t394) = true := beq_iff_eq.mpr c60
        have c60b1 : (t393 != t394) = false := bne_eq_false_iff_eq.mpr c60
        clear c60
        by_cases c61 : t384.toList = ([] : List UInt8)
        ·rw [if_pos c61] at H
         have c61b0 : (t384.toList == ([] : List UInt8)) = true := beq_iff_eq.mpr c61
         have c61b1 : (t384.toList != ([] : List UInt8)) = false := bne_eq_false_iff_eq.mpr c61
         clear c61
         by_cases c62 : (t386.length : Int) = 0
         ·rw [if_pos c62] at H
          have c62b0 : ((t386.length : Int) == 0) = true := beq_iff_eq.mpr c62
          have c62b1 : ((t386.length : Int) != 0) = false := bne_eq_false_iff_eq.mpr c62
          clear c62
          by_cases c63 : t390 = 0
          ·rw [if_pos c63] at H
           have c63b0 : (t390 == 0) = true := beq_iff_eq.mpr c63
           have c63b1 : (t390 != 0) = false := bne_eq_false_iff_eq.mpr c63
           clear c63
           obtain rfl := Option.some.inj H
           go_enter Tryz.func10, Tryz.ntmps10
           go_wp2_with (first | ((with_reducible refine gate_callee (f := 16) rfl ?_); refine gL_ (some 16) rfl rfl Tryz.func16 rfl #[.slice A0 l0.length c0] rfl ?_; (with_reducible refine (sorobanlaw21_small.calls k _ _ l0 true _ ?side1 ?side2 A2.out).mono ?_); (case side1 => exact yC_ HR0.out); (case side2 => exact HC0.out); rintro e w' ⟨rfl, ⟨nd, rfl⟩⟩; refine ⟨_, rfl, ?_⟩) | ((with_reducible refine gate_callee (f := 17) rfl ?_); refine gL_ (some 21) rfl rfl Tryz.func17 rfl #[.slice A0 l0.length c0] rfl ?_; (with_reducible refine (spec_Print.calls k _ _ l0 t384 t385 _ ?side1 ?side2 ?side3 A4.out).mono ?_); (case side1 => exact yC_ HR0.out); (case side2 => exact HC0.out); (case side3 => refine LD.below HLD.out ?_; exact yB_ HB.out); rintro e w64 ⟨rfl, hb⟩; refine ⟨_, rfl, ?_⟩; replace HB := Aside0.mk (below_step (by exact yB_ HB.out) hb); (try clear hb)) | ((with_reducible refine gate_callee (f := 19) rfl ?_); refine gL_ (some 26) rfl rfl Tryz.func19 rfl #[.slice A0 l0.length c0] rfl ?_; (with_reducible refine (spec_Canonical.calls k _ _ l0 t386 t387 _ ?side1 ?side2 A5.out).mono ?_); (case side1 => exact yC_ (Kd.C_below HR0.out HB.out)); (case side2 => exact HC0.out); rintro e w65 ⟨v388, rfl, ho0, hb⟩; refine ⟨_, rfl, ?_⟩; have HO389 := Aside0.mk (Kd.R_lower ho0 (below_size (by exact yB_ HB.out))); replace HB := Aside0.mk (below_step (by exact yB_ HB.out) hb); (try clear hb); (try clear ho0)) | ((with_reducible refine gate_callee (f := 23) rfl ?_); refine gL_ (some 31) rfl rfl Tryz.func23 rfl #[.slice A0 l0.length c0] rfl ?_; (with_reducible refine (spec_Args.calls k _ _ l0 t390 t391 _ ?side1 ?side2 A6.out).mono ?_); (case side1 => exact yC_ (Kd.C_below HR0.out HB.out)); (case side2 => exact HC0.out); rintro e w66 ⟨rfl, hb⟩; refine ⟨_, rfl, ?_⟩; replace HO389 := Aside0.mk (Kd.R_below (by exact yR_ HO389.out) hb); replace HB := Aside0.mk (below_step (by exact yB_ HB.out) hb); (try clear hb)) | ((with_reducible refine gate_callee (f := 25) rfl ?_); refine gL_ (some 36) rfl rfl Tryz.func25 rfl #[.slice A0 l0.length c0] rfl ?_; (with_reducible refine (spec_Ordered.calls k _ _ l0 t392 t393 _ ?side1 ?side2 A7.out).mono ?_); (case side1 => exact yC_ (Kd.C_below HR0.out HB.out)); (case side2 => exact HC0.out); rintro e w67 ⟨rfl, hb⟩; refine ⟨_, rfl, ?_⟩; replace HO389 := Aside0.mk (Kd.R_below (by exact yR_ HO389.out) hb); replace HB := Aside0.mk (below_step (by exact yB_ HB.out) hb); (try clear hb)) | ((with_reducible refine gate_callee (f := 20) rfl ?_); refine gL_ (some 41) rfl rfl Tryz.func20 rfl #[.slice A0 l0.length c0] rfl ?_; (with_reducible refine (sorobanref21_Check.calls k _ _ l0 t394 t395 _ ?side1 ?side2 A8.out).mono ?_); (case side1 => exact yC_ (Kd.C_below HR0.out HB.out)); (case side2 => exact HC0.out); rintro e w68 ⟨rfl, hb⟩; refine ⟨_, rfl, ?_⟩; replace HO389 := Aside0.mk (Kd.R_below (by exact yR_ HO389.out) hb); replace HB := Aside0.mk (below_step (by exact yB_ HB.out) hb); (try clear hb)) | ((with_reducible refine gate_callee (f := 13) rfl ?_); refine gL_ (some 46) rfl rfl Tryz.func13 rfl #[] rfl ?_; (with_reducible refine (sorobanlaw21_sanity.calls k  true _ ?side1 A55.out).mono ?_); (case side1 => refine LD.below HLD.out ?_; exact yB_ HB.out); rintro e w69 ⟨rfl, hb⟩; refine ⟨_, rfl, ?_⟩; replace HO389 := Aside0.mk (Kd.R_below (by exact yR_ HO389.out) hb); replace HB := Aside0.mk (below_step (by exact yB_ HB.out) hb); (try clear hb); obtain ⟨Ao70, co70, eo70⟩ := Kd.R_slice HO389.out; subst eo70))
           go_ret
           exact ⟨yE_, by exact yB_ HB.out⟩
          ·rw [if_neg c63] at H
           have c63b0 : (t390 == 0) = false := beq_eq_false_iff_ne.mpr c63
           have c63b1 : (t390 != 0) = true := bne_iff_ne.mpr c63
           obtain rfl := Option.some.inj H
           go_enter Tryz.func10, Tryz.ntmps10
           go_wp2_with (first | ((with_reducible refine gate_callee (f := 16) rfl ?_); refine gL_ (some 16) rfl rfl Tryz.func16 rfl #[.slice A0 l0.length c0] rfl ?_; (with_reducible refine (sorobanlaw21_small.calls k _ _ l0 true _ ?side1 ?side2 A2.out).mono ?_); (case side1 => exact yC_ HR0.out); (case side2 => exact HC0.out); rintro e w' ⟨rfl, ⟨nd, rfl⟩⟩; refine ⟨_, rfl, ?_⟩) | ((with_reducible refine gate_callee (f := 17) rfl ?_); refine gL_ (some 21) rfl rfl Tryz.func17 rfl #[.slice A0 l0.length c0] rfl ?_; (with_reducible refine (spec_Print.calls k _ _ l0 t384 t385 _ ?side1 ?side2 ?side3 A4.out).mono ?_); (case side1 => exact yC_ HR0.out); (case side2 => exact HC0.out); (case side3 => refine LD.below HLD.out ?_; exact yB_ HB.out); rintro e w71 ⟨rfl, hb⟩; refine ⟨_, rfl, ?_⟩; replace HB := Aside0.mk (below_step (by exact yB_ HB.out) hb); (try clear hb)) | ((with_reducible refine gate_callee (f := 19) rfl ?_); refine gL_ (some 26) rfl rfl Tryz.func19 rfl #[.slice A0 l0.length c0] rfl ?_; (with_reducible refine (spec_Canonical.calls k _ _ l0 t386 t387 _ ?side1 ?side2 A5.out).mono ?_); (case side1 => exact yC_ (Kd.C_below HR0.out HB.out)); (case side2 => exact HC0.out); rintro e w72 ⟨v388, rfl, ho0, hb⟩; refine ⟨_, rfl, ?_⟩; have HO389 := Aside0.mk (Kd.R_lower ho0 (below_size (by exact yB_ HB.out))); replace HB := Aside0.mk (below_step (by exact yB_ HB.out) hb); (try clear hb); (try clear ho0)) | ((with_reducible refine gate_callee (f := 23) rfl ?_); refine gL_ (some 31) rfl rfl Tryz.func23 rfl #[.slice A0 l0.length c0] rfl ?_; (with_reducible refine (spec_Args.calls k _ _ l0 t390 t391 _ ?side1 ?side2 A6.out).mono ?_); (case side1 => exact yC_ (Kd.C_below HR0.out HB.out)); (case side2 => exact HC0.out); rintro e w73 ⟨rfl, hb⟩; refine ⟨_, rfl, ?_⟩; replace HO389 := Aside0.mk (Kd.R_below (by exact yR_ HO389.out) hb); replace HB := Aside0.mk (below_step (by exact yB_ HB.out) hb); (try clear hb)) | ((with_reducible refine gate_callee (f := 25) rfl ?_); refine gL_ (some 36) rfl rfl Tryz.func25 rfl #[.slice A0 l0.length c0] rfl ?_; (with_reducible refine (spec_Ordered.calls k _ _ l0 t392 t393 _ ?side1 ?side2 A7.out).mono ?_); (case side1 => exact yC_ (Kd.C_below HR0.out HB.out)); (case side2 => exact HC0.out); rintro e w74 ⟨rfl, hb⟩; refine ⟨_, rfl, ?_⟩; replace HO389 := Aside0.mk (Kd.R_below (by exact yR_ HO389.out) hb); replace HB := Aside0.mk (below_step (by exact yB_ HB.out) hb); (try clear hb)) | ((with_reducible refine gate_callee (f := 20) rfl ?_); refine gL_ (some 41) rfl rfl Tryz.func20 rfl #[.slice A0 l0.length c0] rfl ?_; (with_reducible refine (sorobanref21_Check.calls k _ _ l0 t394 t395 _ ?side1 ?side2 A8.out).mono ?_); (case side1 => exact yC_ (Kd.C_below HR0.out HB.out)); (case side2 => exact HC0.out); rintro e w75 ⟨rfl, hb⟩; refine ⟨_, rfl, ?_⟩; replace HO389 := Aside0.mk (Kd.R_below (by exact yR_ HO389.out) hb); replace HB := Aside0.mk (below_step (by exact yB_ HB.out) hb); (try clear hb)) | ((with_reducible refine gate_callee (f := 13) rfl ?_); refine gL_ (some 46) rfl rfl Tryz.func13 rfl #[] rfl ?_; (with_reducible refine (sorobanlaw21_sanity.calls k  true _ ?side1 A55.out).mono ?_); (case side1 => refine LD.below HLD.out ?_; exact yB_ HB.out); rintro e w76 ⟨rfl, hb⟩; refine ⟨_, rfl, ?_⟩; replace HO389 := Aside0.mk (Kd.R_below (by exact yR_ HO389.out) hb); replace HB := Aside0.mk (below_step (by exact yB_ HB.out) hb); (try clear hb); obtain ⟨Ao77, co77, eo77⟩ := Kd.R_slice HO389.out; subst eo77))
           go_ret
           exact ⟨yE_, by exact yB_ HB.out⟩
         ·rw [if_neg c62] at H
          have c62b0 : ((t386.length : Int) == 0) = false := beq_eq_false_iff_ne.mpr c62
          have c62b1 : ((t386.length : Int) != 0) = true := bne_iff_ne.mpr c62
          have c62b2 : ¬ (t386 = []) := fun h_ => c62 (by rw [h_]; rfl)
          obtain rfl := Option.some.inj H
          go_enter Tryz.func10, Tryz.ntmps10
          go_wp2_with (first | ((with_reducible refine gate_callee (f := 16) rfl ?_); refine gL_ (some 16) rfl rfl Tryz.func16 rfl #[.slice A0 l0.length c0] rfl ?_; (with_reducible refine (sorobanlaw21_small.calls k _ _ l0 true _ ?side1 ?side2 A2.out).mono ?_); (case side1 => exact yC_ HR0.out); (case side2 => exact HC0.out); rintro e w' ⟨rfl, ⟨nd, rfl⟩⟩; refine ⟨_, rfl, ?_⟩) | ((with_reducible refine gate_callee (f := 17) rfl ?_); refine gL_ (some 21) rfl rfl Tryz.func17 rfl #[.slice A0 l0.length c0] rfl ?_; (with_reducible refine (spec_Print.calls k _ _ l0 t384 t385 _ ?side1 ?side2 ?side3 A4.out).mono ?_); (case side1 => exact yC_ HR0.out); (case side2 => exact HC0.out); (case side3 => refine LD.below HLD.out ?_; exact yB_ HB.out); rintro e w78 ⟨rfl, hb⟩; refine ⟨_, rfl, ?_⟩; replace HB := Aside0.mk (below_step (by exact yB_ HB.out) hb); (try clear hb)) | ((with_reducible refine gate_callee (f := 19) rfl ?_); refine gL_ (some 26) rfl rfl Tryz.func19 rfl #[.slice A0 l0.length c0] rfl ?_; (with_reducible refine (spec_Canonical.calls k _ _ l0 t386 t387 _ ?side1 ?side2 A5.out).mono ?_); (case side1 => exact yC_ (Kd.C_below HR0.out HB.out)); (case side2 => exact HC0.out); rintro e w79 ⟨v388, rfl, ho0, hb⟩; refine ⟨_, rfl, ?_⟩; have HO389 := Aside0.mk (Kd.R_lower ho0 (below_size (by exact yB_ HB.out))); replace HB := Aside0.mk (below_step (by exact yB_ HB.out) hb); (try clear hb); (try clear ho0)) | ((with_reducible refine gate_callee (f := 23) rfl ?_); refine gL_ (some 31) rfl rfl Tryz.func23 rfl #[.slice A0 l0.length c0] rfl ?_; (with_reducible refine (spec_Args.calls k _ _ l0 t390 t391 _ ?side1 ?side2 A6.out).mono ?_); (case side1 => exact yC_ (Kd.C_below HR0.out HB.out)); (case side2 => exact HC0.out); rintro e w80 ⟨rfl, hb⟩; refine ⟨_, rfl, ?_⟩; replace HO389 := Aside0.mk (Kd.R_below (by exact yR_ HO389.out) hb); replace HB := Aside0.mk (below_step (by exact yB_ HB.out) hb); (try clear hb)) | ((with_reducible refine gate_callee (f := 25) rfl ?_); refine gL_ (some 36) rfl rfl Tryz.func25 rfl #[.slice A0 l0.length c0] rfl ?_; (with_reducible refine (spec_Ordered.calls k _ _ l0 t392 t393 _ ?side1 ?side2 A7.out).mono ?_); (case side1 => exact yC_ (Kd.C_below HR0.out HB.out)); (case side2 => exact HC0.out); rintro e w81 ⟨rfl, hb⟩; refine ⟨_, rfl, ?_⟩; replace HO389 := Aside0.mk (Kd.R_below (by exact yR_ HO389.out) hb); replace HB := Aside0.mk (below_step (by exact yB_ HB.out) hb); (try clear hb)) | ((with_reducible refine gate_callee (f := 20) rfl ?_); refine gL_ (some 41) rfl rfl Tryz.func20 rfl #[.slice A0 l0.length c0] rfl ?_; (with_reducible refine (sorobanref21_Check.calls k _ _ l0 t394 t395 _ ?side1 ?side2 A8.out).mono ?_); (case side1 => exact yC_ (Kd.C_below HR0.out HB.out)); (case side2 => exact HC0.out); rintro e w82 ⟨rfl, hb⟩; refine ⟨_, rfl, ?_⟩; replace HO389 := Aside0.mk (Kd.R_below (by exact yR_ HO389.out) hb); replace HB := Aside0.mk (below_step (by exact yB_ HB.out) hb); (try clear hb)) | ((with_reducible refine gate_callee (f := 13) rfl ?_); refine gL_ (some 46) rfl rfl Tryz.func13 rfl #[] rfl ?_; (with_reducible refine (sorobanlaw21_sanity.calls k  true _ ?side1 A55.out).mono ?_); (case side1 => refine LD.below HLD.out ?_; exact yB_ HB.out); rintro e w83 ⟨rfl, hb⟩; refine ⟨_, rfl, ?_⟩; replace HO389 := Aside0.mk (Kd.R_below (by exact yR_ HO389.out) hb); replace HB := Aside0.mk (below_step (by exact yB_ HB.out) hb); (try clear hb); obtain ⟨Ao84, co84, eo84⟩ := Kd.R_slice HO389.out; subst eo84))
          go_ret
          exact ⟨yE_, by exact yB_ HB.out⟩
        ·rw [if_neg c61] at H
         have c61b0 : (t384.toList == ([] : List UInt8)) = false := beq_eq_false_iff_ne.mpr c61
         have c61b1 : (t384.toList != ([] : List UInt8)) = true := bne_iff_ne.mpr c61
         obtain rfl := Option.some.inj H
         go_enter Tryz.func10, Tryz.ntmps10
         go_wp2_with (first | ((with_reducible refine gate_callee (f := 16) rfl ?_); refine gL_ (some 16) rfl rfl Tryz.func16 rfl #[.slice A0 l0.length c0] rfl ?_; (with_reducible refine (sorobanlaw21_small.calls k _ _ l0 true _ ?side1 ?side2 A2.out).mono ?_); (case side1 => exact yC_ HR0.out); (case side2 => exact HC0.out); rintro e w' ⟨rfl, ⟨nd, rfl⟩⟩; refine ⟨_, rfl, ?_⟩) | ((with_reducible refine gate_callee (f := 17) rfl ?_); refine gL_ (some 21) rfl rfl Tryz.func17 rfl #[.slice A0 l0.length c0] rfl ?_; (with_reducible refine (spec_Print.calls k _ _ l0 t384 t385 _ ?side1 ?side2 ?side3 A4.out).mono ?_); (case side1 => exact yC_ HR0.out); (case side2 => exact HC0.out); (case side3 => refine LD.below HLD.out ?_; exact yB_ HB.out); rintro e w85 ⟨rfl, hb⟩; refine ⟨_, rfl, ?_⟩; replace HB := Aside0.mk (below_step (by exact yB_ HB.out) hb); (try clear hb)) | ((with_reducible refine gate_callee (f := 19) rfl ?_); refine gL_ (some 26) rfl rfl Tryz.func19 rfl #[.slice A0 l0.length c0] rfl ?_; (with_reducible refine (spec_Canonical.calls k _ _ l0 t386 t387 _ ?side1 ?side2 A5.out).mono ?_); (case side1 => exact yC_ (Kd.C_below HR0.out HB.out)); (case side2 => exact HC0.out); rintro e w86 ⟨v388, rfl, ho0, hb⟩; refine ⟨_, rfl, ?_⟩; have HO389 := Aside0.mk (Kd.R_lower ho0 (below_size (by exact yB_ HB.out))); replace HB := Aside0.mk (below_step (by exact yB_ HB.out) hb); (try clear hb); (try clear ho0)) | ((with_reducible refine gate_callee (f := 23) rfl ?_); refine gL_ (some 31) rfl rfl Tryz.func23 rfl #[.slice A0 l0.length c0] rfl ?_; (with_reducible refine (spec_Args.calls k _ _ l0 t390 t391 _ ?side1 ?side2 A6.out).mono ?_); (case side1 => exact yC_ (Kd.C_below HR0.out HB.out)); (case side2 => exact HC0.out); rintro e w87 ⟨rfl, hb⟩; refine ⟨_, rfl, ?_⟩; replace HO389 := Aside0.mk (Kd.R_below (by exact yR_ HO389.out) hb); replace HB := Aside0.mk (below_step (by exact yB_ HB.out) hb); (try clear hb)) | ((with_reducible refine gate_callee (f := 25) rfl ?_); refine gL_ (some 36) rfl rfl Tryz.func25 rfl #[.slice A0 l0.length c0] rfl ?_; (with_reducible refine (spec_Ordered.calls k _ _ l0 t392 t393 _ ?side1 ?side2 A7.out).mono ?_); (case side1 => exact yC_ (Kd.C_below HR0.out HB.out)); (case side2 => exact HC0.out); rintro e w88 ⟨rfl, hb⟩; refine ⟨_, rfl, ?_⟩; replace HO389 := Aside0.mk (Kd.R_below (by exact yR_ HO389.out) hb); replace HB := Aside0.mk (below_step (by exact yB_ HB.out) hb); (try clear hb)) | ((with_reducible refine gate_callee (f := 20) rfl ?_); refine gL_ (some 41) rfl rfl Tryz.func20 rfl #[.slice A0 l0.length c0] rfl ?_; (with_reducible refine (sorobanref21_Check.calls k _ _ l0 t394 t395 _ ?side1 ?side2 A8.out).mono ?_); (case side1 => exact yC_ (Kd.C_below HR0.out HB.out)); (case side2 => exact HC0.out); rintro e w89 ⟨rfl, hb⟩; refine ⟨_, rfl, ?_⟩; replace HO389 := Aside0.mk (Kd.R_below (by exact yR_ HO389.out) hb); replace HB := Aside0.mk (below_step (by exact yB_ HB.out) hb); (try clear hb)) | ((with_reducible refine gate_callee (f := 13) rfl ?_); refine gL_ (some 46) rfl rfl Tryz.func13 rfl #[] rfl ?_; (with_reducible refine (sorobanlaw21_sanity.calls k  true _ ?side1 A55.out).mono ?_); (case side1 => refine LD.below HLD.out ?_; exact yB_ HB.out); rintro e w90 ⟨rfl, hb⟩; refine ⟨_, rfl, ?_⟩; replace HO389 := Aside0.mk (Kd.R_below (by exact yR_ HO389.out) hb); replace HB := Aside0.mk (below_step (by exact yB_ HB.out) hb); (try clear hb)))
         go_ret
         exact ⟨yE_, by exact yB_ HB.out⟩
       ·rw [if_neg c60] at H
        have c60b0 : (t393 == t394) = false := beq_eq_false_iff_ne.mpr c60
        have c60b1 : (t393 != t394) = true := bne_iff_ne.mpr c60
        obtain rfl := Option.some.inj H
        go_enter Tryz.func10, Tryz.ntmps10
        go_wp2_with (first | ((with_reducible refine gate_callee (f := 16) rfl ?_); refine gL_ (some 16) rfl rfl Tryz.func16 rfl #[.slice A0 l0.length c0] rfl ?_; (with_reducible refine (sorobanlaw21_small.calls k _ _ l0 true _ ?side1 ?side2 A2.out).mono ?_); (case side1 => exact yC_ HR0.out); (case side2 => exact HC0.out); rintro e w' ⟨rfl, ⟨nd, rfl⟩⟩; refine ⟨_, rfl, ?_⟩) | ((with_reducible refine gate_callee (f := 17) rfl ?_); refine gL_ (some 21) rfl rfl Tryz.func17 rfl #[.slice A0 l0.length c0] rfl ?_; (with_reducible refine (spec_Print.calls k _ _ l0 t384 t385 _ ?side1 ?side2 ?side3 A4.out).mono ?_); (case side1 => exact yC_ HR0.out); (case side2 => exact HC0.out); (case side3 => refine LD.below HLD.out ?_; exact yB_ HB.out); rintro e w91 ⟨rfl, hb⟩; refine ⟨_, rfl, ?_⟩; replace HB := Aside0.mk (below_step (by exact yB_ HB.out) hb); (try clear hb)) | ((with_reducible refine gate_callee (f := 19) rfl ?_); refine gL_ (some 26) rfl rfl Tryz.func19 rfl #[.slice A0 l0.length c0] rfl ?_; (with_reducible refine (spec_Canonical.calls k _ _ l0 t386 t387 _ ?side1 ?side2 A5.out).mono ?_); (case side1 => exact yC_ (Kd.C_below HR0.out HB.out)); (case side2 => exact HC0.out); rintro e w92 ⟨v388, rfl, ho0, hb⟩; refine ⟨_, rfl, ?_⟩; have HO389 := Aside0.mk (Kd.R_lower ho0 (below_size (by exact yB_ HB.out))); replace HB := Aside0.mk (below_step (by exact yB_ HB.out) hb); (try clear hb); (try clear ho0)) | ((with_reducible refine gate_callee (f := 23) rfl ?_); refine gL_ (some 31) rfl rfl Tryz.func23 rfl #[.slice A0 l0.length c0] rfl ?_; (with_reducible refine (spec_Args.calls k _ _ l0 t390 t391 _ ?side1 ?side2 A6.out).mono ?_); (case side1 => exact yC_ (Kd.C_below HR0.out HB.out)); (case side2 => exact HC0.out); rintro e w93 ⟨rfl, hb⟩; refine ⟨_, rfl, ?_⟩; replace HO389 := Aside0.mk (Kd.R_below (by exact yR_ HO389.out) hb); replace HB := Aside0.mk (below_step (by exact yB_ HB.out) hb); (try clear hb)) | ((with_reducible refine gate_callee (f := 25) rfl ?_); refine gL_ (some 36) rfl rfl Tryz.func25 rfl #[.slice A0 l0.length c0] rfl ?_; (with_reducible refine (spec_Ordered.calls k _ _ l0 t392 t393 _ ?side1 ?side2 A7.out).mono ?_); (case side1 => exact yC_ (Kd.C_below HR0.out HB.out)); (case side2 => exact HC0.out); rintro e w94 ⟨rfl, hb⟩; refine ⟨_, rfl, ?_⟩; replace HO389 := Aside0.mk (Kd.R_below (by exact yR_ HO389.out) hb); replace HB := Aside0.mk (below_step (by exact yB_ HB.out) hb); (try clear hb)) | ((with_reducible refine gate_callee (f := 20) rfl ?_); refine gL_ (some 41) rfl rfl Tryz.func20 rfl #[.slice A0 l0.length c0] rfl ?_; (with_reducible refine (sorobanref21_Check.calls k _ _ l0 t394 t395 _ ?side1 ?side2 A8.out).mono ?_); (case side1 => exact yC_ (Kd.C_below HR0.out HB.out)); (case side2 => exact HC0.out); rintro e w95 ⟨rfl, hb⟩; refine ⟨_, rfl, ?_⟩; replace HO389 := Aside0.mk (Kd.R_below (by exact yR_ HO389.out) hb); replace HB := Aside0.mk (below_step (by exact yB_ HB.out) hb); (try clear hb)) | ((with_reducible refine gate_callee (f := 13) rfl ?_); refine gL_ (some 46) rfl rfl Tryz.func13 rfl #[] rfl ?_; (with_reducible refine (sorobanlaw21_sanity.calls k  true _ ?side1 A55.out).mono ?_); (case side1 => refine LD.below HLD.out ?_; exact yB_ HB.out); rintro e w96 ⟨rfl, hb⟩; refine ⟨_, rfl, ?_⟩; replace HO389 := Aside0.mk (Kd.R_below (by exact yR_ HO389.out) hb); replace HB := Aside0.mk (below_step (by exact yB_ HB.out) hb); (try clear hb)))
        go_ret
        exact ⟨yE_, by exact yB_ HB.out⟩
      ·rw [if_neg c59] at H
       have c59b0 : (t391 == t394) = false := beq_eq_false_iff_ne.mpr c59
       have c59b1 : (t391 != t394) = true := bne_iff_ne.mpr c59
       obtain rfl := Option.some.inj H
       go_enter Tryz.func10, Tryz.ntmps10
       go_wp2_with (first | ((with_reducible refine gate_callee (f := 16) rfl ?_); refine gL_ (some 16) rfl rfl Tryz.func16 rfl #[.slice A0 l0.length c0] rfl ?_; (with_reducible refine (sorobanlaw21_small.calls k _ _ l0 true _ ?side1 ?side2 A2.out).mono ?_); (case side1 => exact yC_ HR0.out); (case side2 => exact HC0.out); rintro e w' ⟨rfl, ⟨nd, rfl⟩⟩; refine ⟨_, rfl, ?_⟩) | ((with_reducible refine gate_callee (f := 17) rfl ?_); refine gL_ (some 21) rfl rfl Tryz.func17 rfl #[.slice A0 l0.length c0] rfl ?_; (with_reducible refine (spec_Print.calls k _ _ l0 t384 t385 _ ?side1 ?side2 ?side3 A4.out).mono ?_); (case side1 => exact yC_ HR0.out); (case side2 => exact HC0.out); (case side3 => refine LD.below HLD.out ?_; exact yB_ HB.out); rintro e w97 ⟨rfl, hb⟩; refine ⟨_, rfl, ?_⟩; replace HB := Aside0.mk (below_step (by exact yB_ HB.out) hb); (try clear hb)) | ((with_reducible refine gate_callee (f := 19) rfl ?_); refine gL_ (some 26) rfl rfl Tryz.func19 rfl #[.slice A0 l0.length c0] rfl ?_; (with_reducible refine (spec_Canonical.calls k _ _ l0 t386 t387 _ ?side1 ?side2 A5.out).mono ?_); (case side1 => exact yC_ (Kd.C_below HR0.out HB.out)); (case side2 => exact HC0.out); rintro e w98 ⟨v388, rfl, ho0, hb⟩; refine ⟨_, rfl, ?_⟩; have HO389 := Aside0.mk (Kd.R_lower ho0 (below_size (by exact yB_ HB.out))); replace HB := Aside0.mk (below_step (by exact yB_ HB.out) hb); (try clear hb); (try clear ho0)) | ((with_reducible refine gate_callee (f := 23) rfl ?_); refine gL_ (some 31) rfl rfl Tryz.func23 rfl #[.slice A0 l0.length c0] rfl ?_; (with_reducible refine (spec_Args.calls k _ _ l0 t390 t391 _ ?side1 ?side2 A6.out).mono ?_); (case side1 => exact yC_ (Kd.C_below HR0.out HB.out)); (case side2 => exact HC0.out); rintro e w99 ⟨rfl, hb⟩; refine ⟨_, rfl, ?_⟩; replace HO389 := Aside0.mk (Kd.R_below (by exact yR_ HO389.out) hb); replace HB := Aside0.mk (below_step (by exact yB_ HB.out) hb); (try clear hb)) | ((with_reducible refine gate_callee (f := 25) rfl ?_); refine gL_ (some 36) rfl rfl Tryz.func25 rfl #[.slice A0 l0.length c0] rfl ?_; (with_reducible refine (spec_Ordered.calls k _ _ l0 t392 t393 _ ?side1 ?side2 A7.out).mono ?_); (case side1 => exact yC_ (Kd.C_below HR0.out HB.out)); (case side2 => exact HC0.out); rintro e w100 ⟨rfl, hb⟩; refine ⟨_, rfl, ?_⟩; replace HO389 := Aside0.mk (Kd.R_below (by exact yR_ HO389.out) hb); replace HB := Aside0.mk (below_step (by exact yB_ HB.out) hb); (try clear hb)) | ((with_reducible refine gate_callee (f := 20) rfl ?_); refine gL_ (some 41) rfl rfl Tryz.func20 rfl #[.slice A0 l0.length c0] rfl ?_; (with_reducible refine (sorobanref21_Check.calls k _ _ l0 t394 t395 _ ?side1 ?side2 A8.out).mono ?_); (case side1 => exact yC_ (Kd.C_below HR0.out HB.out)); (case side2 => exact HC0.out); rintro e w101 ⟨rfl, hb⟩; refine ⟨_, rfl, ?_⟩; replace HO389 := Aside0.mk (Kd.R_below (by exact yR_ HO389.out) hb); replace HB := Aside0.mk (below_step (by exact yB_ HB.out) hb); (try clear hb)) | ((with_reducible refine gate_callee (f := 13) rfl ?_); refine gL_ (some 46) rfl rfl Tryz.func13 rfl #[] rfl ?_; (with_reducible refine (sorobanlaw21_sanity.calls k  true _ ?side1 A55.out).mono ?_); (case side1 => refine LD.below HLD.out ?_; exact yB_ HB.out); rintro e w102 ⟨rfl, hb⟩; refine ⟨_, rfl, ?_⟩; replace HO389 := Aside0.mk (Kd.R_below (by exact yR_ HO389.out) hb); replace HB := Aside0.mk (below_step (by exact yB_ HB.out) hb); (try clear hb)))
       go_ret
       exact ⟨yE_, by exact yB_ HB.out⟩
     ·rw [if_neg c58] at H
      have c58b0 : (t387 == t394) = false := beq_eq_false_iff_ne.mpr c58
      have c58b1 : (t387 != t394) = true := bne_iff_ne.mpr c58
      obtain rfl := Option.some.inj H
      go_enter Tryz.func10, Tryz.ntmps10
      go_wp2_with (first | ((with_reducible refine gate_callee (f := 16) rfl ?_); refine gL_ (some 16) rfl rfl Tryz.func16 rfl #[.slice A0 l0.length c0] rfl ?_; (with_reducible refine (sorobanlaw21_small.calls k _ _ l0 true _ ?side1 ?side2 A2.out).mono ?_); (case side1 => exact yC_ HR0.out); (case side2 => exact HC0.out); rintro e w' ⟨rfl, ⟨nd, rfl⟩⟩; refine ⟨_, rfl, ?_⟩) | ((with_reducible refine gate_callee (f := 17) rfl ?_); refine gL_ (some 21) rfl rfl Tryz.func17 rfl #[.slice A0 l0.length c0] rfl ?_; (with_reducible refine (spec_Print.calls k _ _ l0 t384 t385 _ ?side1 ?side2 ?side3 A4.out).mono ?_); (case side1 => exact yC_ HR0.out); (case side2 => exact HC0.out); (case side3 => refine LD.below HLD.out ?_; exact yB_ HB.out); rintro e w103 ⟨rfl, hb⟩; refine ⟨_, rfl, ?_⟩; replace HB := Aside0.mk (below_step (by exact yB_ HB.out) hb); (try clear hb)) | ((with_reducible refine gate_callee (f := 19) rfl ?_); refine gL_ (some 26) rfl rfl Tryz.func19 rfl #[.slice A0 l0.length c0] rfl ?_; (with_reducible refine (spec_Canonical.calls k _ _ l0 t386 t387 _ ?side1 ?side2 A5.out).mono ?_); (case side1 => exact yC_ (Kd.C_below HR0.out HB.out)); (case side2 => exact HC0.out); rintro e w104 ⟨v388, rfl, ho0, hb⟩; refine ⟨_, rfl, ?_⟩; have HO389 := Aside0.mk (Kd.R_lower ho0 (below_size (by exact yB_ HB.out))); replace HB := Aside0.mk (below_step (by exact yB_ HB.out) hb); (try clear hb); (try clear ho0)) | ((with_reducible refine gate_callee (f := 23) rfl ?_); refine gL_ (some 31) rfl rfl Tryz.func23 rfl #[.slice A0 l0.length c0] rfl ?_; (with_reducible refine (spec_Args.calls k _ _ l0 t390 t391 _ ?side1 ?side2 A6.out).mono ?_); (case side1 => exact yC_ (Kd.C_below HR0.out HB.out)); (case side2 => exact HC0.out); rintro e w105 ⟨rfl, hb⟩; refine ⟨_, rfl, ?_⟩; replace HO389 := Aside0.mk (Kd.R_below (by exact yR_ HO389.out) hb); replace HB := Aside0.mk (below_step (by exact yB_ HB.out) hb); (try clear hb)) | ((with_reducible refine gate_callee (f := 25) rfl ?_); refine gL_ (some 36) rfl rfl Tryz.func25 rfl #[.slice A0 l0.length c0] rfl ?_; (with_reducible refine (spec_Ordered.calls k _ _ l0 t392 t393 _ ?side1 ?side2 A7.out).mono ?_); (case side1 => exact yC_ (Kd.C_below HR0.out HB.out)); (case side2 => exact HC0.out); rintro e w106 ⟨rfl, hb⟩; refine ⟨_, rfl, ?_⟩; replace HO389 := Aside0.mk (Kd.R_below (by exact yR_ HO389.out) hb); replace HB := Aside0.mk (below_step (by exact yB_ HB.out) hb); (try clear hb)) | ((with_reducible refine gate_callee (f := 20) rfl ?_); refine gL_ (some 41) rfl rfl Tryz.func20 rfl #[.slice A0 l0.length c0] rfl ?_; (with_reducible refine (sorobanref21_Check.calls k _ _ l0 t394 t395 _ ?side1 ?side2 A8.out).mono ?_); (case side1 => exact yC_ (Kd.C_below HR0.out HB.out)); (case side2 => exact HC0.out); rintro e w107 ⟨rfl, hb⟩; refine ⟨_, rfl, ?_⟩; replace HO389 := Aside0.mk (Kd.R_below (by exact yR_ HO389.out) hb); replace HB := Aside0.mk (below_step (by exact yB_ HB.out) hb); (try clear hb)) | ((with_reducible refine gate_callee (f := 13) rfl ?_); refine gL_ (some 46) rfl rfl Tryz.func13 rfl #[] rfl ?_; (with_reducible refine (sorobanlaw21_sanity.calls k  true _ ?side1 A55.out).mono ?_); (case side1 => refine LD.below HLD.out ?_; exact yB_ HB.out); rintro e w108 ⟨rfl, hb⟩; refine ⟨_, rfl, ?_⟩; replace HO389 := Aside0.mk (Kd.R_below (by exact yR_ HO389.out) hb); replace HB := Aside0.mk (below_step (by exact yB_ HB.out) hb); (try clear hb)))
      go_ret
      exact ⟨yE_, by exact yB_ HB.out⟩
    ·rw [if_neg c57] at H
     have c57b0 : (t385 == t394) = false := beq_eq_false_iff_ne.mpr c57
     have c57b1 : (t385 != t394) = true := bne_iff_ne.mpr c57
     obtain rfl := Option.some.inj H
     go_enter Tryz.func10, Tryz.ntmps10
     go_wp2_with (first | ((with_reducible refine gate_callee (f := 16) rfl ?_); refine gL_ (some 16) rfl rfl Tryz.func16 rfl #[.slice A0 l0.length c0] rfl ?_; (with_reducible refine (sorobanlaw21_small.calls k _ _ l0 true _ ?side1 ?side2 A2.out).mono ?_); (case side1 => exact yC_ HR0.out); (case side2 => exact HC0.out); rintro e w' ⟨rfl, ⟨nd, rfl⟩⟩; refine ⟨_, rfl, ?_⟩) | ((with_reducible refine gate_callee (f := 17) rfl ?_); refine gL_ (some 21) rfl rfl Tryz.func17 rfl #[.slice A0 l0.length c0] rfl ?_; (with_reducible refine (spec_Print.calls k _ _ l0 t384 t385 _ ?side1 ?side2 ?side3 A4.out).mono ?_); (case side1 => exact yC_ HR0.out); (case side2 => exact HC0.out); (case side3 => refine LD.below HLD.out ?_; exact yB_ HB.out); rintro e w109 ⟨rfl, hb⟩; refine ⟨_, rfl, ?_⟩; replace HB := Aside0.mk (below_step (by exact yB_ HB.out) hb); (try clear hb)) | ((with_reducible refine gate_callee (f := 19) rfl ?_); refine gL_ (some 26) rfl rfl Tryz.func19 rfl #[.slice A0 l0.length c0] rfl ?_; (with_reducible refine (spec_Canonical.calls k _ _ l0 t386 t387 _ ?side1 ?side2 A5.out).mono ?_); (case side1 => exact yC_ (Kd.C_below HR0.out HB.out)); (case side2 => exact HC0.out); rintro e w110 ⟨v388, rfl, ho0, hb⟩; refine ⟨_, rfl, ?_⟩; have HO389 := Aside0.mk (Kd.R_lower ho0 (below_size (by exact yB_ HB.out))); replace HB := Aside0.mk (below_step (by exact yB_ HB.out) hb); (try clear hb); (try clear ho0)) | ((with_reducible refine gate_callee (f := 23) rfl ?_); refine gL_ (some 31) rfl rfl Tryz.func23 rfl #[.slice A0 l0.length c0] rfl ?_; (with_reducible refine (spec_Args.calls k _ _ l0 t390 t391 _ ?side1 ?side2 A6.out).mono ?_); (case side1 => exact yC_ (Kd.C_below HR0.out HB.out)); (case side2 => exact HC0.out); rintro e w111 ⟨rfl, hb⟩; refine ⟨_, rfl, ?_⟩; replace HO389 := Aside0.mk (Kd.R_below (by exact yR_ HO389.out) hb); replace HB := Aside0.mk (below_step (by exact yB_ HB.out) hb); (try clear hb)) | ((with_reducible refine gate_callee (f := 25) rfl ?_); refine gL_ (some 36) rfl rfl Tryz.func25 rfl #[.slice A0 l0.length c0] rfl ?_; (with_reducible refine (spec_Ordered.calls k _ _ l0 t392 t393 _ ?side1 ?side2 A7.out).mono ?_); (case side1 => exact yC_ (Kd.C_below HR0.out HB.out)); (case side2 => exact HC0.out); rintro e w112 ⟨rfl, hb⟩; refine ⟨_, rfl, ?_⟩; replace HO389 := Aside0.mk (Kd.R_below (by exact yR_ HO389.out) hb); replace HB := Aside0.mk (below_step (by exact yB_ HB.out) hb); (try clear hb)) | ((with_reducible refine gate_callee (f := 20) rfl ?_); refine gL_ (some 41) rfl rfl Tryz.func20 rfl #[.slice A0 l0.length c0] rfl ?_; (with_reducible refine (sorobanref21_Check.calls k _ _ l0 t394 t395 _ ?side1 ?side2 A8.out).mono ?_); (case side1 => exact yC_ (Kd.C_below HR0.out HB.out)); (case side2 => exact HC0.out); rintro e w113 ⟨rfl, hb⟩; refine ⟨_, rfl, ?_⟩; replace HO389 := Aside0.mk (Kd.R_below (by exact yR_ HO389.out) hb); replace HB := Aside0.mk (below_step (by exact yB_ HB.out) hb); (try clear hb)) | ((with_reducible refine gate_callee (f := 13) rfl ?_); refine gL_ (some 46) rfl rfl Tryz.func13 rfl #[] rfl ?_; (with_reducible refine (sorobanlaw21_sanity.calls k  true _ ?side1 A55.out).mono ?_); (case side1 => refine LD.below HLD.out ?_; exact yB_ HB.out); rintro e w114 ⟨rfl, hb⟩; refine ⟨_, rfl, ?_⟩; replace HO389 := Aside0.mk (Kd.R_below (by exact yR_ HO389.out) hb); replace HB := Aside0.mk (below_step (by exact yB_ HB.out) hb); (try clear hb)))
     go_ret
     exact ⟨yE_, by exact yB_ HB.out⟩
   ·replace c56 := Bool.eq_false_iff.mpr c56
    subst c56
    have H1 : (some false) = some r := by rw [if_neg (show ¬ (false = true) by decide)] at H; exact H
    clear H
    have H := H1
    clear H1
    obtain rfl := Option.some.inj H
    go_enter Tryz.func10, Tryz.ntmps10
    go_wp2_with (first | ((with_reducible refine gate_callee (f := 16) rfl ?_); refine gL_ (some 16) rfl rfl Tryz.func16 rfl #[.slice A0 l0.length c0] rfl ?_; (with_reducible refine (sorobanlaw21_small.calls k _ _ l0 true _ ?side1 ?side2 A2.out).mono ?_); (case side1 => exact yC_ HR0.out); (case side2 => exact HC0.out); rintro e w' ⟨rfl, ⟨nd, rfl⟩⟩; refine ⟨_, rfl, ?_⟩) | ((with_reducible refine gate_callee (f := 17) rfl ?_); refine gL_ (some 21) rfl rfl Tryz.func17 rfl #[.slice A0 l0.length c0] rfl ?_; (with_reducible refine (spec_Print.calls k _ _ l0 t384 t385 _ ?side1 ?side2 ?side3 A4.out).mono ?_); (case side1 => exact yC_ HR0.out); (case side2 => exact HC0.out); (case side3 => refine LD.below HLD.out ?_; exact yB_ HB.out); rintro e w115 ⟨rfl, hb⟩; refine ⟨_, rfl, ?_⟩; replace HB := Aside0.mk (below_step (by exact yB_ HB.out) hb); (try clear hb)) | ((with_reducible refine gate_callee (f := 19) rfl ?_); refine gL_ (some 26) rfl rfl Tryz.func19 rfl #[.slice A0 l0.length c0] rfl ?_; (with_reducible refine (spec_Canonical.calls k _ _ l0 t386 t387 _ ?side1 ?side2 A5.out).mono ?_); (case side1 => exact yC_ (Kd.C_below HR0.out HB.out)); (case side2 => exact HC0.out); rintro e w116 ⟨v388, rfl, ho0, hb⟩; refine ⟨_, rfl, ?_⟩; have HO389 := Aside0.mk (Kd.R_lower ho0 (below_size (by exact yB_ HB.out))); replace HB := Aside0.mk (below_step (by exact yB_ HB.out) hb); (try clear hb); (try clear ho0)) | ((with_reducible refine gate_callee (f := 23) rfl ?_); refine gL_ (some 31) rfl rfl Tryz.func23 rfl #[.slice A0 l0.length c0] rfl ?_; (with_reducible refine (spec_Args.calls k _ _ l0 t390 t391 _ ?side1 ?side2 A6.out).mono ?_); (case side1 => exact yC_ (Kd.C_below HR0.out HB.out)); (case side2 => exact HC0.out); rintro e w117 ⟨rfl, hb⟩; refine ⟨_, rfl, ?_⟩; replace HO389 := Aside0.mk (Kd.R_below (by exact yR_ HO389.out) hb); replace HB := Aside0.mk (below_step (by exact yB_ HB.out) hb); (try clear hb)) | ((with_reducible refine gate_callee (f := 25) rfl ?_); refine gL_ (some 36) rfl rfl Tryz.func25 rfl #[.slice A0 l0.length c0] rfl ?_; (with_reducible refine (spec_Ordered.calls k _ _ l0 t392 t393 _ ?side1 ?side2 A7.out).mono ?_); (case side1 => exact yC_ (Kd.C_below HR0.out HB.out)); (case side2 => exact HC0.out); rintro e w118 ⟨rfl, hb⟩; refine ⟨_, rfl, ?_⟩; replace HO389 := Aside0.mk (Kd.R_below (by exact yR_ HO389.out) hb); replace HB := Aside0.mk (below_step (by exact yB_ HB.out) hb); (try clear hb)) | ((with_reducible refine gate_callee (f := 20) rfl ?_); refine gL_ (some 41) rfl rfl Tryz.func20 rfl #[.slice A0 l0.length c0] rfl ?_; (with_reducible refine (sorobanref21_Check.calls k _ _ l0 t394 t395 _ ?side1 ?side2 A8.out).mono ?_); (case side1 => exact yC_ (Kd.C_below HR0.out HB.out)); (case side2 => exact HC0.out); rintro e w119 ⟨rfl, hb⟩; refine ⟨_, rfl, ?_⟩; replace HO389 := Aside0.mk (Kd.R_below (by exact yR_ HO389.out) hb); replace HB := Aside0.mk (below_step (by exact yB_ HB.out) hb); (try clear hb)) | ((with_reducible refine gate_callee (f := 13) rfl ?_); refine gL_ (some 46) rfl rfl Tryz.func13 rfl #[] rfl ?_; (with_reducible refine (sorobanlaw21_sanity.calls k  false _ ?side1 A55.out).mono ?_); (case side1 => refine LD.below HLD.out ?_; exact yB_ HB.out); rintro e w120 ⟨rfl, hb⟩; refine ⟨_, rfl, ?_⟩; replace HO389 := Aside0.mk (Kd.R_below (by exact yR_ HO389.out) hb); replace HB := Aside0.mk (below_step (by exact yB_ HB.out) hb); (try clear hb)))
    go_ret
    exact ⟨yE_, by exact yB_ HB.out⟩
 ·replace c3 := Bool.eq_false_iff.mpr c3
  subst c3
  have H1 : ((sorobanlaw21_sanity.f k).bind fun t383 => (some t383)) = some r := by rw [if_neg (show ¬ (false = true) by decide)] at H; exact H
  clear H
  have H := H1
  clear H1
  replace H := Option.bind_eq_some_iff.mp H
  obtain ⟨t383, A1210, H⟩ := H
  replace H : (some t383) = some r := H
  have A121 := Aside0.mk A1210
  clear A1210
  obtain rfl := Option.some.inj H
  go_enter Tryz.func10, Tryz.ntmps10
  go_wp2_with (first | ((with_reducible refine gate_callee (f := 16) rfl ?_); refine gL_ (some 16) rfl rfl Tryz.func16 rfl #[.slice A0 l0.length c0] rfl ?_; (with_reducible refine (sorobanlaw21_small.calls k _ _ l0 false _ ?side1 ?side2 A2.out).mono ?_); (case side1 => exact yC_ HR0.out); (case side2 => exact HC0.out); rintro e w' ⟨rfl, ⟨nd, rfl⟩⟩; refine ⟨_, rfl, ?_⟩) | ((with_reducible refine gate_callee (f := 13) rfl ?_); refine gL_ (some 18) rfl rfl Tryz.func13 rfl #[] rfl ?_; (with_reducible refine (sorobanlaw21_sanity.calls k  t383 _ ?side1 A121.out).mono ?_); (case side1 => refine LD.below HLD.out ?_; exact yB_ HB.out); rintro e w122 ⟨rfl, hb⟩; refine ⟨_, rfl, ?_⟩; replace HB := Aside0.mk (below_step (by exact yB_ HB.out) hb); (try clear hb)))
  go_ret
  exact ⟨yE_, by exact yB_ HB.out⟩
end Go.Proofs.YtnhbgahfmcicnaaGreatDoor.PA
end
