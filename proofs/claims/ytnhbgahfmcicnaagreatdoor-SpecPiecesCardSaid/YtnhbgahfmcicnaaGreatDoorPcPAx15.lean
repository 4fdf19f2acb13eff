/- A part of the proof of the claim's statement. -/
import Derived.Test.YtnhbgahfmcicnaaGreatDoorPcK0
import Derived.Test.YtnhbgahfmcicnaaGreatDoorPcPAx0
import Derived.Test.YtnhbgahfmcicnaaGreatDoorPcPAx1
import Derived.Test.YtnhbgahfmcicnaaGreatDoorPcPAx3
import Derived.Test.YtnhbgahfmcicnaaGreatDoorPcPAx4
import Derived.Test.YtnhbgahfmcicnaaGreatDoorPcPAx7
import Derived.Test.YtnhbgahfmcicnaaGreatDoorPcPAx9
import Derived.Test.YtnhbgahfmcicnaaGreatDoorPcPAx11
import Derived.Test.YtnhbgahfmcicnaaGreatDoorPcG2f
import Derived.Test.YtnhbgahfmcicnaaGreatDoorPcG3p
import Derived.Test.YtnhbgahfmcicnaaGreatDoorPcG4
import Derived.Test.YtnhbgahfmcicnaaGreatDoorPcG1c
section
namespace Go.Proofs.YtnhbgahfmcicnaaGreatDoor.PA
open Go.RowKit Go.Proofs.YtnhbgahfmcicnaaGreatDoorW.PrintWords Go.Proofs.YtnhbgahfmcicnaaGreatDoorW.PrintLast Go.Proofs.YtnhbgahfmcicnaaGreatDoorW.PrintMore
attribute [local go_sem] max2_int min2_int max_two min_two max_three min_three max_four min_four   -- for this text's walks alone
set_option linter.unusedVariables false
set_option linter.unusedSimpArgs false
attribute [local go_sem high] eqA35
def spec_Args.f (k : Nat) (l0 : List (S35)) : Option (Int × Int) := (spec_Check.f k l0).bind fun bt358 => (if bt358.1 = 0 then ((spec_all.f k l0).bind fun t360 => (if t360.length < 17592186044416 then ((slices_Max_int_int.f (t360 ++ [0])).bind fun t366 => (some (t366, 0))) else (none))) else (some (0, bt358.1)))
set_option maxHeartbeats 8000000 in
set_option maxRecDepth 100000 in
theorem spec_Args.calls (k : Nat) (A0 : Option Addr) (c0 : Nat) (l0 : List (S35)) (r1 : Int) (r2 : Int) (w : World) (hr0 : Kd.C k35 w A0 l0.length l0) (hc0 : l0.length ≤ c0) (h : spec_Args.f k l0 = some (r1, r2)) :
  Calls Tryz.prog 23 #[.slice A0 l0.length c0] w fun e w' => e = .returned (.tuple #[.int .i64 r1, .int .i64 r2]) ∧ Below w.heap.size w w' := by
 have HR0 := Aside0.mk hr0
 have HC0 := Aside0.mk hc0
 clear hr0 hc0
 have HB := Aside0.mk (Below.refl w.heap.size w)
 have H : ((spec_Check.f k l0).bind fun bt358 => (if bt358.1 = 0 then ((spec_all.f k l0).bind fun t360 => (if t360.length < 17592186044416 then ((slices_Max_int_int.f (t360 ++ [0])).bind fun t366 => (some (t366, 0))) else (none))) else (some (0, bt358.1)))) = some (r1, r2) := h
 clear h
 replace H := Option.bind_eq_some_iff.mp H
 obtain ⟨⟨t358, t359⟩, A20, H⟩ := H
 replace H : (if t358 = 0 then ((spec_all.f k l0).bind fun t360 => (if t360.length < 17592186044416 then ((slices_Max_int_int.f (t360 ++ [0])).bind fun t366 => (some (t366, 0))) else (none))) else (some (0, t358))) = some (r1, r2) := H
 have A2 := Aside0.mk A20
 clear A20
 by_cases c3 : t358 = 0
 ·rw [if_pos c3] at H
  have c3b0 : (t358 == 0) = true := beq_iff_eq.mpr c3
  have c3b1 : (t358 != 0) = false := bne_eq_false_iff_eq.mpr c3
  clear c3
  replace H := Option.bind_eq_some_iff.mp H
  obtain ⟨t360, A40, H⟩ := H
  replace H : (if t360.length < 17592186044416 then ((slices_Max_int_int.f (t360 ++ [0])).bind fun t366 => (some (t366, 0))) else (none)) = some (r1, r2) := H
  have A4 := Aside0.mk A40
  clear A40
  by_cases c5 : t360.length < 17592186044416
  ·rw [if_pos c5] at H
   have LMc5 := Aside0.mk c5
   clear c5
   obtain ⟨y363, hy363⟩ : ∃ y_ : List Int, y_ = (t360 ++ [0]) := ⟨_, rfl⟩
   replace H : ((slices_Max_int_int.f y363).bind fun t366 => (some (t366, 0))) = some (r1, r2) := by first | (rw [hy363]; with_reducible exact H) | (have H2_ := (Option.bind_some _ _).symm.trans H; rw [hy363]; with_reducible exact H2_) | (have H2_ := (Option.bind_some _ _).symm.trans H; with_reducible exact H2_) | with_reducible exact H | (rw [hy363]; exact H) | exact H
   have Ny363 := Aside0.mk hy363
   clear hy363
   replace H := Option.bind_eq_some_iff.mp H
   obtain ⟨t366, A60, H⟩ := H
   replace H : (some (t366, 0)) = some (r1, r2) := H
   have A6 := Aside0.mk A60
   clear A60
   simp only [Option.some.injEq, Prod.mk.injEq] at H
   obtain ⟨rfl, rfl⟩ := H
   go_enter Tryz.func23, Tryz.ntmps23
   go_wp2_with (first | ((with_reducible refine gate_callee (f := 18) rfl ?_); refine gL_ (some 8) rfl rfl Tryz.func18 rfl #[.slice A0 l0.length c0] rfl ?_; (with_reducible refine (spec_Check.calls k _ _ l0 t358 t359 _ ?side1 ?side2 A2.out).mono ?_); (case side1 => exact yC_ HR0.out); (case side2 => exact HC0.out); rintro e w7 ⟨rfl, hb⟩; refine ⟨_, rfl, ?_⟩; replace HB := Aside0.mk (below_step (by exact yB_ HB.out) hb); (try clear hb)) | ((with_reducible refine gate_callee (f := 34) rfl ?_); refine gL_ (some 15) rfl rfl Tryz.func34 rfl #[.slice A0 l0.length c0] rfl ?_; (with_reducible refine (spec_all.calls k _ _ l0 t360 _ ?side1 ?side2 A4.out).mono ?_); (case side1 => exact yC_ (Kd.C_below HR0.out HB.out)); (case side2 => exact HC0.out); rintro e w8 ⟨v361, rfl, ho0, hb⟩; refine ⟨_, rfl, ?_⟩; have HO362 := Aside0.mk (Kd.R_lower ho0 (below_size (by exact yB_ HB.out))); replace HB := Aside0.mk (below_step (by exact yB_ HB.out) hb); (try clear hb); (try clear ho0)) | ((with_reducible refine gate_builtin (b := .append) (xs := #[.tmp 15, .tmp 16]) rfl ?_); at_builtin; refine Kd.R_append (Kd.int .i64) (w0 := w) w.heap.size rfl (.tmp 15) (.tmp 16) 62 3 (.int .i64 0) 8 rfl Tryz.underlying62 info3 rfl (by decide) (by omega) v361 t360 0 [.int .i64 0] (fun _ => True) (fun _ => False) rfl rfl ?aP (fun _ hk => hk.elim) ?aF ?aO ?aB ?aS ?aL ?_; (case aP => exact rfl); (case aB => exact (by exact yB_ HB.out)); (case aF => exact (fun _ _ => trivial)); (case aO => exact (by exact yR_ HO362.out)); (case aS => exact (below_size (by exact yB_ HB.out))); (case aL => have := LMc5.out; omega); intro v364 w9 ho hb hg hat; rw [← Ny363.out] at ho; have n0_ := Aside0.mk (hb); have n1_ := Aside0.mk (ho); clear HB; clear HO362; have HB := n0_; have HO365 := n1_; clear n0_ n1_; clear ho hb hg hat; obtain ⟨Ao10, co10, eo10⟩ := Kd.R_slice HO365.out; subst eo10) | ((with_reducible refine gate_callee (f := 49) rfl ?_); refine gL_ (some 18) rfl rfl Tryz.func49 rfl #[.slice Ao10 y363.length co10] rfl ?_; (with_reducible refine (slices_Max_int_int.calls _ _ y363 t366 _ ?side1 ?side2 A6.out).mono ?_); (case side1 => exact yC_ (Kd.R_reads' HO365.out).2.2); (case side2 => exact (Kd.R_reads' HO365.out).2.1); rintro e w' ⟨rfl, ⟨nd, rfl⟩⟩; refine ⟨_, rfl, ?_⟩))
   go_ret2
   exact ⟨yE_, by exact yB_ HB.out⟩
  ·rw [if_neg c5] at H
   exact absurd H (by simp)
 ·rw [if_neg c3] at H
  have c3b0 : (t358 == 0) = false := beq_eq_false_iff_ne.mpr c3
  have c3b1 : (t358 != 0) = true := bne_iff_ne.mpr c3
  simp only [Option.some.injEq, Prod.mk.injEq] at H
  obtain ⟨rfl, rfl⟩ := H
  go_enter Tryz.func23, Tryz.ntmps23
  go_wp2_with (first | ((with_reducible refine gate_callee (f := 18) rfl ?_); refine gL_ (some 8) rfl rfl Tryz.func18 rfl #[.slice A0 l0.length c0] rfl ?_; (with_reducible refine (spec_Check.calls k _ _ l0 t358 t359 _ ?side1 ?side2 A2.out).mono ?_); (case side1 => exact yC_ HR0.out); (case side2 => exact HC0.out); rintro e w11 ⟨rfl, hb⟩; refine ⟨_, rfl, ?_⟩; replace HB := Aside0.mk (below_step (by exact yB_ HB.out) hb); (try clear hb)))
  go_ret2
  exact ⟨yE_, by exact yB_ HB.out⟩
end Go.Proofs.YtnhbgahfmcicnaaGreatDoor.PA
end
