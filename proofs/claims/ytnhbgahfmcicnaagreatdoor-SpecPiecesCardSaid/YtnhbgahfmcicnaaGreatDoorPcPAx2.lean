/- A part of the proof of the claim's statement. -/
import Derived.Test.YtnhbgahfmcicnaaGreatDoorPcK0
import Derived.Test.YtnhbgahfmcicnaaGreatDoorPcPAx0
import Derived.Test.YtnhbgahfmcicnaaGreatDoorPcG1a
section
namespace Go.Proofs.YtnhbgahfmcicnaaGreatDoor.PA
open Go.RowKit Go.Proofs.YtnhbgahfmcicnaaGreatDoorW.PrintWords Go.Proofs.YtnhbgahfmcicnaaGreatDoorW.PrintLast Go.Proofs.YtnhbgahfmcicnaaGreatDoorW.PrintMore
attribute [local go_sem] max2_int min2_int max_two min_two max_three min_three max_four min_four   -- for this text's walks alone
set_option linter.unusedVariables false
set_option linter.unusedSimpArgs false
def spec_Escape.f (a0 : ByteArray) : Option (ByteArray × Int) := (strings_IndexByte.f a0 0).bind fun t101 => (if t101 ≥ 0 then (some ((⟨#[]⟩ : ByteArray), 6)) else ((strings_ReplaceAll.f a0 (⟨#[37]⟩ : ByteArray) (⟨#[37, 37]⟩ : ByteArray)).bind fun t102 => (if (t102.size : Int) > 2000 then (some ((⟨#[]⟩ : ByteArray), 2)) else (some (t102, 0)))))
set_option maxHeartbeats 8000000 in
set_option maxRecDepth 100000 in
theorem spec_Escape.calls (a0 : ByteArray) (r1 : ByteArray) (r2 : Int) (w : World) (hLD : LD w) (h : spec_Escape.f a0 = some (r1, r2)) :
  Calls Tryz.prog 15 #[.string a0] w fun e w' => e = .returned (.tuple #[.string r1, .int .i64 r2]) ∧ Below w.heap.size w w' := by
 have HLD := Aside0.mk hLD
 clear hLD
 have HB := Aside0.mk (Below.refl w.heap.size w)
 have H : ((strings_IndexByte.f a0 0).bind fun t101 => (if t101 ≥ 0 then (some ((⟨#[]⟩ : ByteArray), 6)) else ((strings_ReplaceAll.f a0 (⟨#[37]⟩ : ByteArray) (⟨#[37, 37]⟩ : ByteArray)).bind fun t102 => (if (t102.size : Int) > 2000 then (some ((⟨#[]⟩ : ByteArray), 2)) else (some (t102, 0)))))) = some (r1, r2) := h
 clear h
 replace H := Option.bind_eq_some_iff.mp H
 obtain ⟨t101, A20, H⟩ := H
 replace H : (if t101 ≥ 0 then (some ((⟨#[]⟩ : ByteArray), 6)) else ((strings_ReplaceAll.f a0 (⟨#[37]⟩ : ByteArray) (⟨#[37, 37]⟩ : ByteArray)).bind fun t102 => (if (t102.size : Int) > 2000 then (some ((⟨#[]⟩ : ByteArray), 2)) else (some (t102, 0))))) = some (r1, r2) := H
 have A2 := Aside0.mk A20
 clear A20
 by_cases c3 : t101 ≥ 0
 ·rw [if_pos c3] at H
  have c3b0 : decide (0 ≤ t101) = true := decide_eq_true c3
  clear c3
  simp only [Option.some.injEq, Prod.mk.injEq] at H
  obtain ⟨rfl, rfl⟩ := H
  go_enter Tryz.func15, Tryz.ntmps15
  go_wp2_with (first | ((with_reducible refine gate_callee (f := 37) rfl ?_); refine gL_ (some 6) rfl rfl Tryz.func37 rfl #[.string a0, .int .u8 0] rfl ?_; (with_reducible refine (strings_IndexByte.calls a0 0 t101 _ A2.out).mono ?_); rintro e w' ⟨rfl, ⟨nd, rfl⟩⟩; refine ⟨_, rfl, ?_⟩))
  go_ret2
  exact ⟨yE_, by exact yB_ HB.out⟩
 ·rw [if_neg c3] at H
  have c3b0 : decide (0 ≤ t101) = false := decide_eq_false c3
  clear c3
  replace H := Option.bind_eq_some_iff.mp H
  obtain ⟨t102, A40, H⟩ := H
  replace H : (if (t102.size : Int) > 2000 then (some ((⟨#[]⟩ : ByteArray), 2)) else (some (t102, 0))) = some (r1, r2) := H
  have A4 := Aside0.mk A40
  clear A40
  by_cases c5 : (t102.size : Int) > 2000
  ·rw [if_pos c5] at H
   have c5b0 : decide (2000 < (t102.size : Int)) = true := decide_eq_true c5
   have c5b1 : decide (2000 < t102.size) = true := decide_eq_true (by omega)
   clear c5
   simp only [Option.some.injEq, Prod.mk.injEq] at H
   obtain ⟨rfl, rfl⟩ := H
   go_enter Tryz.func15, Tryz.ntmps15
   go_wp2_with (first | ((with_reducible refine gate_callee (f := 37) rfl ?_); refine gL_ (some 6) rfl rfl Tryz.func37 rfl #[.string a0, .int .u8 0] rfl ?_; (with_reducible refine (strings_IndexByte.calls a0 0 t101 _ A2.out).mono ?_); rintro e w' ⟨rfl, ⟨nd, rfl⟩⟩; refine ⟨_, rfl, ?_⟩) | ((with_reducible refine gate_callee (f := 38) rfl ?_); refine gL_ (some 9) rfl rfl Tryz.func38 rfl #[.string a0, .string (⟨#[37]⟩ : ByteArray), .string (⟨#[37, 37]⟩ : ByteArray)] rfl ?_; (with_reducible refine (strings_ReplaceAll.calls a0 (⟨#[37]⟩ : ByteArray) (⟨#[37, 37]⟩ : ByteArray) t102 _ ?side1 A4.out).mono ?_); (case side1 => refine LD.below HLD.out ?_; exact yB_ HB.out); rintro e w6 ⟨rfl, hb⟩; refine ⟨_, rfl, ?_⟩; replace HB := Aside0.mk (below_step (by exact yB_ HB.out) hb); (try clear hb)))
   go_ret2
   exact ⟨yE_, by exact yB_ HB.out⟩
  ·rw [if_neg c5] at H
   have c5b0 : decide (2000 < (t102.size : Int)) = false := decide_eq_false c5
   have c5b1 : decide (2000 < t102.size) = false := decide_eq_false (by omega)
   clear c5
   simp only [Option.some.injEq, Prod.mk.injEq] at H
   obtain ⟨rfl, rfl⟩ := H
   go_enter Tryz.func15, Tryz.ntmps15
   go_wp2_with (first | ((with_reducible refine gate_callee (f := 37) rfl ?_); refine gL_ (some 6) rfl rfl Tryz.func37 rfl #[.string a0, .int .u8 0] rfl ?_; (with_reducible refine (strings_IndexByte.calls a0 0 t101 _ A2.out).mono ?_); rintro e w' ⟨rfl, ⟨nd, rfl⟩⟩; refine ⟨_, rfl, ?_⟩) | ((with_reducible refine gate_callee (f := 38) rfl ?_); refine gL_ (some 9) rfl rfl Tryz.func38 rfl #[.string a0, .string (⟨#[37]⟩ : ByteArray), .string (⟨#[37, 37]⟩ : ByteArray)] rfl ?_; (with_reducible refine (strings_ReplaceAll.calls a0 (⟨#[37]⟩ : ByteArray) (⟨#[37, 37]⟩ : ByteArray) t102 _ ?side1 A4.out).mono ?_); (case side1 => refine LD.below HLD.out ?_; exact yB_ HB.out); rintro e w7 ⟨rfl, hb⟩; refine ⟨_, rfl, ?_⟩; replace HB := Aside0.mk (below_step (by exact yB_ HB.out) hb); (try clear hb)))
   go_ret2
   exact ⟨yE_, by exact yB_ HB.out⟩
end Go.Proofs.YtnhbgahfmcicnaaGreatDoor.PA
end
