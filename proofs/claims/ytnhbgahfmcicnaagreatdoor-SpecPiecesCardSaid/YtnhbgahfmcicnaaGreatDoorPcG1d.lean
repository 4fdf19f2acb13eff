/- A part of the proof of the claim's statement. -/
import Derived.Test.YtnhbgahfmcicnaaGreatDoorPcG1a
section
namespace Go.Proofs.YtnhbgahfmcicnaaGreatDoor.PA
set_option linter.unusedVariables false
set_option linter.unusedSimpArgs false
open Go.RowKit Go.Shelf Go.Proofs.YtnhbgahfmcicnaaGreatDoorW.PrintWords Go.Proofs.YtnhbgahfmcicnaaGreatDoorW.PrintLast Go.Proofs.YtnhbgahfmcicnaaGreatDoorW.PrintMore
def flagVal (b : Int) : Int := if b = 45 then 1 else if b = 43 then 2 else if b = 32 then 4 else if b = 35 then 8 else if b = 48 then 16 else if b = 39 then 32 else 0
def spec_flagOf.f (a0 : Int) : Option (Int) := if 0 ≤ a0 ∧ a0 < 256 then some (flagVal a0) else none
def flagAgg : Value := .agg #[.int .i64 1, .int .i64 2, .int .i64 4, .int .i64 8, .int .i64 16, .int .i64 32]
set_option maxRecDepth 100000 in
set_option maxHeartbeats 2000000 in
theorem flagOf_same (a0 : Int) (r : Int) (w : World) (h : spec_flagOf.f a0 = some r) :
    Calls Tryz.prog 110 #[.int .u8 a0] w fun e w' => e = .returned (.int .i64 r) ∧ w = w' := by
  unfold spec_flagOf.f at h
  by_cases c : 0 ≤ a0 ∧ a0 < 256
  · rw [if_pos c] at h
    obtain rfl := Option.some.inj h
    clear h
    obtain ⟨c1, c2⟩ := c
    have hib : Lib.indexByte (⟨#[45, 43, 32, 35, 48, 39]⟩ : ByteArray).data.toList a0.toNat.toUInt8 = if a0 = 45 then 0 else if a0 = 43 then 1 else if a0 = 32 then 2 else if a0 = 35 then 3 else if a0 = 48 then 4 else if a0 = 39 then 5 else -1 := by
      obtain ⟨n, rfl⟩ := Int.eq_ofNat_of_zero_le c1
      have hn : n < 256 := by omega
      clear c1 c2
      revert n
      decide
    have HIB := Lib.hid hib
    clear hib
    have i0 : ∀ w, (Instr.index 147 flagAgg (.int .i64 0)).run Tryz.prog w = .ok (.int .i64 1) w := fun _ => by kernel_rfl
    have i1 : ∀ w, (Instr.index 147 flagAgg (.int .i64 1)).run Tryz.prog w = .ok (.int .i64 2) w := fun _ => by kernel_rfl
    have i2 : ∀ w, (Instr.index 147 flagAgg (.int .i64 2)).run Tryz.prog w = .ok (.int .i64 4) w := fun _ => by kernel_rfl
    have i3 : ∀ w, (Instr.index 147 flagAgg (.int .i64 3)).run Tryz.prog w = .ok (.int .i64 8) w := fun _ => by kernel_rfl
    have i4 : ∀ w, (Instr.index 147 flagAgg (.int .i64 4)).run Tryz.prog w = .ok (.int .i64 16) w := fun _ => by kernel_rfl
    have i5 : ∀ w, (Instr.index 147 flagAgg (.int .i64 5)).run Tryz.prog w = .ok (.int .i64 32) w := fun _ => by kernel_rfl
    unfold flagAgg at i0 i1 i2 i3 i4 i5
    have hcall : ∀ (k : Int), (if a0 = 45 then 0 else if a0 = 43 then 1 else if a0 = 32 then 2 else if a0 = 35 then 3 else if a0 = 48 then 4 else if a0 = 39 then 5 else -1) = k → ∀ W, Calls Tryz.prog 37 #[.string ⟨#[45, 43, 32, 35, 48, 39]⟩, .int .u8 a0] W fun e w' => e = .returned (.int .i64 k) ∧ W = w' := by
      intro k hk W
      refine (Tryz.strings_IndexByte ⟨#[45, 43, 32, 35, 48, 39]⟩ a0 W).mono ?_
      rintro e w' ⟨rfl, rfl⟩
      rw [HIB.out, hk]
      exact ⟨rfl, rfl⟩
    have HC := Lib.hid hcall
    clear hcall
    unfold flagVal
    by_cases b0 : a0 = 45
    · have HC0 := Lib.hid (HC.out 0 (by rw [if_pos b0]))
      rw [if_pos b0]
      clear HC HIB b0
      go_enter Tryz.func110, Tryz.ntmps110
      go_wp2_with (go_at_call 37; refine (HC0.out _).mono ?_; rintro e w' ⟨rfl, rfl⟩)
      go_ret
      exact ⟨rfl, rfl⟩
    by_cases b1 : a0 = 43
    · have HC0 := Lib.hid (HC.out 1 (by rw [if_neg b0, if_pos b1]))
      rw [if_neg b0, if_pos b1]
      clear HC HIB b0 b1
      go_enter Tryz.func110, Tryz.ntmps110
      go_wp2_with (go_at_call 37; refine (HC0.out _).mono ?_; rintro e w' ⟨rfl, rfl⟩)
      go_ret
      exact ⟨rfl, rfl⟩
    by_cases b2 : a0 = 32
    · have HC0 := Lib.hid (HC.out 2 (by rw [if_neg b0, if_neg b1, if_pos b2]))
      rw [if_neg b0, if_neg b1, if_pos b2]
      clear HC HIB b0 b1 b2
      go_enter Tryz.func110, Tryz.ntmps110
      go_wp2_with (go_at_call 37; refine (HC0.out _).mono ?_; rintro e w' ⟨rfl, rfl⟩)
      go_ret
      exact ⟨rfl, rfl⟩
    by_cases b3 : a0 = 35
    · have HC0 := Lib.hid (HC.out 3 (by rw [if_neg b0, if_neg b1, if_neg b2, if_pos b3]))
      rw [if_neg b0, if_neg b1, if_neg b2, if_pos b3]
      clear HC HIB b0 b1 b2 b3
      go_enter Tryz.func110, Tryz.ntmps110
      go_wp2_with (go_at_call 37; refine (HC0.out _).mono ?_; rintro e w' ⟨rfl, rfl⟩)
      go_ret
      exact ⟨rfl, rfl⟩
    by_cases b4 : a0 = 48
    · have HC0 := Lib.hid (HC.out 4 (by rw [if_neg b0, if_neg b1, if_neg b2, if_neg b3, if_pos b4]))
      rw [if_neg b0, if_neg b1, if_neg b2, if_neg b3, if_pos b4]
      clear HC HIB b0 b1 b2 b3 b4
      go_enter Tryz.func110, Tryz.ntmps110
      go_wp2_with (go_at_call 37; refine (HC0.out _).mono ?_; rintro e w' ⟨rfl, rfl⟩)
      go_ret
      exact ⟨rfl, rfl⟩
    by_cases b5 : a0 = 39
    · have HC0 := Lib.hid (HC.out 5 (by rw [if_neg b0, if_neg b1, if_neg b2, if_neg b3, if_neg b4, if_pos b5]))
      rw [if_neg b0, if_neg b1, if_neg b2, if_neg b3, if_neg b4, if_pos b5]
      clear HC HIB b0 b1 b2 b3 b4 b5
      go_enter Tryz.func110, Tryz.ntmps110
      go_wp2_with (go_at_call 37; refine (HC0.out _).mono ?_; rintro e w' ⟨rfl, rfl⟩)
      go_ret
      exact ⟨rfl, rfl⟩
    have HC0 := Lib.hid (HC.out (-1) (by rw [if_neg b0, if_neg b1, if_neg b2, if_neg b3, if_neg b4, if_neg b5]))
    rw [if_neg b0, if_neg b1, if_neg b2, if_neg b3, if_neg b4, if_neg b5]
    clear HC HIB b0 b1 b2 b3 b4 b5
    go_enter Tryz.func110, Tryz.ntmps110
    go_wp2_with (go_at_call 37; refine (HC0.out _).mono ?_; rintro e w' ⟨rfl, rfl⟩)
    go_ret
    exact ⟨rfl, rfl⟩
  · rw [if_neg c] at h
    cases h
theorem spec_flagOf.calls (a0 : Int) (r : Int) (w : World) (h : spec_flagOf.f a0 = some r) :
    Calls Tryz.prog 110 #[.int .u8 a0] w fun e w' => e = .returned (.int .i64 r) ∧ Below w.heap.size w w' := by
  refine (flagOf_same a0 r w h).mono ?_
  rintro e w' ⟨rfl, rfl⟩
  exact ⟨rfl, Below.refl _ _⟩
def mods : List (List UInt8) := [[], [104, 104], [104], [108], [108, 108], [106], [122], [116], [76], [72], [68], [68, 68]]
def modVals : Array Value := #[.string ⟨#[]⟩, .string ⟨#[104, 104]⟩, .string ⟨#[104]⟩, .string ⟨#[108]⟩, .string ⟨#[108, 108]⟩, .string ⟨#[106]⟩, .string ⟨#[122]⟩, .string ⟨#[116]⟩, .string ⟨#[76]⟩, .string ⟨#[72]⟩, .string ⟨#[68]⟩, .string ⟨#[68, 68]⟩]
def modAt (k : Nat) : ByteArray := ⟨(mods.getD k []).toArray⟩
set_option maxRecDepth 100000 in
set_option maxHeartbeats 2000000 in
theorem modifiers_calls (w : World) : Calls Tryz.prog 74 #[] w fun e w' => e = .returned (.agg modVals) ∧ w.alloc (.cells modVals 109) = w' := by
  unfold modVals
  go_enter Tryz.func74, Tryz.ntmps74
  go_wp2
  refine bodyPost_ret (v := .agg #[.string ⟨#[]⟩, .string ⟨#[104, 104]⟩, .string ⟨#[104]⟩, .string ⟨#[108]⟩, .string ⟨#[108, 108]⟩, .string ⟨#[106]⟩, .string ⟨#[122]⟩, .string ⟨#[116]⟩, .string ⟨#[76]⟩, .string ⟨#[72]⟩, .string ⟨#[68]⟩, .string ⟨#[68, 68]⟩]) (by simp [results, Tryz.results74, go_sem]) rfl ⟨rfl, rfl⟩
theorem index_mod (k : Nat) (hk : k < 12) (w : World) : (Instr.index 109 (.agg modVals) (.int .i64 k)).run Tryz.prog w = .ok (.string (modAt k)) w := by
  rcases (by omega : k = 0 ∨ k = 1 ∨ k = 2 ∨ k = 3 ∨ k = 4 ∨ k = 5 ∨ k = 6 ∨ k = 7 ∨ k = 8 ∨ k = 9 ∨ k = 10 ∨ k = 11) with rfl | rfl | rfl | rfl | rfl | rfl | rfl | rfl | rfl | rfl | rfl | rfl <;> kernel_rfl
end Go.Proofs.YtnhbgahfmcicnaaGreatDoor.PA
end
