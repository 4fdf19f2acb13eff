/- A part of the proof of the claim's statement. -/
import Derived.Test.YtnhbgahfmcicnaaGreatDoorPcPAx9
import Derived.Test.YtnhbgahfmcicnaaGreatDoorPcG1d
import Derived.ShutString
import Derived.Deep.RegionHeld3
import Derived.Deep.RegionLaw
import Derived.IntWalk
section
namespace Go.Proofs.YtnhbgahfmcicnaaGreatDoor.PA
set_option linter.unusedVariables false
set_option linter.unusedSimpArgs false
open Go.RowKit Go.Shelf Go.Proofs.YtnhbgahfmcicnaaGreatDoorW.PrintWords Go.Proofs.YtnhbgahfmcicnaaGreatDoorW.PrintLast Go.Proofs.YtnhbgahfmcicnaaGreatDoorW.PrintMore
def bestMod (l : List UInt8) : Nat → Nat
 | 0 => 0
 | k + 1 => if (mods.getD k []).isPrefixOf l && decide ((mods.getD (bestMod l k) []).length < (mods.getD k []).length) then k else bestMod l k
theorem bestMod_lt (l : List UInt8) : ∀ k, k ≤ 12 → bestMod l k < 12
 | 0, _ => by show 0 < 12; omega
 | k + 1, h => by
  have := bestMod_lt l k (by omega)
  unfold bestMod
  split <;> omega
theorem mods_len (k : Nat) : (mods.getD k []).length ≤ 2 := by
 by_cases h : k < 12
 ·rcases (by omega : k = 0 ∨ k = 1 ∨ k = 2 ∨ k = 3 ∨ k = 4 ∨ k = 5 ∨ k = 6 ∨ k = 7 ∨ k = 8 ∨ k = 9 ∨ k = 10 ∨ k = 11) with rfl | rfl | rfl | rfl | rfl | rfl | rfl | rfl | rfl | rfl | rfl | rfl <;> decide
 ·have : mods.getD k [] = [] := by
   rw [List.getD_eq_getElem?_getD, List.getElem?_eq_none (by show 12 ≤ k; omega)]
   rfl
  rw [this]
  decide
theorem modAt_size (k : Nat) : (modAt k).size = (mods.getD k []).length := by
 unfold modAt
 exact size_of_list _
def modLen (k : Nat) : Nat := (mods.getD k []).length
def spec_reader_length.f (s0_0 : Int) (s0_1 : ByteArray) (s0_2 : Int) (s0_3 : Int) (s0_4 : Int) (s0_5 : Bool) (s0_6 : SlV) : Option (Int × Int × ByteArray × Int × Int × Int × Bool) :=
 if 0 ≤ s0_0 ∧ s0_0 ≤ s0_1.size ∧ s0_1.size ≤ 140737488351232 then
  some ((bestMod (s0_1.data.toList.drop s0_0.toNat) 12 : Int), s0_0 + (modLen (bestMod (s0_1.data.toList.drop s0_0.toNat) 12) : Nat), s0_1, s0_2, s0_3, s0_4, s0_5)
 else none
set_option maxRecDepth 100000 in
set_option maxHeartbeats 4000000 in
theorem spec_reader_length.calls (g : Nat) (s0_0 : Int) (s0_1 : ByteArray) (s0_2 : Int) (s0_3 : Int) (s0_4 : Int) (s0_5 : Bool) (s0_6 : SlV) (r1 : Int) (r2 : Int) (r3 : ByteArray) (r4 : Int) (r5 : Int) (r6 : Int) (r7 : Bool) (w0 w : World) (hI : IsS59 w0 w g s0_0 s0_1 s0_2 s0_3 s0_4 s0_5 s0_6) (hB : Below w0.heap.size w0 w) (h : spec_reader_length.f s0_0 s0_1 s0_2 s0_3 s0_4 s0_5 s0_6 = some (r1, r2, r3, r4, r5, r6, r7)) :
  Calls Tryz.prog 92 #[.pointer (some ⟨g, 0, none⟩)] w fun e w' => e = .returned (.int .i64 r1) ∧ IsS59 w0 w' g r2 r3 r4 r5 r6 r7 s0_6 ∧ Below w0.heap.size w0 w' ∧ KeepBut w w' g none := by
 unfold spec_reader_length.f at h
 by_cases c : 0 ≤ s0_0 ∧ s0_0 ≤ s0_1.size ∧ s0_1.size ≤ 140737488351232
 ·rw [if_pos c] at h
  obtain ⟨c1, c2, c3⟩ := c
  obtain ⟨p, rfl⟩ := Int.eq_ofNat_of_zero_le c1
  rw [Int.toNat_natCast] at h
  obtain ⟨l, hl⟩ : ∃ l, s0_1.data.toList.drop p = l := ⟨_, rfl⟩
  rw [hl] at h
  simp only [Option.some.injEq, Prod.mk.injEq] at h
  obtain ⟨rfl, rfl, rfl, rfl, rfl, rfl, rfl⟩ := h
  have HL := Lib.hid hl
  have hidx := fun (k : Nat) (hk : k < 12) (W : World) => index_mod k hk W
  have HX := Lib.hid hidx
  have hbl := fun (k : Nat) (hk : k ≤ 12) => bestMod_lt l k hk
  have HBL := Lib.hid hbl
  have HI := Lib.hid hI
  have HB := Lib.hid hB
  clear hl hidx hbl hI hB
  go_enter Tryz.func92, Tryz.ntmps92
  go_wp2_with (go_at_call 74; refine (modifiers_calls _).mono ?_; rintro e w' ⟨rfl, hw⟩; rw [← hw]; clear hw)
  go_loopw [3, 7] (fun b i wr => ∃ k : Nat, k ≤ 12 ∧ i = .int .i64 k ∧ b = .int .i64 (bestMod l k : Nat) ∧ Hid (IsS59 w0 wr g (p : Int) s0_1 s0_2 s0_3 s0_4 s0_5 s0_6) ∧ Hid (Below w0.heap.size w0 wr) ∧ Hid (KeepBut w wr g none)) (fun _ i _ => 12 - (intOf i).toNat)
  case atStart => exact ⟨0, by omega, rfl, rfl, HI.out.alloc _, below_alloc HB.out _, keep_alloc (KeepBut.refl _ _ _) _⟩
  case round =>
   obtain ⟨k, hk, rfl, rfl, HI1, HB1, HK1⟩ := hrel
   obtain ⟨A6, c6, HG, hg, HS⟩ := HI1.out
   have hc0 := cellS59_0 HG
   have hc1 := cellS59_1 HG
   have hf0 := blk_frozen HG 0
   have HGH := Lib.hid HG
   clear HG HS HI HB
   by_cases hlt : k < 12
   ·have hb := HBL.out k hk
    obtain ⟨b, hbe⟩ : ∃ b, bestMod l k = b := ⟨_, rfl⟩
    have hbs : bestMod l (k + 1) = if (mods.getD k []).isPrefixOf l && decide ((mods.getD b []).length < (mods.getD k []).length) then k else b := by rw [← hbe]; rfl
    rw [hbe] at hb ⊢
    have HBS := Lib.hid hbs
    clear hbs hbe
    have hx1 := HX.out k hlt
    have hx2 := HX.out b hb
    obtain ⟨bp, hbp⟩ : ∃ bp, (mods.getD k []).isPrefixOf l = bp := ⟨_, rfl⟩
    have hhp : ∀ W, Calls Tryz.prog 117 #[.string (s0_1.extract p s0_1.size), .string (modAt k)] W fun e w' => e = .returned (.bool bp) ∧ w' = W := by
     intro W
     refine (Tryz.strings_HasPrefix _ _ W).mono ?_
     rintro e w' ⟨rfl, rfl⟩
     refine ⟨?_, rfl⟩
     rw [← hbp, ← HL.out, Lib.extract_data, List.take_of_length_le (by rw [List.length_drop, data_length]; exact Nat.le_refl _)]
     rfl
    have HHP := Lib.hid hhp
    clear hhp
    cases bp
    ·have HBP := Lib.hid hbp
     clear hbp
     go_wp2_with fail
     go_quiet ((go_at_call 117; exact Calls.quiet_of_same (HHP.out _)))
     go_wp2
     go_roundw
     case rel => exact ⟨k + 1, by omega, by go_num, by rw [HBS.out, HBP.out]; rfl, IsS59.drewN HI1.out _, pw_below_drewN HB1.out _, keep_drewN HK1.out _⟩
     case measure => simp [intOf]; omega
    ·have HBP := Lib.hid hbp
     clear hbp
     by_cases hs : (mods.getD b []).length < (mods.getD k []).length
     ·have hs2 : decide (((modAt b).size : Int) < ((modAt k).size : Int)) = true := by rw [modAt_size, modAt_size]; exact decide_eq_true (Int.ofNat_lt.2 hs)
      have HS2 := Lib.hid hs
      clear hs
      go_wp2_with fail
      go_region_held3 (fun w' => w'.cell? ⟨g, 0, none⟩ = some (.int .i64 (p : Int)) ∧ w'.cell? ⟨g, 1, none⟩ = some (.string s0_1)) (go_keep)
       (first | (go_at_call 117; refine (HHP.out _).mono ?_; rintro e w' ⟨rfl, rfl⟩) | (go_at_call 74; refine (modifiers_calls _).mono ?_; rintro e w' ⟨rfl, hw⟩; rw [← hw]; clear hw))
      go_wp2
      go_roundw
      case rel => exact ⟨k + 1, by omega, by go_num, by rw [HBS.out, HBP.out]; rw [if_pos (by simpa using HS2.out)], Lib.hid (by repeat (first | (with_reducible first | exact HI1.out | apply IsS59.alloc | apply IsS59.drewN | apply IsS59.drew) | exact HI1.out)), Lib.hid (by repeat (first | (with_reducible first | exact HB1.out | apply below_alloc | apply pw_below_drewN | apply below_drew1) | exact HB1.out)), Lib.hid (by repeat (first | (with_reducible first | exact HK1.out | apply keep_drewN | apply keep_drew | apply keep_alloc) | exact HK1.out))⟩
      case measure => simp [intOf]; omega
     ·have hs2 : decide (((modAt b).size : Int) < ((modAt k).size : Int)) = false := by rw [modAt_size, modAt_size]; exact decide_eq_false (fun e => hs (Int.ofNat_lt.1 e))
      have HS2 := Lib.hid hs
      clear hs
      go_wp2_with fail
      go_region_held3 (fun w' => w'.cell? ⟨g, 0, none⟩ = some (.int .i64 (p : Int)) ∧ w'.cell? ⟨g, 1, none⟩ = some (.string s0_1)) (go_keep)
       (first | (go_at_call 117; refine (HHP.out _).mono ?_; rintro e w' ⟨rfl, rfl⟩) | (go_at_call 74; refine (modifiers_calls _).mono ?_; rintro e w' ⟨rfl, hw⟩; rw [← hw]; clear hw))
      go_wp2
      go_roundw
      case rel => exact ⟨k + 1, by omega, by go_num, by rw [HBS.out, HBP.out]; rw [if_neg (by simpa using HS2.out)], Lib.hid (by repeat (first | (with_reducible first | exact HI1.out | apply IsS59.alloc | apply IsS59.drewN | apply IsS59.drew) | exact HI1.out)), Lib.hid (by repeat (first | (with_reducible first | exact HB1.out | apply below_alloc | apply pw_below_drewN | apply below_drew1) | exact HB1.out)), Lib.hid (by repeat (first | (with_reducible first | exact HK1.out | apply keep_drewN | apply keep_drew | apply keep_alloc) | exact HK1.out))⟩
      case measure => simp [intOf]; omega
   ·obtain rfl : k = 12 := by omega
    have hb := HBL.out 12 (by omega)
    have hlm := mods_len (bestMod l 12)
    have HML := Lib.hid (show modLen (bestMod l 12) = (modAt (bestMod l 12)).size from (modAt_size _).symm)
    obtain ⟨b, hbe⟩ : ∃ b, bestMod l 12 = b := ⟨_, rfl⟩
    have HBE := Lib.hid hbe
    rw [hbe] at hb hlm HML ⊢
    clear hbe
    have hx2 := HX.out b hb
    have hms : (modAt b).size = (mods.getD b []).length := modAt_size b
    have hms2 : (modAt b).size ≤ 2 := by omega
    clear hms hlm
    obtain ⟨A6', c6', HG', _, _⟩ := HI1.out.alloc (.cells modVals 109)
    have hc0' := cellS59_0 HG'
    have hf0' := blk_frozen HG' 0
    clear HG'
    have hsum : IntKind.i64.wrap ((p : Int) + ((modAt b).size : Int)) = (p : Int) + ((modAt b).size : Int) := IntWalk.i64_in _ (by omega)
    go_wp2_with fail
    go_region_law (go_simp; go_at_call 74; refine (modifiers_calls _).mono ?_; rintro e w' ⟨rfl, hw⟩; rw [← hw]; clear hw)
    all_goals
     go_wp2
     go_ret
     rw [HBE.out, HML.out]
     exact ⟨rfl, IsS59.drew ((HI1.out.alloc _).set_0 _), below_drew1 (below_set (below_alloc HB1.out _) (IsS59.ge HI1.out)), keep_drew (KeepBut.set_ (keep_alloc HK1.out _) _ _)⟩
 ·rw [if_neg c] at h
  cases h
end Go.Proofs.YtnhbgahfmcicnaaGreatDoor.PA
end
