/- A part of the proof of the claim's statement. -/
import Derived.Test.YtnhbgahfmcicnaaGreatDoorPtPAx11
import Derived.Test.YtnhbgahfmcicnaaGreatDoorPtPAx7
import Derived.Test.YtnhbgahfmcicnaaGreatDoorPtG2h
import Derived.Test.YtnhbgahfmcicnaaGreatDoorPtG2f1
import Derived.Test.YtnhbgahfmcicnaaGreatDoorPtM7
import Derived.Deep.RegionHeld3
import Derived.Deep.DeepCutAuto
import Derived.Deep.CutRange
import Derived.Outline
section
namespace Go.Proofs.YtnhbgahfmcicnaaGreatDoor.PA
set_option linter.unusedVariables false
set_option linter.unusedSimpArgs false
open Go.RowKit Go.Shelf Go.Proofs.YtnhbgahfmcicnaaGreatDoorW.PrintWords Go.Proofs.YtnhbgahfmcicnaaGreatDoorW.PrintLast Go.Proofs.YtnhbgahfmcicnaaGreatDoorW.PrintMore
def rwidthB (a3 a4 : Int) (p : Bool) : List UInt8 := if a4 ≠ 0 then starB a4 p else if 0 ≤ a3 then Lib.itoa a3 else []
def rprecB (a5 a6 : Int) (p : Bool) : List UInt8 := if a6 ≠ 0 then 46 :: starB a6 p else if a5 = 0 then [46] else if 0 < a5 then 46 :: Lib.itoa a5 else []
def rpieceB (a1 a2 a3 a4 a5 a6 a7 a8 : Int) (p : Bool) : List UInt8 :=
 headB a1 p ++ flagMarks a2 6 ++ rwidthB a3 a4 p ++ rprecB a5 a6 p ++ mods.getD a7.toNat [] ++ [a8.toNat.toUInt8]
def sorobanref21_piece.f (k : Nat) (a0_0 : ByteArray) (a0_1 : Int) (a0_2 : Int) (a0_3 : Int) (a0_4 : Int) (a0_5 : Int) (a0_6 : Int) (a0_7 : Int) (a0_8 : Int) (a1 : Bool) : Option (ByteArray) :=
 if inI64 a0_1 ∧ inI64 a0_3 ∧ inI64 a0_4 ∧ inI64 a0_5 ∧ inI64 a0_6 ∧ 0 ≤ a0_7 ∧ a0_7 < 12 ∧ 0 ≤ a0_8 ∧ a0_8 < 256 then some (strOf (rpieceB a0_1 a0_2 a0_3 a0_4 a0_5 a0_6 a0_7 a0_8 (!a1))) else none
theorem rwidthB_length (a3 a4 : Int) (p : Bool) (h3 : inI64 a3) (h4 : inI64 a4) : (rwidthB a3 a4 p).length ≤ 30 := by
 have := Lib.itoa_length_le a3 h3.1 h3.2
 have := starB_length a4 p h4
 unfold rwidthB
 repeat' split
 ·omega
 ·omega
 ·simp
theorem rprecB_length (a5 a6 : Int) (p : Bool) (h5 : inI64 a5) (h6 : inI64 a6) : (rprecB a5 a6 p).length ≤ 30 := by
 have := Lib.itoa_length_le a5 h5.1 h5.2
 have := starB_length a6 p h6
 unfold rprecB
 repeat' split
 ·simp only [List.length_cons]; omega
 ·simp
 ·simp only [List.length_cons]; omega
 ·simp
theorem rstar_st (n : Int) (o : Bool) (h : inI64 n) : sorobanref21_star.f n o = some (strOf (starB n (!o))) := by
 unfold sorobanref21_star.f starB strconv_Itoa.f
 cases o
 ·rw [if_neg (by decide), if_pos (show -9223372036854775808 ≤ n ∧ n ≤ 9223372036854775807 from h), Option.bind_some]
  have hl := Lib.itoa_length_le n h.1 h.2
  have hs : (⟨(Lib.itoa n).toArray⟩ : ByteArray).size = (Lib.itoa n).length := by show (Lib.itoa n).toArray.size = _; simp
  rw [hs, if_pos (by omega)]
  have e : (⟨#[42]⟩ : ByteArray) ++ (⟨(Lib.itoa n).toArray⟩ : ByteArray) = strOf (42 :: Lib.itoa n) := strOf_append [42] (Lib.itoa n)
  rw [e, strOf_size, if_pos (by simp only [List.length_cons]; omega)]
  have e2 : strOf (42 :: Lib.itoa n) ++ (⟨#[36]⟩ : ByteArray) = strOf (42 :: Lib.itoa n ++ [36]) := strOf_append _ [36]
  rw [e2]
  rfl
 ·rfl
theorem itoa_st (n : Int) (h : inI64 n) : strconv_Itoa.f n = some (strOf (Lib.itoa n)) := by
 unfold strconv_Itoa.f
 rw [if_pos (show -9223372036854775808 ≤ n ∧ n ≤ 9223372036854775807 from h)]
 rfl
theorem sign_ext (i : Nat) (h : i < 6) : (⟨#[45, 43, 32, 35, 48, 39]⟩ : ByteArray).extract i (i + 1) = strOf [mkAt i] := by
 rcases (by omega : i = 0 ∨ i = 1 ∨ i = 2 ∨ i = 3 ∨ i = 4 ∨ i = 5) with rfl | rfl | rfl | rfl | rfl | rfl <;> rfl
theorem mark_on (a : Int) (i : Nat) (h : i < 6) : (Go.bits .and .i64 a ((2 ^ i : Nat) : Int) != 0) = markOn a (mkAt i) := by
 rcases (by omega : i = 0 ∨ i = 1 ∨ i = 2 ∨ i = 3 ∨ i = 4 ∨ i = 5) with rfl | rfl | rfl | rfl | rfl | rfl <;> rfl
structure Sb (w : World) (X : Nat) (cs : Array Value) (W : World) : Prop where
 x : W.heap[X]? = some (.cells cs 35 (0, 0))
 b : Below w.heap.size w W
theorem Sb.below {w W W' : World} {X : Nat} {cs : Array Value} (h : Sb w X cs W) (hb : Below W.heap.size W W') : Sb w X cs W' := ⟨(hb.block _ (blk_lt h.x)).trans h.x, h.b.trans (hb.mono h.b.size)⟩
theorem Sb.drewN {w W : World} {X : Nat} {cs : Array Value} (h : Sb w X cs W) (n : Nat) : Sb w X cs (W.drewN n) := h.below (pw_below_drewN (Below.refl _ _) n)
theorem Sb.drew {w W : World} {X : Nat} {cs : Array Value} (h : Sb w X cs W) : Sb w X cs W.drew := h.below (below_drew (Below.refl _ _))
theorem Sb.start (w : World) (cs : Array Value) : Sb w w.heap.size cs (w.alloc (.cells cs 35)) := ⟨World.alloc_heap_new w _, below_alloc (Below.refl _ _) _⟩
theorem Sb.c {w W : World} {X : Nat} {cs : Array Value} (h : Sb w X cs W) (j : Nat) {u : Value} (hu : cs[j]? = some u) : W.cell? ⟨X, j, none⟩ = some u := (cell_of_row W X j cs 35 (0, 0) h.x).trans hu
theorem wpAnyH_imp {P : Program} {md : Region.Mode} {ops : Array Oper} {Q : Exit → Act → World → Prop} {S S' : World → Prop} (hS : ∀ w, S' w → S w) : ∀ (fuel : Nat) (listed : Array Bool) (a : Act) (w : World), wpAnyH P md ops Q S' fuel listed a w → wpAnyH P md ops Q S fuel listed a w
 | 0, _, _, _, h => h
 | fuel + 1, _, _, _, h => ⟨h.1, fun i hi => wpOp_mono (fun a' w' h' => ⟨hS w' h'.1, wpAnyH_imp hS fuel _ a' w' h'.2⟩) (h.2 i hi)⟩
theorem new_byte (W : World) (n : Int) : (W.alloc (.cells #[.int .u8 n] 5)).cell? ⟨W.heap.size, 0, none⟩ = some (.int .u8 n) := blk_cell (World.alloc_heap_new W (.cells #[.int .u8 n] 5)) 0
theorem lengthsE (w : World) : Calls Tryz.prog 83 #[] w fun e w' => ∃ ad : Addr, e = .returned (.slice (some ad) 12 12) ∧ Hid (∀ j : Nat, j < 12 → w'.cell? (ad.add j) = some (.string (modAt j))) ∧ Hid (Below w.heap.size w w') := by
 refine (lengths_calls w).mono ?_
 rintro e w' ⟨rfl, rfl⟩
 refine ⟨_, rfl, fun j hj => ?_, below_alloc (Below.refl _ _) _⟩
 have e : (⟨w.heap.size, 0, none⟩ : Addr).add j = ⟨w.heap.size, j, none⟩ := by
  unfold Addr.add
  by_cases h0 : j = 0
  ·subst h0; rfl
  ·simp [h0]
 rw [e, cell_of_row _ w.heap.size j modVals 9 (0, 0) (World.alloc_heap_new w _)]
 exact modVals_at j hj
set_option maxRecDepth 100000 in
set_option maxHeartbeats 40000000 in
theorem sorobanref21_piece.calls (k : Nat) (a0_0 : ByteArray) (a0_1 : Int) (a0_2 : Int) (a0_3 : Int) (a0_4 : Int) (a0_5 : Int) (a0_6 : Int) (a0_7 : Int) (a0_8 : Int) (a1 : Bool) (r : ByteArray) (w : World) (hLD : LD w) (h : sorobanref21_piece.f k a0_0 a0_1 a0_2 a0_3 a0_4 a0_5 a0_6 a0_7 a0_8 a1 = some r) :
  Calls Tryz.prog 50 #[.agg #[.string a0_0, .int .i64 a0_1, .int .i64 a0_2, .int .i64 a0_3, .int .i64 a0_4, .int .i64 a0_5, .int .i64 a0_6, .int .i64 a0_7, .int .u8 a0_8], .bool a1] w fun e w' => e = .returned (.string r) ∧ Below w.heap.size w w' := by
 unfold sorobanref21_piece.f at h
 by_cases c2 : inI64 a0_1 ∧ inI64 a0_3 ∧ inI64 a0_4 ∧ inI64 a0_5 ∧ inI64 a0_6 ∧ 0 ≤ a0_7 ∧ a0_7 < 12 ∧ 0 ≤ a0_8 ∧ a0_8 < 256
 ·rw [if_pos c2] at h
  obtain rfl := Option.some.inj h
  obtain ⟨i1, i3, i4, i5, i6, i70, i71, i80, i81⟩ := c2
  have h1 := headB_length a0_1 (!a1) i1
  obtain ⟨L0, hL0⟩ : ∃ L, headB a0_1 (!a1) = L := ⟨_, rfl⟩
  rw [hL0] at h1
  have HL0 := Lib.hid hL0
  have HLD := Lib.hid hLD
  have hsb := Sb.start w #[.string a0_0, .int .i64 a0_1, .int .i64 a0_2, .int .i64 a0_3, .int .i64 a0_4, .int .i64 a0_5, .int .i64 a0_6, .int .i64 a0_7, .int .u8 a0_8]
  have HSB := Lib.hid hsb
  have J1 := Lib.hid i1
  have J3 := Lib.hid i3
  have J4 := Lib.hid i4
  have J5 := Lib.hid i5
  have J6 := Lib.hid i6
  clear h hL0 hLD hsb i1 i3 i4 i5 i6
  go_enter Tryz.func50, Tryz.ntmps50
  go_upto_if 8 with fail
  have sb := HSB.out
  obtain ⟨X, hX⟩ : ∃ X, w.heap.size = X := ⟨_, rfl⟩
  rw [hX] at sb ⊢
  obtain ⟨W0, hW0⟩ : ∃ W, w.alloc (.cells #[.string a0_0, .int .i64 a0_1, .int .i64 a0_2, .int .i64 a0_3, .int .i64 a0_4, .int .i64 a0_5, .int .i64 a0_6, .int .i64 a0_7, .int .u8 a0_8] 35) = W := ⟨_, rfl⟩
  rw [hW0] at sb ⊢
  obtain ⟨cs, hcs⟩ : ∃ c, (#[.string a0_0, .int .i64 a0_1, .int .i64 a0_2, .int .i64 a0_3, .int .i64 a0_4, .int .i64 a0_5, .int .i64 a0_6, .int .i64 a0_7, .int .u8 a0_8] : Array Value) = c := ⟨_, rfl⟩
  have HCS := Lib.hid (show cs[1]? = some (.int .i64 a0_1) ∧ cs[2]? = some (.int .i64 a0_2) ∧ cs[3]? = some (.int .i64 a0_3) ∧ cs[4]? = some (.int .i64 a0_4) ∧ cs[5]? = some (.int .i64 a0_5) ∧ cs[6]? = some (.int .i64 a0_6) ∧ cs[7]? = some (.int .i64 a0_7) ∧ cs[8]? = some (.int .u8 a0_8) from by
   rw [← hcs]
   exact ⟨rfl, rfl, rfl, rfl, rfl, rfl, rfl, rfl⟩)
  rw [show Sb w X #[.string a0_0, .int .i64 a0_1, .int .i64 a0_2, .int .i64 a0_3, .int .i64 a0_4, .int .i64 a0_5, .int .i64 a0_6, .int .i64 a0_7, .int .u8 a0_8] W0 = Sb w X cs W0 from by rw [hcs]] at sb
  clear HSB hX hW0 hcs
  go_cut [5] from 9 to 14 (fun s5 wc => s5 = .string (strOf L0) ∧ Sb w X cs wc)
  case first =>
   as_aux_lemma =>
    have hc1 := sb.c 1 HCS.out.1
    cases a1
    ·have hil := Lib.itoa_length_le a0_1 J1.out.1 J1.out.2
     have hsz1 : 1 + (strOf (Lib.itoa a0_1)).size ≤ 9223372036854775807 := by rw [strOf_size]; omega
     have hsz2 : 1 + (strOf (Lib.itoa a0_1)).size + 1 ≤ 9223372036854775807 := by rw [strOf_size]; omega
     have HIT := Lib.hid (fun W hW => strconv_Itoa.calls a0_1 _ W hW (itoa_st a0_1 J1.out))
     clear hil
     go_wp2_with (go_at_call 80; refine (HIT.out _ (HLD.out.below sb.b)).mono ?_; rintro e w1 ⟨rfl, hb1⟩)
     go_meet
     case rel => exact ⟨by rw [← HL0.out, show (⟨#[37]⟩ : ByteArray) = strOf [37] from rfl, show (⟨#[36]⟩ : ByteArray) = strOf [36] from rfl, strOf_append, strOf_append]; rfl, sb.below hb1⟩
    ·go_wp2_with fail
     go_meet
     case rel => exact ⟨by rw [← HL0.out]; rfl, sb⟩
  case rest =>
   clear sb
   obtain ⟨rfl, sb⟩ := hcut
   go_wp2_with fail
   go_loopw [5, 6] (fun s5 s6 wr => ∃ i : Nat, i ≤ 6 ∧ s6 = .int .i64 i ∧ s5 = .string (strOf (L0 ++ flagMarks a0_2 i)) ∧ Sb w X cs wr) (fun _ s6 _ => 6 - (intOf s6).toNat)
   case atStart => exact ⟨0, by omega, rfl, by rw [show flagMarks a0_2 0 = [] from rfl, List.append_nil], sb⟩
   case round =>
    clear sb
    obtain ⟨i, hi, rfl, rfl, sb⟩ := hrel
    by_cases hlt : i < 6
    ·have hfl := flag_f i hlt
     obtain ⟨v, hv⟩ : ∃ v : Int, ((2 ^ i : Nat) : Int) = v := ⟨_, rfl⟩
     have hmk := mark_on a0_2 i hlt
     rw [hv] at hfl hmk
     obtain ⟨mb, hmb⟩ : ∃ b, (Go.bits .and .i64 a0_2 v != 0) = b := ⟨_, rfl⟩
     rw [hmb] at hmk
     have HMK := Lib.hid hmk.symm
     have HFL := Lib.hid (fun W => sorobanref21_Flag.calls (i : Int) v W hfl)
     have hflen := flagMarks_length a0_2 i
     have hfm : flagMarks a0_2 (i + 1) = if markOn a0_2 (mkAt i) then flagMarks a0_2 i ++ [mkAt i] else flagMarks a0_2 i := rfl
     rw [hmk.symm] at hfm
     have hc2 := sb.c 2 HCS.out.2.1
     obtain ⟨F, hF⟩ : ∃ F, flagMarks a0_2 i = F := ⟨_, rfl⟩
     rw [hF] at hflen hfm ⊢
     have HFM := Lib.hid hfm
     clear hfl hv hmk hfm hF
     go_upto_region 7 with fail
     go_region_held3 (fun w' => w'.cell? ⟨X, 2, none⟩ = some (.int .i64 a0_2)) (first | go_keep | (exact pw_cell_below (by assumption) (by assumption))) ((go_at_call 81; refine (HFL.out _).mono ?_; rintro e wF ⟨rfl, bF⟩))
     have sb2 := sb.drew.below bF
     clear sb hc2
     cases mb
     ·go_wp2
      go_roundw
      case rel => exact ⟨i + 1, by omega, by go_num, by rw [HFM.out]; rfl, sb2⟩
      case measure => simp [intOf]; omega
     ·have hsx := sign_ext i hlt
      have hsz : (strOf (L0 ++ F)).size + (strOf [mkAt i]).size ≤ 9223372036854775807 := by
       rw [strOf_size, strOf_size, List.length_append]
       simp only [List.length_cons, List.length_nil]
       omega
      have hi0 : (0 : Int) ≤ (i : Int) := Int.natCast_nonneg i
      have hi1 : (i : Int) + 1 ≤ 6 := by omega
      have hi2 : (i : Int) ≤ (i : Int) + 1 := by omega
      go_wp2
      go_roundw
      case rel => exact ⟨i + 1, by omega, by go_num, by rw [HFM.out, strOf_append, List.append_assoc]; rfl, sb2⟩
      case measure => simp [intOf]; omega
    ·obtain rfl : i = 6 := by omega
     have hflen := flagMarks_length a0_2 6
     obtain ⟨L1, hL1⟩ : ∃ L, L0 ++ flagMarks a0_2 6 = L := ⟨_, rfl⟩
     have hl1 : L1.length ≤ 36 := by rw [← hL1, List.length_append]; omega
     rw [hL1]
     have HL1 := Lib.hid hL1
     clear hL1 hflen hlt hi
     have hc4 := sb.c 4 HCS.out.2.2.2.1
     obtain ⟨nb, hnb⟩ : ∃ b, (a0_4 != 0) = b := ⟨_, rfl⟩
     go_upto_if 33 with fail
     have HNB := Lib.hid hnb
     clear hnb
     go_cut [5] from 34 to 47 (fun s5 wc => s5 = .string (strOf (L1 ++ rwidthB a0_3 a0_4 (!a1))) ∧ Sb w X cs wc)
     case first =>
      as_aux_lemma =>
       have hc3 := sb.c 3 HCS.out.2.2.1
       cases nb
       ·have h4 : a0_4 = 0 := by simpa using HNB.out
        by_cases h3 : 0 ≤ a0_3
        ·have HW := Lib.hid (show rwidthB a0_3 a0_4 (!a1) = Lib.itoa a0_3 from by unfold rwidthB; rw [if_neg (by omega), if_pos h3])
         have hil := Lib.itoa_length_le a0_3 J3.out.1 J3.out.2
         have hsz1 : (strOf L1).size + (strOf (Lib.itoa a0_3)).size ≤ 9223372036854775807 := by rw [strOf_size, strOf_size]; omega
         have HIT := Lib.hid (fun W hW => strconv_Itoa.calls a0_3 _ W hW (itoa_st a0_3 J3.out))
         clear hil h4
         go_wp2_with (go_at_call 80; refine (HIT.out _ (HLD.out.below sb.b)).mono ?_; rintro e w1 ⟨rfl, hb1⟩)
         go_meet
         case rel => exact ⟨by rw [HW.out, strOf_append], sb.below hb1⟩
        ·have HW := Lib.hid (show rwidthB a0_3 a0_4 (!a1) = [] from by unfold rwidthB; rw [if_neg (by omega), if_neg h3])
         clear h4
         go_wp2_with fail
         go_meet
         case rel => exact ⟨by rw [HW.out, List.append_nil], sb⟩
       ·have h4 : ¬ a0_4 = 0 := by simpa using HNB.out
        have HW := Lib.hid (show rwidthB a0_3 a0_4 (!a1) = starB a0_4 (!a1) from by unfold rwidthB; rw [if_pos h4])
        have hsl := starB_length a0_4 (!a1) J4.out
        have hsz1 : (strOf L1).size + (strOf (starB a0_4 (!a1))).size ≤ 9223372036854775807 := by rw [strOf_size, strOf_size]; omega
        obtain ⟨S, hS⟩ : ∃ S, starB a0_4 (!a1) = S := ⟨_, rfl⟩
        have hst := fun W hW => sorobanref21_star.calls a0_4 a1 _ W hW (rstar_st a0_4 a1 J4.out)
        rw [hS] at hsz1 hst HW
        have HST := Lib.hid hst
        clear hsl h4 hS hst
        go_wp2_with (go_at_call 82; refine (HST.out _ (HLD.out.below sb.b)).mono ?_; rintro e w1 ⟨rfl, hb1⟩)
        go_meet
        case rel => exact ⟨by rw [HW.out, strOf_append], sb.below hb1⟩
     case rest =>
      clear sb hc4 HNB
      obtain ⟨rfl, sb⟩ := hcut
      have hwl := rwidthB_length a0_3 a0_4 (!a1) J3.out J4.out
      obtain ⟨L2, hL2⟩ : ∃ L, L1 ++ rwidthB a0_3 a0_4 (!a1) = L := ⟨_, rfl⟩
      have hl2 : L2.length ≤ 66 := by rw [← hL2, List.length_append]; omega
      rw [hL2]
      have HL2 := Lib.hid hL2
      clear hL2 hwl
      have hc6 := sb.c 6 HCS.out.2.2.2.2.2.1
      obtain ⟨nb, hnb⟩ : ∃ b, (a0_6 != 0) = b := ⟨_, rfl⟩
      go_upto_if 50 with fail
      have HNB := Lib.hid hnb
      clear hnb
      go_cut [5] from 51 to 71 (fun s5 wc => s5 = .string (strOf (L2 ++ rprecB a0_5 a0_6 (!a1))) ∧ Sb w X cs wc)
      case first =>
       as_aux_lemma =>
        have hc5 := sb.c 5 HCS.out.2.2.2.2.1
        have e46 : ∀ a b : List UInt8, (strOf a ++ (⟨#[46]⟩ : ByteArray)) ++ strOf b = strOf (a ++ 46 :: b) := fun a b => by
         rw [show (⟨#[46]⟩ : ByteArray) = strOf [46] from rfl, strOf_append, strOf_append, List.append_assoc]
         rfl
        have E46 := Lib.hid e46
        clear e46
        have hsz0 : (strOf L2).size + 1 ≤ 9223372036854775807 := by rw [strOf_size]; omega
        cases nb
        ·have h6 : a0_6 = 0 := by simpa using HNB.out
         by_cases h5 : a0_5 = 0
         ·have h5b : (a0_5 == 0) = true := beq_iff_eq.2 h5
          have HW := Lib.hid (show rprecB a0_5 a0_6 (!a1) = [46] from by unfold rprecB; rw [if_neg (by omega), if_pos h5])
          clear h6 h5
          go_wp2_with fail
          go_meet
          case rel => exact ⟨by rw [HW.out, ← strOf_append]; rfl, sb⟩
         ·have h5b : (a0_5 == 0) = false := beq_eq_false_iff_ne.2 h5
          by_cases h5p : 0 < a0_5
          ·have HW := Lib.hid (show rprecB a0_5 a0_6 (!a1) = 46 :: Lib.itoa a0_5 from by unfold rprecB; rw [if_neg (by omega), if_neg h5, if_pos h5p])
           have hil := Lib.itoa_length_le a0_5 J5.out.1 J5.out.2
           have hsz1 : (strOf L2).size + 1 + (strOf (Lib.itoa a0_5)).size ≤ 9223372036854775807 := by rw [strOf_size, strOf_size]; omega
           have HIT := Lib.hid (fun W hW => strconv_Itoa.calls a0_5 _ W hW (itoa_st a0_5 J5.out))
           clear hil h6 h5
           go_wp2_with (go_at_call 80; refine (HIT.out _ (HLD.out.below sb.b)).mono ?_; rintro e w1 ⟨rfl, hb1⟩)
           go_meet
           case rel => exact ⟨by rw [HW.out, E46.out], sb.below hb1⟩
          ·have HW := Lib.hid (show rprecB a0_5 a0_6 (!a1) = [] from by unfold rprecB; rw [if_neg (by omega), if_neg h5, if_neg h5p])
           clear h6 h5
           go_wp2_with fail
           go_meet
           case rel => exact ⟨by rw [HW.out, List.append_nil], sb⟩
        ·have h6 : ¬ a0_6 = 0 := by simpa using HNB.out
         have HW := Lib.hid (show rprecB a0_5 a0_6 (!a1) = 46 :: starB a0_6 (!a1) from by unfold rprecB; rw [if_pos h6])
         have hsl := starB_length a0_6 (!a1) J6.out
         have hsz1 : (strOf L2).size + 1 + (strOf (starB a0_6 (!a1))).size ≤ 9223372036854775807 := by rw [strOf_size, strOf_size]; omega
         obtain ⟨S, hS⟩ : ∃ S, starB a0_6 (!a1) = S := ⟨_, rfl⟩
         have hst := fun W hW => sorobanref21_star.calls a0_6 a1 _ W hW (rstar_st a0_6 a1 J6.out)
         rw [hS] at hsz1 hst HW
         have HST := Lib.hid hst
         clear hsl h6 hS hst
         go_wp2_with (go_at_call 82; refine (HST.out _ (HLD.out.below sb.b)).mono ?_; rintro e w1 ⟨rfl, hb1⟩)
         go_meet
         case rel => exact ⟨by rw [HW.out, E46.out], sb.below hb1⟩
      case rest =>
       clear sb hc6 HNB
       obtain ⟨rfl, sb⟩ := hcut
       have hpl := rprecB_length a0_5 a0_6 (!a1) J5.out J6.out
       obtain ⟨L3, hL3⟩ : ∃ L, L2 ++ rprecB a0_5 a0_6 (!a1) = L := ⟨_, rfl⟩
       have hl3 : L3.length ≤ 96 := by rw [← hL3, List.length_append]; omega
       rw [hL3]
       have HL3 := Lib.hid hL3
       clear hL3 hpl
       have hc7 := sb.c 7 HCS.out.2.2.2.2.2.2.1
       have hc8 := sb.c 8 HCS.out.2.2.2.2.2.2.2
       obtain ⟨j, rfl⟩ : ∃ j : Nat, a0_7 = (j : Int) := ⟨a0_7.toNat, by omega⟩
       obtain ⟨c, rfl⟩ : ∃ c : UInt8, a0_8 = (c.toNat : Int) := ⟨a0_8.toNat.toUInt8, by
        simp only [Nat.toUInt8_eq, UInt8.toNat_ofNat']
        omega⟩
       have hj12 : j < 12 := by omega
       have hj0 : (0 : Int) ≤ (j : Int) := Int.natCast_nonneg j
       have hms : (modAt j).size ≤ 2 := by rw [modAt_size]; exact mods_len j
       have hsz1 : (strOf L3).size + (modAt j).size ≤ 9223372036854775807 := by rw [strOf_size]; omega
       have hsz2 : (strOf L3).size + (modAt j).size + (strOf [c]).size ≤ 9223372036854775807 := by rw [strOf_size, strOf_size]; simp only [List.length_cons, List.length_nil]; omega
       have hcv : ∀ (W : World) (g : Nat), W.cell? ⟨g, 0, none⟩ = some (.int .u8 (c.toNat : Int)) → (convert 71 9 (.slice (some ⟨g, 0, none⟩) 1 1)).run Tryz.prog W = .ok (.string (strOf [c])) W := fun W g hg => by
        have h1 := run_convert_bytes_arg (P := Tryz.prog) (w := W) 71 5 Tryz.underlying71 Tryz.underlying5 g 0 1 1 [(c.toNat : Int)] rfl (fun i hi => by
         obtain rfl : i = 0 := by omega
         exact hg) 9 Tryz.underlying9
        rw [h1]
        congr 2
        unfold strOfNums strOf
        simp
       go_upto_region 19 with fail
       have hz1 : (9223372036854775807 < (strOf L3).size + (modAt j).size) = False := eq_false (by omega)
       have hz2 : (9223372036854775807 < (strOf L3).size + (modAt j).size + (strOf [c]).size) = False := eq_false (by omega)
       have hj1 : (j : Int) < 12 := by omega
       refine wp_region_held_drew (S := fun w' => w'.cell? ⟨X, 7, none⟩ = some (.int .i64 (j : Int)) ∧ w'.cell? ⟨X, 8, none⟩ = some (.int .u8 (c.toNat : Int))) (by kernel_rfl) ⟨hc7, hc8⟩ (fun hH => ?_)
       refine wpAnyH_take (i := 0) (v := .string (strOf L3)) rfl (by kernel_rfl) (by kernel_rfl) (by kernel_rfl) (fun _ _ _ h => h) (Or.inl ⟨rfl, ?_⟩) (by assumption) ?_
       ·(intro w' hS; clear hS; go_simp)
       try simp only [Act.put, List.getElem_toArray, List.getElem_cons_zero, List.getElem_cons_succ, List.setIfInBounds_toArray, List.set_cons_zero, List.set_cons_succ]
       refine wpAnyH_take (i := 2) (v := .pointer (some ⟨X, 7, none⟩)) rfl (by kernel_rfl) (by kernel_rfl) (by kernel_rfl) (fun _ _ _ h => h) (Or.inl ⟨rfl, ?_⟩) (by assumption) ?_
       ·(intro w' hS; clear hS; go_simp)
       try simp only [Act.put, List.getElem_toArray, List.getElem_cons_zero, List.getElem_cons_succ, List.setIfInBounds_toArray, List.set_cons_zero, List.set_cons_succ]
       refine wpAnyH_take (i := 3) (v := .int .i64 (j : Int)) rfl (by kernel_rfl) (by kernel_rfl) (by kernel_rfl) (fun _ _ _ h => h) (Or.inl ⟨rfl, ?_⟩) (by assumption) ?_
       ·(intro w' hS; obtain ⟨s7, s8⟩ := hS; go_simp)
       try simp only [Act.put, List.getElem_toArray, List.getElem_cons_zero, List.getElem_cons_succ, List.setIfInBounds_toArray, List.set_cons_zero, List.set_cons_succ]
       refine wpAnyH_take (i := 7) (v := .pointer (some ⟨X, 8, none⟩)) rfl (by kernel_rfl) (by kernel_rfl) (by kernel_rfl) (fun _ _ _ h => h) (Or.inl ⟨rfl, ?_⟩) (by assumption) ?_
       ·(intro w' hS; clear hS; go_simp)
       try simp only [Act.put, List.getElem_toArray, List.getElem_cons_zero, List.getElem_cons_succ, List.setIfInBounds_toArray, List.set_cons_zero, List.set_cons_succ]
       refine wpAnyH_take (i := 8) (v := .int .u8 (c.toNat : Int)) rfl (by kernel_rfl) (by kernel_rfl) (by kernel_rfl) (fun _ _ _ h => h) (Or.inl ⟨rfl, ?_⟩) (by assumption) ?_
       ·(intro w' hS; obtain ⟨s7, s8⟩ := hS; go_simp)
       try simp only [Act.put, List.getElem_toArray, List.getElem_cons_zero, List.getElem_cons_succ, List.setIfInBounds_toArray, List.set_cons_zero, List.set_cons_succ]
       refine wpAnyH_ready (rs := [1, 9]) (by kernel_rfl) (by simp) ?_
       refine AllReadyH.cons rfl (fun K hK => ?_) (AllReadyH.cons rfl (fun K hK => ?_) AllReadyH.nil)
       ·go_simp
        refine (lengthsE _).mono ?_
        rintro e wF ⟨ad, rfl, hm, hb⟩
        refine hK.out _ _ ⟨pw_cell_below hb.out hc7, pw_cell_below hb.out hc8⟩ (fun hH2 => ?_)
        clear hK K
        try simp only [Act.put, List.getElem_toArray, List.getElem_cons_zero, List.getElem_cons_succ, List.setIfInBounds_toArray, List.set_cons_zero, List.set_cons_succ]
        refine wpAnyH_imp (S' := fun w' => (w'.cell? ⟨X, 7, none⟩ = some (.int .i64 (j : Int)) ∧ w'.cell? ⟨X, 8, none⟩ = some (.int .u8 (c.toNat : Int))) ∧ w'.cell? (ad.add j) = some (.string (modAt j))) (fun _ h => h.1) _ _ _ _ ?_
        have hH3 : (fun w' : World => (w'.cell? ⟨X, 7, none⟩ = some (.int .i64 (j : Int)) ∧ w'.cell? ⟨X, 8, none⟩ = some (.int .u8 (c.toNat : Int))) ∧ w'.cell? (ad.add j) = some (.string (modAt j))) wF := ⟨hH2, hm.out j hj12⟩
        refine wpAnyH_take (i := 4) (v := .pointer (some (ad.add j))) rfl (by kernel_rfl) (by kernel_rfl) (by kernel_rfl) (fun _ _ _ h => h) (Or.inl ⟨rfl, ?_⟩) (by assumption) ?_
        ·(intro w' hS; clear hS; go_simp)
        try simp only [Act.put, List.getElem_toArray, List.getElem_cons_zero, List.getElem_cons_succ, List.setIfInBounds_toArray, List.set_cons_zero, List.set_cons_succ]
        refine wpAnyH_take (i := 5) (v := .string (modAt j)) rfl (by kernel_rfl) (by kernel_rfl) (by kernel_rfl) (fun _ _ _ h => h) (Or.inl ⟨rfl, ?_⟩) (by assumption) ?_
        ·(intro w' hS; obtain ⟨_, sj⟩ := hS; go_simp)
        try simp only [Act.put, List.getElem_toArray, List.getElem_cons_zero, List.getElem_cons_succ, List.setIfInBounds_toArray, List.set_cons_zero, List.set_cons_succ]
        refine wpAnyH_take (i := 6) (v := .string (strOf L3 ++ modAt j)) rfl (by kernel_rfl) (by kernel_rfl) (by kernel_rfl) (fun _ _ _ h => h) (Or.inl ⟨rfl, ?_⟩) (by assumption) ?_
        ·(intro w' hS; clear hS; go_simp)
        try simp only [Act.put, List.getElem_toArray, List.getElem_cons_zero, List.getElem_cons_succ, List.setIfInBounds_toArray, List.set_cons_zero, List.set_cons_succ]
        refine wpAnyH_ready (rs := [9]) (by kernel_rfl) (by simp) ?_
        refine AllReadyH.cons rfl (fun K hK => ?_) AllReadyH.nil
        go_simp
        obtain ⟨H, hHq⟩ : ∃ H, wF.heap.size = H := ⟨_, rfl⟩
        have hnb := new_byte wF (c.toNat : Int)
        rw [hHq] at hnb ⊢
        obtain ⟨wG, hwG⟩ : ∃ W, wF.alloc (.cells #[.int .u8 (c.toNat : Int)] 5) = W := ⟨_, rfl⟩
        have hbG : Below wF.heap.size wF wG := by rw [← hwG]; exact below_alloc (Below.refl _ _) _
        rw [hwG] at hnb ⊢
        refine hK.out _ _ ⟨⟨pw_cell_below hbG hH3.1.1, pw_cell_below hbG hH3.1.2⟩, pw_cell_below hbG hH3.2⟩ (fun hH4 => ?_)
        have sbG := (sb.drew.below hb.out).below hbG
        clear hK K hwG hHq hH2 hH3 hH
        try simp only [Act.put, List.getElem_toArray, List.getElem_cons_zero, List.getElem_cons_succ, List.setIfInBounds_toArray, List.set_cons_zero, List.set_cons_succ]
        refine wpAnyH_imp (S' := fun w' => w'.cell? ⟨H, 0, none⟩ = some (.int .u8 (c.toNat : Int)) ∧ ((w'.cell? ⟨X, 7, none⟩ = some (.int .i64 (j : Int)) ∧ w'.cell? ⟨X, 8, none⟩ = some (.int .u8 (c.toNat : Int))) ∧ w'.cell? (ad.add j) = some (.string (modAt j)))) (fun _ h => h.2) _ _ _ _ ?_
        have hH5 : (fun w' : World => w'.cell? ⟨H, 0, none⟩ = some (.int .u8 (c.toNat : Int)) ∧ ((w'.cell? ⟨X, 7, none⟩ = some (.int .i64 (j : Int)) ∧ w'.cell? ⟨X, 8, none⟩ = some (.int .u8 (c.toNat : Int))) ∧ w'.cell? (ad.add j) = some (.string (modAt j)))) wG := ⟨hnb, hH4⟩
        refine wpAnyH_take (i := 10) (v := .string (strOf [c])) rfl (by kernel_rfl) (by kernel_rfl) (by kernel_rfl) (fun _ _ _ h => h) (Or.inl ⟨rfl, ?_⟩) (by assumption) ?_
        ·(intro w' hS; have h1 := hcv w' H (by first | exact hS | exact hS.1); go_simp)
        try simp only [Act.put, List.getElem_toArray, List.getElem_cons_zero, List.getElem_cons_succ, List.setIfInBounds_toArray, List.set_cons_zero, List.set_cons_succ]
        refine wpAnyH_take (i := 11) (v := .string (strOf L3 ++ modAt j ++ strOf [c])) rfl (by kernel_rfl) (by kernel_rfl) (by kernel_rfl) (fun _ _ _ h => h) (Or.inl ⟨rfl, ?_⟩) (by assumption) ?_
        ·(intro w' hS; clear hS; go_simp)
        try simp only [Act.put, List.getElem_toArray, List.getElem_cons_zero, List.getElem_cons_succ, List.setIfInBounds_toArray, List.set_cons_zero, List.set_cons_succ]
        refine wpAnyH_take (i := 12) (v := .string (strOf L3 ++ modAt j ++ strOf [c])) rfl (by kernel_rfl) (by kernel_rfl) (by kernel_rfl) (fun _ _ _ h => h) (Or.inl ⟨rfl, ?_⟩) (by assumption) ?_
        ·(intro w' hS; clear hS; go_simp)
        try simp only [Act.put, List.getElem_toArray, List.getElem_cons_zero, List.getElem_cons_succ, List.setIfInBounds_toArray, List.set_cons_zero, List.set_cons_succ]
        refine wpAnyH_done (by kernel_rfl) ?_ _
        go_wp2
        go_ret
        refine ⟨?_, sbG.b⟩
        unfold rpieceB
        rw [HL0.out, HL1.out, HL2.out, HL3.out, show modAt j = strOf (mods.getD j []) from rfl, strOf_append, strOf_append, Int.toNat_natCast, Int.toNat_natCast, show c.toNat.toUInt8 = c from by simp]
        rfl
       ·go_simp
        obtain ⟨H, hHq⟩ : ∃ H, wc.heap.size = H := ⟨_, rfl⟩
        have hnb : (wc.alloc (.cells #[.int .u8 (c.toNat : Int)] 5)).drew.cell? ⟨wc.heap.size, 0, none⟩ = some (.int .u8 (c.toNat : Int)) := new_byte wc (c.toNat : Int)
        rw [hHq] at hnb ⊢
        obtain ⟨wG, hwG⟩ : ∃ W, (wc.alloc (.cells #[.int .u8 (c.toNat : Int)] 5)).drew = W := ⟨_, rfl⟩
        have hbG : Below wc.heap.size wc wG := by rw [← hwG]; exact below_drew (below_alloc (Below.refl _ _) _)
        rw [hwG] at hnb ⊢
        have hg7 := pw_cell_below hbG hc7
        have hg8 := pw_cell_below hbG hc8
        refine hK.out _ _ ⟨hg7, hg8⟩ (fun hH4 => ?_)
        have sbG := sb.below hbG
        clear hK K hwG hHq hH
        try simp only [Act.put, List.getElem_toArray, List.getElem_cons_zero, List.getElem_cons_succ, List.setIfInBounds_toArray, List.set_cons_zero, List.set_cons_succ]
        refine wpAnyH_imp (S' := fun w' => w'.cell? ⟨H, 0, none⟩ = some (.int .u8 (c.toNat : Int)) ∧ w'.cell? ⟨X, 7, none⟩ = some (.int .i64 (j : Int)) ∧ w'.cell? ⟨X, 8, none⟩ = some (.int .u8 (c.toNat : Int))) (fun _ h => h.2) _ _ _ _ ?_
        have hH5 : (fun w' : World => w'.cell? ⟨H, 0, none⟩ = some (.int .u8 (c.toNat : Int)) ∧ w'.cell? ⟨X, 7, none⟩ = some (.int .i64 (j : Int)) ∧ w'.cell? ⟨X, 8, none⟩ = some (.int .u8 (c.toNat : Int))) wG := ⟨hnb, hH4⟩
        refine wpAnyH_take (i := 10) (v := .string (strOf [c])) rfl (by kernel_rfl) (by kernel_rfl) (by kernel_rfl) (fun _ _ _ h => h) (Or.inl ⟨rfl, ?_⟩) (by assumption) ?_
        ·(intro w' hS; have h1 := hcv w' H (by first | exact hS | exact hS.1); go_simp)
        try simp only [Act.put, List.getElem_toArray, List.getElem_cons_zero, List.getElem_cons_succ, List.setIfInBounds_toArray, List.set_cons_zero, List.set_cons_succ]
        refine wpAnyH_ready (rs := [1]) (by kernel_rfl) (by simp) ?_
        refine AllReadyH.cons rfl (fun K hK => ?_) AllReadyH.nil
        go_simp
        refine (lengthsE _).mono ?_
        rintro e wF ⟨ad, rfl, hm, hb⟩
        refine hK.out _ _ ⟨pw_cell_below hb.out hnb, pw_cell_below hb.out hg7, pw_cell_below hb.out hg8⟩ (fun hH6 => ?_)
        have sbF := sbG.below hb.out
        clear hK K hH5 hH4
        try simp only [Act.put, List.getElem_toArray, List.getElem_cons_zero, List.getElem_cons_succ, List.setIfInBounds_toArray, List.set_cons_zero, List.set_cons_succ]
        refine wpAnyH_imp (S' := fun w' => (w'.cell? ⟨H, 0, none⟩ = some (.int .u8 (c.toNat : Int)) ∧ w'.cell? ⟨X, 7, none⟩ = some (.int .i64 (j : Int)) ∧ w'.cell? ⟨X, 8, none⟩ = some (.int .u8 (c.toNat : Int))) ∧ w'.cell? (ad.add j) = some (.string (modAt j))) (fun _ h => h.1) _ _ _ _ ?_
        have hH7 : (fun w' : World => (w'.cell? ⟨H, 0, none⟩ = some (.int .u8 (c.toNat : Int)) ∧ w'.cell? ⟨X, 7, none⟩ = some (.int .i64 (j : Int)) ∧ w'.cell? ⟨X, 8, none⟩ = some (.int .u8 (c.toNat : Int))) ∧ w'.cell? (ad.add j) = some (.string (modAt j))) wF := ⟨hH6, hm.out j hj12⟩
        refine wpAnyH_take (i := 4) (v := .pointer (some (ad.add j))) rfl (by kernel_rfl) (by kernel_rfl) (by kernel_rfl) (fun _ _ _ h => h) (Or.inl ⟨rfl, ?_⟩) (by assumption) ?_
        ·(intro w' hS; clear hS; go_simp)
        try simp only [Act.put, List.getElem_toArray, List.getElem_cons_zero, List.getElem_cons_succ, List.setIfInBounds_toArray, List.set_cons_zero, List.set_cons_succ]
        refine wpAnyH_take (i := 5) (v := .string (modAt j)) rfl (by kernel_rfl) (by kernel_rfl) (by kernel_rfl) (fun _ _ _ h => h) (Or.inl ⟨rfl, ?_⟩) (by assumption) ?_
        ·(intro w' hS; obtain ⟨_, sj⟩ := hS; go_simp)
        try simp only [Act.put, List.getElem_toArray, List.getElem_cons_zero, List.getElem_cons_succ, List.setIfInBounds_toArray, List.set_cons_zero, List.set_cons_succ]
        refine wpAnyH_take (i := 6) (v := .string (strOf L3 ++ modAt j)) rfl (by kernel_rfl) (by kernel_rfl) (by kernel_rfl) (fun _ _ _ h => h) (Or.inl ⟨rfl, ?_⟩) (by assumption) ?_
        ·(intro w' hS; clear hS; go_simp)
        try simp only [Act.put, List.getElem_toArray, List.getElem_cons_zero, List.getElem_cons_succ, List.setIfInBounds_toArray, List.set_cons_zero, List.set_cons_succ]
        refine wpAnyH_take (i := 11) (v := .string (strOf L3 ++ modAt j ++ strOf [c])) rfl (by kernel_rfl) (by kernel_rfl) (by kernel_rfl) (fun _ _ _ h => h) (Or.inl ⟨rfl, ?_⟩) (by assumption) ?_
        ·(intro w' hS; clear hS; go_simp)
        try simp only [Act.put, List.getElem_toArray, List.getElem_cons_zero, List.getElem_cons_succ, List.setIfInBounds_toArray, List.set_cons_zero, List.set_cons_succ]
        refine wpAnyH_take (i := 12) (v := .string (strOf L3 ++ modAt j ++ strOf [c])) rfl (by kernel_rfl) (by kernel_rfl) (by kernel_rfl) (fun _ _ _ h => h) (Or.inl ⟨rfl, ?_⟩) (by assumption) ?_
        ·(intro w' hS; clear hS; go_simp)
        try simp only [Act.put, List.getElem_toArray, List.getElem_cons_zero, List.getElem_cons_succ, List.setIfInBounds_toArray, List.set_cons_zero, List.set_cons_succ]
        refine wpAnyH_done (by kernel_rfl) ?_ _
        go_wp2
        go_ret
        refine ⟨?_, sbF.b⟩
        unfold rpieceB
        rw [HL0.out, HL1.out, HL2.out, HL3.out, show modAt j = strOf (mods.getD j []) from rfl, strOf_append, strOf_append, Int.toNat_natCast, Int.toNat_natCast, show c.toNat.toUInt8 = c from by simp]
        rfl
 ·rw [if_neg c2] at h
  cases h
end Go.Proofs.YtnhbgahfmcicnaaGreatDoor.PA
end
