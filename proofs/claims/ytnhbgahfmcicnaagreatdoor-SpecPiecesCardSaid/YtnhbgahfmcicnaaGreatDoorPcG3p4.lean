/- A part of the proof of the claim's statement. -/
import Derived.Test.YtnhbgahfmcicnaaGreatDoorPcPAx4
import Derived.Test.YtnhbgahfmcicnaaGreatDoorPcPAx5
import Derived.Test.YtnhbgahfmcicnaaGreatDoorPcG3p3
section
namespace Go.Proofs.YtnhbgahfmcicnaaGreatDoor.PA
set_option linter.unusedVariables false
set_option linter.unusedSimpArgs false
open Go.RowKit Go.Shelf Go.Proofs.YtnhbgahfmcicnaaGreatDoorW.PrintWords Go.Proofs.YtnhbgahfmcicnaaGreatDoorW.PrintLast Go.Proofs.YtnhbgahfmcicnaaGreatDoorW.PrintMore
theorem allowsS {s : ByteArray} {n : Int} {al : Bool} (h : allowsC s n = al) (a : Int) (b c : Bool) (w : World) : Calls Tryz.prog 76 #[.agg #[.int .i64 a, .string s, .bool b, .bool c], .int .i64 n] w fun e w' => e = .returned (.bool al) ∧ Below w.heap.size w w' :=
 spec_rule_allows.calls a s b c n al w (by rw [allows_st, h])
set_option maxRecDepth 100000 in
set_option maxHeartbeats 40000000 in
theorem conv_calls {w0 w : World} {g : Nat} {v : SlV} {fmt : ByteArray} {l : List UInt8} {b nx pl : Int} {lg : Bool} (hI : isT w0 w g (st fmt l b nx pl lg) v) (hB : Below w0.heap.size w0 w) (hs : Suf fmt l) :
  Calls Tryz.prog 56 #[.pointer (some ⟨g, 0, none⟩)] w (ConvPost w0 w g v fmt b (convC pl nx l)) := by
 obtain ⟨⟨own, l1⟩, hpl⟩ : ∃ x, placeC l = x := ⟨_, rfl⟩
 obtain ⟨⟨fl, l2⟩, hfl⟩ : ∃ x, flagsC 0 l1 = x := ⟨_, rfl⟩
 have hcv : convC pl nx l = (widthC l2).bind fun wd => (precC wd.2).bind fun pr => convE own fl wd.1 pr.1 (lenC pr.2).1 (hdI (lenC pr.2).2) pl nx (lenC pr.2).2.tail := by
  unfold convC
  simp only [hpl, hfl]
 rw [hcv]
 have s1 : Suf fmt l1 := hs.of (by have := placeC_suf l; rwa [hpl] at this)
 have s2 : Suf fmt l2 := s1.of (by have := flagsC_suf l1 0; rwa [hfl] at this)
 have HPL := Lib.hid hpl
 have HFL := Lib.hid hfl
 have hi0 : isT w0 ((w.setCell ⟨g, 5, none⟩ (.bool false)).alloc (.cells (cells35 z35) 35)) g (st fmt l b nx pl false) v := IsS59.alloc (IsS59.set_5 hI false) _
 have hb0 : Below w0.heap.size w0 ((w.setCell ⟨g, 5, none⟩ (.bool false)).alloc (.cells (cells35 z35) 35)) := below_alloc (below_set hB (IsS59.ge hI)) _
 have hglt := IsS59.lt hI
 have HI := Lib.hid hi0
 have HB := Lib.hid hb0
 have HIW := Lib.hid hI
 have HBW := Lib.hid hB
 obtain ⟨A6, c6, HG, hg, HS⟩ := IsS59.alloc hI (.cells (cells35 z35) 35)
 have hz5 := cellS59_5 HG
 have hf5 := blk_frozen HG 5
 unfold cells35 z35 at HI HB hz5 hf5
 dsimp only at HI HB hz5 hf5
 clear hpl hfl hcv hi0 hb0 HG HS hI hB
 go_enter Tryz.func56, Tryz.ntmps56
 go_upto_region 6 with (first
  | (go_at_call 88; refine (placeS HI.out HB.out hs HPL.out).mono ?_; rintro e w1 ⟨rfl, i1, b1, k1⟩)
  | (go_at_call 89; refine (flagsS i1 b1 s1 HFL.out).mono ?_; rintro e w2 ⟨rfl, i2, b2, k2⟩)
  | (go_at_call 55; refine (peekS (IsS59.alloc (IsS59.alloc (IsS59.alloc i2 _) _) _) (below_alloc (below_alloc (below_alloc b2 _) _) _) s2).mono ?_; rintro e w3 ⟨rfl, i3, b3, k3⟩))
 have cv : Cv w0 w g w2.heap.size (w2.heap.size + 1) (w2.heap.size + 1 + 1) w.heap.size v (st fmt l2 b nx pl false) ⟨⟨#[]⟩, 0, fl, -1, 0, -1, 0, 0, 0⟩ noFld noFld w3 :=
  (Cv.start HIW.out HBW.out (k1.trans k2 (.inl rfl)) hglt i2 b2 _ _ _ rfl rfl rfl).call i3 b3 k3
 clear k1 k2 k3 i1 i2 i3 b1 b2 b3 hz5 hf5 HI HB HIW HBW
 go_cut [3, 4, 5, 6, 27] from 10 (fun s3 s4 s5 s6 s27 wc => ∃ X D P wb, s3 = .int .i64 own ∧ s4 = .pointer (some ⟨X, 0, none⟩) ∧ s5 = .pointer (some ⟨D, 0, none⟩) ∧ s6 = .pointer (some ⟨P, 0, none⟩) ∧ s27 = .bool wb ∧ widB l2 = wb ∧ Cv w0 w g X D P w.heap.size v (st fmt l2 b nx pl false) ⟨⟨#[]⟩, 0, fl, -1, 0, -1, 0, 0, 0⟩ noFld noFld wc)
 case first =>
  as_aux_lemma =>
   by_cases c42 : hdI l2 = 42
   ·have e42 : (hdI l2 == 42) = true := beq_iff_eq.2 c42
    have hwb : widB l2 = true := by unfold widB; rw [decide_eq_true c42]; rfl
    have HWB := Lib.hid hwb
    clear hwb c42
    go_wp2_with fail
    go_meet
    case rel => exact ⟨_, _, _, _, rfl, rfl, rfl, rfl, rfl, HWB.out, cv⟩
   ·have e42 : (hdI l2 == 42) = false := beq_eq_false_iff_ne.2 c42
    have hwb : widB l2 = isDig (hdI l2) := by unfold widB; rw [decide_eq_false c42]; rfl
    have HWB := Lib.hid hwb
    clear hwb c42
    go_wp2_with (go_at_call 90; refine (spec_isDigit.calls (hdI l2) (isDig (hdI l2)) _ (isDigit_st _)).mono ?_; rintro e w4 ⟨rfl, ⟨nd, rfl⟩⟩)
    go_meet
    case rel => exact ⟨_, _, _, _, rfl, rfl, rfl, rfl, rfl, HWB.out, cv.below (pw_below_drewN (Below.refl _ _) nd)⟩
 case rest =>
  clear cv
  obtain ⟨X, D, P, wb, rfl, rfl, rfl, rfl, rfl, hwb, cv⟩ := hcut
  have HWB := Lib.hid hwb
  clear hwb
  go_upto_if 27 with fail
  go_cut [27] from 10 (fun s27 wc => ∃ wd l3, widthC l2 = some (wd, l3) ∧ Cv w0 w g X D P w.heap.size v (st fmt l3 b nx pl (decide (10000 < wd.1))) ⟨⟨#[]⟩, 0, fl, -1, 0, -1, 0, 0, 0⟩ wd noFld wc)
  case first =>
   as_aux_lemma =>
    cases wb
    ·have HW := Lib.hid (show widthC l2 = some (noFld, l2) from if_neg (by rw [HWB.out]; decide))
     go_wp2_with fail
     go_meet
     case rel => exact ⟨noFld, l2, HW.out, cv⟩
    ·have hwc : widthC l2 = fieldC l2 := if_pos HWB.out
     cases hf : fieldC l2 with
     | none =>
      have HN := Lib.hid (show widthC l2 = none from hwc.trans hf)
      have HF := Lib.hid hf
      clear hwc hf
      go_wp2_with (go_at_call 91; refine (fieldS_no cv.is cv.b s2 HF.out).mono ?_; rintro e w4 ⟨rfl, b4⟩)
      exact ⟨rfl, ConvPost.no (by rw [HN.out]; rfl) b4⟩
     | some r =>
      obtain ⟨wd, l3⟩ := r
      have HN := Lib.hid (show widthC l2 = some (wd, l3) from hwc.trans hf)
      have HF := Lib.hid hf
      clear hwc hf
      go_wp2_with (go_at_call 91; refine (fieldS_yes cv.is cv.b s2 HF.out).mono ?_; rintro e w4 ⟨rfl, i4, b4, k4⟩; have cv4 := cv.call i4 b4 k4; have hd0 := cv4.d0; have hd1 := cv4.d1; have hd2 := cv4.d2; have fd0 := cv4.fd 0; have fd1 := cv4.fd 1; have fd2 := cv4.fd 2)
      go_meet
      case rel => exact ⟨wd, l3, HN.out, cv4.setD wd⟩
  case rest =>
   clear cv
   obtain ⟨wd, l3, hw1, cv⟩ := hcut
   have HW := Lib.hid hw1
   have s3 : Suf fmt l3 := s2.of (widthC_suf hw1)
   clear hw1
   go_upto_region 8 with fail
   go_cut [31] from 10 (fun s31 wc => ∃ db l4, s31 = .bool db ∧ (if db then skipC 46 l3 = some l4 else skipC 46 l3 = none ∧ l4 = l3) ∧ Cv w0 w g X D P w.heap.size v (st fmt l4 b nx pl (decide (10000 < wd.1))) ⟨⟨#[]⟩, 0, fl, -1, 0, -1, 0, 0, 0⟩ wd noFld wc)
   case first =>
    as_aux_lemma =>
     cases hk : skipC 46 l3 with
     | none =>
      have HK := Lib.hid hk
      clear hk
      go_wp2_with (go_at_call 53; refine (skipS_no 46 (by decide) cv.is cv.b s3 HK.out).mono ?_; rintro e w4 ⟨rfl, i4, b4, k4⟩)
      go_meet
      case rel => exact ⟨false, l3, rfl, ⟨HK.out, rfl⟩, cv.call i4 b4 k4⟩
     | some l4 =>
      have HK := Lib.hid hk
      clear hk
      go_wp2_with (go_at_call 53; refine (skipS_yes 46 (by decide) cv.is cv.b s3 HK.out).mono ?_; rintro e w4 ⟨rfl, i4, b4, k4⟩)
      go_meet
      case rel => exact ⟨true, l4, rfl, HK.out, cv.call i4 b4 k4⟩
   case rest =>
    clear cv
    obtain ⟨db, l4, rfl, hdb, cv⟩ := hcut
    have HDB := Lib.hid hdb
    clear hdb
    go_upto_if 31 with fail
    go_cut [31] from 10 (fun s31 wc => ∃ pr l5, precC l3 = some (pr, l5) ∧ Cv w0 w g X D P w.heap.size v (st fmt l5 b nx pl (decide (10000 < wd.1) || decide (10000 < pr.1))) ⟨⟨#[]⟩, 0, fl, -1, 0, -1, 0, 0, 0⟩ wd pr wc)
    case first =>
     as_aux_lemma =>
      cases db
      ·have hk := HDB.out
       obtain ⟨hk, rfl⟩ := hk
       have HP := Lib.hid (show precC l4 = some (noFld, l4) from by unfold precC; rw [hk])
       have e : (decide (10000 < wd.1) || decide (10000 < noFld.1)) = decide (10000 < wd.1) := Bool.or_false _
       have E := Lib.hid e
       clear hk HDB e
       go_wp2_with fail
       go_meet
       case rel => exact ⟨noFld, l4, HP.out, by rw [E.out]; exact cv⟩
      ·have hk : skipC 46 l3 = some l4 := HDB.out
       have s4 : Suf fmt l4 := s3.of (skipC_suf hk)
       have hpc : precC l3 = fieldC l4 := by unfold precC; rw [hk]
       cases hf : fieldC l4 with
       | none =>
        have HN := Lib.hid (show precC l3 = none from hpc.trans hf)
        have HF := Lib.hid hf
        clear hpc hf hk HDB
        go_wp2_with (go_at_call 91; refine (fieldS_no cv.is cv.b s4 HF.out).mono ?_; rintro e w4 ⟨rfl, b4⟩)
        exact ⟨rfl, ConvPost.no (by rw [HW.out, Option.bind_some]; dsimp only; rw [HN.out]; rfl) b4⟩
       | some r =>
        obtain ⟨pr, l5⟩ := r
        have HN := Lib.hid (show precC l3 = some (pr, l5) from hpc.trans hf)
        have HF := Lib.hid hf
        clear hpc hf hk HDB
        go_wp2_with (go_at_call 91; refine (fieldS_yes cv.is cv.b s4 HF.out).mono ?_; rintro e w4 ⟨rfl, i4, b4, k4⟩; have cv4 := cv.call i4 b4 k4; have hd0 := cv4.p0; have hd1 := cv4.p1; have hd2 := cv4.p2; have fd0 := cv4.fp 0; have fd1 := cv4.fp 1; have fd2 := cv4.fp 2)
        go_meet
        case rel => exact ⟨pr, l5, HN.out, cv4.setP pr⟩
    case rest =>
     clear cv HDB
     obtain ⟨pr, l5, hp1, cv⟩ := hcut
     have HP := Lib.hid hp1
     have s5 : Suf fmt l5 := s3.of (precC_suf hp1)
     obtain ⟨⟨ln, l6⟩, hln⟩ : ∃ x, lenC l5 = x := ⟨_, rfl⟩
     have s6 : Suf fmt l6 := s5.of (by have := lenC_suf l5; rwa [hln] at this)
     have HL := Lib.hid hln
     have HE := Lib.hid (show ((widthC l2).bind fun wd => (precC wd.2).bind fun pr => convE own fl wd.1 pr.1 (lenC pr.2).1 (hdI (lenC pr.2).2) pl nx (lenC pr.2).2.tail) = convE own fl wd pr ln (hdI l6) pl nx l6.tail from by
      rw [HW.out, Option.bind_some]
      dsimp only
      rw [hp1, Option.bind_some]
      dsimp only
      rw [hln])
     clear hp1 hln HW HP
     obtain ⟨ru, hru⟩ : ∃ x, ruleC (hdI l6) = x := ⟨_, rfl⟩
     have hrf : spec_ruleOf.f 5 (hdI l6) = some (ru.fl, ru.ln, ru.wd, ru.pr, ru.ok) := by rw [← hru]; exact ruleOf_st _
     have HRU := Lib.hid hru
     have HRF := Lib.hid hrf
     clear hru hrf
     go_upto_region 13 with (first
      | (go_at_call 92; refine (lengthS cv.is cv.b s5 HL.out).mono ?_; rintro e w4 ⟨rfl, i4, b4, k4⟩; have cv4 := cv.call i4 b4 k4; have hx7 := cv4.x7; have fx7 := cv4.fx 7; have cv5 := cv4.setX 7 (.int .i64 ln) ⟨⟨#[]⟩, 0, fl, -1, 0, -1, 0, ln, 0⟩ rfl)
      | (go_at_call 55; refine (peekS cv5.is cv5.b s6).mono ?_; rintro e w5 ⟨rfl, i5, b5, k5⟩; have cv6 := cv5.call i5 b5 k5; have hx8 := cv6.x8; have fx8 := cv6.fx 8; have cv7 := cv6.setX 8 (.int .u8 (hdI l6)) ⟨⟨#[]⟩, 0, fl, -1, 0, -1, 0, ln, hdI l6⟩ rfl)
      | (go_at_call 46; refine (spec_ruleOf.calls 5 (hdI l6) _ _ _ _ _ _ HRF.out).mono ?_; rintro e w6 ⟨rfl, b6⟩; have cv8 := cv7.below b6))
     have cr : Cr w0 w g X D P w.heap.size w6.heap.size v (st fmt l6 b nx pl (decide (10000 < wd.1) || decide (10000 < pr.1))) ⟨⟨#[]⟩, 0, fl, -1, 0, -1, 0, ln, hdI l6⟩ wd pr ru (w6.alloc (.cells #[.int .i64 ru.fl, .string ru.ln, .bool ru.wd, .bool ru.pr] 85)) := ⟨cv8.alloc _, World.alloc_heap_new w6 _⟩
     clear cv cv4 cv5 cv6 cv7 cv8 i4 i5 b4 b5 b6 k4 k5 hx7 hx8 fx7 fx8 HRF HL
     cases hok : ru.ok
     ·have HN := Lib.hid (show convE own fl wd pr ln (hdI l6) pl nx l6.tail = none from by unfold convE; rw [HRU.out, hok]; exact if_neg (by decide))
      clear hok
      go_wp2_with (go_at_call 93; refine (needS_no cr.c.is).mono ?_; rintro e w7 ⟨rfl, rfl⟩)
      exact ⟨rfl, ConvPost.no (by rw [HE.out, HN.out]) cr.c.b⟩
     ·obtain ⟨c, l7, rfl⟩ : ∃ c l7, l6 = c :: l7 := by
       cases l6 with
       | nil =>
        exfalso
        have e : ruleC (hdI []) = ruleC 0 := rfl
        rw [← HRU.out, e] at hok
        exact absurd hok (by decide)
       | cons c l7 => exact ⟨c, l7, rfl⟩
      have HOK := Lib.hid hok
      clear hok
      have s7 := s6.tail
      obtain ⟨q, hq⟩ : ∃ q, fmt.size - (c :: l7).length = q := ⟨_, rfl⟩
      have hqb : (q : Int) ≤ 2000 := by have := s6.z; omega
      have hq0 : (0 : Int) ≤ (q : Int) := Int.natCast_nonneg q
      have hg0 := cr.c.g0q hq
      have fg0 := cr.c.fg 0
      have HQ := Lib.hid hq
      obtain ⟨pb, hpb⟩ : ∃ x, decide (0 < own) = x := ⟨_, rfl⟩
      have HPB := Lib.hid hpb
      obtain ⟨mo, hmo⟩ : ∃ x, modeOf pb = x := ⟨_, rfl⟩
      have HMO := Lib.hid hmo
      clear hq hmo
      by_cases hmode : pl = 0 ∨ pl = mo
      rotate_left
      ·have HN := Lib.hid (show convE own fl wd pr ln (hdI (c :: l7)) pl nx (c :: l7).tail = none from by
        unfold convE
        rw [HRU.out, if_pos HOK.out, HPB.out, HMO.out]
        exact if_neg hmode)
       have HM := Lib.hid hmode
       clear hmode
       go_wp2_with (first
        | (go_at_call 93; refine (need_yes g _).mono ?_; rintro e w7 ⟨rfl, rfl⟩)
        | (go_at_call 94; refine (modeS_no pb (cr.step s6 HQ.out).c.is (cr.step s6 HQ.out).c.b (by rw [HMO.out]; exact HM.out)).mono ?_; rintro e w8 ⟨rfl, b8⟩))
       exact ⟨rfl, ConvPost.no (by rw [HE.out, HN.out]) b8⟩
      have HM := Lib.hid hmode
      clear hmode
      go_upto_region 16 with (first
       | (go_at_call 93; refine (need_yes g _).mono ?_; rintro e w7 ⟨rfl, rfl⟩)
       | (go_at_call 94; refine (modeS_yes pb (cr.step s6 HQ.out).c.is (cr.step s6 HQ.out).c.b (by rw [HMO.out]; exact HM.out)).mono ?_; rintro e w8 ⟨rfl, i8, b8, k8⟩))
      have cr8 := (cr.step s6 HQ.out).call i8 b8 k8
      rw [HMO.out] at cr8
      obtain ⟨T, hT⟩ : ∃ T, w6.heap.size = T := ⟨_, rfl⟩
      rw [hT] at cr8 ⊢
      clear cr i8 b8 k8 hg0 fg0 hT HQ hqb hq0
      go_cut [9] from 10 (fun s9 wc => agrees wd own = true ∧ Cr w0 w g X D P w.heap.size T v (st fmt l7 b nx mo (decide (10000 < wd.1) || decide (10000 < pr.1))) ⟨⟨#[]⟩, 0, fl, -1, 0, -1, 0, ln, hdI (c :: l7)⟩ wd pr ru wc)
      case first =>
       as_aux_lemma =>
        have hd1 := cr8.c.d1
        have hd2 := cr8.c.d2
        cases hsb : wd.2.1
        ·rw [hsb] at hd1
         have HA := Lib.hid (show agrees wd own = true from by unfold agrees; rw [hsb]; rfl)
         clear hsb
         go_wp2_with (go_at_call 93; refine (need_yes g _).mono ?_; rintro e w9 ⟨rfl, rfl⟩)
         go_meet
         case rel => exact ⟨HA.out, cr8⟩
        ·rw [hsb] at hd1
         obtain ⟨pp, hpp⟩ : ∃ x, decide (0 < wd.2.2) = x := ⟨_, rfl⟩
         have HA := Lib.hid (show agrees wd own = (pp == pb) from by unfold agrees; rw [hsb, hpp, HPB.out]; rfl)
         clear hsb
         cases pp <;> cases pb
         ·go_wp2_with (go_at_call 93; refine (need_yes g _).mono ?_; rintro e w9 ⟨rfl, rfl⟩)
          go_meet
          case rel => exact ⟨HA.out, cr8⟩
         ·have HN := Lib.hid (show convE own fl wd pr ln (hdI (c :: l7)) pl nx (c :: l7).tail = none from convE_dis (fun h => absurd (HA.out.symm.trans h.1) (by decide)))
          go_wp2_with (go_at_call 93; refine (needS_no cr8.c.is).mono ?_; rintro e w9 ⟨rfl, rfl⟩)
          exact ⟨rfl, ConvPost.no (by rw [HE.out, HN.out]) cr8.c.b⟩
         ·have HN := Lib.hid (show convE own fl wd pr ln (hdI (c :: l7)) pl nx (c :: l7).tail = none from convE_dis (fun h => absurd (HA.out.symm.trans h.1) (by decide)))
          go_wp2_with (go_at_call 93; refine (needS_no cr8.c.is).mono ?_; rintro e w9 ⟨rfl, rfl⟩)
          exact ⟨rfl, ConvPost.no (by rw [HE.out, HN.out]) cr8.c.b⟩
         ·go_wp2_with (go_at_call 93; refine (need_yes g _).mono ?_; rintro e w9 ⟨rfl, rfl⟩)
          go_meet
          case rel => exact ⟨HA.out, cr8⟩
      case rest =>
       clear cr8
       obtain ⟨ha1, cr9⟩ := hcut
       have HA1 := Lib.hid ha1
       clear ha1
       go_upto_region 17 with fail
       go_cut [9] from 10 (fun s9 wc => agrees pr own = true ∧ Cr w0 w g X D P w.heap.size T v (st fmt l7 b nx mo (decide (10000 < wd.1) || decide (10000 < pr.1))) ⟨⟨#[]⟩, 0, fl, -1, 0, -1, 0, ln, hdI (c :: l7)⟩ wd pr ru wc)
       case first =>
        as_aux_lemma =>
         have hd1 := cr9.c.p1
         have hd2 := cr9.c.p2
         cases hsb : pr.2.1
         ·rw [hsb] at hd1
          have HA := Lib.hid (show agrees pr own = true from by unfold agrees; rw [hsb]; rfl)
          clear hsb
          go_wp2_with (go_at_call 93; refine (need_yes g _).mono ?_; rintro e w9 ⟨rfl, rfl⟩)
          go_meet
          case rel => exact ⟨HA.out, cr9⟩
         ·rw [hsb] at hd1
          obtain ⟨pp, hpp⟩ : ∃ x, decide (0 < pr.2.2) = x := ⟨_, rfl⟩
          have HA := Lib.hid (show agrees pr own = (pp == pb) from by unfold agrees; rw [hsb, hpp, HPB.out]; rfl)
          clear hsb
          cases pp <;> cases pb
          ·go_wp2_with (go_at_call 93; refine (need_yes g _).mono ?_; rintro e w9 ⟨rfl, rfl⟩)
           go_meet
           case rel => exact ⟨HA.out, cr9⟩
          ·have HN := Lib.hid (show convE own fl wd pr ln (hdI (c :: l7)) pl nx (c :: l7).tail = none from convE_dis (fun h => absurd (HA.out.symm.trans h.2) (by decide)))
           go_wp2_with (go_at_call 93; refine (needS_no cr9.c.is).mono ?_; rintro e w9 ⟨rfl, rfl⟩)
           exact ⟨rfl, ConvPost.no (by rw [HE.out, HN.out]) cr9.c.b⟩
          ·have HN := Lib.hid (show convE own fl wd pr ln (hdI (c :: l7)) pl nx (c :: l7).tail = none from convE_dis (fun h => absurd (HA.out.symm.trans h.2) (by decide)))
           go_wp2_with (go_at_call 93; refine (needS_no cr9.c.is).mono ?_; rintro e w9 ⟨rfl, rfl⟩)
           exact ⟨rfl, ConvPost.no (by rw [HE.out, HN.out]) cr9.c.b⟩
          ·go_wp2_with (go_at_call 93; refine (need_yes g _).mono ?_; rintro e w9 ⟨rfl, rfl⟩)
           go_meet
           case rel => exact ⟨HA.out, cr9⟩
       case rest =>
        clear cr9
        obtain ⟨ha2, cr10⟩ := hcut
        have HA2 := Lib.hid ha2
        clear ha2
        have hs1 := cr10.c.d1
        go_upto_if 89 with fail
        go_cut [9] from 10 (fun s9 wc => ∃ wa nx1, starArg mo nx wd = (wa, nx1) ∧ Cr w0 w g X D P w.heap.size T v (st fmt l7 b nx1 mo ((decide (10000 < wd.1) || decide (10000 < pr.1)) || (wd.2.1 && decide (64 < wa)))) ⟨⟨#[]⟩, 0, fl, -1, wa, -1, 0, ln, hdI (c :: l7)⟩ wd pr ru wc)
        case first =>
         as_aux_lemma =>
          have hs2 := cr10.c.d2
          cases hsb : wd.2.1
          ·have HA := Lib.hid (show starArg mo nx wd = (0, nx) from by unfold starArg; rw [hsb]; rfl)
           have HS := Lib.hid hsb
           clear hsb
           go_wp2_with fail
           go_meet
           case rel => exact ⟨0, nx, HA.out, by rw [HS.out, Bool.false_and, Bool.or_false]; exact cr10⟩
          ·obtain ⟨⟨wa, nx1⟩, har⟩ : ∃ y, argC mo nx wd.2.2 = y := ⟨_, rfl⟩
           have HA := Lib.hid (show starArg mo nx wd = (wa, nx1) from by unfold starArg; rw [hsb]; exact har)
           have HR := Lib.hid har
           have HS := Lib.hid hsb
           clear hsb har hs1
           go_wp2_with (go_at_call 95; refine (argumentS cr10.c.is cr10.c.b _ HR.out).mono ?_; rintro e w11 ⟨rfl, i11, b11, k11⟩; have crB := cr10.call i11 b11 k11; have hxx := crB.c.x4; have fxx := crB.c.fx 4)
           go_meet
           case rel => exact ⟨wa, nx1, HA.out, by rw [HS.out, Bool.true_and]; exact crB.setX 4 _ _ rfl⟩
        case rest =>
         clear cr10 hs1
         obtain ⟨wa, nx1, hwa, cr11⟩ := hcut
         have HWA := Lib.hid hwa
         clear hwa
         have hs1 := cr11.c.p1
         go_upto_if 96 with fail
         go_cut [9] from 10 (fun s9 wc => ∃ pa nx2, starArg mo nx1 pr = (pa, nx2) ∧ Cr w0 w g X D P w.heap.size T v (st fmt l7 b nx2 mo (((decide (10000 < wd.1) || decide (10000 < pr.1)) || (wd.2.1 && decide (64 < wa))) || (pr.2.1 && decide (64 < pa)))) ⟨⟨#[]⟩, 0, fl, -1, wa, -1, pa, ln, hdI (c :: l7)⟩ wd pr ru wc)
         case first =>
          as_aux_lemma =>
           have hs2 := cr11.c.p2
           cases hsb : pr.2.1
           ·have HA := Lib.hid (show starArg mo nx1 pr = (0, nx1) from by unfold starArg; rw [hsb]; rfl)
            have HS := Lib.hid hsb
            clear hsb
            go_wp2_with fail
            go_meet
            case rel => exact ⟨0, nx1, HA.out, by rw [HS.out, Bool.false_and, Bool.or_false]; exact cr11⟩
           ·obtain ⟨⟨pa, nx2⟩, har⟩ : ∃ y, argC mo nx1 pr.2.2 = y := ⟨_, rfl⟩
            have HA := Lib.hid (show starArg mo nx1 pr = (pa, nx2) from by unfold starArg; rw [hsb]; exact har)
            have HR := Lib.hid har
            have HS := Lib.hid hsb
            clear hsb har hs1
            go_wp2_with (go_at_call 95; refine (argumentS cr11.c.is cr11.c.b _ HR.out).mono ?_; rintro e w11 ⟨rfl, i11, b11, k11⟩; have crB := cr11.call i11 b11 k11; have hxx := crB.c.x6; have fxx := crB.c.fx 6)
            go_meet
            case rel => exact ⟨pa, nx2, HA.out, by rw [HS.out, Bool.true_and]; exact crB.setX 6 _ _ rfl⟩
         case rest =>
          clear cr11 hs1
          obtain ⟨pa, nx2, hpa, cr12⟩ := hcut
          have HPA := Lib.hid hpa
          clear hpa
          obtain ⟨⟨ar, nx3⟩, har⟩ : ∃ y, argC mo nx2 own = y := ⟨_, rfl⟩
          have HAR := Lib.hid har
          clear har
          go_upto_region 23 with (go_at_call 95; refine (argumentS cr12.c.is cr12.c.b _ HAR.out).mono ?_; rintro e w11 ⟨rfl, i11, b11, k11⟩; have crB := cr12.call i11 b11 k11; have hxx := crB.c.x1; have fxx := crB.c.fx 1)
          have cr13 := crB.setX 1 (.int .i64 ar) ⟨⟨#[]⟩, ar, fl, -1, wa, -1, pa, ln, hdI (c :: l7)⟩ rfl
          clear cr12 crB i11 b11 k11 hxx fxx
          obtain ⟨w12, hw12⟩ : ∃ x, w11.setCell ⟨X, 1, none⟩ (.int .i64 ar) = x := ⟨_, rfl⟩
          rw [hw12] at cr13 ⊢
          clear hw12
          go_cut [9] from 10 (fun s9 wc => Cr w0 w g X D P w.heap.size T v (st fmt l7 b nx3 mo ((((decide (10000 < wd.1) || decide (10000 < pr.1)) || (wd.2.1 && decide (64 < wa))) || (pr.2.1 && decide (64 < pa))) || decide (64 < ar))) ⟨⟨#[]⟩, ar, fl, wd.1, wa, pr.1, pa, ln, hdI (c :: l7)⟩ wd pr ru wc)
          case first =>
           as_aux_lemma =>
            have hd0 := cr13.c.d0
            have hp0 := cr13.c.p0
            have hx3 := cr13.c.x3
            have fx3 := cr13.c.fx 3
            have hx5 := cr13.c.x5
            have fx5 := cr13.c.fx 5
            go_region
            all_goals
             go_wp2_with fail
             go_meet
             case rel =>
              first
               | exact ((cr13.setX 3 (.int .i64 wd.1) ⟨⟨#[]⟩, ar, fl, wd.1, wa, -1, pa, ln, hdI (c :: l7)⟩ rfl).setX 5 (.int .i64 pr.1) ⟨⟨#[]⟩, ar, fl, wd.1, wa, pr.1, pa, ln, hdI (c :: l7)⟩ rfl).drew
               | exact ((cr13.setX 5 (.int .i64 pr.1) ⟨⟨#[]⟩, ar, fl, -1, wa, pr.1, pa, ln, hdI (c :: l7)⟩ rfl).setX 3 (.int .i64 wd.1) ⟨⟨#[]⟩, ar, fl, wd.1, wa, pr.1, pa, ln, hdI (c :: l7)⟩ rfl).drew
          case rest =>
           clear cr13
           have cr14 := hcut
           clear hcut
           obtain ⟨al, hal⟩ : ∃ x, allowsC ru.ln ln = x := ⟨_, rfl⟩
           have HAL := Lib.hid hal
           clear hal
           have HNO := Lib.hid (show okC ru fl ln wd pr = false → (((widthC l2).bind fun wd => (precC wd.2).bind fun pr => convE own fl wd.1 pr.1 (lenC pr.2).1 (hdI (lenC pr.2).2) pl nx (lenC pr.2).2.tail) = none) from fun h => by rw [HE.out]; exact convE_bad (by rw [HRU.out]; exact h))
           go_upto_region 24 with fail
           go_cut [9] from 10 (fun s9 wc => okC ru fl ln wd pr = true ∧ Cr w0 w g X D P w.heap.size T v (st fmt l7 b nx3 mo ((((decide (10000 < wd.1) || decide (10000 < pr.1)) || (wd.2.1 && decide (64 < wa))) || (pr.2.1 && decide (64 < pa))) || decide (64 < ar))) ⟨⟨#[]⟩, ar, fl, wd.1, wa, pr.1, pa, ln, hdI (c :: l7)⟩ wd pr ru wc)
           case first =>
            as_aux_lemma =>
             have ht0 := cr14.t0
             have ht1 := cr14.t1
             have ht2 := cr14.t2
             have ht3 := cr14.t3
             have hx2 := cr14.c.x2
             have hx3 := cr14.c.x3
             have hx5 := cr14.c.x5
             have hx7 := cr14.c.x7
             have hd1 := cr14.c.d1
             have hp1 := cr14.c.p1
             obtain ⟨ba, hba⟩ : ∃ x, (Go.bits .andNot .i64 fl ru.fl == 0) = x := ⟨_, rfl⟩
             have HBA := Lib.hid (show decide (Go.bits .andNot .i64 fl ru.fl = 0) = ba from hba)
             cases ba
             ·skip
              as_aux_lemma =>
               have HOKC := Lib.hid (show okC ru fl ln wd pr = false from by unfold okC; simp only [HBA.out]; rfl)
               go_wp2_with (first | (go_at_call 93; refine (needS_no cr14.c.is).mono ?_; rintro e w15 ⟨rfl, rfl⟩))
               exact ⟨rfl, ConvPost.no (HNO.out HOKC.out) cr14.c.b⟩
             ·cases al
              ·skip
               as_aux_lemma =>
                have HOKC := Lib.hid (show okC ru fl ln wd pr = false from by unfold okC; simp only [HBA.out, HAL.out]; rfl)
                go_wp2_with (first | (go_at_call 76; refine (allowsS HAL.out _ _ _ _).mono ?_; rintro e wA ⟨rfl, bA⟩; have at2 := pw_cell_below bA ht2; have at3 := pw_cell_below bA ht3; have ax3 := pw_cell_below bA hx3; have ax5 := pw_cell_below bA hx5; have ad1 := pw_cell_below bA hd1; have ap1 := pw_cell_below bA hp1) | (go_at_call 93; refine (needS_no (cr14.below bA).c.is).mono ?_; rintro e w15 ⟨rfl, rfl⟩))
                exact ⟨rfl, ConvPost.no (HNO.out HOKC.out) (cr14.below bA).c.b⟩
              ·skip
               cases wr : ru.wd
               ·rw [wr] at ht2
                have WRF := Lib.hid wr
                clear wr
                by_cases wn : wd.1 = -1
                ·have wnb : (wd.1 == -1) = true := beq_iff_eq.2 wn
                 have WNT := Lib.hid (show decide (wd.1 = -1) = true from decide_eq_true wn)
                 clear wn
                 cases ws : wd.2.1
                 ·rw [ws] at hd1
                  have WSF := Lib.hid ws
                  clear ws
                  cases qr : ru.pr
                  ·rw [qr] at ht3
                   have QRF := Lib.hid qr
                   clear qr
                   by_cases qn : pr.1 = -1
                   ·have qnb : (pr.1 == -1) = true := beq_iff_eq.2 qn
                    have QNT := Lib.hid (show decide (pr.1 = -1) = true from decide_eq_true qn)
                    clear qn
                    cases qs : pr.2.1
                    ·rw [qs] at hp1
                     have QSF := Lib.hid qs
                     clear qs
                     as_aux_lemma =>
                      have HOKC := Lib.hid (show okC ru fl ln wd pr = true from by unfold okC; simp only [HBA.out, HAL.out, WRF.out, WNT.out, WSF.out, QRF.out, QNT.out, QSF.out]; rfl)
                      go_wp2_with (first | (go_at_call 76; refine (allowsS HAL.out _ _ _ _).mono ?_; rintro e wA ⟨rfl, bA⟩; have at2 := pw_cell_below bA ht2; have at3 := pw_cell_below bA ht3; have ax3 := pw_cell_below bA hx3; have ax5 := pw_cell_below bA hx5; have ad1 := pw_cell_below bA hd1; have ap1 := pw_cell_below bA hp1) | (go_at_call 93; refine (need_yes g _).mono ?_; rintro e w15 ⟨rfl, rfl⟩))
                      go_meet
                      case rel => exact ⟨HOKC.out, (cr14.below bA)⟩
                    ·rw [qs] at hp1
                     have QST := Lib.hid qs
                     clear qs
                     as_aux_lemma =>
                      have HOKC := Lib.hid (show okC ru fl ln wd pr = false from by unfold okC; simp only [HBA.out, HAL.out, WRF.out, WNT.out, WSF.out, QRF.out, QNT.out, QST.out]; rfl)
                      go_wp2_with (first | (go_at_call 76; refine (allowsS HAL.out _ _ _ _).mono ?_; rintro e wA ⟨rfl, bA⟩; have at2 := pw_cell_below bA ht2; have at3 := pw_cell_below bA ht3; have ax3 := pw_cell_below bA hx3; have ax5 := pw_cell_below bA hx5; have ad1 := pw_cell_below bA hd1; have ap1 := pw_cell_below bA hp1) | (go_at_call 93; refine (needS_no (cr14.below bA).c.is).mono ?_; rintro e w15 ⟨rfl, rfl⟩))
                      exact ⟨rfl, ConvPost.no (HNO.out HOKC.out) (cr14.below bA).c.b⟩
                   ·have qnb : (pr.1 == -1) = false := beq_eq_false_iff_ne.2 qn
                    have QNF := Lib.hid (show decide (pr.1 = -1) = false from decide_eq_false qn)
                    clear qn
                    as_aux_lemma =>
                     have HOKC := Lib.hid (show okC ru fl ln wd pr = false from by unfold okC; simp only [HBA.out, HAL.out, WRF.out, WNT.out, WSF.out, QRF.out, QNF.out]; rfl)
                     go_wp2_with (first | (go_at_call 76; refine (allowsS HAL.out _ _ _ _).mono ?_; rintro e wA ⟨rfl, bA⟩; have at2 := pw_cell_below bA ht2; have at3 := pw_cell_below bA ht3; have ax3 := pw_cell_below bA hx3; have ax5 := pw_cell_below bA hx5; have ad1 := pw_cell_below bA hd1; have ap1 := pw_cell_below bA hp1) | (go_at_call 93; refine (needS_no (cr14.below bA).c.is).mono ?_; rintro e w15 ⟨rfl, rfl⟩))
                     exact ⟨rfl, ConvPost.no (HNO.out HOKC.out) (cr14.below bA).c.b⟩
                  ·rw [qr] at ht3
                   have QRT := Lib.hid qr
                   clear qr
                   as_aux_lemma =>
                    have HOKC := Lib.hid (show okC ru fl ln wd pr = true from by unfold okC; simp only [HBA.out, HAL.out, WRF.out, WNT.out, WSF.out, QRT.out]; rfl)
                    go_wp2_with (first | (go_at_call 76; refine (allowsS HAL.out _ _ _ _).mono ?_; rintro e wA ⟨rfl, bA⟩; have at2 := pw_cell_below bA ht2; have at3 := pw_cell_below bA ht3; have ax3 := pw_cell_below bA hx3; have ax5 := pw_cell_below bA hx5; have ad1 := pw_cell_below bA hd1; have ap1 := pw_cell_below bA hp1) | (go_at_call 93; refine (need_yes g _).mono ?_; rintro e w15 ⟨rfl, rfl⟩))
                    go_meet
                    case rel => exact ⟨HOKC.out, (cr14.below bA)⟩
                 ·rw [ws] at hd1
                  have WST := Lib.hid ws
                  clear ws
                  as_aux_lemma =>
                   have HOKC := Lib.hid (show okC ru fl ln wd pr = false from by unfold okC; simp only [HBA.out, HAL.out, WRF.out, WNT.out, WST.out]; rfl)
                   go_wp2_with (first | (go_at_call 76; refine (allowsS HAL.out _ _ _ _).mono ?_; rintro e wA ⟨rfl, bA⟩; have at2 := pw_cell_below bA ht2; have at3 := pw_cell_below bA ht3; have ax3 := pw_cell_below bA hx3; have ax5 := pw_cell_below bA hx5; have ad1 := pw_cell_below bA hd1; have ap1 := pw_cell_below bA hp1) | (go_at_call 93; refine (needS_no (cr14.below bA).c.is).mono ?_; rintro e w15 ⟨rfl, rfl⟩))
                   exact ⟨rfl, ConvPost.no (HNO.out HOKC.out) (cr14.below bA).c.b⟩
                ·have wnb : (wd.1 == -1) = false := beq_eq_false_iff_ne.2 wn
                 have WNF := Lib.hid (show decide (wd.1 = -1) = false from decide_eq_false wn)
                 clear wn
                 as_aux_lemma =>
                  have HOKC := Lib.hid (show okC ru fl ln wd pr = false from by unfold okC; simp only [HBA.out, HAL.out, WRF.out, WNF.out]; rfl)
                  go_wp2_with (first | (go_at_call 76; refine (allowsS HAL.out _ _ _ _).mono ?_; rintro e wA ⟨rfl, bA⟩; have at2 := pw_cell_below bA ht2; have at3 := pw_cell_below bA ht3; have ax3 := pw_cell_below bA hx3; have ax5 := pw_cell_below bA hx5; have ad1 := pw_cell_below bA hd1; have ap1 := pw_cell_below bA hp1) | (go_at_call 93; refine (needS_no (cr14.below bA).c.is).mono ?_; rintro e w15 ⟨rfl, rfl⟩))
                  exact ⟨rfl, ConvPost.no (HNO.out HOKC.out) (cr14.below bA).c.b⟩
               ·rw [wr] at ht2
                have WRT := Lib.hid wr
                clear wr
                cases qr : ru.pr
                ·rw [qr] at ht3
                 have QRF := Lib.hid qr
                 clear qr
                 by_cases qn : pr.1 = -1
                 ·have qnb : (pr.1 == -1) = true := beq_iff_eq.2 qn
                  have QNT := Lib.hid (show decide (pr.1 = -1) = true from decide_eq_true qn)
                  clear qn
                  cases qs : pr.2.1
                  ·rw [qs] at hp1
                   have QSF := Lib.hid qs
                   clear qs
                   as_aux_lemma =>
                    have HOKC := Lib.hid (show okC ru fl ln wd pr = true from by unfold okC; simp only [HBA.out, HAL.out, WRT.out, QRF.out, QNT.out, QSF.out]; rfl)
                    go_wp2_with (first | (go_at_call 76; refine (allowsS HAL.out _ _ _ _).mono ?_; rintro e wA ⟨rfl, bA⟩; have at2 := pw_cell_below bA ht2; have at3 := pw_cell_below bA ht3; have ax3 := pw_cell_below bA hx3; have ax5 := pw_cell_below bA hx5; have ad1 := pw_cell_below bA hd1; have ap1 := pw_cell_below bA hp1) | (go_at_call 93; refine (need_yes g _).mono ?_; rintro e w15 ⟨rfl, rfl⟩))
                    go_meet
                    case rel => exact ⟨HOKC.out, (cr14.below bA)⟩
                  ·rw [qs] at hp1
                   have QST := Lib.hid qs
                   clear qs
                   as_aux_lemma =>
                    have HOKC := Lib.hid (show okC ru fl ln wd pr = false from by unfold okC; simp only [HBA.out, HAL.out, WRT.out, QRF.out, QNT.out, QST.out]; rfl)
                    go_wp2_with (first | (go_at_call 76; refine (allowsS HAL.out _ _ _ _).mono ?_; rintro e wA ⟨rfl, bA⟩; have at2 := pw_cell_below bA ht2; have at3 := pw_cell_below bA ht3; have ax3 := pw_cell_below bA hx3; have ax5 := pw_cell_below bA hx5; have ad1 := pw_cell_below bA hd1; have ap1 := pw_cell_below bA hp1) | (go_at_call 93; refine (needS_no (cr14.below bA).c.is).mono ?_; rintro e w15 ⟨rfl, rfl⟩))
                    exact ⟨rfl, ConvPost.no (HNO.out HOKC.out) (cr14.below bA).c.b⟩
                 ·have qnb : (pr.1 == -1) = false := beq_eq_false_iff_ne.2 qn
                  have QNF := Lib.hid (show decide (pr.1 = -1) = false from decide_eq_false qn)
                  clear qn
                  as_aux_lemma =>
                   have HOKC := Lib.hid (show okC ru fl ln wd pr = false from by unfold okC; simp only [HBA.out, HAL.out, WRT.out, QRF.out, QNF.out]; rfl)
                   go_wp2_with (first | (go_at_call 76; refine (allowsS HAL.out _ _ _ _).mono ?_; rintro e wA ⟨rfl, bA⟩; have at2 := pw_cell_below bA ht2; have at3 := pw_cell_below bA ht3; have ax3 := pw_cell_below bA hx3; have ax5 := pw_cell_below bA hx5; have ad1 := pw_cell_below bA hd1; have ap1 := pw_cell_below bA hp1) | (go_at_call 93; refine (needS_no (cr14.below bA).c.is).mono ?_; rintro e w15 ⟨rfl, rfl⟩))
                   exact ⟨rfl, ConvPost.no (HNO.out HOKC.out) (cr14.below bA).c.b⟩
                ·rw [qr] at ht3
                 have QRT := Lib.hid qr
                 clear qr
                 as_aux_lemma =>
                  have HOKC := Lib.hid (show okC ru fl ln wd pr = true from by unfold okC; simp only [HBA.out, HAL.out, WRT.out, QRT.out]; rfl)
                  go_wp2_with (first | (go_at_call 76; refine (allowsS HAL.out _ _ _ _).mono ?_; rintro e wA ⟨rfl, bA⟩; have at2 := pw_cell_below bA ht2; have at3 := pw_cell_below bA ht3; have ax3 := pw_cell_below bA hx3; have ax5 := pw_cell_below bA hx5; have ad1 := pw_cell_below bA hd1; have ap1 := pw_cell_below bA hp1) | (go_at_call 93; refine (need_yes g _).mono ?_; rintro e w15 ⟨rfl, rfl⟩))
                  go_meet
                  case rel => exact ⟨HOKC.out, (cr14.below bA)⟩
           case rest =>
            clear cr14 HNO
            obtain ⟨hok2, cr15⟩ := hcut
            have HOKC := Lib.hid hok2
            clear hok2
            have hx0 := cr15.c.x0
            have hx1 := cr15.c.x1
            have hx2 := cr15.c.x2
            have hx3 := cr15.c.x3
            have hx4 := cr15.c.x4
            have hx5 := cr15.c.x5
            have hx6 := cr15.c.x6
            have hx7 := cr15.c.x7
            have hx8 := cr15.c.x8
            have hr0 := cr15.c.r0
            have fr0 := cr15.c.fr 0
            have hr1 := cr15.c.r1
            have fr1 := cr15.c.fr 1
            have hr2 := cr15.c.r2
            have fr2 := cr15.c.fr 2
            have hr3 := cr15.c.r3
            have fr3 := cr15.c.fr 3
            have hr4 := cr15.c.r4
            have fr4 := cr15.c.fr 4
            have hr5 := cr15.c.r5
            have fr5 := cr15.c.fr 5
            have hr6 := cr15.c.r6
            have fr6 := cr15.c.fr 6
            have hr7 := cr15.c.r7
            have fr7 := cr15.c.fr 7
            have hr8 := cr15.c.r8
            have fr8 := cr15.c.fr 8
            have hRX : ¬ w.heap.size = X := cr15.c.rx
            have hXR : ¬ X = w.heap.size := fun h => cr15.c.rx h.symm
            go_wp2_with fail
            refine bodyPost_ret (v := .agg #[.string ⟨#[]⟩, .int .i64 ar, .int .i64 fl, .int .i64 wd.1, .int .i64 wa, .int .i64 pr.1, .int .i64 pa, .int .i64 ln, .int .u8 (hdI (c :: l7))]) (by simp [results, Tryz.results56, go_sem, hr0, hr1, hr2, hr3, hr4, hr5, hr6, hr7, hr8]) rfl ?_
            exact ConvPost.yes (r := ⟨⟨⟨#[]⟩, ar, fl, wd.1, wa, pr.1, pa, ln, hdI (c :: l7)⟩, ((((decide (10000 < wd.1) || decide (10000 < pr.1)) || (wd.2.1 && decide (64 < wa))) || (pr.2.1 && decide (64 < pa))) || decide (64 < ar)), mo, nx3, l7⟩) (by rw [HE.out]; exact convE_yes (by rw [HRU.out]; exact HOK.out) HPB.out HMO.out HM.out HA1.out HA2.out HWA.out HPA.out HAR.out (by rw [HRU.out]; exact HOKC.out) rfl) (((((((((cr15.c.near.set 0 _).set 1 _).set 2 _).set 3 _).set 4 _).set 5 _).set 6 _).set 7 _).set 8 _)
end Go.Proofs.YtnhbgahfmcicnaaGreatDoor.PA
end
