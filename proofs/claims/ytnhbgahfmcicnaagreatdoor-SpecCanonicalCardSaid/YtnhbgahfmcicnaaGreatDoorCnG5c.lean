/- A part of the proof of the claim's statement. -/
import Derived.Test.YtnhbgahfmcicnaaGreatDoorCnM22
import Derived.Test.YtnhbgahfmcicnaaGreatDoorCnPAx3
import Derived.Test.YtnhbgahfmcicnaaGreatDoorCnG4
import Derived.BigGuard
section
namespace Go.Proofs.YtnhbgahfmcicnaaGreatDoor.Pure
set_option linter.unusedVariables false
set_option linter.unusedSimpArgs false
open Go.RowKit Go.Shelf Go.Proofs.YtnhbgahfmcicnaaGreatDoor.PA Go.Proofs.YtnhbgahfmcicnaaGreatDoorW.PrintWords Go.Proofs.YtnhbgahfmcicnaaGreatDoorW.PrintLast Go.Proofs.YtnhbgahfmcicnaaGreatDoorW.PrintMore
attribute [local go_sem high] eqA35
theorem el_T35 {L C : List S35} {i : Nat} (h : i < L.length) (hl : C.length = L.length) (hel : ∀ i (h : i < L.length) (h2 : i < C.length), C[i] = canon1 L[i] ∧ Flags1 L[i].f2 (canonF2 (canonF1 L[i].f2) (preciseC L[i])) (preciseC L[i])) :
    ∃ x0 x1 x2 x3 x4 x5 x6 x7 x8 F G, rd_T35 L (i : Int) = ⟨x0, x1, x2, x3, x4, x5, x6, x7, x8⟩ ∧ rd_T35 C (i : Int) = ⟨x0, x1, F, x3, x4, x5, x6, G, x8⟩ ∧ Go.bits .and .i64 F x2 = F ∧ (G = x7 ∨ (G = 0 ∧ x7 = 3)) := by
  obtain ⟨h1, h2⟩ := hel i h (by omega)
  exact ⟨L[i].f0, L[i].f1, L[i].f2, L[i].f3, L[i].f4, L[i].f5, L[i].f6, L[i].f7, L[i].f8, canonF2 (canonF1 L[i].f2) (preciseC L[i]), canonL L[i].f8 L[i].f7, rd_T35_at L i h, (rd_T35_at C i (by omega)).trans h1, h2.sub, canonL_cases _ _⟩
set_option maxRecDepth 100000 in
set_option maxHeartbeats 40000000 in
theorem canonical_calls (a0 : ByteArray) (w : World) (hLD : LD w) :
    Calls Tryz.prog 6 #[.string a0] w fun e w' => e = .returned (.bool true) ∧ Below w.heap.size w w' := by
  have hu35 := Tryz.underlying35
  have HLD := Lib.hid hLD
  clear hLD
  obtain ⟨L, e, a, hP⟩ : ∃ L e a, parseC a0.data.toList = (L, e, a) := ⟨_, _, _, rfl⟩
  by_cases he : e = 0
  · subst he
    have hv := parse_valid (a := a0.data.toList) (by rw [hP])
    rw [hP] at hv
    obtain ⟨-, hok, hp, ht, ht2⟩ := hv
    dsimp only at hok hp ht
    obtain ⟨hok2, hp2⟩ := canon_ok hok hp
    have htw := canon_twice hok hp
    have htx := canon_texts (!oneUp (allC L)) (fun x hx => ⟨hp x hx, hok.fit x hx⟩)
    have hac := allC_canon L
    have hat : ∀ i (h : i < L.length), ∃ y, L[i].f0 = y ∧ True := fun i h => ⟨_, rfl, trivial⟩
    have hel : ∀ i (h : i < L.length) (h2 : i < (L.map canon1).length), (L.map canon1)[i] = canon1 L[i] ∧ Flags1 L[i].f2 (canonF2 (canonF1 L[i].f2) (preciseC L[i])) (preciseC L[i]) := fun i h h2 => by
      have hm := List.getElem_mem h
      have hfl := fits_flags (hp _ hm) (hok.fit _ hm)
      exact ⟨List.getElem_map _, flags1 hfl.1 hfl.2 _⟩
    have hlen : (L.map canon1).length = L.length := List.length_map _
    generalize hC : L.map canon1 = C at hok2 hp2 htw htx hac hel hlen
    have hL5 := hok.len
    have hs1 : ∀ x ∈ L, x.f0.size ≤ 20000 := fun x hx => by
      have e1 := lit_le (hok.fit x hx) (!oneUp (allC L))
      have e2 := text_mem hx (!oneUp (allC L))
      omega
    have hs2 : ∀ x ∈ C, x.f0.size ≤ 20000 := fun x hx => by
      have e1 := lit_le (hok2.fit x hx) (!oneUp (allC L))
      have e2 := text_mem hx (!oneUp (allC L))
      omega
    have hcan1 : spec_Canonical.f 2000000 L = some (C, 0) := by
      unfold spec_Canonical.f
      rw [check_f L (by omega) (fun x hx => by have := hs1 x hx; omega) (by omega), Option.bind_some, check_of hok, if_pos rfl, if_pos (by omega), hC]
    have hcan2 : spec_Canonical.f 2000000 C = some (C, 0) := by
      unfold spec_Canonical.f
      rw [check_f C (by omega) (fun x hx => by have := hs2 x hx; omega) (by omega), Option.bind_some, check_of hok2, if_pos rfl, if_pos (by omega), htw]
    obtain ⟨S, hS⟩ : ∃ S, PA.strOf (textsB L (!oneUp (allC L))) = S := ⟨_, rfl⟩
    obtain ⟨T, hT⟩ : ∃ T, PA.strOf (textsB C (!oneUp (allC L))) = T := ⟨_, rfl⟩
    have hpr1 : spec_Print.f 2000000 L = some (S, 0) := by
      rw [print_f (check_of hok) hp hs1 (by omega), if_neg (by omega), hS]
    have hpr2 : spec_Print.f 2000000 C = some (T, 0) := by
      rw [print_f (check_of hok2) hp2 hs2 (by omega), hac, if_neg (by omega), hT]
    have hST : T.size ≤ S.size := by rw [← hS, ← hT, strOf_size, strOf_size]; exact htx
    have hsame : sorobanref21_Same.f 2000000 C C = some true := by
      rw [rsame_f C C (by omega) (by omega) (by omega), sameC_self]
    have HCAN1 := Lib.hid hcan1
    have HCAN2 := Lib.hid hcan2
    have HPR1 := Lib.hid hpr1
    have HPR2 := Lib.hid hpr2
    have HSAME := Lib.hid hsame
    have HEL := Lib.hid hel
    have HP := Lib.hid hP
    have HLEN := Lib.hid hlen
    have HL5 := Lib.hid hL5
    have HST := Lib.hid hST
    clear hcan1 hcan2 hpr1 hpr2 hsame hel hP hlen hST hS hT hs1 hs2 hC hac htx htw hok hok2 hp hp2 ht ht2 hat hL5
    go_enter Tryz.func6, Tryz.ntmps6
    go_wp2_with fail
    refine (parseK _ L 0 a HP.out _).mono ?_
    rintro e w1 ⟨v1, rfl, r1, b1⟩
    obtain ⟨A1, c1, rfl⟩ := Kd.R_slice r1
    obtain ⟨-, hc1, q1⟩ := Kd.R_reads' r1
    have Q1 := Lib.hid q1
    have C1 := Lib.hid hc1
    have BW1 := Lib.hid b1
    clear r1 q1 hc1 b1
    go_wp2_with fail
    refine (spec_Canonical.calls 2000000 A1 c1 L C 0 _ Q1.out C1.out HCAN1.out).mono ?_
    rintro e w2 ⟨v2, rfl, r2, b2⟩
    obtain ⟨A2, c2, rfl⟩ := Kd.R_slice r2
    obtain ⟨-, hc2, q2⟩ := Kd.R_reads' r2
    have Q2 := Lib.hid q2
    have C2 := Lib.hid hc2
    have q1 := Kd.C_below Q1.out b2
    have bw2 := below_then BW1.out BW1.out.size b2
    clear Q1 BW1
    have Q1 := Lib.hid q1
    have BW2 := Lib.hid bw2
    clear r2 q2 hc2 b2 q1 bw2
    go_wp2_with fail
    refine (spec_Canonical.calls 2000000 A2 c2 C C 0 _ Q2.out C2.out HCAN2.out).mono ?_
    rintro e w3 ⟨v3, rfl, r3, b3⟩
    obtain ⟨A3, c3, rfl⟩ := Kd.R_slice r3
    obtain ⟨-, hc3, q3⟩ := Kd.R_reads' r3
    have Q3 := Lib.hid q3
    have C3 := Lib.hid hc3
    have q1 := Kd.C_below Q1.out b3
    have q2 := Kd.C_below Q2.out b3
    have bw3 := below_then BW2.out BW2.out.size b3
    clear Q1 Q2 BW2
    have Q1 := Lib.hid q1
    have Q2 := Lib.hid q2
    have BW3 := Lib.hid bw3
    clear r3 q3 hc3 b3 q1 q2 bw3
    go_wp2_with fail
    refine (spec_Print.calls 2000000 A1 c1 L S 0 _ Q1.out C1.out (HLD.out.below BW3.out) HPR1.out).mono ?_
    rintro e w4 ⟨rfl, b4⟩
    have q1 := Kd.C_below Q1.out b4
    have q2 := Kd.C_below Q2.out b4
    have q3 := Kd.C_below Q3.out b4
    have bw4 := below_then BW3.out BW3.out.size b4
    clear Q1 Q2 Q3 BW3
    have Q1 := Lib.hid q1
    have Q2 := Lib.hid q2
    have Q3 := Lib.hid q3
    have BW4 := Lib.hid bw4
    clear b4 q1 q2 q3 bw4
    go_wp2_with fail
    refine (spec_Print.calls 2000000 A2 c2 C T 0 _ Q2.out C2.out (HLD.out.below BW4.out) HPR2.out).mono ?_
    rintro e w5 ⟨rfl, b5⟩
    have q1 := Kd.C_below Q1.out b5
    have q2 := Kd.C_below Q2.out b5
    have q3 := Kd.C_below Q3.out b5
    have bw5 := below_then BW4.out BW4.out.size b5
    clear Q1 Q2 Q3 BW4
    have Q1 := Lib.hid q1
    have Q2 := Lib.hid q2
    have Q3 := Lib.hid q3
    have BW5 := Lib.hid bw5
    clear b5 q1 q2 q3 bw5
    have hgt : decide (S.size < T.size) = false := decide_eq_false (by have := HST.out; omega)
    have hcl : ((C.length : Int) != (L.length : Int)) = false := by rw [HLEN.out]; exact bne_self_eq_false _
    go_wp2_with fail
    refine (sorobanref21_Same.calls 2000000 A2 c2 C A3 c3 C true _ Q2.out C2.out Q3.out C3.out HSAME.out).mono ?_
    rintro e w6 ⟨rfl, ⟨nd, rfl⟩⟩
    dsimp only
    rename_i Ka ha
    refine ha _ _ ?_
    clear ha
    go_wp2_with fail
    have q1 := Kd.C_drewN Q1.out nd
    have q2 := Kd.C_drewN Q2.out nd
    have bw := pw_below_drewN BW5.out nd
    generalize w5.drewN nd = W0 at q1 q2 bw ⊢
    clear Q1 Q2 Q3 BW5 C3 HCAN1 HCAN2 HPR1 HPR2 HSAME HP HST hgt hcl
    have HDL := Lib.hid (show LD W0 from HLD.out.below bw)
    go_loopg [13] L.length (fun k i wr => ∃ m : Nat, m + k = L.length ∧ i = .int .i64 m ∧ Kd.C k35 wr A1 L.length L ∧ Kd.C k35 wr A2 C.length C ∧ Below w.heap.size w wr)
    case atStart => exact ⟨0, by omega, rfl, q1, q2, bw⟩
    case round =>
      clear q1 q2 bw HDL
      obtain ⟨m, hm, rfl, q1, q2, bw⟩ := hrel
      by_cases hlt : m < L.length
      · obtain ⟨x0, x1, x2, x3, x4, x5, x6, x7, x8, F, G, hx, hy, hF, hG⟩ := el_T35 hlt HLEN.out HEL.out
        have hm0 : (0 : Int) ≤ (m : Int) := Int.natCast_nonneg _
        have hm1 : (m : Int) < (L.length : Int) := by omega
        have hm2 : (L.length : Int) ≤ 500 := by have := HL5.out; omega
        have hm3 : (m : Int) < (C.length : Int) := by have := HLEN.out; omega
        obtain ⟨ad1, rfl, a0, a1, a2, a3, a4, a5, a6, a7, a8⟩ := at_T35 q1 m hm0 hm1
        rw [hx] at a0 a1 a2 a3 a4 a5 a6 a7 a8
        simp only [Int.toNat_natCast] at a0 a1 a2 a3 a4 a5 a6 a7 a8
        have Q1 := Lib.hid q1
        have Q2 := Lib.hid q2
        have BW := Lib.hid bw
        have HX := Lib.hid hx
        have HY := Lib.hid hy
        have HF := Lib.hid hF
        have HG := Lib.hid hG
        have HM := Lib.hid hm
        clear q1 q2 bw hx hy hF hG hm
        go_upto_region 14 with fail
        clear a0 a1 a2 a3 a4 a5 a6 a7 a8
        have hX := World.alloc_heap_new wr (.cells #[.string x0, .int .i64 x1, .int .i64 x2, .int .i64 x3, .int .i64 x4, .int .i64 x5, .int .i64 x6, .int .i64 x7, .int .u8 x8] 35)
        have hb : Below wr.heap.size wr (wr.alloc (.cells #[.string x0, .int .i64 x1, .int .i64 x2, .int .i64 x3, .int .i64 x4, .int .i64 x5, .int .i64 x6, .int .i64 x7, .int .u8 x8] 35)) := below_alloc (Below.refl _ _) _
        have HGE := Lib.hid (Nat.le_refl wr.heap.size)
        obtain ⟨W3, hW3⟩ : ∃ W, wr.alloc (.cells #[.string x0, .int .i64 x1, .int .i64 x2, .int .i64 x3, .int .i64 x4, .int .i64 x5, .int .i64 x6, .int .i64 x7, .int .u8 x8] 35) = W := ⟨_, rfl⟩
        obtain ⟨X, hXe⟩ : ∃ X, wr.heap.size = X := ⟨_, rfl⟩
        rw [hW3] at hX hb ⊢
        have HBX := Lib.hid (show Below wr.heap.size wr W3 ∧ wr.heap.size ≤ X from ⟨hb, by omega⟩)
        rw [hXe] at hX ⊢
        clear hXe hW3 hb HGE
        obtain ⟨ad2, rfl, d0, d1, d2, d3, d4, d5, d6, d7, d8⟩ := at_T35 (Kd.C_below Q2.out HBX.out.1) m hm0 hm3
        rw [HY.out] at d0 d1 d2 d3 d4 d5 d6 d7 d8
        simp only [Int.toNat_natCast] at d0 d1 d2 d3 d4 d5 d6 d7 d8
        have f2 := blk_frozen hX 2
        have g2 : W3.cell? ⟨X, 2, none⟩ = some (.int .i64 x2) := (blk_cell hX 2).trans rfl
        go_upto_region 15 with fail
        have hX2 := blk_put (cs := #[.string x0, .int .i64 x1, .int .i64 x2, .int .i64 x3, .int .i64 x4, .int .i64 x5, .int .i64 x6, .int .i64 x7, .int .u8 x8]) hX 2 (.int .i64 F) rfl
        have hb2 := below_set (j := 2) (v := .int .i64 F) HBX.out.1 HBX.out.2
        clear d0 d1 d2 d3 d4 d5 d6 d7 d8 f2 g2 hX
        rw [show (#[.string x0, .int .i64 x1, .int .i64 x2, .int .i64 x3, .int .i64 x4, .int .i64 x5, .int .i64 x6, .int .i64 x7, .int .u8 x8] : Array Value).setIfInBounds 2 (.int .i64 F) = #[.string x0, .int .i64 x1, .int .i64 F, .int .i64 x3, .int .i64 x4, .int .i64 x5, .int .i64 x6, .int .i64 x7, .int .u8 x8] from rfl] at hX2
        obtain ⟨W4, hW4⟩ : ∃ W, W3.setCell ⟨X, 2, none⟩ (.int .i64 F) = W := ⟨_, rfl⟩
        rw [hW4] at hX2 hb2 ⊢
        have HB2 := Lib.hid (And.intro hb2 HBX.out.2)
        clear hb2 HBX hW4
        obtain ⟨ad3, e3, d0, d1, d2, d3, d4, d5, d6, d7, d8⟩ := at_T35 (Kd.C_below Q2.out HB2.out.1) m hm0 hm3
        cases e3
        rw [HY.out] at d0 d1 d2 d3 d4 d5 d6 d7 d8
        simp only [Int.toNat_natCast] at d0 d1 d2 d3 d4 d5 d6 d7 d8
        have f2 := blk_frozen hX2 7
        have g2 : W4.cell? ⟨X, 7, none⟩ = some (.int .i64 x7) := (blk_cell hX2 7).trans rfl
        go_upto_region 16 with fail
        have hX3 := blk_put (cs := #[.string x0, .int .i64 x1, .int .i64 F, .int .i64 x3, .int .i64 x4, .int .i64 x5, .int .i64 x6, .int .i64 x7, .int .u8 x8]) hX2 7 (.int .i64 G) rfl
        have hb3 := below_set (j := 7) (v := .int .i64 G) HB2.out.1 HB2.out.2
        clear d0 d1 d2 d3 d4 d5 d6 d7 d8 f2 g2 hX2
        rw [show (#[.string x0, .int .i64 x1, .int .i64 F, .int .i64 x3, .int .i64 x4, .int .i64 x5, .int .i64 x6, .int .i64 x7, .int .u8 x8] : Array Value).setIfInBounds 7 (.int .i64 G) = #[.string x0, .int .i64 x1, .int .i64 F, .int .i64 x3, .int .i64 x4, .int .i64 x5, .int .i64 x6, .int .i64 G, .int .u8 x8] from rfl] at hX3
        obtain ⟨W5, hW5⟩ : ∃ W, W4.setCell ⟨X, 7, none⟩ (.int .i64 G) = W := ⟨_, rfl⟩
        rw [hW5] at hX3 hb3 ⊢
        have HB3 := Lib.hid hb3
        clear hb3 HB2 hW5
        obtain ⟨ad3, e3, d0, d1, d2, d3, d4, d5, d6, d7, d8⟩ := at_T35 (Kd.C_below Q2.out HB3.out) m hm0 hm3
        cases e3
        rw [HY.out] at d0 d1 d2 d3 d4 d5 d6 d7 d8
        simp only [Int.toNat_natCast] at d0 d1 d2 d3 d4 d5 d6 d7 d8
        obtain ⟨ad3, e3, a0, a1, a2, a3, a4, a5, a6, a7, a8⟩ := at_T35 (Kd.C_below Q1.out HB3.out) m hm0 hm1
        cases e3
        rw [HX.out] at a0 a1 a2 a3 a4 a5 a6 a7 a8
        simp only [Int.toNat_natCast] at a0 a1 a2 a3 a4 a5 a6 a7 a8
        clear a0 a1 a3 a4 a5 a6 a8
        have g0 : W5.cell? ⟨X, 0, none⟩ = some (.string x0) := (blk_cell hX3 0).trans rfl
        have g1 : W5.cell? ⟨X, 1, none⟩ = some (.int .i64 x1) := (blk_cell hX3 1).trans rfl
        have g2 : W5.cell? ⟨X, 2, none⟩ = some (.int .i64 F) := (blk_cell hX3 2).trans rfl
        have g3 : W5.cell? ⟨X, 3, none⟩ = some (.int .i64 x3) := (blk_cell hX3 3).trans rfl
        have g4 : W5.cell? ⟨X, 4, none⟩ = some (.int .i64 x4) := (blk_cell hX3 4).trans rfl
        have g5 : W5.cell? ⟨X, 5, none⟩ = some (.int .i64 x5) := (blk_cell hX3 5).trans rfl
        have g6 : W5.cell? ⟨X, 6, none⟩ = some (.int .i64 x6) := (blk_cell hX3 6).trans rfl
        have g7 : W5.cell? ⟨X, 7, none⟩ = some (.int .i64 G) := (blk_cell hX3 7).trans rfl
        have g8 : W5.cell? ⟨X, 8, none⟩ = some (.int .u8 x8) := (blk_cell hX3 8).trans rfl
        clear hX3
        have hF : (Go.bits .and .i64 F x2 != F) = false := by rw [HF.out]; exact bne_self_eq_false _
        rcases HG.out with hG | ⟨hG, h7⟩
        · subst hG
          have hGG : (G != G) = false := bne_self_eq_false _
          go_wp2_with fail
          repeat (go_quiet (fail); try go_wp2)
          go_roundg (gk - 1)
          case measure => have := HM.out; omega
          case rel => exact ⟨m + 1, by have := HM.out; omega, by go_num, by repeat (first | exact Kd.C_below Q1.out HB3.out | (with_reducible refine Kd.C_drewN ?_ _) | (with_reducible refine Kd.C_drew ?_)), by repeat (first | exact Kd.C_below Q2.out HB3.out | (with_reducible refine Kd.C_drewN ?_ _) | (with_reducible refine Kd.C_drew ?_)), by repeat (first | exact below_then BW.out BW.out.size HB3.out | apply pw_below_drewN | apply below_drew1)⟩
        · subst hG h7
          go_wp2_with fail
          repeat (go_quiet (fail); try go_wp2)
          go_roundg (gk - 1)
          case measure => have := HM.out; omega
          case rel => exact ⟨m + 1, by have := HM.out; omega, by go_num, by repeat (first | exact Kd.C_below Q1.out HB3.out | (with_reducible refine Kd.C_drewN ?_ _) | (with_reducible refine Kd.C_drew ?_)), by repeat (first | exact Kd.C_below Q2.out HB3.out | (with_reducible refine Kd.C_drewN ?_ _) | (with_reducible refine Kd.C_drew ?_)), by repeat (first | exact below_then BW.out BW.out.size HB3.out | apply pw_below_drewN | apply below_drew1)⟩
      · obtain rfl : m = L.length := by omega
        have HDL := Lib.hid (show LD wr from HLD.out.below bw)
        go_wp2_with fail
        refine (sorobanlaw21_sanity.calls 0 true _ HDL.out rfl).mono ?_
        rintro e w8 ⟨rfl, b8⟩
        go_wp2_with fail
        go_ret
        exact ⟨rfl, below_then bw bw.size b8⟩
  · have hne : (e != 0) = true := bne_iff_ne.2 he
    have HP := Lib.hid hP
    clear hP he
    go_enter Tryz.func6, Tryz.ntmps6
    go_wp2_with fail
    refine (parseK _ L e a HP.out _).mono ?_
    rintro en w1 ⟨v1, rfl, r1, b1⟩
    clear r1
    go_wp2_with fail
    refine (sorobanlaw21_sanity.calls 0 true _ (HLD.out.below b1) rfl).mono ?_
    rintro en w8 ⟨rfl, b8⟩
    go_wp2_with fail
    go_ret
    exact ⟨rfl, below_then b1 b1.size b8⟩
end Go.Proofs.YtnhbgahfmcicnaaGreatDoor.Pure
end
