/- A part of the proof of the claim's statement. -/
import Derived.Test.YtnhbgahfmcicnaaGreatDoorPcM28
import Derived.Test.YtnhbgahfmcicnaaGreatDoorPcPAx3
import Derived.Test.YtnhbgahfmcicnaaGreatDoorPcPAx15
import Derived.Test.YtnhbgahfmcicnaaGreatDoorPcPureSpecPrints
import Derived.Test.YtnhbgahfmcicnaaGreatDoorPcG4
import Derived.BigGuard
section
namespace Go.Proofs.YtnhbgahfmcicnaaGreatDoor.Pure
set_option linter.unusedVariables false
set_option linter.unusedSimpArgs false
open Go.RowKit Go.Shelf Go.Proofs.YtnhbgahfmcicnaaGreatDoor.PA Go.Proofs.YtnhbgahfmcicnaaGreatDoorW.PrintWords Go.Proofs.YtnhbgahfmcicnaaGreatDoorW.PrintLast Go.Proofs.YtnhbgahfmcicnaaGreatDoorW.PrintMore
attribute [local go_sem high] eqA35
theorem last_ex (L : List S35) : ∃ y : S35, ∀ n0 (h : L.length = n0 + 1), L[n0]'(by omega) = y := by
  by_cases h : 0 < L.length
  · exact ⟨L[L.length - 1]'(by omega), fun n0 h2 => by
      have e : n0 = L.length - 1 := by omega
      subst e
      rfl⟩
  · exact ⟨z35, fun n0 h2 => absurd h2 (by omega)⟩
set_option maxRecDepth 100000 in
set_option maxHeartbeats 40000000 in
theorem pieces_calls (a0 a1 : ByteArray) (w : World) (hLD : LD w) (h0 : a0.size ≤ 140737488351232) (h1 : a1.size ≤ 140737488351232) :
    Calls Tryz.prog 9 #[.string a0, .string a1] w fun e w' => e = .returned (.bool true) ∧ Below w.heap.size w w' := by
  have hu35 := Tryz.underlying35
  have HLD := Lib.hid hLD
  have hp0 := pos_f a0 h0 (k := a0.size + 2) (by omega)
  have hp1 := pos_f a1 h1 (k := a1.size + 2) (by omega)
  obtain ⟨n0, hn0⟩ : ∃ b, noPos a0.data.toList = b := ⟨_, rfl⟩
  obtain ⟨n1, hn1⟩ : ∃ b, noPos a1.data.toList = b := ⟨_, rfl⟩
  rw [hn0] at hp0
  rw [hn1] at hp1
  have HP0 := Lib.hid hp0
  have HP1 := Lib.hid hp1
  have HN0 := Lib.hid hn0
  have HN1 := Lib.hid hn1
  have H0 := Lib.hid h0
  have H1 := Lib.hid h1
  clear hLD hp0 hp1 hn0 hn1 h0 h1
  cases n0
  · go_enter Tryz.func9, Tryz.ntmps9
    go_wp2_with fail
    refine (PQ.sorobanlaw21_positions.calls _ a0 true _ HP0.out).mono ?_
    rintro e w1 ⟨rfl, ⟨m1, rfl⟩⟩
    dsimp only
    rename_i Ka ha
    refine ha _ _ ?_
    clear ha
    go_wp2_with fail
    refine (sorobanlaw21_sanity.calls 0 true _ (HLD.out.below (pw_below_drewN (Below.refl _ _) _)) rfl).mono ?_
    rintro en w8 ⟨rfl, b8⟩
    go_wp2_with fail
    go_ret
    have b0 := pw_below_drewN (Below.refl w.heap.size w) m1
    exact ⟨rfl, below_then b0 b0.size b8⟩
  · go_enter Tryz.func9, Tryz.ntmps9
    go_wp2_with fail
    refine (PQ.sorobanlaw21_positions.calls _ a0 false _ HP0.out).mono ?_
    rintro e w1 ⟨rfl, ⟨m1, rfl⟩⟩
    dsimp only
    rename_i Ka ha
    refine ha _ _ ?_
    clear ha Ka
    have BW := Lib.hid (pw_below_drewN (Below.refl w.heap.size w) m1)
    generalize w.drewN m1 = W1 at BW ⊢
    cases n1
    · go_wp2_with fail
      refine (PQ.sorobanlaw21_positions.calls _ a1 true _ HP1.out).mono ?_
      rintro e w2 ⟨rfl, ⟨m2, rfl⟩⟩
      dsimp only
      rename_i Ka ha
      refine ha _ _ ?_
      clear ha Ka
      have BW2 := Lib.hid (pw_below_drewN BW.out m2)
      generalize W1.drewN m2 = W2 at BW2 ⊢
      go_wp2_with fail
      refine (sorobanlaw21_sanity.calls 0 true _ (HLD.out.below BW2.out) rfl).mono ?_
      rintro en w8 ⟨rfl, b8⟩
      go_wp2_with fail
      go_ret
      exact ⟨rfl, below_then BW2.out BW2.out.size b8⟩
    · obtain ⟨L, e, a, hP⟩ : ∃ L e a, parseC a0.data.toList = (L, e, a) := ⟨_, _, _, rfl⟩
      obtain ⟨M, f, b, hQ⟩ : ∃ L e a, parseC a1.data.toList = (L, e, a) := ⟨_, _, _, rfl⟩
      obtain ⟨R, g, c, hR⟩ : ∃ L e a, parseC (a0 ++ a1).data.toList = (L, e, a) := ⟨_, _, _, rfl⟩
      have HP := Lib.hid hP
      have HQ := Lib.hid hQ
      have HR := Lib.hid hR
      clear hP hQ hR HP0
      have hcat : (a0.size : Int) + (a1.size : Int) ≤ 281474976702464 := by have := H0.out; have := H1.out; omega
      go_wp2_with fail
      refine (PQ.sorobanlaw21_positions.calls _ a1 false _ HP1.out).mono ?_
      rintro en w2 ⟨rfl, ⟨m2, rfl⟩⟩
      dsimp only
      rename_i Ka ha
      refine ha _ _ ?_
      clear ha Ka
      have BW2 := Lib.hid (pw_below_drewN BW.out m2)
      generalize W1.drewN m2 = W2 at BW2 ⊢
      go_wp2_with fail
      refine (parseK _ L e a HP.out _).mono ?_
      rintro en w3 ⟨v3, rfl, r3, b3⟩
      go_wp2_with fail
      refine (parseK _ M f b HQ.out _).mono ?_
      rintro en w4 ⟨v4, rfl, r4, b4⟩
      go_wp2_with fail
      refine (parseK _ R g c HR.out _).mono ?_
      rintro en w5 ⟨v5, rfl, r5, b5⟩
      dsimp only
      have bw3 := below_then BW2.out BW2.out.size b3
      have bw4 := below_then bw3 bw3.size b4
      have BW5 := Lib.hid (below_then bw4 bw4.size b5)
      have RL := Lib.hid (Kd.R_below (Kd.R_below r3 b4) b5)
      have RM := Lib.hid (Kd.R_below r4 b5)
      have RR := Lib.hid r5
      clear bw3 bw4 b3 b4 b5 r3 r4 r5
      by_cases he : e = 0
      · by_cases hf : f = 0
        · subst he hf
          have hvL := parse_valid (a := a0.data.toList) (by rw [HP.out])
          have hvM := parse_valid (a := a1.data.toList) (by rw [HQ.out])
          rw [HP.out] at hvL
          rw [HQ.out] at hvM
          obtain ⟨-, hokL, hpL, htL, -⟩ := hvL
          obtain ⟨-, hokM, hpM, htM, -⟩ := hvM
          dsimp only at hokL hpL htL hokM hpM htM
          have hL5 := hokL.len
          have hM5 := hokM.len
          have hsL : ∀ x ∈ L, x.f0.size < 4294967281 := fun x hx => by have := (lit_le (hokL.fit x hx) (!oneUp (allC L))); have := text_mem hx (!oneUp (allC L)); have := H0.out; have e : a0.data.toList.length = a0.size := by rw [Array.length_toList]; rfl
                                                                       have := (parse_pieces HP.out).1; omega
          have hargs : spec_Args.f 2000000 L = some (mostC (allC L), 0) := by
            rw [args_f (by omega) hsL (by omega), check_of hokL]
            rfl
          have hsM : ∀ x ∈ M, x.f0.size < 4294967281 := fun x hx => by have := (lit_le (hokM.fit x hx) (!oneUp (allC M))); have := text_mem hx (!oneUp (allC M)); have := H1.out; have e : a1.data.toList.length = a1.size := by rw [Array.length_toList]; rfl
                                                                       have := (parse_pieces HQ.out).1; omega
          have hargs2 : spec_Args.f 2000000 M = some (mostC (allC M), 0) := by
            rw [args_f (by omega) hsM (by omega), check_of hokM]
            rfl
          have HAM := Lib.hid hargs2
          have HSL := Lib.hid hsL
          have HSM := Lib.hid hsM
          have hlen0 : a0.data.toList.length = a0.size := by rw [Array.length_toList]; rfl
          have hlen1 : a1.data.toList.length = a1.size := by rw [Array.length_toList]; rfl
          have hboth : Both a0.data.toList a1.data.toList L M := both_parse HN0.out HN1.out HP.out HQ.out
          unfold Both at hboth
          rw [← Array.toList_append, show a0.data ++ a1.data = (a0 ++ a1).data from (ByteArray.data_append ..).symm, HR.out, hlen0, hlen1] at hboth
          have HBO := Lib.hid hboth
          have HZ0 := Lib.hid (show a0.size ≤ 2000 from by have := (parse_pieces HP.out).1; omega)
          have HZ1 := Lib.hid (show a1.size ≤ 2000 from by have := (parse_pieces HQ.out).1; omega)
          clear hargs2 hboth hlen0 hlen1
          have HA := Lib.hid hargs
          have HOL := Lib.hid hokL
          have HOM := Lib.hid hokM
          have HPL := Lib.hid hpL
          have HPM := Lib.hid hpM
          obtain ⟨A1, c1, rfl⟩ := Kd.R_slice RL.out
          clear hargs hokL hokM hpL hpM hsL hsM htL htM
          first | (rename_i Ka ha; refine ha _ _ ?_; clear ha Ka) | skip
          go_wp2_with fail
          refine (spec_Args.calls 2000000 A1 c1 L (mostC (allC L)) 0 _ (Kd.R_reads' RL.out).2.2 (Kd.R_reads' RL.out).2.1 HA.out).mono ?_
          rintro en w6 ⟨rfl, b6⟩
          have bw6 := below_then BW5.out BW5.out.size b6
          have rl := Kd.R_below RL.out b6
          have rm := Kd.R_below RM.out b6
          have rr := Kd.R_below RR.out b6
          clear RL RM RR BW5
          have RL := Lib.hid rl
          have RM := Lib.hid rm
          have RR := Lib.hid rr
          have BW6 := Lib.hid bw6
          clear rl rm rr bw6 b6 HA
          obtain ⟨s, hs⟩ : ∃ s, mostC (allC L) = s := ⟨_, rfl⟩
          have hs64 := most_le HOL.out.fit
          rw [hs] at hs64 HBO ⊢
          have HS := Lib.hid hs
          have HS64 := Lib.hid hs64
          clear hs hs64 HPL HPM
          dsimp only
          first | (rename_i Ka ha; refine ha _ _ ?_; clear ha Ka) | skip
          obtain ⟨A2, c2, rfl⟩ := Kd.R_slice RM.out
          obtain ⟨A3, c3, rfl⟩ := Kd.R_slice RR.out
          obtain ⟨-, hc1, q1⟩ := Kd.R_reads' RL.out
          have QL := Lib.hid q1
          have hlit := OwnRow.lit (R := k35.M (w6.alloc (.cells #[] 35)) w6.heap.size (fun k => True ∧ some k ≠ Value.ownBlock (.slice (some ⟨w6.heap.size, 0, none⟩) 0 0))) (e := 35) (size := 9) (ps := ([] : List S35)) (inner := []) w6 w6.heap.size (Reps.none _ _) (Nat.le_refl _) (by simp)
          have hrow : Kd.R k35 35 (w6.alloc (.cells #[] 35)) w6.heap.size (fun _ => True) (.slice (some ⟨w6.heap.size, 0, none⟩) 0 0) ([] : List S35) := ⟨fun _ _ => trivial, hlit⟩
          have HRW := Lib.hid hrow
          have HL := Lib.hid (show (([] : List S35).length + L.length) * 80 ≤ 140737488355328 from by simp only [List.length_nil]; omega)
          have HL5 := Lib.hid (And.intro hL5 hM5)
          clear hlit hrow q1 hc1 hL5 hM5
          go_wp2_with (at_builtin; refine Kd.R_append_rows k35 (w0 := w6) w6.heap.size rfl (.tmp 61) (.tmp 62) 22 35 (.agg #[.string ⟨#[]⟩, .int .i64 0, .int .i64 0, .int .i64 0, .int .i64 0, .int .i64 0, .int .i64 0, .int .i64 0, .int .u8 0]) 80 rfl Tryz.underlying22 info35 rfl (by decide) (by decide) (.slice (some ⟨w6.heap.size, 0, none⟩) 0 0) [] L A1 L.length c1 (fun _ => True) (fun _ => False) rfl rfl HRW.out (Kd.C_alloc QL.out _) ?f1 (fun _ h => h.elim) (fun _ _ => trivial) (below_alloc (Below.refl _ _) _) ?f2 HL.out ?_; (case f1 => intro x cs h; rw [k35_open h]; exact k35_mkM _ _ _ x); (case f2 => simp); intro v1 w7 ho1 hb1 hg1 hat1)
          obtain ⟨A4, c4, rfl⟩ := Kd.R_slice ho1
          have hcr : CanR w6 A4 L.length c4 (joinC s L (M.take 0)) w7 := ⟨by rw [List.take_zero, join_nil]; exact ho1, hb1⟩
          clear ho1 hb1 hg1 hat1 HRW HL QL
          go_loopg [16, 17] M.length (fun k v i wr => ∃ (m n c : Nat) (A : Option Addr), m + k = M.length ∧ i = .int .i64 m ∧ v = .slice A n c ∧ CanR w6 A n c (joinC s L (M.take m)) wr)
          case atStart => exact ⟨0, L.length, c4, A4, by omega, rfl, rfl, hcr⟩
          case round =>
            clear hcr
            obtain ⟨m, n, c, A, hm, rfl, rfl, cr⟩ := hrel
            have HM := Lib.hid hm
            have hm0 : (0 : Int) ≤ (m : Int) := Int.natCast_nonneg _
            have hm2 : (M.length : Int) ≤ 500 := by have := HL5.out.2; omega
            clear hm
            by_cases hlt : m < M.length
            · have hm1 : (m : Int) < (M.length : Int) := by omega
              obtain ⟨gM, rfl⟩ : ∃ g, A2 = some ⟨g, 0, none⟩ := by
                obtain ⟨g, c, e⟩ := row_some RM.out M.length rfl (by omega)
                injection e with e1 e2 e3
                exact ⟨g, e1⟩
              obtain ⟨x, hx⟩ : ∃ x, M[m] = x := ⟨_, rfl⟩
              have HX := Lib.hid hx
              have HCR := Lib.hid cr
              obtain ⟨x8, hx8⟩ : ∃ x8, (M[0]'(by omega)).f8 = x8 := ⟨_, rfl⟩
              obtain ⟨tM, htM⟩ : ∃ b, (x8 == 0) = b := ⟨_, rfl⟩
              obtain ⟨t0, ht0⟩ : ∃ b, ((m : Int) == 0) = b := ⟨_, rfl⟩
              obtain ⟨tl, htl⟩ : ∃ b, decide (0 < L.length) = b := ⟨_, rfl⟩
              obtain ⟨y, hy⟩ := last_ex L
              obtain ⟨ty, hty⟩ : ∃ b, (y.f8 == 0) = b := ⟨_, rfl⟩
              have hcM8 : wr.cell? ⟨gM, 8, none⟩ = some (.int .u8 x8) := by
                have := (row_elem (Kd.R_below RM.out cr.b) 0 (by omega)).1 8 (.int .u8 (M[0]'(by omega)).f8) rfl
                rw [hx8] at this
                simpa using this
              have HXX := Lib.hid hx8
              have hM0 : (0 : Int) < (M.length : Int) := by omega
              have hM1 : 0 < M.length := by omega
              have HT := Lib.hid (show (tM = true ↔ x8 = 0) ∧ (t0 = true ↔ m = 0) ∧ (tl = true ↔ 0 < L.length) ∧ (ty = true ↔ y.f8 = 0) from by subst htM ht0 htl hty; simp)
              have HY := Lib.hid hy
              clear hx hx8 cr hy
              go_upto_region 15 with fail
              go_cut [16, 17, 93] (fun s16 s17 s93 wc => s16 = .slice A n c ∧ s17 = .int .i64 (m : Int) ∧ s93 = .bool (t0 && tM && tl && ty) ∧ wr = wc)
              case first =>
                cases t0
                · go_wp2_with fail
                  go_meet
                  case rel => exact ⟨rfl, rfl, rfl, rfl⟩
                · cases tM
                  · go_wp2_with fail
                    go_meet
                    case rel => exact ⟨rfl, rfl, rfl, rfl⟩
                  · cases tl
                    · go_wp2_with fail
                      go_meet
                      case rel => exact ⟨rfl, rfl, rfl, rfl⟩
                    · obtain ⟨n0, hn0⟩ : ∃ n0, L.length = n0 + 1 := ⟨L.length - 1, by have := HT.out.2.2.1.1 rfl; omega⟩
                      obtain ⟨gL, rfl⟩ : ∃ g, A1 = some ⟨g, 0, none⟩ := by
                        obtain ⟨g, c, e⟩ := row_some RL.out L.length rfl (by omega)
                        injection e with e1 e2 e3
                        exact ⟨g, e1⟩
                      have hcL8 : wr.cell? ⟨gL, n0 * 9 + 8, none⟩ = some (.int .u8 y.f8) := by
                        have := (row_elem (Kd.R_below RL.out HCR.out.b) n0 (by omega)).1 8 (.int .u8 (L[n0]'(by omega)).f8) rfl
                        rw [HY.out n0 hn0] at this
                        exact this
                      have hwr : IntKind.i64.wrap ((L.length : Int) - 1) = (n0 : Int) := (i64_w _).trans (by have := HL5.out.1; unfold wrap64; omega)
                      have hn1 : (n0 : Int) < (L.length : Int) := by omega
                      have hn2 : (0 : Int) ≤ (n0 : Int) := Int.natCast_nonneg _
                      have HN := Lib.hid hn0
                      clear hn0
                      cases ty
                      · go_wp2_with fail
                        go_meet
                        case rel => exact ⟨rfl, rfl, rfl, rfl⟩
                      · go_wp2_with fail
                        go_meet
                        case rel => exact ⟨rfl, rfl, rfl, rfl⟩
              case rest =>
                obtain ⟨rfl, rfl, rfl, rfl⟩ := hcut
                clear htM ht0 htl hty hcM8
                obtain ⟨gM0, hgM⟩ : ∃ g, g = gM := ⟨_, rfl⟩
                by_cases hmeet : (t0 && tM && tl && ty) = true
                · rw [hmeet]
                  have hm4 : m = 0 ∧ (M[0]'(by omega)).f8 = 0 ∧ 0 < L.length ∧ y.f8 = 0 := by
                    simp only [Bool.and_eq_true] at hmeet
                    exact ⟨HT.out.2.1.1 hmeet.1.1.1, by rw [HXX.out]; exact HT.out.1.1 hmeet.1.1.2, HT.out.2.2.1.1 hmeet.1.2, HT.out.2.2.2.1 hmeet.2⟩
                  clear hmeet
                  obtain ⟨n0, hn0⟩ : ∃ n0, L.length = n0 + 1 := ⟨L.length - 1, by have := hm4.2.2.1; omega⟩
                  have hy0 := HY.out n0 hn0
                  have hjn : joinC s L (M.take m) = L := by rw [hm4.1, List.take_zero, join_nil]
                  have cr := HCR.out
                  rw [hjn] at cr
                  have hnL : n = L.length := (Kd.R_reads' cr.row).1
                  obtain ⟨gW, rfl⟩ := cr.some_ (by omega)
                  have hel := row_elem cr.row n0 (by omega)
                  rw [hy0] at hel
                  have hW0 : wr.cell? ⟨gW, n0 * 9, none⟩ = some (.string y.f0) := hel.1 0 _ rfl
                  have hWf : wr.frozen? ⟨gW, n0 * 9, none⟩ = false := hel.2 _
                  obtain ⟨z, hz⟩ : ∃ z, (M[0]'(by omega)) = z := ⟨_, rfl⟩
                  have hM00 : wr.cell? ⟨gM, 0, none⟩ = some (.string z.f0) := by
                    have := (row_elem (Kd.R_below RM.out HCR.out.b) 0 (by omega)).1 0 (.string (M[0]'(by omega)).f0) rfl
                    rw [hz] at this
                    simpa using this
                  have hcc : (9223372036854775807 < y.f0.size + z.f0.size) = False := eq_false <| by
                    have h1 := HSL.out y (by rw [← hy0]; exact List.getElem_mem _)
                    have h2 := HSM.out z (by rw [← hz]; exact List.getElem_mem _)
                    omega
                  have hwr : IntKind.i64.wrap ((n : Int) - 1) = (n0 : Int) := (i64_w _).trans (by have := HL5.out.1; unfold wrap64; omega)
                  have hn1 : (n0 : Int) < (n : Int) := by omega
                  have hn2 : (0 : Int) ≤ (n0 : Int) := Int.natCast_nonneg _
                  have hset : ∀ W, CanR w6 (some ⟨gW, 0, none⟩) n c L W → CanR w6 (some ⟨gW, 0, none⟩) n c (L.set n0 { y with f0 := y.f0 ++ z.f0 }) (W.setCell ⟨gW, n0 * 9, none⟩ (.string (y.f0 ++ z.f0))) :=
                    fun W h => h.set n0 (by omega) 0 (by decide) (.string (y.f0 ++ z.f0)) { y with f0 := y.f0 ++ z.f0 } (by rw [hy0]; rfl)
                  have hJ : joinC s L (M.take (m + 1)) = L.set n0 { y with f0 := y.f0 ++ z.f0 } := by
                    rw [hm4.1, Nat.zero_add, join_meet hn0 (by omega) hm4.2.1 (by rw [hy0]; exact hm4.2.2.2), hy0, hz]
                  have HSET := Lib.hid hset
                  have HJ := Lib.hid hJ
                  have CRW := Lib.hid cr
                  clear hm4 hn0 hy0 hjn cr hnL hel hz hset hJ
                  go_wp2_with fail
                  go_region_law (go_simp)
                  all_goals
                    go_wp2_with fail
                    go_roundg (gk - 1)
                    case measure => have := HM.out; omega
                    case rel => exact ⟨m + 1, n, c, some ⟨gW, 0, none⟩, by have := HM.out; omega, by go_num, rfl, by rw [HJ.out]; exact (HSET.out _ CRW.out).below (by repeat (first | exact Below.refl _ _ | apply pw_below_drewN | apply below_drew1))⟩
                · have hmf : (t0 && tM && tl && ty) = false := by simpa using hmeet
                  rw [hmf]
                  have hJ : joinC s L (M.take (m + 1)) = joinC s L (M.take m) ++ [later s x] := by
                    rw [join_step hlt (fun n0 hn h1 h2 h3 => hmeet (by
                      have e1 := HT.out.2.1.2 h1
                      have e2 : x8 = 0 := by rw [← HXX.out]; subst h1; exact h2
                      have e2 := HT.out.1.2 e2
                      have e3 := HT.out.2.2.1.2 (by omega)
                      have e4 := HT.out.2.2.2.2 (by rw [← HY.out n0 hn]; exact h3)
                      rw [e1, e2, e3, e4]; rfl)), HX.out]
                  have hxf := nums_le (HOM.out.fit x (by rw [← HX.out]; exact List.getElem_mem _))
                  have hla := later_f x s 1 (by have := HS64.out; omega) (by omega)
                  obtain ⟨z, hz⟩ : ∃ z, later s x = z := ⟨_, rfl⟩
                  rw [hz] at hJ hla
                  have hel := (row_elem (Kd.R_below RM.out HCR.out.b) m hlt).1
                  rw [HX.out] at hel
                  have e0 : wr.cell? ⟨gM, m * 9, none⟩ = some (.string x.f0) := hel 0 _ rfl
                  have e1 : wr.cell? ⟨gM, m * 9 + 1, none⟩ = some (.int .i64 x.f1) := hel 1 _ rfl
                  have e2 : wr.cell? ⟨gM, m * 9 + 2, none⟩ = some (.int .i64 x.f2) := hel 2 _ rfl
                  have e3 : wr.cell? ⟨gM, m * 9 + 3, none⟩ = some (.int .i64 x.f3) := hel 3 _ rfl
                  have e4 : wr.cell? ⟨gM, m * 9 + 4, none⟩ = some (.int .i64 x.f4) := hel 4 _ rfl
                  have e5 : wr.cell? ⟨gM, m * 9 + 5, none⟩ = some (.int .i64 x.f5) := hel 5 _ rfl
                  have e6 : wr.cell? ⟨gM, m * 9 + 6, none⟩ = some (.int .i64 x.f6) := hel 6 _ rfl
                  have e7 : wr.cell? ⟨gM, m * 9 + 7, none⟩ = some (.int .i64 x.f7) := hel 7 _ rfl
                  have e8 : wr.cell? ⟨gM, m * 9 + 8, none⟩ = some (.int .u8 x.f8) := hel 8 _ rfl
                  have HJ := Lib.hid hJ
                  have HLA := Lib.hid hla
                  have HSZ := Lib.hid (show ((joinC s L (M.take m)).length + 1) * 80 ≤ 140737488355328 from by
                    have h1 := join_len s L (M.take m)
                    have h2 := List.length_take_le m M
                    have h3 := HL5.out
                    omega)
                  clear hmf hmeet hJ hxf hla hz hel
                  go_wp2_with fail
                  refine (PQ.sorobanlaw21_later.calls 2 x.f0 x.f1 x.f2 x.f3 x.f4 x.f5 x.f6 x.f7 x.f8 s z.f0 z.f1 z.f2 z.f3 z.f4 z.f5 z.f6 z.f7 z.f8 _ HLA.out).mono ?_
                  rintro en w8 ⟨rfl, b8⟩
                  have c8 := HCR.out.below b8
                  have C8 := Lib.hid c8
                  clear c8 b8 e0 e1 e2 e3 e4 e5 e6 e7 e8
                  go_wp2_with (at_builtin; refine Kd.R_append k35 (w0 := w6) w6.heap.size rfl (.tmp 112) (.tmp 119) 22 35 (.agg #[.string ⟨#[]⟩, .int .i64 0, .int .i64 0, .int .i64 0, .int .i64 0, .int .i64 0, .int .i64 0, .int .i64 0, .int .u8 0]) 80 rfl Tryz.underlying22 info35 rfl (by decide) (by decide) (.slice A n c) (joinC s L (M.take m)) z [.string z.f0, .int .i64 z.f1, .int .i64 z.f2, .int .i64 z.f3, .int .i64 z.f4, .int .i64 z.f5, .int .i64 z.f6, .int .i64 z.f7, .int .u8 z.f8] (fun _ => True) (fun _ => False) rfl rfl (k35_mkM _ _ _ z) (fun _ h => h.elim) (fun _ _ => trivial) C8.out.row C8.out.b C8.out.b.size HSZ.out ?_; intro v1 w9 ho1 hb1 hg1 hat1; obtain ⟨A5, c5, rfl⟩ := Kd.R_slice ho1)
                  go_roundg (gk - 1)
                  case measure => have := HM.out; omega
                  case rel => exact ⟨m + 1, _, c5, A5, by have := HM.out; omega, by go_num, rfl, ⟨by rw [List.length_append] at ho1; rw [HJ.out]; exact ho1, hb1⟩⟩
            · obtain rfl : m = M.length := by have := HM.out; omega
              rw [List.take_length] at cr
              obtain ⟨J, hJ⟩ : ∃ J, joinC s L M = J := ⟨_, rfl⟩
              have hbo := HBO.out
              have hJl := join_len s L M
              rw [hJ] at cr hbo hJl
              have hJ1 : J.length ≤ 1000 := by have := HL5.out; omega
              obtain rfl : n = J.length := (Kd.R_reads' cr.row).1
              have BW7 := Lib.hid (below_then BW6.out BW6.out.size cr.b)
              have HDL := Lib.hid (show LD wr from HLD.out.below BW7.out)
              have RRW := Lib.hid (Kd.R_below RR.out cr.b)
              have RMW := Lib.hid (Kd.R_below RM.out cr.b)
              have HSAME := Lib.hid (show sorobanref21_Same.f 2000000 J J = some true from by rw [rsame_f J J (by omega) (by omega) (by omega), sameC_self])
              have CR := Lib.hid cr
              clear hJ HBO hJl cr
              rcases hbo with hb | ⟨⟨c', hb⟩, hlim⟩
              · simp only [Prod.mk.injEq] at hb
                obtain ⟨rfl, rfl, rfl⟩ := hb
                go_wp2_with fail
                refine (sorobanlaw21_sanity.calls 0 true _ HDL.out rfl).mono ?_
                rintro en w8 ⟨rfl, b8⟩
                go_wp2_with fail
                refine (sorobanref21_Same.calls 2000000 A3 c3 _ A c _ true _ (Kd.R_reads' (Kd.R_below RRW.out b8)).2.2 (Kd.R_reads' RRW.out).2.1 (Kd.R_reads' (CR.out.below b8).row).2.2 (Kd.R_reads' CR.out.row).2.1 HSAME.out).mono ?_
                rintro en w9 ⟨rfl, ⟨nd, rfl⟩⟩
                dsimp only
                first | (rename_i Ka ha; refine ha _ _ ?_; clear ha Ka) | skip
                go_wp2_with fail
                go_ret
                exact ⟨rfl, pw_below_drewN (below_then BW7.out BW7.out.size b8) nd⟩
              · simp only [Prod.mk.injEq] at hb
                obtain ⟨rfl, rfl, rfl⟩ := hb
                have hmk := most_le HOM.out.fit
                have ham := HAM.out
                obtain ⟨k, hk⟩ : ∃ k, mostC (allC M) = k := ⟨_, rfl⟩
                rw [hk] at hlim hmk ham
                have hs64 := HS64.out
                obtain ⟨t1, ht1⟩ : ∃ b, decide ((2000 : Int) < (a0.size : Int) + (a1.size : Int)) = b := ⟨_, rfl⟩
                obtain ⟨t2, ht2⟩ : ∃ b, decide (500 < J.length) = b := ⟨_, rfl⟩
                obtain ⟨t3, ht3⟩ : ∃ b, decide (64 < s + k) = b := ⟨_, rfl⟩
                have ht : (t1 || (t2 || t3)) = true := by
                  rw [← ht1, ← ht2, ← ht3]
                  simp only [Bool.or_eq_true, decide_eq_true_eq]
                  omega
                have hw1 : IntKind.i64.wrap ((a0.size : Int) + (a1.size : Int)) = (a0.size : Int) + (a1.size : Int) := (i64_w _).trans (by have := HZ0.out; have := HZ1.out; unfold wrap64; omega)
                have hw2 : IntKind.i64.wrap (s + k) = s + k := (i64_w _).trans (by unfold wrap64; omega)
                have ht2' : decide ((500 : Int) < (J.length : Int)) = t2 := by rw [← ht2]; exact decide_eq_decide.2 (by omega)
                have HT := Lib.hid ht
                have HAM2 := Lib.hid ham
                clear hlim hk hmk ham hs64 HAM ht hJ1
                go_wp2_with fail
                refine (spec_Args.calls 2000000 A2 c2 M k 0 _ (Kd.R_reads' RMW.out).2.2 (Kd.R_reads' RMW.out).2.1 HAM2.out).mono ?_
                rintro en w8 ⟨rfl, b8⟩
                have BW8 := Lib.hid (below_then BW7.out BW7.out.size b8)
                clear b8
                go_wp2_with fail
                refine (sorobanlaw21_sanity.calls 0 true _ (HLD.out.below BW8.out) rfl).mono ?_
                rintro en w9 ⟨rfl, b9⟩
                dsimp only
                first | (rename_i Ka ha; refine ha _ _ ?_; clear ha Ka) | skip
                cases t1
                · cases t2
                  · cases t3
                    · exact absurd HT.out (by decide)
                    · go_wp2_with fail
                      go_ret
                      exact ⟨rfl, below_then BW8.out BW8.out.size b9⟩
                  · go_wp2_with fail
                    go_ret
                    exact ⟨rfl, below_then BW8.out BW8.out.size b9⟩
                · go_wp2_with fail
                  go_ret
                  exact ⟨rfl, below_then BW8.out BW8.out.size b9⟩
        · have hfb : (f != 0) = true := bne_iff_ne.2 hf
          subst he
          clear hf
          first | (rename_i Ka ha; refine ha _ _ ?_; clear ha Ka) | skip
          go_wp2_with fail
          refine (sorobanlaw21_sanity.calls 0 true _ (HLD.out.below BW5.out) rfl).mono ?_
          rintro en w8 ⟨rfl, b8⟩
          go_wp2_with fail
          go_ret
          exact ⟨rfl, below_then BW5.out BW5.out.size b8⟩
      · have heb : (e != 0) = true := bne_iff_ne.2 he
        clear he
        first | (rename_i Ka ha; refine ha _ _ ?_; clear ha Ka) | skip
        go_wp2_with fail
        refine (sorobanlaw21_sanity.calls 0 true _ (HLD.out.below BW5.out) rfl).mono ?_
        rintro en w8 ⟨rfl, b8⟩
        go_wp2_with fail
        go_ret
        exact ⟨rfl, below_then BW5.out BW5.out.size b8⟩
end Go.Proofs.YtnhbgahfmcicnaaGreatDoor.Pure
end
