/- A part of the proof that Parse returns what the specification returns, for every string. -/
import Derived.Test.YtnhbgahfmcicnaaGreatDoorPsPAx10
import Derived.Test.YtnhbgahfmcicnaaGreatDoorPsG2b
import Derived.Outline
section
namespace Go.Proofs.YtnhbgahfmcicnaaGreatDoor.PA
set_option linter.unusedVariables false
set_option linter.unusedSimpArgs false
open Go.RowKit Go.Shelf Go.Proofs.YtnhbgahfmcicnaaGreatDoorW.PrintWords Go.Proofs.YtnhbgahfmcicnaaGreatDoorW.PrintLast Go.Proofs.YtnhbgahfmcicnaaGreatDoorW.PrintMore
set_option maxRecDepth 100000 in
set_option maxHeartbeats 2000000 in
theorem lengths_calls (w : World) : Calls Tryz.prog 83 #[] w fun e w' => e = .returned (.slice (some ⟨w.heap.size, 0, none⟩) 12 12) ∧ w.alloc (.cells modVals 9) = w' := by
  unfold modVals
  go_enter Tryz.func83, Tryz.ntmps83
  go_wp2
  go_ret
  exact ⟨rfl, rfl⟩
theorem modVals_at (k : Nat) (hk : k < 12) : modVals[k]? = some (.string (modAt k)) := by
  rcases (by omega : k = 0 ∨ k = 1 ∨ k = 2 ∨ k = 3 ∨ k = 4 ∨ k = 5 ∨ k = 6 ∨ k = 7 ∨ k = 8 ∨ k = 9 ∨ k = 10 ∨ k = 11) with rfl | rfl | rfl | rfl | rfl | rfl | rfl | rfl | rfl | rfl | rfl | rfl <;> rfl
theorem bestMod_one (l : List UInt8) : bestMod l 1 = 0 := by
  unfold bestMod
  split <;> rfl
theorem data_inj {a b : ByteArray} (h : a.data.toList = b.data.toList) : a = b := ByteArray.ext (Array.ext' h)
theorem and_pre {a b : List UInt8} {i j : Nat} (h : a.isPrefixOf b = true) (h2 : i < j) : (a.isPrefixOf b && decide (i < j)) = true := by
  rw [h, decide_eq_true h2]
  rfl
theorem and_pre_left {a : Bool} {P : Prop} [Decidable P] (h : (a && decide P) = true) : a = true := by
  cases a
  · cases h
  · rfl
theorem and_pre_right {a : Bool} {P : Prop} [Decidable P] (h : (a && decide P) = true) : P := by
  cases a
  · cases h
  · exact of_decide_eq_true h
theorem modAt_data (k : Nat) : (modAt k).data.toList = mods.getD k [] := rfl
theorem pre_of_ext {s : ByteArray} {p k : Nat} {l : List UInt8} (hl : s.data.toList.drop p = l) (hp : p + (modAt k).size ≤ s.size) (he : s.extract p (p + (modAt k).size) = modAt k) : (mods.getD k []).isPrefixOf l = true := by
  have h2 : (s.data.toList.drop p).take (modAt k).size = mods.getD k [] := by
    rw [← modAt_data, ← he, Lib.extract_data, he, Nat.add_sub_cancel_left]
  rw [List.isPrefixOf_iff_prefix, ← h2, hl]
  exact List.take_prefix _ _
theorem ext_of_pre {s : ByteArray} {p k : Nat} {l : List UInt8} (hl : s.data.toList.drop p = l) (h : (mods.getD k []).isPrefixOf l = true) : s.extract p (p + (modAt k).size) = modAt k := by
  have h1 := List.isPrefixOf_iff_prefix.1 h
  apply data_inj
  rw [Lib.extract_data, modAt_data, hl, Nat.add_sub_cancel_left, modAt_size]
  exact (List.prefix_iff_eq_take.1 h1).symm
theorem size_of_pre {s : ByteArray} {p k : Nat} {l : List UInt8} (hl : s.data.toList.drop p = l) (h : (mods.getD k []).isPrefixOf l = true) (hp : p ≤ s.size) : p + (modAt k).size ≤ s.size := by
  have h1 := (List.isPrefixOf_iff_prefix.1 h).length_le
  rw [← hl, List.length_drop, data_length, ← modAt_size] at h1
  omega
def sorobanref21_reader_length.f (s0_0 : ByteArray) (s0_1 : Int) (s0_2 : Int) (s0_3 : Bool) (s0_4 : Bool) : Option (Int × ByteArray × Int × Int × Bool × Bool) :=
  if 0 ≤ s0_1 ∧ s0_1 ≤ s0_0.size ∧ s0_0.size ≤ 140737488351232 then
    some ((bestMod (s0_0.data.toList.drop s0_1.toNat) 12 : Int), s0_0, s0_1 + (modLen (bestMod (s0_0.data.toList.drop s0_1.toNat) 12) : Nat), s0_2, s0_3, s0_4)
  else none
set_option maxRecDepth 100000 in
set_option maxHeartbeats 4000000 in
theorem sorobanref21_reader_length.calls (g : Nat) (s0_0 : ByteArray) (s0_1 : Int) (s0_2 : Int) (s0_3 : Bool) (s0_4 : Bool) (r1 : Int) (r2 : ByteArray) (r3 : Int) (r4 : Int) (r5 : Bool) (r6 : Bool) (w0 w : World) (hI : IsS65 w0 w g s0_0 s0_1 s0_2 s0_3 s0_4) (hB : Below w0.heap.size w0 w) (h : sorobanref21_reader_length.f s0_0 s0_1 s0_2 s0_3 s0_4 = some (r1, r2, r3, r4, r5, r6)) :
    Calls Tryz.prog 66 #[.pointer (some ⟨g, 0, none⟩)] w fun e w' => e = .returned (.int .i64 r1) ∧ IsS65 w0 w' g r2 r3 r4 r5 r6 ∧ Below w0.heap.size w0 w' ∧ KeepBut w w' g none := by
  unfold sorobanref21_reader_length.f at h
  by_cases c : 0 ≤ s0_1 ∧ s0_1 ≤ s0_0.size ∧ s0_0.size ≤ 140737488351232
  · rw [if_pos c] at h
    obtain ⟨c1, c2, c3⟩ := c
    obtain ⟨p, rfl⟩ := Int.eq_ofNat_of_zero_le c1
    rw [Int.toNat_natCast] at h
    obtain ⟨l, hl⟩ : ∃ l, s0_0.data.toList.drop p = l := ⟨_, rfl⟩
    rw [hl] at h
    simp only [Option.some.injEq, Prod.mk.injEq] at h
    obtain ⟨rfl, rfl, rfl, rfl, rfl, rfl⟩ := h
    have HL := Lib.hid hl
    have hbl := fun (k : Nat) (hk : k ≤ 12) => bestMod_lt l k hk
    have HBL := Lib.hid hbl
    have HI := Lib.hid hI
    have HB := Lib.hid hB
    have hglt := hI.lt
    obtain ⟨W, hW⟩ : ∃ W, w.alloc (.cells modVals 9) = W := ⟨_, rfl⟩
    have hIW : IsS65 w0 W g s0_0 (p : Int) s0_2 s0_3 s0_4 := by rw [← hW]; exact hI.alloc _
    have hBW : Below w0.heap.size w0 W := by rw [← hW]; exact below_alloc hB _
    have hKW : KeepBut w W g none := by rw [← hW]; exact keep_alloc (KeepBut.refl _ _ _) _
    have hGW : W.heap[w.heap.size]? = some (.cells modVals 9 (0, 0)) := by rw [← hW]; exact World.alloc_heap_new w _
    obtain ⟨ad, had⟩ : ∃ ad, (⟨w.heap.size, 0, none⟩ : Addr) = ad := ⟨_, rfl⟩
    have hcW : ∀ k : Nat, k < 12 → W.cell? (ad.add k) = some (.string (modAt k)) := fun k hk => by
      rw [← had]
      have e : (⟨w.heap.size, 0, none⟩ : Addr).add k = ⟨w.heap.size, k, none⟩ := by
        unfold Addr.add
        by_cases h0 : k = 0
        · subst h0; rfl
        · simp [h0]
      rw [e]
      unfold World.cell?
      rw [hGW]
      exact modVals_at k hk
    have HIW := Lib.hid hIW
    have HBW := Lib.hid hBW
    have HKW := Lib.hid hKW
    have HCW := Lib.hid hcW
    clear hl hbl hI hB hIW hBW hKW hcW hGW
    go_enter Tryz.func66, Tryz.ntmps66
    go_wp2_with (go_at_call 83; refine (lengths_calls _).mono ?_; rintro e w' ⟨rfl, hw⟩; rw [← hw, hW, had]; clear hw)
    clear hW had
    go_loopw [3, 5] (fun b i wr => ∃ k : Nat, 1 ≤ k ∧ k ≤ 12 ∧ i = .int .i64 k ∧ b = .int .i64 (bestMod l k : Nat) ∧ ∃ m, wr = W.drewN m) (fun _ i _ => 12 - (intOf i).toNat)
    case atStart => exact ⟨1, by omega, by omega, rfl, by rw [bestMod_one]; rfl, 0, rfl⟩
    case round =>
      obtain ⟨k, hk1, hk, rfl, rfl, m, rfl⟩ := hrel
      obtain ⟨HG, hg⟩ := HIW.out
      have hc0 := cellS65_0 HG
      have hc1 := cellS65_1 HG
      have hf0 := blk_frozen HG 1
      have HGH := Lib.hid HG
      clear HG
      by_cases hlt : k < 12
      · have hb := HBL.out k hk
        obtain ⟨b, hbe⟩ : ∃ b, bestMod l k = b := ⟨_, rfl⟩
        have hbs : bestMod l (k + 1) = if (mods.getD k []).isPrefixOf l && decide ((mods.getD b []).length < (mods.getD k []).length) then k else b := by rw [← hbe]; rfl
        rw [hbe] at hb ⊢
        have HBS := Lib.hid hbs
        clear hbs hbe
        have hx1 := HCW.out k hlt
        have hx2 := HCW.out b hb
        have hi0 : (0 : Int) ≤ (k : Int) := Int.natCast_nonneg k
        have hi1 : (k : Int) < 12 := by omega
        have hj0 : (0 : Int) ≤ (b : Int) := Int.natCast_nonneg b
        have hj1 : (b : Int) < 12 := by omega
        have hk2 : (modAt k).size ≤ 2 := by have := mods_len k; have := modAt_size k; omega
        have hsum : IntKind.i64.wrap ((p : Int) + ((modAt k).size : Int)) = (p : Int) + ((modAt k).size : Int) := IntWalk.i64_in _ (by omega)
        by_cases hs : (modAt b).size < (modAt k).size
        · have hs2 := hs
          by_cases hp : p + (modAt k).size ≤ s0_0.size
          · have hp2 : (p : Int) + ((modAt k).size : Int) ≤ (s0_0.size : Int) := by omega
            have hp3 : (p : Int) ≤ (p : Int) + ((modAt k).size : Int) := by omega
            have hp4 : (0 : Int) ≤ (p : Int) + ((modAt k).size : Int) := by omega
            have hto : ((p : Int) + ((modAt k).size : Int)).toNat = p + (modAt k).size := by omega
            by_cases he : s0_0.extract p (p + (modAt k).size) = modAt k
            · go_wp2_with fail
              go_quiet (fail)
              go_wp2
              go_roundw
              case rel => exact ⟨k + 1, by omega, by omega, by go_num, by rw [HBS.out, if_pos (and_pre (pre_of_ext HL.out hp he) (by rw [← modAt_size, ← modAt_size]; exact hs))], _, rfl⟩
              case measure => simp [intOf]; omega
            · have he2 : ((s0_0.extract p (p + (modAt k).size)).toList == (modAt k).toList) = false := by
                rw [Lib.toList_data, Lib.toList_data]
                exact beq_false_of_ne (fun h => he (data_inj h))
              go_wp2_with fail
              go_quiet (fail)
              go_wp2
              go_roundw
              case rel => exact ⟨k + 1, by omega, by omega, by go_num, by rw [HBS.out, if_neg (fun h => he (ext_of_pre HL.out (and_pre_left h)))], _, rfl⟩
              case measure => simp [intOf]; omega
          · have hp2 : decide ((p : Int) + ((modAt k).size : Int) ≤ (s0_0.size : Int)) = false := decide_eq_false (by omega)
            go_wp2_with fail
            go_quiet (fail)
            go_wp2
            go_roundw
            case rel => exact ⟨k + 1, by omega, by omega, by go_num, by rw [HBS.out, if_neg (fun h => hp (size_of_pre HL.out (and_pre_left h) (by omega)))], _, rfl⟩
            case measure => simp [intOf]; omega
        · go_wp2_with fail
          go_quiet (fail)
          go_wp2
          go_roundw
          case rel => exact ⟨k + 1, by omega, by omega, by go_num, by rw [HBS.out, if_neg (fun h => hs (by rw [modAt_size, modAt_size]; exact and_pre_right h))], _, rfl⟩
          case measure => simp [intOf]; omega
      · obtain rfl : k = 12 := by omega
        have hb := HBL.out 12 (by omega)
        have hms := mods_len (bestMod l 12)
        have HML := Lib.hid (show modLen (bestMod l 12) = (modAt (bestMod l 12)).size from (modAt_size _).symm)
        have hms2 : (modAt (bestMod l 12)).size ≤ 2 := by have := modAt_size (bestMod l 12); omega
        obtain ⟨b, hbe⟩ : ∃ b, bestMod l 12 = b := ⟨_, rfl⟩
        have HBE := Lib.hid hbe
        rw [hbe] at hb hms2 HML ⊢
        clear hbe hms
        have hx2 := HCW.out b hb
        have hj0 : (0 : Int) ≤ (b : Int) := Int.natCast_nonneg b
        have hj1 : (b : Int) < 12 := by omega
        have hsum : IntKind.i64.wrap ((p : Int) + ((modAt b).size : Int)) = (p : Int) + ((modAt b).size : Int) := IntWalk.i64_in _ (by omega)
        go_wp2_with fail
        go_region_law (go_simp)
        all_goals
          go_wp2
          go_ret
          rw [HBE.out, HML.out]
          exact ⟨rfl, (HIW.out.drewN _).set_1 _, below_set (pw_below_drewN HBW.out _) (IsS65.ge HIW.out), KeepBut.set_ (keep_drewN HKW.out _) _ _⟩
  · rw [if_neg c] at h
    cases h
end Go.Proofs.YtnhbgahfmcicnaaGreatDoor.PA
end
