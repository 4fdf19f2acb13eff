/- A part of the proof of the claim's statement. -/
import Derived.Test.YtnhbgahfmcicnaaGreatDoorPcPAx11
import Derived.Test.YtnhbgahfmcicnaaGreatDoorPcPAx4
import Derived.Test.YtnhbgahfmcicnaaGreatDoorPcPAx7
import Derived.Test.YtnhbgahfmcicnaaGreatDoorPcG2f1
import Derived.Outline
section
namespace Go.Proofs.YtnhbgahfmcicnaaGreatDoor.PA
set_option linter.unusedVariables false
set_option linter.unusedSimpArgs false
open Go.RowKit Go.Shelf Go.Proofs.YtnhbgahfmcicnaaGreatDoorW.PrintWords Go.Proofs.YtnhbgahfmcicnaaGreatDoorW.PrintLast Go.Proofs.YtnhbgahfmcicnaaGreatDoorW.PrintMore
theorem Bld.le {B b : Nat} {l : List UInt8} {w : World} (h : Bld B b l w) : b ≤ w.heap.size := by
 rcases h with ⟨_, _, h2, _⟩ | ⟨_, _, h2, _⟩ <;> exact Nat.le_of_lt (Array.getElem?_eq_some_iff.1 h2).1
def shownOf (x : S35) (p : Bool) : Option ByteArray := spec_shown.f x.f0 x.f1 x.f2 x.f3 x.f4 x.f5 x.f6 x.f7 x.f8 p
def shownList : List S35 → Bool → Option (List ByteArray)
 | [], _ => some []
 | x :: xs, p => (shownOf x p).bind fun s => (shownList xs p).bind fun t => some (s :: t)
theorem shownList_get : ∀ (l : List S35) (p : Bool) (ps : List ByteArray), shownList l p = some ps → ps.length = l.length ∧ ∀ i, i < l.length → shownOf (l.getD i z35) p = some (ps.getD i ⟨#[]⟩)
 | [], p, ps, h => by
  obtain rfl := Option.some.inj h
  exact ⟨rfl, fun i hi => absurd hi (Nat.not_lt_zero i)⟩
 | x :: xs, p, ps, h => by
  obtain ⟨s, h1, h⟩ := Option.bind_eq_some_iff.mp h
  obtain ⟨t, h2, h⟩ := Option.bind_eq_some_iff.mp h
  obtain rfl := Option.some.inj h
  obtain ⟨e, hg⟩ := shownList_get xs p t h2
  refine ⟨by simp [e], fun i hi => ?_⟩
  cases i with
  | zero => exact h1
  | succ i => exact hg i (by simpa using hi)
def bytesOf (ps : List ByteArray) : List UInt8 := ps.flatMap fun s => s.data.toList
theorem bytesOf_take (ps : List ByteArray) (k : Nat) (h : k < ps.length) : bytesOf (ps.take (k + 1)) = bytesOf (ps.take k) ++ (ps.getD k ⟨#[]⟩).data.toList := by
 unfold bytesOf
 rw [List.take_succ_eq_append_getElem h, List.flatMap_append, List.getD_eq_getElem?_getD, List.getElem?_eq_getElem h]
 simp
theorem bytesOf_le (ps : List ByteArray) (k : Nat) : (bytesOf (ps.take k)).length ≤ (bytesOf ps).length := by
 have e : ps = ps.take k ++ ps.drop k := (List.take_append_drop k ps).symm
 have e2 : bytesOf ps = bytesOf (ps.take k) ++ bytesOf (ps.drop k) := by
  unfold bytesOf
  rw [← List.flatMap_append, List.take_append_drop]
 rw [e2, List.length_append]
 omega
def spec_Print.f (k : Nat) (l0 : List (S35)) : Option (ByteArray × Int) :=
 (spec_Check.f k l0).bind fun ce => if ce.1 = 0 then (spec_all.f k l0).bind fun ns => (spec_ordered.f k ns).bind fun o => (shownList l0 (!o)).bind fun ps =>
  if l0.length ≤ 1000000000000 ∧ (bytesOf ps).length ≤ 140737488355328 then (if (bytesOf ps).length > 2000 then some (⟨#[]⟩, 2) else some (strOf (bytesOf ps), 0)) else none
 else some (⟨#[]⟩, ce.1)
set_option maxRecDepth 100000 in
set_option maxHeartbeats 4000000 in
theorem spec_Print.calls (k : Nat) (A0 : Option Addr) (c0 : Nat) (l0 : List (S35)) (r1 : ByteArray) (r2 : Int) (w : World) (hr0 : Kd.C k35 w A0 l0.length l0) (hc0 : l0.length ≤ c0) (hLD : LD w) (h : spec_Print.f k l0 = some (r1, r2)) :
  Calls Tryz.prog 17 #[.slice A0 l0.length c0] w fun e w' => e = .returned (.tuple #[.string r1, .int .i64 r2]) ∧ Below w.heap.size w w' := by
 have hu35 := Tryz.underlying35
 unfold spec_Print.f at h
 obtain ⟨⟨e1, e2⟩, hce, h⟩ := Option.bind_eq_some_iff.mp h
 have HR0 := Lib.hid hr0
 have HC0 := Lib.hid hc0
 have HLD := Lib.hid hLD
 have HCE := Lib.hid hce
 clear hr0 hc0 hLD hce
 by_cases c1 : e1 = 0
 ·rw [if_pos c1] at h
  subst c1
  obtain ⟨ns, hns, h⟩ := Option.bind_eq_some_iff.mp h
  obtain ⟨o, ho, h⟩ := Option.bind_eq_some_iff.mp h
  obtain ⟨ps, hps, h⟩ := Option.bind_eq_some_iff.mp h
  obtain ⟨hpl, hpg⟩ := shownList_get _ _ _ hps
  have HNS := Lib.hid hns
  have HO := Lib.hid ho
  have HPG := Lib.hid hpg
  clear hns ho hpg hps
  by_cases c2 : l0.length ≤ 1000000000000 ∧ (bytesOf ps).length ≤ 140737488355328
  ·rw [if_pos c2] at h
   obtain ⟨cl, c2⟩ := c2
   have H := Lib.hid h
   clear h
   go_enter Tryz.func17, Tryz.ntmps17
   go_wp2_with (first | (go_at_call 18; refine (spec_Check.calls k A0 c0 l0 0 e2 _ HR0.out HC0.out HCE.out).mono ?_; rintro e w1 ⟨rfl, hb1⟩) | (go_at_call 34; refine (spec_all.calls k A0 c0 l0 ns _ (Kd.C_below HR0.out hb1) HC0.out HNS.out).mono ?_; rintro e w2 ⟨v, rfl, hv, hb2⟩; obtain ⟨Av, cv, rfl⟩ := Kd.R_slice hv) | (go_at_call 39; refine (spec_ordered.calls k Av cv ns o _ (Kd.R_reads' hv).2.2 (Kd.R_reads' hv).2.1 HO.out).mono ?_; rintro e w3 ⟨rfl, ⟨nd, rfl⟩⟩))
   have hB1 : Below w.heap.size w (w2.drewN nd) := pw_below_drewN (hb1.trans (hb2.mono hb1.size)) nd
   have hB0w : w.heap.size ≤ w2.heap.size := hB1.size
   have hbl0 : Bld w2.heap.size w2.heap.size [] ((w2.drewN nd).alloc (.cells #[.pointer none, .slice none 0 0] 73)) := bld_new (w2.drewN nd)
   have HBL0 := Lib.hid hbl0
   have HB1 := Lib.hid (hB1.alloc hB1.size (.cells #[.pointer none, .slice none 0 0] 73))
   have HPL := Lib.hid hpl
   clear hbl0 hB1 hb1 hb2 hv
   go_loopw [24] (fun i wr => ∃ j : Nat, j ≤ l0.length ∧ i = .int .i64 j ∧ Hid (Bld w2.heap.size w2.heap.size (bytesOf (ps.take j)) wr) ∧ Hid (Below w.heap.size w wr)) (fun i _ => l0.length - (intOf i).toNat)
   case atStart => exact ⟨0, Nat.zero_le _, rfl, by rw [List.take_zero]; exact HBL0, HB1⟩
   case round =>
    obtain ⟨j, hj, rfl, HBl, HB⟩ := hrel
    by_cases hlt : j < l0.length
    ·have hs := HPG.out j hlt
     obtain ⟨ad, e, hx0, hx1, hx2, hx3, hx4, hx5, hx6, hx7, hx8⟩ := at_T35 (Kd.C_below HR0.out HB.out) (j : Int) (by omega) (by omega)
     have HX := Lib.hid (show rd_T35 l0 (j : Int) = l0.getD j z35 from rfl)
     obtain ⟨x, hx⟩ : ∃ x, rd_T35 l0 (j : Int) = x := ⟨_, rfl⟩
     rw [← HX.out, hx] at hs
     simp only [Int.toNat_natCast, hx] at hx0 hx1 hx2 hx3 hx4 hx5 hx6 hx7 hx8
     subst e
     have htk := bytesOf_take ps j (by rw [HPL.out]; exact hlt)
     have hle := bytesOf_le ps (j + 1)
     obtain ⟨s, hsd⟩ : ∃ s, ps.getD j ⟨#[]⟩ = s := ⟨_, rfl⟩
     rw [hsd] at hs htk
     rw [htk, List.length_append] at hle
     have HS := Lib.hid hs
     have HTK := Lib.hid htk
     have HLE := Lib.hid hle
     clear hs htk hle hsd hx HX
     have hj0 : (0 : Int) ≤ (j : Int) := by omega
     have hj1 : (j : Int) < (l0.length : Int) := by omega
     have hLDr : LD wr := HLD.out.below HB.out
     have HLDr := Lib.hid hLDr
     clear hLDr
     go_wp2_with fail
     refine (callsIn_wide.1 (shown_in 4 (by omega) x.f0 x.f1 x.f2 x.f3 x.f4 x.f5 x.f6 x.f7 x.f8 (!o) s _ (HLDr.out.below ((Below.refl _ wr).alloc (Nat.le_refl _) _)) HS.out)).mono ?_
     rintro e w4 ⟨rfl, hb4⟩
     have hb5 : Below wr.heap.size wr w4 := ((Below.refl _ wr).alloc (Nat.le_refl _) _).trans (hb4.mono (by simp))
     have HBl4 := Lib.hid (HBl.out.below hb5)
     have HB4 := Lib.hid (HB.out.trans (hb5.mono HB.out.size))
     clear hb4 hb5
     have hB0r : w2.heap.size ≤ w4.heap.size := HBl4.out.le
     go_wp2_with fail
     refine (bld_str w2.heap.size w2.heap.size (bytesOf (ps.take j)) s w4 HBl4.out (by have := HLE.out; rw [data_length] at this; omega) hB0r).mono ?_
     rintro e w5 ⟨rfl, h1, h2, h3⟩
     have H1 := Lib.hid h1
     have HB5 := Lib.hid (HB4.out.trans (h2.mono hB0w))
     clear h1 h2 h3
     go_wp2
     go_roundw
     case rel => exact ⟨j + 1, by omega, by go_num, by rw [HTK.out]; exact H1, HB5⟩
     case measure => simp [intOf]; omega
    ·obtain rfl : j = l0.length := by omega
     have hall : ps.take l0.length = ps := List.take_of_length_le (by rw [HPL.out]; exact Nat.le_refl _)
     rw [hall] at HBl
     have hBr : w2.heap.size ≤ wr.heap.size := HBl.out.le
     obtain ⟨L, hL⟩ : ∃ L, bytesOf ps = L := ⟨_, rfl⟩
     have H2 := H.out
     rw [hL] at HBl c2 H2
     by_cases c3 : L.length > 2000
     ·rw [if_pos c3] at H2
      simp only [Option.some.injEq, Prod.mk.injEq] at H2
      obtain ⟨rfl, rfl⟩ := H2
      have c4 : (2000 : Int) < (L.length : Int) := by omega
      go_wp2_with (go_at_call 42; refine (bld_len w2.heap.size w2.heap.size L wr HBl.out).mono ?_; rintro e w' ⟨rfl, rfl⟩)
      go_ret2
      exact ⟨rfl, HB.out⟩
     ·rw [if_neg c3] at H2
      simp only [Option.some.injEq, Prod.mk.injEq] at H2
      obtain ⟨rfl, rfl⟩ := H2
      have c4 : ¬ (2000 : Int) < (L.length : Int) := by omega
      go_wp2_with (first | (go_at_call 42; refine (bld_len w2.heap.size w2.heap.size L wr HBl.out).mono ?_; rintro e w' ⟨rfl, rfl⟩) | (go_at_call 43; refine (bld_string w2.heap.size w2.heap.size L _ HBl.out hBr).mono ?_; rintro e w6 ⟨rfl, h1, h2, h3⟩))
      go_ret2
      exact ⟨rfl, HB.out.trans (h2.mono hB0w)⟩
  ·rw [if_neg c2] at h
   cases h
 ·rw [if_neg c1] at h
  simp only [Option.some.injEq, Prod.mk.injEq] at h
  obtain ⟨rfl, rfl⟩ := h
  go_enter Tryz.func17, Tryz.ntmps17
  go_wp2_with (go_at_call 18; refine (spec_Check.calls k A0 c0 l0 e1 e2 _ HR0.out HC0.out HCE.out).mono ?_; rintro e w1 ⟨rfl, hb1⟩)
  go_ret2
  exact ⟨rfl, hb1⟩
end Go.Proofs.YtnhbgahfmcicnaaGreatDoor.PA
end
