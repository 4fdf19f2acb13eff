/- A part of the proof of the claim's statement. -/
import Derived.Test.YtnhbgahfmcicnaaGreatDoorPcM6
import Derived.Test.YtnhbgahfmcicnaaGreatDoorPcG2f1
import Derived.Test.YtnhbgahfmcicnaaGreatDoorPcM4
import Derived.Test.YtnhbgahfmcicnaaGreatDoorPcM7
import Derived.Test.YtnhbgahfmcicnaaGreatDoorPcM8
import Derived.Test.YtnhbgahfmcicnaaGreatDoorPcM0
import Derived.Test.YtnhbgahfmcicnaaGreatDoorPcG2f
import Derived.Lib.ItoaLen
section
namespace Go.Proofs.YtnhbgahfmcicnaaGreatDoor.PA
set_option linter.unusedVariables false
set_option linter.unusedSimpArgs false
open Go.RowKit Go.Proofs.YtnhbgahfmcicnaaGreatDoorW.PrintWords Go.Proofs.YtnhbgahfmcicnaaGreatDoorW.PrintLast
theorem numC_stop {m n : Int} {r : List UInt8} (h : isDig (hdI r) = false) : numC m n r = (n, r) := by
  cases r with
  | nil => rfl
  | cons c r =>
    unfold numC
    rw [show isDig (c.toNat : Int) = false from h]
    rfl
theorem itoa_pos {n : Int} (h : 0 ≤ n) : Lib.itoa n = Lib.decDigits n.toNat := by unfold Lib.itoa; rw [if_neg (by omega)]
end Go.Proofs.YtnhbgahfmcicnaaGreatDoor.PA
end
section
namespace Go.Proofs.YtnhbgahfmcicnaaGreatDoor.PA
set_option linter.unusedVariables false
set_option linter.unusedSimpArgs false
open Go.RowKit Go.Proofs.YtnhbgahfmcicnaaGreatDoorW.PrintWords Go.Proofs.YtnhbgahfmcicnaaGreatDoorW.PrintLast
def bodyB (x : S35) (p : Bool) : List UInt8 :=
  (if p then Lib.itoa x.f1 ++ [36] else []) ++ (flagMarks x.f2 6 ++ (widthB x.f3 x.f4 p ++ (precB x.f5 x.f6 p ++ (mods.getD x.f7.toNat [] ++ [x.f8.toNat.toUInt8]))))
def nextN (x : S35) (nx : Int) : Prop :=
  (x.f4 ≠ 0 → x.f4 = nx + 1) ∧ (x.f6 ≠ 0 → x.f6 = nx + (if x.f4 = 0 then 0 else 1) + 1) ∧ x.f1 = nx + (if x.f4 = 0 then 0 else 1) + (if x.f6 = 0 then 0 else 1) + 1
def afterN (x : S35) (p : Bool) (nx : Int) : Int := if p then nx else x.f1
structure ConvOk (x : S35) : Prop where
  f0 : x.f0 = ⟨#[]⟩
  ok : (ruleC x.f8).ok = true
  i1 : 1 ≤ x.f1 ∧ x.f1 ≤ 64
  i2 : 0 ≤ x.f2 ∧ x.f2 ≤ 63
  bits : Go.bits .andNot .i64 x.f2 (ruleC x.f8).fl = 0
  len : allowsC (ruleC x.f8).ln x.f7 = true
  i3 : x.f3 = -1 ∨ (x.f4 = 0 ∧ 1 ≤ x.f3 ∧ x.f3 ≤ 10000)
  i4 : 0 ≤ x.f4 ∧ x.f4 ≤ 64
  i5 : x.f5 = -1 ∨ (x.f6 = 0 ∧ 0 ≤ x.f5 ∧ x.f5 ≤ 10000)
  i6 : 0 ≤ x.f6 ∧ x.f6 ≤ 64
  i7 : 0 ≤ x.f7 ∧ x.f7 < 12
  i8 : 0 ≤ x.f8 ∧ x.f8 < 256
  wd : (ruleC x.f8).wd = true ∨ (x.f3 = -1 ∧ x.f4 = 0)
  pr : (ruleC x.f8).pr = true ∨ (x.f5 = -1 ∧ x.f6 = 0)
end Go.Proofs.YtnhbgahfmcicnaaGreatDoor.PA
end
section
namespace Go.Proofs.YtnhbgahfmcicnaaGreatDoor.PA
set_option linter.unusedVariables false
set_option linter.unusedSimpArgs false
open Go.RowKit Go.Proofs.YtnhbgahfmcicnaaGreatDoorW.PrintWords Go.Proofs.YtnhbgahfmcicnaaGreatDoorW.PrintLast
theorem bytes_nil {s : ByteArray} (h : s.data.toList = []) : s = ⟨#[]⟩ := by
  obtain ⟨d⟩ := s
  have : d = #[] := Array.toList_inj.1 h
  rw [this]
theorem rule_fl (c : Int) : (ruleC c).ok = true → ∃ m : Nat, m ∈ [55, 49, 25, 31, 63, 1, 0] ∧ (ruleC c).fl = (m : Int) := fun h => by
  obtain ⟨m, h1, h2, _⟩ := ((of_rule c).2.2.2 h).1
  exact ⟨m, h1, h2⟩
theorem conv_ok {x : S35} (hp : PieceOk x) (hf : fitsC x = true) (h0 : ¬ x.f8 = 0) (h37 : ¬ x.f8 = 37) : ConvOk x := by
  unfold fitsC at hf
  rw [if_neg h0, if_neg h37] at hf
  simp only [Bool.and_eq_true, decide_eq_true_eq] at hf
  obtain ⟨ho, hl, ha, hb, hfl, hln, hw, hpr, h4, h6, ht⟩ := hf
  unfold argOk at h4 h6
  unfold withinC at hw hpr
  unfold tailC at ht
  simp only [Bool.and_eq_true, Bool.or_eq_true, decide_eq_true_eq, Bool.not_eq_true', Bool.or_eq_false_iff, Bool.and_eq_false_iff, decide_eq_false_iff_not, ne_eq, Decidable.not_not] at h4 h6 hw hpr ht
  obtain ⟨m, hm, e⟩ := rule_fl _ ho
  have hm2 : m < 64 := by
    simp only [List.mem_cons, List.not_mem_nil, or_false] at hm
    omega
  have hln2 := hln
  unfold allowsC at hln2
  refine ⟨bytes_nil hl, ho, ⟨ha, hb⟩, andNot_small hp.i2 hm2 (by rw [← e]; exact hfl), hfl, hln, by omega, h4, by omega, h6, ?_, ⟨hp.i8.1, by have := hp.i8.2; omega⟩, ht.2.1, ht.2.2⟩
  repeat' split at hln2
  all_goals
    simp only [Bool.and_eq_true, Bool.or_eq_true, decide_eq_true_eq] at hln2
    omega
def textB (x : S35) (p : Bool) : List UInt8 := if x.f8 = 0 then x.f0.data.toList else if x.f8 = 37 then [37, 37] else 37 :: bodyB x p
def textsB (l : List S35) (p : Bool) : List UInt8 := l.flatMap fun x => textB x p
def seqN : Int → List Int → Prop
  | _, [] => True
  | n, a :: r => a = n + 1 ∧ seqN (n + 1) r
def apart : List S35 → Prop
  | [] => True
  | [_] => True
  | x :: y :: l => ¬ (x.f8 = 0 ∧ y.f8 = 0) ∧ apart (y :: l)
end Go.Proofs.YtnhbgahfmcicnaaGreatDoor.PA
end
section
namespace Go.Proofs.YtnhbgahfmcicnaaGreatDoor.PA
set_option linter.unusedVariables false
set_option linter.unusedSimpArgs false
open Go.RowKit Go.Proofs.YtnhbgahfmcicnaaGreatDoorW.PrintWords Go.Proofs.YtnhbgahfmcicnaaGreatDoorW.PrintLast
structure ListOk (l : List S35) : Prop where
  len : l.length ≤ 500
  fit : ∀ x ∈ l, fitsC x = true
  apart : apart l
  whole : wholeC l = true
end Go.Proofs.YtnhbgahfmcicnaaGreatDoor.PA
end
