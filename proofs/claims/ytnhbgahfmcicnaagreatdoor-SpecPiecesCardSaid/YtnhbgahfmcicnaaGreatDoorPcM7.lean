/- A part of the proof of the claim's statement. -/
import Derived.Test.YtnhbgahfmcicnaaGreatDoorPcPAx9
import Derived.Test.YtnhbgahfmcicnaaGreatDoorPcM4
import Derived.Test.YtnhbgahfmcicnaaGreatDoorPcPAx2
import Derived.Test.YtnhbgahfmcicnaaGreatDoorPcG1a
import Derived.Outline
section
namespace Go.Proofs.YtnhbgahfmcicnaaGreatDoor.PA
set_option linter.unusedVariables false
set_option linter.unusedSimpArgs false
open Go.RowKit Go.Shelf Go.Proofs.YtnhbgahfmcicnaaGreatDoorW.PrintWords Go.Proofs.YtnhbgahfmcicnaaGreatDoorW.PrintLast Go.Proofs.YtnhbgahfmcicnaaGreatDoorW.PrintMore
theorem andNot_small {n : Int} {m : Nat} (hn : -9223372036854775808 ≤ n ∧ n ≤ 9223372036854775807) (hm : m < 64) (h : Go.bits .andNot .i64 n (m : Int) = 0) : 0 ≤ n ∧ n ≤ 63 := by
  have h0 : IntKind.i64.wrap ((BitVec.ofInt 64 n &&& ~~~ BitVec.ofInt 64 (m : Int)).toNat : Int) = 0 := h
  have hz : (BitVec.ofInt 64 n &&& ~~~ BitVec.ofInt 64 (m : Int)).toNat = 0 := by
    rw [IntKind.wrap_i64] at h0
    have := (BitVec.ofInt 64 n &&& ~~~ BitVec.ofInt 64 (m : Int)).isLt
    omega
  have hz2 : BitVec.ofInt 64 n &&& ~~~ BitVec.ofInt 64 (m : Int) = 0#64 := BitVec.eq_of_toNat_eq hz
  have he : BitVec.ofInt 64 n = BitVec.ofInt 64 n &&& BitVec.ofInt 64 (m : Int) := by
    apply BitVec.eq_of_getLsbD_eq
    intro i hi
    have := congrArg (fun x : BitVec 64 => x.getLsbD i) hz2
    simp only [BitVec.getLsbD_and, BitVec.getLsbD_not, BitVec.getLsbD_zero, hi, decide_true, Bool.true_and] at this ⊢
    revert this
    cases (BitVec.ofInt 64 n).getLsbD i <;> cases (BitVec.ofInt 64 (m : Int)).getLsbD i <;> simp
  have hle : (BitVec.ofInt 64 n).toNat ≤ m := by
    have h1 := congrArg BitVec.toNat he
    rw [BitVec.toNat_and] at h1
    have h2 : (BitVec.ofInt 64 (m : Int)).toNat = m := by
      rw [BitVec.ofInt_natCast, BitVec.toNat_ofNat]
      omega
    rw [h2] at h1
    rw [h1]
    exact Nat.and_le_right
  rw [BitVec.toNat_ofInt] at hle
  omega
def flOf : Nat → ByteArray
  | 55 => ⟨#[45, 43, 32, 48, 39]⟩
  | 49 => ⟨#[45, 48, 39]⟩
  | 25 => ⟨#[45, 35, 48]⟩
  | 31 => ⟨#[45, 43, 32, 35, 48]⟩
  | 63 => ⟨#[45, 43, 32, 35, 48, 39]⟩
  | 1 => ⟨#[45]⟩
  | _ => ⟨#[]⟩
theorem of_rule (c : Int) : (ofVal c).2.2.2.2 = (ruleC c).ok ∧ (ofVal c).2.2.1 = (ruleC c).wd ∧ (ofVal c).2.2.2.1 = (ruleC c).pr ∧
    ((ruleC c).ok = true → (∃ m : Nat, m ∈ [55, 49, 25, 31, 63, 1, 0] ∧ (ruleC c).fl = (m : Int) ∧ (ofVal c).1 = flOf m) ∧ ∀ n : Int, (ofVal c).2.1.contains n = allowsC (ruleC c).ln n) := by
  have hw : ∀ n : Int, ofWhole.contains n = (decide (0 ≤ n) && decide (n ≤ 7)) := by
    intro n
    rw [Bool.eq_iff_iff, List.contains_iff_mem]
    simp only [ofWhole, List.mem_cons, List.not_mem_nil, or_false, Bool.and_eq_true, decide_eq_true_eq]
    omega
  have hr : ∀ n : Int, ofReal.contains n = (decide (n = 0) || (decide (n = 3) || (decide (8 ≤ n) && decide (n ≤ 11)))) := by
    intro n
    rw [Bool.eq_iff_iff, List.contains_iff_mem]
    simp only [ofReal, List.mem_cons, List.not_mem_nil, or_false, Bool.and_eq_true, Bool.or_eq_true, decide_eq_true_eq]
    omega
  have ht : ∀ n : Int, ofText.contains n = (decide (n = 0) || decide (n = 3)) := by
    intro n
    rw [Bool.eq_iff_iff, List.contains_iff_mem]
    simp only [ofText, List.mem_cons, List.not_mem_nil, or_false, Bool.or_eq_true, decide_eq_true_eq]
  have ho : ∀ n : Int, ([0] : List Int).contains n = decide (n = 0) := by
    intro n
    rw [Bool.eq_iff_iff, List.contains_iff_mem]
    simp only [List.mem_cons, List.not_mem_nil, or_false, decide_eq_true_eq]
  have a1 : ∀ n, allowsC bInt n = (decide (0 ≤ n) && decide (n ≤ 7)) := fun n => by unfold allowsC; rw [if_pos rfl]
  have a2 : ∀ n, allowsC bFloat n = (decide (n = 0) || (decide (n = 3) || (decide (8 ≤ n) && decide (n ≤ 11)))) := fun n => by unfold allowsC; rw [if_neg (by decide), if_pos rfl]
  have a3 : ∀ n, allowsC bChar n = (decide (n = 0) || decide (n = 3)) := fun n => by unfold allowsC; rw [if_neg (by decide), if_neg (by decide), if_pos rfl]
  have a4 : ∀ n, allowsC ⟨#[]⟩ n = decide (n = 0) := fun n => by unfold allowsC; rw [if_neg (by decide), if_neg (by decide), if_neg (by decide)]
  by_cases h0 : c = 100 ∨ c = 105
  · unfold ofVal ruleC
    rw [if_pos h0, if_pos h0]
    exact ⟨rfl, rfl, rfl, fun _ => ⟨⟨55, by decide, rfl, rfl⟩, fun n => (hw n).trans (a1 n).symm⟩⟩
  by_cases h1 : c = 117
  · unfold ofVal ruleC
    rw [if_neg h0, if_pos h1, if_neg h0, if_pos h1]
    exact ⟨rfl, rfl, rfl, fun _ => ⟨⟨49, by decide, rfl, rfl⟩, fun n => (hw n).trans (a1 n).symm⟩⟩
  by_cases h2 : c = 111 ∨ c = 120 ∨ c = 88 ∨ c = 98 ∨ c = 66
  · unfold ofVal ruleC
    rw [if_neg h0, if_neg h1, if_pos h2, if_neg h0, if_neg h1, if_pos h2]
    exact ⟨rfl, rfl, rfl, fun _ => ⟨⟨25, by decide, rfl, rfl⟩, fun n => (hw n).trans (a1 n).symm⟩⟩
  by_cases h3 : c = 101 ∨ c = 69 ∨ c = 97 ∨ c = 65
  · unfold ofVal ruleC
    rw [if_neg h0, if_neg h1, if_neg h2, if_pos h3, if_neg h0, if_neg h1, if_neg h2, if_pos h3]
    exact ⟨rfl, rfl, rfl, fun _ => ⟨⟨31, by decide, rfl, rfl⟩, fun n => (hr n).trans (a2 n).symm⟩⟩
  by_cases h4 : c = 102 ∨ c = 70 ∨ c = 103 ∨ c = 71
  · unfold ofVal ruleC
    rw [if_neg h0, if_neg h1, if_neg h2, if_neg h3, if_pos h4, if_neg h0, if_neg h1, if_neg h2, if_neg h3, if_pos h4]
    exact ⟨rfl, rfl, rfl, fun _ => ⟨⟨63, by decide, rfl, rfl⟩, fun n => (hr n).trans (a2 n).symm⟩⟩
  by_cases h5 : c = 99
  · unfold ofVal ruleC
    rw [if_neg h0, if_neg h1, if_neg h2, if_neg h3, if_neg h4, if_pos h5, if_neg h0, if_neg h1, if_neg h2, if_neg h3, if_neg h4, if_pos h5]
    exact ⟨rfl, rfl, rfl, fun _ => ⟨⟨1, by decide, rfl, rfl⟩, fun n => (ht n).trans (a3 n).symm⟩⟩
  by_cases h6 : c = 115
  · unfold ofVal ruleC
    rw [if_neg h0, if_neg h1, if_neg h2, if_neg h3, if_neg h4, if_neg h5, if_pos h6, if_neg h0, if_neg h1, if_neg h2, if_neg h3, if_neg h4, if_neg h5, if_pos h6]
    exact ⟨rfl, rfl, rfl, fun _ => ⟨⟨1, by decide, rfl, rfl⟩, fun n => (ht n).trans (a3 n).symm⟩⟩
  by_cases h7 : c = 112
  · unfold ofVal ruleC
    rw [if_neg h0, if_neg h1, if_neg h2, if_neg h3, if_neg h4, if_neg h5, if_neg h6, if_pos h7, if_neg h0, if_neg h1, if_neg h2, if_neg h3, if_neg h4, if_neg h5, if_neg h6, if_pos h7]
    exact ⟨rfl, rfl, rfl, fun _ => ⟨⟨1, by decide, rfl, rfl⟩, fun n => (ho n).trans (a4 n).symm⟩⟩
  by_cases h8 : c = 110
  · unfold ofVal ruleC
    rw [if_neg h0, if_neg h1, if_neg h2, if_neg h3, if_neg h4, if_neg h5, if_neg h6, if_neg h7, if_pos h8, if_neg h0, if_neg h1, if_neg h2, if_neg h3, if_neg h4, if_neg h5, if_neg h6, if_neg h7, if_pos h8]
    exact ⟨rfl, rfl, rfl, fun _ => ⟨⟨0, by decide, rfl, rfl⟩, fun n => (hw n).trans (a1 n).symm⟩⟩
  unfold ofVal ruleC
  rw [if_neg h0, if_neg h1, if_neg h2, if_neg h3, if_neg h4, if_neg h5, if_neg h6, if_neg h7, if_neg h8, if_neg h0, if_neg h1, if_neg h2, if_neg h3, if_neg h4, if_neg h5, if_neg h6, if_neg h7, if_neg h8]
  exact ⟨rfl, rfl, rfl, fun h => by cases h⟩
end Go.Proofs.YtnhbgahfmcicnaaGreatDoor.PA
end
