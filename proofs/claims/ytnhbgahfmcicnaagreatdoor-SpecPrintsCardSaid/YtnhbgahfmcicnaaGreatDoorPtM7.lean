/- A part of the proof of the claim's statement. -/
import Derived.Test.YtnhbgahfmcicnaaGreatDoorPtPAx9
import Derived.Test.YtnhbgahfmcicnaaGreatDoorPtM4
import Derived.Test.YtnhbgahfmcicnaaGreatDoorPtG2d
section
namespace Go.Proofs.YtnhbgahfmcicnaaGreatDoor.PA
set_option linter.unusedVariables false
set_option linter.unusedSimpArgs false
open Go.RowKit Go.Shelf Go.Proofs.YtnhbgahfmcicnaaGreatDoorW.PrintWords Go.Proofs.YtnhbgahfmcicnaaGreatDoorW.PrintLast Go.Proofs.YtnhbgahfmcicnaaGreatDoorW.PrintMore
def signAt (i : Nat) : Int := bt ⟨#[45, 43, 32, 35, 48, 39]⟩ (i : Int)
def flagsOk (n : Int) (fs : ByteArray) : Bool :=
  (List.range 6).all fun i => decide (Go.bits .and .i64 n ((2 ^ i : Nat) : Int) = 0) || hasB fs (signAt i)
theorem andNot_small {n : Int} {m : Nat} (hn : -9223372036854775808 ≤ n ∧ n ≤ 9223372036854775807) (hm : m < 64) (h : Go.bits .andNot .i64 n (m : Int) = 0) : 0 ≤ n ∧ n ≤ 63 := by
  have h0 : IntKind.i64.wrap ((BitVec.ofInt 64 n &&& ~~~ BitVec.ofInt 64 (m : Int)).toNat : Int) = 0 := h
  have hz : (BitVec.ofInt 64 n &&& ~~~ BitVec.ofInt 64 (m : Int)).toNat = 0 := by
    rw [IntKind.wrap_i64] at h0
    have := (BitVec.ofInt 64 n &&& ~~~ BitVec.ofInt 64 (m : Int)).isLt
    omega
  have hz2 : BitVec.ofInt 64 n &&& ~~~ BitVec.ofInt 64 (m : Int) = 0#64 := BitVec.eq_of_toNat_eq hz
  have he : BitVec.ofInt 64 n = BitVec.ofInt 64 n &&& BitVec.ofInt 64 (m : Int) := by
    apply BitVec.eq_of_getLsbD_eq
    intro i hi
    have := congrArg (fun x : BitVec 64 => x.getLsbD i) hz2
    simp only [BitVec.getLsbD_and, BitVec.getLsbD_not, BitVec.getLsbD_zero, hi, decide_true, Bool.true_and] at this ⊢
    revert this
    cases (BitVec.ofInt 64 n).getLsbD i <;> cases (BitVec.ofInt 64 (m : Int)).getLsbD i <;> simp
  have hle : (BitVec.ofInt 64 n).toNat ≤ m := by
    have h1 := congrArg BitVec.toNat he
    rw [BitVec.toNat_and] at h1
    have h2 : (BitVec.ofInt 64 (m : Int)).toNat = m := by
      rw [BitVec.ofInt_natCast, BitVec.toNat_ofNat]
      omega
    rw [h2] at h1
    rw [h1]
    exact Nat.and_le_right
  rw [BitVec.toNat_ofInt] at hle
  omega
def flOf : Nat → ByteArray
  | 55 => ⟨#[45, 43, 32, 48, 39]⟩
  | 49 => ⟨#[45, 48, 39]⟩
  | 25 => ⟨#[45, 35, 48]⟩
  | 31 => ⟨#[45, 43, 32, 35, 48]⟩
  | 63 => ⟨#[45, 43, 32, 35, 48, 39]⟩
  | 1 => ⟨#[45]⟩
  | _ => ⟨#[]⟩
theorem flags_small : ∀ n : Fin 64, ∀ m ∈ [55, 49, 25, 31, 63, 1, 0], decide (Go.bits .andNot .i64 (n.val : Int) ((m : Nat) : Int) = 0) = flagsOk (n.val : Int) (flOf m) := by decide +kernel
theorem flags_eq {n : Int} {m : Nat} (hn : -9223372036854775808 ≤ n ∧ n ≤ 9223372036854775807) (hm : m ∈ [55, 49, 25, 31, 63, 1, 0]) :
    decide (Go.bits .andNot .i64 n (m : Int) = 0) = (decide (0 ≤ n) && (decide (n ≤ 63) && flagsOk n (flOf m))) := by
  by_cases h : 0 ≤ n ∧ n ≤ 63
  · have := flags_small ⟨n.toNat, by omega⟩ m hm
    rw [show ((n.toNat : Nat) : Int) = n by omega] at this
    rw [this, decide_eq_true h.1, decide_eq_true h.2]
    rfl
  · have hm2 : m < 64 := by
      simp only [List.mem_cons, List.not_mem_nil, or_false] at hm
      omega
    rw [decide_eq_false fun e => h (andNot_small hn hm2 e)]
    by_cases h1 : 0 ≤ n
    · rw [decide_eq_false (show ¬ n ≤ 63 by omega)]; simp
    · rw [decide_eq_false h1]; rfl
theorem flag_f (i : Nat) (h : i < 6) : sorobanref21_Flag.f (i : Int) = some (((2 ^ i : Nat) : Int)) := by
  rcases (by omega : i = 0 ∨ i = 1 ∨ i = 2 ∨ i = 3 ∨ i = 4 ∨ i = 5) with rfl | rfl | rfl | rfl | rfl | rfl <;> rfl
def endC (f3 f4 f5 f6 : Int) (wd pr : Bool) : Bool := (wd || (decide (f3 < 0) && decide (f4 = 0))) && (pr || (decide (f5 < 0) && decide (f6 = 0)))
theorem fits_l1 (ls : List Int) (hls : ls.length ≤ 8) (x : S35) (fs : ByteArray) (wd pr ok : Bool) : ∀ (d i k : Nat) (b : Bool), i + d = ls.length → d < k →
    sorobanref21_fits.l1 k b (i : Int) x.f0 x.f1 x.f2 x.f3 x.f4 x.f5 x.f6 x.f7 x.f8 fs ls wd pr ok = some ((b || (ls.drop i).contains x.f7) && endC x.f3 x.f4 x.f5 x.f6 wd pr) := by
  intro d
  induction d with
  | zero =>
    intro i k b hi hk
    obtain ⟨k, rfl⟩ : ∃ m, k = m + 1 := ⟨k - 1, by omega⟩
    unfold sorobanref21_fits.l1 endC
    rw [if_neg (by omega), List.drop_eq_nil_of_le (by omega)]
    cases b
    · simp
    · by_cases h3 : x.f3 < 0 <;> by_cases h4 : x.f4 = 0 <;> by_cases h5 : x.f5 < 0 <;> by_cases h6 : x.f6 = 0 <;> cases wd <;> cases pr <;> simp [h3, h4, h5, h6]
  | succ d ih =>
    intro i k b hi hk
    obtain ⟨k, rfl⟩ : ∃ m, k = m + 1 := ⟨k - 1, by omega⟩
    unfold sorobanref21_fits.l1
    have hlt : i < ls.length := by omega
    have hw : wrap64 ((i : Int) + 1) = ((i + 1 : Nat) : Int) := by unfold wrap64; omega
    rw [if_pos (by omega), hw]
    have hr : rd ls (i : Int) = ls[i] := by
      unfold rd
      rw [Int.toNat_natCast, List.getD_eq_getElem?_getD, List.getElem?_eq_getElem hlt]
      rfl
    cases b
    · rw [if_neg (by simp), if_pos (by omega), ih (i + 1) k _ (by omega) (by omega), hr, List.drop_eq_getElem_cons hlt, List.contains_cons]
      have : (ls[i] == x.f7) = (x.f7 == ls[i]) := Bool.eq_iff_iff.2 (by rw [beq_iff_eq, beq_iff_eq]; exact eq_comm)
      rw [this]
      simp
    · rw [if_pos rfl, ih (i + 1) k _ (by omega) (by omega)]
      simp
theorem fits_l0 (ls : List Int) (hls : ls.length ≤ 8) (x : S35) (fs : ByteArray) (hfs : fs.size ≤ 6) (wd pr ok : Bool) : ∀ (d i k : Nat), i + d = 6 → d + 16 < k →
    sorobanref21_fits.l0 k (i : Int) x.f0 x.f1 x.f2 x.f3 x.f4 x.f5 x.f6 x.f7 x.f8 fs ls wd pr ok =
      some (((List.range' i d).all fun i => decide (Go.bits .and .i64 x.f2 ((2 ^ i : Nat) : Int) = 0) || hasB fs (signAt i)) && (ls.contains x.f7 && endC x.f3 x.f4 x.f5 x.f6 wd pr)) := by
  intro d
  induction d with
  | zero =>
    intro i k hi hk
    obtain ⟨k, rfl⟩ : ∃ m, k = m + 1 := ⟨k - 1, by omega⟩
    unfold sorobanref21_fits.l0
    rw [if_neg (by omega)]
    have := fits_l1 ls hls x fs wd pr ok ls.length 0 k false (by omega) (by omega)
    rw [show (0 : Int) = ((0 : Nat) : Int) from rfl, this]
    simp
  | succ d ih =>
    intro i k hi hk
    obtain ⟨k, rfl⟩ : ∃ m, k = m + 1 := ⟨k - 1, by omega⟩
    unfold sorobanref21_fits.l0
    have hw : wrap64 ((i : Int) + 1) = ((i + 1 : Nat) : Int) := by unfold wrap64; omega
    rw [if_pos (by omega), flag_f i (by omega), Option.bind_some, hw, ih (i + 1) k (by omega) (by omega), List.range'_succ, List.all_cons]
    by_cases h : Go.bits .and .i64 x.f2 ((2 ^ i : Nat) : Int) = 0
    · rw [if_pos h, decide_eq_true h]
      simp
    · rw [if_neg h, if_pos (by omega), in_f fs _ (by omega) k (by omega), Option.bind_some, decide_eq_false h]
      show (if hasB fs (signAt i) = true then _ else _) = _
      cases hasB fs (signAt i)
      · simp
      · simp
def rfitsC (x : S35) : Bool :=
  (ofVal x.f8).2.2.2.2 && (decide (0 ≤ x.f2) && (decide (x.f2 ≤ 63) && (flagsOk x.f2 (ofVal x.f8).1 && ((ofVal x.f8).2.1.contains x.f7 && endC x.f3 x.f4 x.f5 x.f6 (ofVal x.f8).2.2.1 (ofVal x.f8).2.2.2.1))))
theorem of_bounds (b : Int) : (ofVal b).2.1.length ≤ 8 ∧ (ofVal b).1.size ≤ 6 := by
  unfold ofVal
  repeat' split
  all_goals exact ⟨by decide, by decide⟩
theorem rfits_f (k : Nat) (x : S35) : sorobanref21_fits.f (k + 30) x.f0 x.f1 x.f2 x.f3 x.f4 x.f5 x.f6 x.f7 x.f8 = some (rfitsC x) := by
  unfold sorobanref21_fits.f sorobanref21_Of.f rfitsC
  rw [Option.bind_some]
  obtain ⟨h1, h2⟩ := of_bounds x.f8
  generalize ofVal x.f8 = v at h1 h2 ⊢
  obtain ⟨fs, ls, wd, pr, ok⟩ := v
  dsimp only at h1 h2 ⊢
  cases ok
  · rw [if_neg (by simp)]
    unfold sorobanref21_fits.j0
    simp
  · rw [if_pos rfl]
    by_cases hn : x.f2 < 0
    · rw [if_pos hn, decide_eq_false (show ¬ 0 ≤ x.f2 by omega)]
      unfold sorobanref21_fits.j0
      simp
    · rw [if_neg hn, decide_eq_true (show 0 ≤ x.f2 by omega)]
      by_cases hg : x.f2 > 63
      · rw [decide_eq_true hg, decide_eq_false (show ¬ x.f2 ≤ 63 by omega)]
        unfold sorobanref21_fits.j0
        simp
      · rw [decide_eq_false hg, decide_eq_true (show x.f2 ≤ 63 by omega)]
        have hj : sorobanref21_fits.j0 (k + 30) false x.f0 x.f1 x.f2 x.f3 x.f4 x.f5 x.f6 x.f7 x.f8 fs ls wd pr true = sorobanref21_fits.l0 (k + 29) 0 x.f0 x.f1 x.f2 x.f3 x.f4 x.f5 x.f6 x.f7 x.f8 fs ls wd pr true := rfl
        rw [hj]
        have := fits_l0 ls h1 x fs h2 wd pr true 6 0 (k + 29) (by omega) (by omega)
        rw [show (0 : Int) = ((0 : Nat) : Int) from rfl, this]
        unfold flagsOk
        rw [List.range_eq_range']
        simp
theorem of_rule (c : Int) : (ofVal c).2.2.2.2 = (ruleC c).ok ∧ (ofVal c).2.2.1 = (ruleC c).wd ∧ (ofVal c).2.2.2.1 = (ruleC c).pr ∧
    ((ruleC c).ok = true → (∃ m : Nat, m ∈ [55, 49, 25, 31, 63, 1, 0] ∧ (ruleC c).fl = (m : Int) ∧ (ofVal c).1 = flOf m) ∧ ∀ n : Int, (ofVal c).2.1.contains n = allowsC (ruleC c).ln n) := by
  have hw : ∀ n : Int, ofWhole.contains n = (decide (0 ≤ n) && decide (n ≤ 7)) := by
    intro n
    rw [Bool.eq_iff_iff, List.contains_iff_mem]
    simp only [ofWhole, List.mem_cons, List.not_mem_nil, or_false, Bool.and_eq_true, decide_eq_true_eq]
    omega
  have hr : ∀ n : Int, ofReal.contains n = (decide (n = 0) || (decide (n = 3) || (decide (8 ≤ n) && decide (n ≤ 11)))) := by
    intro n
    rw [Bool.eq_iff_iff, List.contains_iff_mem]
    simp only [ofReal, List.mem_cons, List.not_mem_nil, or_false, Bool.and_eq_true, Bool.or_eq_true, decide_eq_true_eq]
    omega
  have ht : ∀ n : Int, ofText.contains n = (decide (n = 0) || decide (n = 3)) := by
    intro n
    rw [Bool.eq_iff_iff, List.contains_iff_mem]
    simp only [ofText, List.mem_cons, List.not_mem_nil, or_false, Bool.or_eq_true, decide_eq_true_eq]
  have ho : ∀ n : Int, ([0] : List Int).contains n = decide (n = 0) := by
    intro n
    rw [Bool.eq_iff_iff, List.contains_iff_mem]
    simp only [List.mem_cons, List.not_mem_nil, or_false, decide_eq_true_eq]
  have a1 : ∀ n, allowsC bInt n = (decide (0 ≤ n) && decide (n ≤ 7)) := fun n => by unfold allowsC; rw [if_pos rfl]
  have a2 : ∀ n, allowsC bFloat n = (decide (n = 0) || (decide (n = 3) || (decide (8 ≤ n) && decide (n ≤ 11)))) := fun n => by unfold allowsC; rw [if_neg (by decide), if_pos rfl]
  have a3 : ∀ n, allowsC bChar n = (decide (n = 0) || decide (n = 3)) := fun n => by unfold allowsC; rw [if_neg (by decide), if_neg (by decide), if_pos rfl]
  have a4 : ∀ n, allowsC ⟨#[]⟩ n = decide (n = 0) := fun n => by unfold allowsC; rw [if_neg (by decide), if_neg (by decide), if_neg (by decide)]
  by_cases h0 : c = 100 ∨ c = 105
  · unfold ofVal ruleC
    rw [if_pos h0, if_pos h0]
    exact ⟨rfl, rfl, rfl, fun _ => ⟨⟨55, by decide, rfl, rfl⟩, fun n => (hw n).trans (a1 n).symm⟩⟩
  by_cases h1 : c = 117
  · unfold ofVal ruleC
    rw [if_neg h0, if_pos h1, if_neg h0, if_pos h1]
    exact ⟨rfl, rfl, rfl, fun _ => ⟨⟨49, by decide, rfl, rfl⟩, fun n => (hw n).trans (a1 n).symm⟩⟩
  by_cases h2 : c = 111 ∨ c = 120 ∨ c = 88 ∨ c = 98 ∨ c = 66
  · unfold ofVal ruleC
    rw [if_neg h0, if_neg h1, if_pos h2, if_neg h0, if_neg h1, if_pos h2]
    exact ⟨rfl, rfl, rfl, fun _ => ⟨⟨25, by decide, rfl, rfl⟩, fun n => (hw n).trans (a1 n).symm⟩⟩
  by_cases h3 : c = 101 ∨ c = 69 ∨ c = 97 ∨ c = 65
  · unfold ofVal ruleC
    rw [if_neg h0, if_neg h1, if_neg h2, if_pos h3, if_neg h0, if_neg h1, if_neg h2, if_pos h3]
    exact ⟨rfl, rfl, rfl, fun _ => ⟨⟨31, by decide, rfl, rfl⟩, fun n => (hr n).trans (a2 n).symm⟩⟩
  by_cases h4 : c = 102 ∨ c = 70 ∨ c = 103 ∨ c = 71
  · unfold ofVal ruleC
    rw [if_neg h0, if_neg h1, if_neg h2, if_neg h3, if_pos h4, if_neg h0, if_neg h1, if_neg h2, if_neg h3, if_pos h4]
    exact ⟨rfl, rfl, rfl, fun _ => ⟨⟨63, by decide, rfl, rfl⟩, fun n => (hr n).trans (a2 n).symm⟩⟩
  by_cases h5 : c = 99
  · unfold ofVal ruleC
    rw [if_neg h0, if_neg h1, if_neg h2, if_neg h3, if_neg h4, if_pos h5, if_neg h0, if_neg h1, if_neg h2, if_neg h3, if_neg h4, if_pos h5]
    exact ⟨rfl, rfl, rfl, fun _ => ⟨⟨1, by decide, rfl, rfl⟩, fun n => (ht n).trans (a3 n).symm⟩⟩
  by_cases h6 : c = 115
  · unfold ofVal ruleC
    rw [if_neg h0, if_neg h1, if_neg h2, if_neg h3, if_neg h4, if_neg h5, if_pos h6, if_neg h0, if_neg h1, if_neg h2, if_neg h3, if_neg h4, if_neg h5, if_pos h6]
    exact ⟨rfl, rfl, rfl, fun _ => ⟨⟨1, by decide, rfl, rfl⟩, fun n => (ht n).trans (a3 n).symm⟩⟩
  by_cases h7 : c = 112
  · unfold ofVal ruleC
    rw [if_neg h0, if_neg h1, if_neg h2, if_neg h3, if_neg h4, if_neg h5, if_neg h6, if_pos h7, if_neg h0, if_neg h1, if_neg h2, if_neg h3, if_neg h4, if_neg h5, if_neg h6, if_pos h7]
    exact ⟨rfl, rfl, rfl, fun _ => ⟨⟨1, by decide, rfl, rfl⟩, fun n => (ho n).trans (a4 n).symm⟩⟩
  by_cases h8 : c = 110
  · unfold ofVal ruleC
    rw [if_neg h0, if_neg h1, if_neg h2, if_neg h3, if_neg h4, if_neg h5, if_neg h6, if_neg h7, if_pos h8, if_neg h0, if_neg h1, if_neg h2, if_neg h3, if_neg h4, if_neg h5, if_neg h6, if_neg h7, if_pos h8]
    exact ⟨rfl, rfl, rfl, fun _ => ⟨⟨0, by decide, rfl, rfl⟩, fun n => (hw n).trans (a1 n).symm⟩⟩
  unfold ofVal ruleC
  rw [if_neg h0, if_neg h1, if_neg h2, if_neg h3, if_neg h4, if_neg h5, if_neg h6, if_neg h7, if_neg h8, if_neg h0, if_neg h1, if_neg h2, if_neg h3, if_neg h4, if_neg h5, if_neg h6, if_neg h7, if_neg h8]
  exact ⟨rfl, rfl, rfl, fun h => by cases h⟩
end Go.Proofs.YtnhbgahfmcicnaaGreatDoor.PA
end
