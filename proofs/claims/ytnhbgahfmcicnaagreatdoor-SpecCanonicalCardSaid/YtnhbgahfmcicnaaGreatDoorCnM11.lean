/- A part of the proof of the claim's statement. -/
import Derived.Test.YtnhbgahfmcicnaaGreatDoorCnM6
import Derived.Test.YtnhbgahfmcicnaaGreatDoorCnG2f1
import Derived.Test.YtnhbgahfmcicnaaGreatDoorCnM4
import Derived.Test.YtnhbgahfmcicnaaGreatDoorCnM7
import Derived.Test.YtnhbgahfmcicnaaGreatDoorCnM8
import Derived.Test.YtnhbgahfmcicnaaGreatDoorCnM0
import Derived.Test.YtnhbgahfmcicnaaGreatDoorCnG2f
import Derived.Lib.ItoaLen
section
namespace Go.Proofs.YtnhbgahfmcicnaaGreatDoor.PA
set_option linter.unusedVariables false
set_option linter.unusedSimpArgs false
open Go.RowKit Go.Proofs.YtnhbgahfmcicnaaGreatDoorW.PrintWords Go.Proofs.YtnhbgahfmcicnaaGreatDoorW.PrintLast
theorem itoa_pos {n : Int} (h : 0 ≤ n) : Lib.itoa n = Lib.decDigits n.toNat := by unfold Lib.itoa; rw [if_neg (by omega)]
end Go.Proofs.YtnhbgahfmcicnaaGreatDoor.PA
end
section
namespace Go.Proofs.YtnhbgahfmcicnaaGreatDoor.PA
set_option linter.unusedVariables false
set_option linter.unusedSimpArgs false
open Go.RowKit Go.Proofs.YtnhbgahfmcicnaaGreatDoorW.PrintWords Go.Proofs.YtnhbgahfmcicnaaGreatDoorW.PrintLast
def bodyB (x : S35) (p : Bool) : List UInt8 :=
  (if p then Lib.itoa x.f1 ++ [36] else []) ++ (flagMarks x.f2 6 ++ (widthB x.f3 x.f4 p ++ (precB x.f5 x.f6 p ++ (mods.getD x.f7.toNat [] ++ [x.f8.toNat.toUInt8]))))
theorem shown_body (x : S35) (p : Bool) : shownB x.f1 x.f2 x.f3 x.f4 x.f5 x.f6 x.f7 x.f8 p = 37 :: bodyB x p := by
  unfold shownB headB bodyB
  cases p <;> simp
def nextN (x : S35) (nx : Int) : Prop :=
  (x.f4 ≠ 0 → x.f4 = nx + 1) ∧ (x.f6 ≠ 0 → x.f6 = nx + (if x.f4 = 0 then 0 else 1) + 1) ∧ x.f1 = nx + (if x.f4 = 0 then 0 else 1) + (if x.f6 = 0 then 0 else 1) + 1
def afterN (x : S35) (p : Bool) (nx : Int) : Int := if p then nx else x.f1
structure ConvOk (x : S35) : Prop where
  f0 : x.f0 = ⟨#[]⟩
  ok : (ruleC x.f8).ok = true
  i1 : 1 ≤ x.f1 ∧ x.f1 ≤ 64
  i2 : 0 ≤ x.f2 ∧ x.f2 ≤ 63
  bits : Go.bits .andNot .i64 x.f2 (ruleC x.f8).fl = 0
  len : allowsC (ruleC x.f8).ln x.f7 = true
  i3 : x.f3 = -1 ∨ (x.f4 = 0 ∧ 1 ≤ x.f3 ∧ x.f3 ≤ 10000)
  i4 : 0 ≤ x.f4 ∧ x.f4 ≤ 64
  i5 : x.f5 = -1 ∨ (x.f6 = 0 ∧ 0 ≤ x.f5 ∧ x.f5 ≤ 10000)
  i6 : 0 ≤ x.f6 ∧ x.f6 ≤ 64
  i7 : 0 ≤ x.f7 ∧ x.f7 < 12
  i8 : 0 ≤ x.f8 ∧ x.f8 < 256
  wd : (ruleC x.f8).wd = true ∨ (x.f3 = -1 ∧ x.f4 = 0)
  pr : (ruleC x.f8).pr = true ∨ (x.f5 = -1 ∧ x.f6 = 0)
end Go.Proofs.YtnhbgahfmcicnaaGreatDoor.PA
end
section
namespace Go.Proofs.YtnhbgahfmcicnaaGreatDoor.PA
set_option linter.unusedVariables false
set_option linter.unusedSimpArgs false
open Go.RowKit Go.Proofs.YtnhbgahfmcicnaaGreatDoorW.PrintWords Go.Proofs.YtnhbgahfmcicnaaGreatDoorW.PrintLast
theorem bytes_nil {s : ByteArray} (h : s.data.toList = []) : s = ⟨#[]⟩ := by
  obtain ⟨d⟩ := s
  have : d = #[] := Array.toList_inj.1 h
  rw [this]
theorem rule_fl (c : Int) : (ruleC c).ok = true → ∃ m : Nat, m ∈ [55, 49, 25, 31, 63, 1, 0] ∧ (ruleC c).fl = (m : Int) := fun h => by
  obtain ⟨m, h1, h2, _⟩ := ((of_rule c).2.2.2 h).1
  exact ⟨m, h1, h2⟩
theorem conv_ok {x : S35} (hp : PieceOk x) (hf : fitsC x = true) (h0 : ¬ x.f8 = 0) (h37 : ¬ x.f8 = 37) : ConvOk x := by
  unfold fitsC at hf
  rw [if_neg h0, if_neg h37] at hf
  simp only [Bool.and_eq_true, decide_eq_true_eq] at hf
  obtain ⟨ho, hl, ha, hb, hfl, hln, hw, hpr, h4, h6, ht⟩ := hf
  unfold argOk at h4 h6
  unfold withinC at hw hpr
  unfold tailC at ht
  simp only [Bool.and_eq_true, Bool.or_eq_true, decide_eq_true_eq, Bool.not_eq_true', Bool.or_eq_false_iff, Bool.and_eq_false_iff, decide_eq_false_iff_not, ne_eq, Decidable.not_not] at h4 h6 hw hpr ht
  obtain ⟨m, hm, e⟩ := rule_fl _ ho
  have hm2 : m < 64 := by
    simp only [List.mem_cons, List.not_mem_nil, or_false] at hm
    omega
  have hln2 := hln
  unfold allowsC at hln2
  refine ⟨bytes_nil hl, ho, ⟨ha, hb⟩, andNot_small hp.i2 hm2 (by rw [← e]; exact hfl), hfl, hln, by omega, h4, by omega, h6, ?_, ⟨hp.i8.1, by have := hp.i8.2; omega⟩, ht.2.1, ht.2.2⟩
  repeat' split at hln2
  all_goals
    simp only [Bool.and_eq_true, Bool.or_eq_true, decide_eq_true_eq] at hln2
    omega
def textB (x : S35) (p : Bool) : List UInt8 := if x.f8 = 0 then x.f0.data.toList else if x.f8 = 37 then [37, 37] else 37 :: bodyB x p
theorem shown_text {x : S35} (p : Bool) (hp : PieceOk x) (hf : fitsC x = true) : shownOf x p = some (strOf (textB x p)) := by
  unfold shownOf spec_shown.f textB
  by_cases h0 : x.f8 = 0
  · rw [if_pos h0, if_pos h0]; rfl
  · rw [if_neg h0, if_neg h0]
    by_cases h37 : x.f8 = 37
    · rw [if_pos h37, if_pos h37]
    · rw [if_neg h37, if_neg h37]
      have hc := conv_ok hp hf h0 h37
      rw [if_pos ⟨hp.i1, hp.i3, hp.i4, hp.i5, hp.i6, hc.i7.1, hc.i7.2, hc.i8.1, hc.i8.2⟩, shown_body]
def textsB (l : List S35) (p : Bool) : List UInt8 := l.flatMap fun x => textB x p
theorem shownList_text : ∀ (l : List S35) (p : Bool), (∀ x ∈ l, PieceOk x ∧ fitsC x = true) → ∃ ps, shownList l p = some ps ∧ bytesOf ps = textsB l p
  | [], p, _ => ⟨[], rfl, rfl⟩
  | x :: l, p, h => by
    obtain ⟨ps, h1, h2⟩ := shownList_text l p fun y hy => h y (List.mem_cons_of_mem _ hy)
    obtain ⟨a, b⟩ := h x List.mem_cons_self
    refine ⟨strOf (textB x p) :: ps, ?_, ?_⟩
    · unfold shownList
      rw [shown_text p a b, h1]
      rfl
    · unfold bytesOf textsB at *
      rw [List.flatMap_cons, List.flatMap_cons, h2]
      rfl
def seqN : Int → List Int → Prop
  | _, [] => True
  | n, a :: r => a = n + 1 ∧ seqN (n + 1) r
def apart : List S35 → Prop
  | [] => True
  | [_] => True
  | x :: y :: l => ¬ (x.f8 = 0 ∧ y.f8 = 0) ∧ apart (y :: l)
end Go.Proofs.YtnhbgahfmcicnaaGreatDoor.PA
end
section
namespace Go.Proofs.YtnhbgahfmcicnaaGreatDoor.PA
set_option linter.unusedVariables false
set_option linter.unusedSimpArgs false
open Go.RowKit Go.Proofs.YtnhbgahfmcicnaaGreatDoorW.PrintWords Go.Proofs.YtnhbgahfmcicnaaGreatDoorW.PrintLast
structure ListOk (l : List S35) : Prop where
  len : l.length ≤ 500
  fit : ∀ x ∈ l, fitsC x = true
  apart : apart l
  whole : wholeC l = true
theorem goC_ok (l : List S35) : ∀ (d i : Nat), i + d = l.length → goC l d i = (0, 0) → (∀ j, i ≤ j → j < l.length → fitsC (l.getD j z35) = true ∧ (0 < j → ¬ ((l.getD j z35).f8 = 0 ∧ (l.getD (j - 1) z35).f8 = 0))) ∧ wholeC l = true := by
  intro d
  induction d with
  | zero =>
    intro i hi h
    unfold goC at h
    cases hw : wholeC l with
    | true => exact ⟨fun j h1 h2 => by omega, rfl⟩
    | false =>
      rw [hw] at h
      have := congrArg Prod.fst h
      exact absurd this (by simp)
  | succ d ih =>
    intro i hi h
    unfold goC at h
    by_cases hc : (fitsC (l.getD i z35) && !(decide (0 < i) && (decide ((l.getD i z35).f8 = 0) && decide ((l.getD (i - 1) z35).f8 = 0)))) = true
    · rw [if_pos hc] at h
      obtain ⟨h1, h2⟩ := ih (i + 1) (by omega) h
      refine ⟨fun j hj hl => ?_, h2⟩
      rcases (by omega : j = i ∨ i + 1 ≤ j) with rfl | hj2
      · simp only [Bool.and_eq_true, Bool.not_eq_true', Bool.and_eq_false_iff, decide_eq_false_iff_not] at hc
        refine ⟨hc.1, fun h0 hh => ?_⟩
        rcases hc.2 with h | h | h
        · exact h h0
        · exact h hh.1
        · exact h hh.2
      · exact h1 j hj2 hl
    · rw [if_neg hc] at h
      have := congrArg Prod.fst h
      exact absurd this (by simp)
theorem apart_of : ∀ (l : List S35), (∀ j, 0 < j → j < l.length → ¬ ((l.getD j z35).f8 = 0 ∧ (l.getD (j - 1) z35).f8 = 0)) → apart l
  | [], _ => trivial
  | [_], _ => trivial
  | x :: y :: l, h => by
    refine ⟨fun e => h 1 (by omega) (by simp) ⟨e.2, e.1⟩, apart_of (y :: l) fun j h0 hj hh => h (j + 1) (by omega) (by simp only [List.length_cons] at hj ⊢; omega) ?_⟩
    obtain ⟨k, rfl⟩ : ∃ k, j = k + 1 := ⟨j - 1, by omega⟩
    exact hh
theorem check_ok {l : List S35} (h : checkC l = (0, 0)) : ListOk l := by
  unfold checkC at h
  by_cases hl : 500 < l.length
  · rw [if_pos hl] at h
    have := congrArg Prod.fst h
    exact absurd this (by simp)
  · rw [if_neg hl] at h
    obtain ⟨h1, h2⟩ := goC_ok l l.length 0 (by omega) h
    refine ⟨by omega, fun x hx => ?_, apart_of l fun j h0 hj => (h1 j (Nat.zero_le _) hj).2 h0, h2⟩
    obtain ⟨j, hj, rfl⟩ := List.mem_iff_getElem.1 hx
    have := (h1 j (Nat.zero_le _) hj).1
    rw [List.getD_eq_getElem?_getD, List.getElem?_eq_getElem hj] at this
    exact this
theorem ordered_go (ns : List Int) (hl : ns.length ≤ 10000000) : ∀ (d i k : Nat), i + d = ns.length → d < k → (∀ j, j < i → ns[j]?.getD 0 = (j : Int) + 1) →
    spec_ordered.l0 k ns (ns.length : Int) (i : Int) = some (oneUp ns) := by
  intro d
  induction d with
  | zero =>
    intro i k hi hk hj
    obtain ⟨k, rfl⟩ : ∃ j, k = j + 1 := ⟨k - 1, by omega⟩
    unfold spec_ordered.l0
    rw [if_neg (by omega), oneUp_true fun j h => hj j (by omega)]
  | succ d ih =>
    intro i k hi hk hj
    obtain ⟨k, rfl⟩ : ∃ j, k = j + 1 := ⟨k - 1, by omega⟩
    have hlt : i < ns.length := by omega
    have hr : rd ns (i : Int) = ns[i]?.getD 0 := by
      unfold rd
      rw [Int.toNat_natCast, List.getD_eq_getElem?_getD]
    have hw : wrap64 ((i : Int) + 1) = ((i + 1 : Nat) : Int) := by unfold wrap64; omega
    unfold spec_ordered.l0
    rw [if_pos (by omega), if_pos (by omega), if_pos (by omega), hw, hr]
    by_cases e : ns[i]?.getD 0 = ((i + 1 : Nat) : Int)
    · rw [if_pos e]
      exact ih (i + 1) k (by omega) (by omega) fun j h => by
        rcases (by omega : j < i ∨ j = i) with h | rfl
        · exact hj j h
        · rw [e]; omega
    · rw [if_neg e, oneUp_false hlt (by omega)]
theorem ordered_f (ns : List Int) (hl : ns.length ≤ 10000000) {k : Nat} (hk : ns.length < k) : spec_ordered.f k ns = some (oneUp ns) :=
  ordered_go ns hl ns.length 0 k (by omega) hk fun j h => by omega
theorem star_le {n : Int} (h : In64 n) (p : Bool) : (starB n p).length ≤ 23 := by
  unfold starB
  have := Lib.itoa_length_le n h.1 h.2
  cases p
  · simp
  · simp
    omega
theorem body_le {x : S35} (h : PieceOk x) (p : Bool) : (bodyB x p).length ≤ 100 := by
  unfold bodyB widthB precB
  have a1 := Lib.itoa_length_le x.f1 h.i1.1 h.i1.2
  have a3 := Lib.itoa_length_le x.f3 h.i3.1 h.i3.2
  have a5 := Lib.itoa_length_le x.f5 h.i5.1 h.i5.2
  have a4 := star_le h.i4 p
  have a6 := star_le h.i6 p
  have a2 := flagMarks_length x.f2 6
  have am := mods_len x.f7.toNat
  simp only [List.length_append]
  have b1 : (if p = true then Lib.itoa x.f1 ++ [36] else []).length ≤ 22 := by
    split
    · rw [List.length_append, List.length_singleton]; omega
    · simp
  have b3 : (if 0 < x.f4 then starB x.f4 p else if 0 < x.f3 then Lib.itoa x.f3 else []).length ≤ 23 := by
    repeat' split
    · exact a4
    · omega
    · simp
  have b5 : (if 0 < x.f6 then 46 :: starB x.f6 p else if 0 < x.f5 then 46 :: Lib.itoa x.f5 else if x.f5 = 0 then [46] else []).length ≤ 24 := by
    repeat' split
    · rw [List.length_cons]; omega
    · rw [List.length_cons]; omega
    · simp
    · simp
  rw [List.length_singleton]
  omega
theorem textB_le {x : S35} (h : PieceOk x) (hs : x.f0.size ≤ 20000) (p : Bool) : (textB x p).length ≤ 20100 := by
  unfold textB
  have := body_le h p
  repeat' split
  · rw [Array.length_toList]
    exact Nat.le_trans hs (by omega)
  · simp
  · rw [List.length_cons]; omega
theorem textsB_le : ∀ {l : List S35} (p : Bool), (∀ x ∈ l, PieceOk x) → (∀ x ∈ l, x.f0.size ≤ 20000) → (textsB l p).length ≤ l.length * 20100
  | [], p, _, _ => Nat.zero_le _
  | x :: l, p, h, hs => by
    have ih := textsB_le (l := l) p (fun y hy => h y (List.mem_cons_of_mem _ hy)) (fun y hy => hs y (List.mem_cons_of_mem _ hy))
    have hx := textB_le (h x List.mem_cons_self) (hs x List.mem_cons_self) p
    have e : textsB (x :: l) p = textB x p ++ textsB l p := by unfold textsB; rw [List.flatMap_cons]
    rw [e, List.length_append, List.length_cons, Nat.succ_mul]
    omega
theorem print_f {l : List S35} (hc : checkC l = (0, 0)) (hp : ∀ x ∈ l, PieceOk x) (hs : ∀ x ∈ l, x.f0.size ≤ 20000) {k : Nat} (hk : 4 * l.length + 10 < k) :
    spec_Print.f k l = some (if 2000 < (textsB l (!oneUp (allC l))).length then ((⟨#[]⟩ : ByteArray), 2) else (strOf (textsB l (!oneUp (allC l))), 0)) := by
  have h := check_ok hc
  have hlen := h.len
  have hal := allC_length l
  obtain ⟨ps, e1, e2⟩ := shownList_text l (!oneUp (allC l)) fun x hx => ⟨hp x hx, h.fit x hx⟩
  unfold spec_Print.f
  rw [check_f l (by omega) (fun x hx => by have := hs x hx; omega) (by omega), Option.bind_some, hc, if_pos rfl, all_f l (by omega) (by omega), Option.bind_some, ordered_f _ (by omega) (by omega), Option.bind_some, e1, Option.bind_some, e2]
  have hsz : (textsB l (!oneUp (allC l))).length ≤ 140737488355328 := by
    have := textsB_le (!oneUp (allC l)) hp hs
    omega
  rw [if_pos ⟨by omega, hsz⟩]
  by_cases h2 : 2000 < (textsB l (!oneUp (allC l))).length
  · rw [if_pos h2, if_pos h2]
  · rw [if_neg h2, if_neg h2]
end Go.Proofs.YtnhbgahfmcicnaaGreatDoor.PA
end
