/- A part of the proof of the claim's statement. -/
import Derived.Test.YtnhbgahfmcicnaaGreatDoorPtM7
section
namespace Go.Proofs.YtnhbgahfmcicnaaGreatDoor.PA
set_option linter.unusedVariables false
set_option linter.unusedSimpArgs false
open Go.RowKit Go.Shelf Go.Proofs.YtnhbgahfmcicnaaGreatDoorW.PrintWords Go.Proofs.YtnhbgahfmcicnaaGreatDoorW.PrintLast Go.Proofs.YtnhbgahfmcicnaaGreatDoorW.PrintMore
theorem indexAny_pos : ∀ (l : List UInt8), decide (0 ≤ Lib.indexAny l [37, 0]) = (l.contains 0 || l.contains 37)
 | [] => rfl
 | b :: l => by
  have ih := indexAny_pos l
  have hge := Lib.indexAny_ge [37, 0] l
  unfold Lib.indexAny
  by_cases h : ([37, 0] : List UInt8).contains b = true
  ·rw [if_pos h]
   have : b = 37 ∨ b = 0 := by simpa using h
   rcases this with rfl | rfl
   ·simp
   ·simp
  ·rw [if_neg h]
   have hb : ¬ b = 37 ∧ ¬ b = 0 := by
    constructor
    ·intro e; exact h (by rw [e]; rfl)
    ·intro e; exact h (by rw [e]; rfl)
   have h1 : ((b :: l).contains 0 || (b :: l).contains 37) = (l.contains 0 || l.contains 37) := by
    rw [List.contains_cons, List.contains_cons, beq_eq_false_iff_ne.2 fun e : (0 : UInt8) = b => hb.2 e.symm, beq_eq_false_iff_ne.2 fun e : (37 : UInt8) = b => hb.1 e.symm]
    rfl
   rw [h1, ← ih]
   by_cases hm : Lib.indexAny l [37, 0] = -1
   ·rw [hm]; rfl
   ·rw [if_neg (by simpa using hm)]
    exact decide_eq_decide.2 ⟨fun _ => by omega, fun _ => by omega⟩
theorem hasB_byte (s : ByteArray) (c : UInt8) : hasB s (c.toNat : Int) = s.data.toList.contains c := by
 unfold hasB bytesOf
 rw [Bool.eq_iff_iff, List.contains_iff_mem, List.contains_iff_mem, List.mem_map]
 constructor
 ·rintro ⟨d, hd, e⟩
  have : d = c := UInt8.toNat_inj.1 (by omega)
  rw [← this]; exact hd
 ·intro h
  exact ⟨c, h, rfl⟩
theorem number_f (n : Int) : sorobanref21_number.f n = some (argOk n) := by
 unfold sorobanref21_number.f argOk
 by_cases h : n ≥ 0
 ·rw [if_pos h, decide_eq_true (show 0 ≤ n from h)]; rfl
 ·rw [if_neg h, decide_eq_false (show ¬ 0 ≤ n from h)]; rfl
theorem plain_f (x : S35) : sorobanref21_plain.f x.f0 x.f1 x.f2 x.f3 x.f4 x.f5 x.f6 x.f7 x.f8 = some (plainC x) := by
 unfold sorobanref21_plain.f plainC
 by_cases h1 : x.f1 = 0 <;> by_cases h2 : x.f2 = 0 <;> by_cases h3 : x.f3 = -1 <;> by_cases h4 : x.f4 = 0 <;> by_cases h5 : x.f5 = -1 <;> by_cases h6 : x.f6 = 0 <;> by_cases h7 : x.f7 = 0 <;> simp [h1, h2, h3, h4, h5, h6, h7]
def fieldOk (n a low : Int) : Bool := decide (n = -1) || (decide (a = 0) && (decide (low ≤ n) && decide (n ≤ 10000)))
theorem valid_tail (x : S35) (r : Bool) (hr : r = rfitsC x) (hf : sorobanref21_fits.f = sorobanref21_fits.f) (k : Nat)
  (hk : sorobanref21_fits.f k x.f0 x.f1 x.f2 x.f3 x.f4 x.f5 x.f6 x.f7 x.f8 = some r) (h0 : ¬ x.f8 = 0) (h37 : ¬ x.f8 = 37) (hl : x.f0.toList = ([] : List UInt8)) :
  sorobanref21_Valid.f k x.f0 x.f1 x.f2 x.f3 x.f4 x.f5 x.f6 x.f7 x.f8 =
   some (decide (1 ≤ x.f1) && (decide (x.f1 ≤ 64) && (argOk x.f4 && (argOk x.f6 && (fieldOk x.f3 x.f4 1 && (fieldOk x.f5 x.f6 0 && r)))))) := by
 unfold sorobanref21_Valid.f
 rw [if_neg h0, if_neg h37, if_pos hl]
 simp only [number_f, hk, Option.bind_some]
 unfold fieldOk
 by_cases h1 : x.f1 < 1
 ·rw [if_pos h1, decide_eq_false (show ¬ 1 ≤ x.f1 by omega)]; rfl
 ·rw [if_neg h1, decide_eq_true (show 1 ≤ x.f1 by omega)]
  by_cases h2 : x.f1 ≤ 64
  ·have e2 : argOk x.f1 = true := by unfold argOk; rw [decide_eq_true h2, decide_eq_true (show 0 ≤ x.f1 by omega)]; rfl
   rw [if_pos e2, decide_eq_true h2]
   cases argOk x.f4
   ·simp
   ·cases argOk x.f6
    ·simp
    ·by_cases a : x.f3 = -1
     ·by_cases b : x.f5 = -1
      ·simp [a, b]
      ·by_cases c : x.f6 = 0
       ·by_cases d : 0 ≤ x.f5
        ·by_cases e : x.f5 ≤ 10000 <;> simp [a, b, c, d, e]
        ·simp [a, b, c, d]
       ·simp [a, b, c]
     ·by_cases c4 : x.f4 = 0
      ·by_cases d3 : 1 ≤ x.f3
       ·by_cases e3 : x.f3 ≤ 10000
        ·by_cases b : x.f5 = -1
         ·simp [a, b, c4, d3, e3]
         ·by_cases c : x.f6 = 0
          ·by_cases d : 0 ≤ x.f5
           ·by_cases e : x.f5 ≤ 10000 <;> simp [a, b, c, d, e, c4, d3, e3]
           ·simp [a, b, c, d, c4, d3, e3]
          ·simp [a, b, c, c4, d3, e3]
        ·by_cases b : x.f5 = -1 <;> by_cases c : x.f6 = 0 <;> by_cases d : 0 ≤ x.f5 <;> simp [a, b, c, d, c4, d3, e3]
       ·by_cases b : x.f5 = -1 <;> by_cases c : x.f6 = 0 <;> by_cases d : 0 ≤ x.f5 <;> simp [a, b, c, d, c4, d3]
      ·by_cases b : x.f5 = -1 <;> by_cases c : x.f6 = 0 <;> by_cases d : 0 ≤ x.f5 <;> simp [a, b, c, d, c4]
  ·have e2 : argOk x.f1 = false := by unfold argOk; rw [decide_eq_false h2]; simp
   rw [if_neg (by rw [e2]; simp), decide_eq_false h2]; rfl
theorem fields_eq (x : S35) (wd pr : Bool) :
  (fieldOk x.f3 x.f4 1 && (fieldOk x.f5 x.f6 0 && endC x.f3 x.f4 x.f5 x.f6 wd pr)) =
  (withinC x.f3 1 && (withinC x.f5 0 && (!((decide (x.f4 ≠ 0) && decide (x.f3 ≠ -1)) || (decide (x.f6 ≠ 0) && decide (x.f5 ≠ -1))) && ((wd || (decide (x.f3 = -1) && decide (x.f4 = 0))) && (pr || (decide (x.f5 = -1) && decide (x.f6 = 0))))))) := by
 unfold fieldOk withinC endC
 by_cases a : x.f3 = -1
 ·have a' : x.f3 < 0 := by omega
  by_cases b : x.f5 = -1
  ·have b' : x.f5 < 0 := by omega
   by_cases c : x.f4 = 0 <;> by_cases d : x.f6 = 0 <;> cases wd <;> cases pr <;> simp [a, b, c, d]
  ·by_cases c : 0 ≤ x.f5
   ·have c' : ¬ x.f5 < 0 := by omega
    by_cases c4 : x.f4 = 0 <;> by_cases d : x.f6 = 0 <;> by_cases e : x.f5 ≤ 10000 <;> cases wd <;> cases pr <;> simp [a, b, c, c', c4, d, e]
   ·simp [a, b, c]
 ·by_cases b3 : 1 ≤ x.f3
  ·have b3' : ¬ x.f3 < 0 := by omega
   by_cases b : x.f5 = -1
   ·by_cases c4 : x.f4 = 0 <;> by_cases d : x.f6 = 0 <;> by_cases e : x.f3 ≤ 10000 <;> cases wd <;> cases pr <;> simp [a, b, b3, b3', c4, d, e]
   ·by_cases c : 0 ≤ x.f5
    ·have c' : ¬ x.f5 < 0 := by omega
     by_cases c4 : x.f4 = 0 <;> by_cases d : x.f6 = 0 <;> by_cases e3 : x.f3 ≤ 10000 <;> by_cases e : x.f5 ≤ 10000 <;> cases wd <;> cases pr <;> simp [a, b, b3, b3', c, c', c4, d, e, e3]
    ·simp [a, b, c]
  ·simp [a, b3]
theorem valid_f (k : Nat) (x : S35) (hs : x.f0.size ≤ 1000000) (hr : -9223372036854775808 ≤ x.f2 ∧ x.f2 ≤ 9223372036854775807) (hk : x.f0.size < k) :
  sorobanref21_Valid.f (k + 30) x.f0 x.f1 x.f2 x.f3 x.f4 x.f5 x.f6 x.f7 x.f8 = some (fitsC x) := by
 by_cases h0 : x.f8 = 0
 ·unfold sorobanref21_Valid.f fitsC txtOk
  rw [if_pos h0, if_pos h0, in_f x.f0 0 (by omega) (k + 30) (by omega), in_f x.f0 37 (by omega) (k + 30) (by omega)]
  have e0 : hasB x.f0 0 = x.f0.data.toList.contains 0 := hasB_byte x.f0 0
  have e37 : hasB x.f0 37 = x.f0.data.toList.contains 37 := hasB_byte x.f0 37
  rw [e0, e37, indexAny_pos, plain_f]
  simp only [Option.bind_some]
  by_cases hn : x.f0.data.toList = []
  ·rw [if_pos ((empty_iff _).2 hn)]; simp [hn]
  ·rw [if_neg fun h => hn ((empty_iff _).1 h)]
   cases x.f0.data.toList.contains 0
   ·cases x.f0.data.toList.contains 37
    ·simp [hn]
    ·simp [hn]
   ·simp [hn]
 ·by_cases h37 : x.f8 = 37
  ·unfold sorobanref21_Valid.f fitsC
   rw [if_neg h0, if_neg h0, if_pos h37, if_pos h37, plain_f]
   by_cases hn : x.f0.data.toList = []
   ·rw [if_pos ((empty_iff _).2 hn)]; simp [hn]
   ·rw [if_neg fun h => hn ((empty_iff _).1 h)]; simp [hn]
  ·by_cases hn : x.f0.data.toList = []
   ·rw [valid_tail x _ rfl rfl (k + 30) (rfits_f k x) h0 h37 ((empty_iff _).2 hn)]
    unfold fitsC rfitsC tailC
    rw [if_neg h0, if_neg h37]
    obtain ⟨o1, o2, o3, o4⟩ := of_rule x.f8
    rw [o1, o2, o3]
    cases hok : (ruleC x.f8).ok with
    | false => simp
    | true =>
     obtain ⟨⟨m, hm, e1, e2⟩, e3⟩ := o4 hok
     rw [e3, e2, e1, flags_eq hr hm]
     have hfe := fields_eq x (ruleC x.f8).wd (ruleC x.f8).pr
     rw [decide_eq_true hn]
     simp only [Bool.true_and]
     generalize decide (1 ≤ x.f1) = b1
     generalize decide (x.f1 ≤ 64) = b2
     generalize argOk x.f4 = b3
     generalize argOk x.f6 = b4
     generalize fieldOk x.f3 x.f4 1 = b5 at hfe ⊢
     generalize fieldOk x.f5 x.f6 0 = b6 at hfe ⊢
     generalize endC x.f3 x.f4 x.f5 x.f6 (ruleC x.f8).wd (ruleC x.f8).pr = b7 at hfe ⊢
     generalize decide (0 ≤ x.f2) = b8
     generalize decide (x.f2 ≤ 63) = b9
     generalize flagsOk x.f2 (flOf m) = b10
     generalize allowsC (ruleC x.f8).ln x.f7 = b11
     generalize withinC x.f3 1 = b12 at hfe ⊢
     generalize withinC x.f5 0 = b13 at hfe ⊢
     generalize (!((decide (x.f4 ≠ 0) && decide (x.f3 ≠ -1)) || (decide (x.f6 ≠ 0) && decide (x.f5 ≠ -1))) && (((ruleC x.f8).wd || (decide (x.f3 = -1) && decide (x.f4 = 0))) && ((ruleC x.f8).pr || (decide (x.f5 = -1) && decide (x.f6 = 0))))) = b14 at hfe ⊢
     rw [show (b1 && (b2 && (b3 && (b4 && (b5 && (b6 && (b8 && (b9 && (b10 && (b11 && b7)))))))))) = (b1 && (b2 && ((b8 && (b9 && b10)) && (b11 && ((b3 && b4) && (b5 && (b6 && b7))))))) by
      cases b1 <;> cases b2 <;> cases b3 <;> cases b4 <;> cases b5 <;> cases b6 <;> cases b8 <;> cases b9 <;> cases b10 <;> cases b11 <;> cases b7 <;> rfl, hfe]
     cases b1 <;> cases b2 <;> cases b3 <;> cases b4 <;> cases b8 <;> cases b9 <;> cases b10 <;> cases b11 <;> cases b12 <;> cases b13 <;> cases b14 <;> rfl
   ·unfold sorobanref21_Valid.f fitsC
    rw [if_neg h0, if_neg h0, if_neg h37, if_neg h37, if_neg fun h => hn ((empty_iff _).1 h)]
    simp [hn]
end Go.Proofs.YtnhbgahfmcicnaaGreatDoor.PA
end
