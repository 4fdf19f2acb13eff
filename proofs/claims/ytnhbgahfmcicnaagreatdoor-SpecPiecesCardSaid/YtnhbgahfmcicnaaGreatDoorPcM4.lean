/- A part of the proof of the claim's statement. -/
import Derived.Test.YtnhbgahfmcicnaaGreatDoorPcPAx6
import Derived.Test.YtnhbgahfmcicnaaGreatDoorPcPAx7
import Derived.Test.YtnhbgahfmcicnaaGreatDoorPcM3
section
namespace Go.Proofs.YtnhbgahfmcicnaaGreatDoor.PA
set_option linter.unusedVariables false
set_option linter.unusedSimpArgs false
open Go.RowKit Go.Shelf Go.Proofs.YtnhbgahfmcicnaaGreatDoorW.PrintWords Go.Proofs.YtnhbgahfmcicnaaGreatDoorW.PrintLast Go.Proofs.YtnhbgahfmcicnaaGreatDoorW.PrintMore
def withinC (n low : Int) : Bool := decide (n = -1) || (decide (low ≤ n) && decide (n ≤ 10000))
theorem within_f (n low : Int) : spec_within.f n low = some (withinC n low) := by
 unfold spec_within.f withinC
 by_cases h : n = -1
 ·rw [if_pos h]; simp [h]
 ·rw [if_neg h]
  by_cases h2 : low ≤ n
  ·rw [if_pos h2]; simp [h, h2]
  ·rw [if_neg h2]; simp [h, h2]
def plainC (x : S35) : Bool := decide (x.f1 = 0) && (decide (x.f2 = 0) && (decide (x.f3 = -1) && (decide (x.f4 = 0) && (decide (x.f5 = -1) && (decide (x.f6 = 0) && decide (x.f7 = 0))))))
def txtOk (s : ByteArray) : Bool := decide (s.data.toList ≠ []) && !decide (0 ≤ Lib.indexAny s.data.toList [37, 0])
def tailC (r : RuleT) (x : S35) : Bool :=
 !((decide (x.f4 ≠ 0) && decide (x.f3 ≠ -1)) || (decide (x.f6 ≠ 0) && decide (x.f5 ≠ -1))) && ((r.wd || (decide (x.f3 = -1) && decide (x.f4 = 0))) && (r.pr || (decide (x.f5 = -1) && decide (x.f6 = 0))))
def argOk (n : Int) : Bool := decide (0 ≤ n) && decide (n ≤ 64)
def fitsC (x : S35) : Bool :=
 if x.f8 = 0 then plainC x && txtOk x.f0
 else if x.f8 = 37 then decide (x.f0.data.toList = []) && plainC x
 else (ruleC x.f8).ok && (decide (x.f0.data.toList = []) && (decide (1 ≤ x.f1) && (decide (x.f1 ≤ 64) && (decide (Go.bits .andNot .i64 x.f2 (ruleC x.f8).fl = 0) && (allowsC (ruleC x.f8).ln x.f7 &&
  (withinC x.f3 1 && (withinC x.f5 0 && (argOk x.f4 && (argOk x.f6 && tailC (ruleC x.f8) x)))))))))
theorem j1_f (k : Nat) (b : Bool) (x : S35) (r : RuleT) : spec_fits.j1 (k + 1) b x.f0 x.f1 x.f2 x.f3 x.f4 x.f5 x.f6 x.f7 x.f8 r.fl r.ln r.wd r.pr = some (!b && tailC r x) := by
 obtain ⟨f0, f1, f2, f3, f4, f5, f6, f7, f8⟩ := x
 obtain ⟨rf, rl, rw_, rp, ro⟩ := r
 unfold spec_fits.j1 tailC
 dsimp only
 cases b
 ·by_cases h4 : f4 = 0 <;> by_cases h6 : f6 = 0 <;> by_cases h3 : f3 = -1 <;> by_cases h5 : f5 = -1 <;> cases rw_ <;> cases rp <;> simp [h4, h6, h3, h5]
 ·simp
theorem j0_f (k : Nat) (b : Bool) (x : S35) (r : RuleT) : spec_fits.j0 (k + 2) b x.f0 x.f1 x.f2 x.f3 x.f4 x.f5 x.f6 x.f7 x.f8 r.fl r.ln r.wd r.pr =
  some (!b && (withinC x.f3 1 && (withinC x.f5 0 && (argOk x.f4 && (argOk x.f6 && tailC r x))))) := by
 unfold spec_fits.j0
 simp only [within_f, Option.bind_some, j1_f k]
 unfold argOk
 cases b
 ·cases withinC x.f3 1
  ·simp
  ·cases withinC x.f5 0
   ·simp
   ·by_cases h1 : x.f4 < 0
    ·have h1' : ¬ 0 ≤ x.f4 := by omega
     simp [h1, h1']
    ·have h1' : 0 ≤ x.f4 := by omega
     by_cases h2 : x.f4 > 64
     ·have h2' : ¬ x.f4 ≤ 64 := by omega
      simp [h1, h1', h2, h2']
     ·have h2' : x.f4 ≤ 64 := by omega
      by_cases h3 : x.f6 < 0
      ·have h3' : ¬ 0 ≤ x.f6 := by omega
       simp [h1, h1', h2, h2', h3, h3']
      ·have h3' : 0 ≤ x.f6 := by omega
       by_cases h4 : x.f6 > 64
       ·have h4' : ¬ x.f6 ≤ 64 := by omega
        simp [h1, h1', h2, h2', h3, h3', h4, h4']
       ·have h4' : x.f6 ≤ 64 := by omega
        simp [h1, h1', h2, h2', h3, h3', h4, h4']
 ·simp
theorem empty_iff (s : ByteArray) : (s.toList = ([] : List UInt8)) ↔ s.data.toList = [] := by rw [Lib.toList_data]
theorem ruleOf_k (k : Nat) (c : Int) : spec_ruleOf.f (k + 5) c = some ((ruleC c).fl, (ruleC c).ln, (ruleC c).wd, (ruleC c).pr, (ruleC c).ok) := at_rounds (spec_ruleOf.mono c) (by omega) (ruleOf_st c)
theorem fits_f (k : Nat) (x : S35) (hs : x.f0.size < 4294967281) : spec_fits.f (k + 5) x.f0 x.f1 x.f2 x.f3 x.f4 x.f5 x.f6 x.f7 x.f8 = some (fitsC x) := by
 unfold spec_fits.f fitsC
 by_cases h0 : x.f8 = 0
 ·rw [if_pos h0, if_pos h0]
  have hp : (x.f1 == 0 && (x.f2 == 0 && (x.f3 == (-1) && (x.f4 == 0 && (x.f5 == (-1) && (x.f6 == 0 && (x.f7 == 0 && (x.f8 == 0)))))))) = plainC x := by
   rw [h0]
   unfold plainC
   simp only [BEq.rfl, Bool.and_true]
   rfl
  rw [hp]
  cases plainC x
  ·simp
  ·simp only [if_true, Bool.true_and, empty_iff]
   unfold txtOk strings_ContainsAny.f strings_IndexAny.f
   by_cases he : x.f0.data.toList = []
   ·simp [he]
   ·rw [if_neg he, if_pos ⟨rfl, hs⟩]
    simp [he]
 ·rw [if_neg h0, if_neg h0]
  by_cases h37 : x.f8 = 37
  ·rw [if_pos h37, if_pos h37]
   have hp : (x.f1 == 0 && (x.f2 == 0 && (x.f3 == (-1) && (x.f4 == 0 && (x.f5 == (-1) && (x.f6 == 0 && (x.f7 == 0 && (x.f8 == 37)))))))) = plainC x := by
    rw [h37]
    unfold plainC
    simp only [BEq.rfl, Bool.and_true]
    rfl
   rw [hp]
   have he : (x.f0.toList == ([] : List UInt8)) = decide (x.f0.data.toList = []) := by
    rw [Bool.eq_iff_iff, beq_iff_eq, decide_eq_true_iff]
    exact empty_iff _
   rw [he]
  ·rw [if_neg h37, if_neg h37, ruleOf_k k, Option.bind_some]
   dsimp only
   cases hok : (ruleC x.f8).ok
   ·simp only [Bool.false_eq_true, if_false, Bool.false_and]
    have := j0_f (k + 3) true x (ruleC x.f8)
    simp only [Bool.not_true, Bool.false_and] at this
    first | exact this | rfl
   ·simp only [if_true, Bool.true_and, empty_iff]
    have jt := j0_f (k + 3) true x (ruleC x.f8)
    simp only [Bool.not_true, Bool.false_and] at jt
    by_cases he : x.f0.data.toList = []
    ·rw [if_pos he]
     by_cases h1 : x.f1 < 1
     ·have h1' : ¬ 1 ≤ x.f1 := by omega
      rw [if_pos h1, jt]; simp [h1']
     ·have h1' : 1 ≤ x.f1 := by omega
      rw [if_neg h1]
      by_cases h2 : x.f1 > 64
      ·have h2' : ¬ x.f1 ≤ 64 := by omega
       rw [if_pos h2, jt]; simp [h2']
      ·have h2' : x.f1 ≤ 64 := by omega
       rw [if_neg h2]
       by_cases h3 : Go.bits .andNot .i64 x.f2 (ruleC x.f8).fl = 0
       ·rw [if_pos h3, allows_st, Option.bind_some, j0_f (k + 3) _ x (ruleC x.f8)]
        simp [he, h1', h2', h3]
       ·rw [if_neg h3, jt]; simp [h3]
    ·rw [if_neg he, jt]; simp [he]
def goC (all : List S35) (d : Nat) (i : Nat) : Int × Int := match d with
 | 0 => if wholeC all then (0, 0) else (1, (all.length : Int))
 | d + 1 => if fitsC (all.getD i z35) && !(decide (0 < i) && (decide ((all.getD i z35).f8 = 0) && decide ((all.getD (i - 1) z35).f8 = 0))) then goC all d (i + 1) else (1, (i : Int))
def checkC (l : List S35) : Int × Int := if 500 < l.length then (2, 0) else goC l l.length 0
theorem whole_f (l : List S35) (h : l.length ≤ 1000000) : spec_whole.f (allC l) = some (wholeC l) := by
 unfold spec_whole.f
 have := allC_length l
 rw [if_pos (by omega)]
 rfl
theorem rd_getD (l : List S35) (i : Nat) : rd_T35 l (i : Int) = l.getD i z35 := by
 unfold rd_T35
 rw [Int.toNat_natCast]
theorem check_go (l : List S35) (hl : l.length ≤ 1000000) (hs : ∀ x ∈ l, x.f0.size < 4294967281) : ∀ (d i k : Nat), i + d = l.length → d + l.length + 6 < k →
  spec_Check.l0 k l l (l.length : Int) (i : Int) = some (goC l d i) := by
 intro d
 induction d with
 | zero =>
  intro i k hi hk
  obtain ⟨k, rfl⟩ : ∃ j, k = j + 1 := ⟨k - 1, by omega⟩
  unfold spec_Check.l0
  rw [if_neg (by omega), all_f l hl (by omega), Option.bind_some, whole_f l hl, Option.bind_some]
  unfold goC
  cases wholeC l <;> rfl
 | succ d ih =>
  intro i k hi hk
  obtain ⟨k, rfl⟩ : ∃ j, k = j + 6 := ⟨k - 6, by omega⟩
  have hlt : i < l.length := by omega
  have hmem : l.getD i z35 ∈ l := by
   rw [List.getD_eq_getElem?_getD, List.getElem?_eq_getElem hlt]
   exact List.getElem_mem hlt
  unfold spec_Check.l0
  rw [if_pos (by omega), if_pos (Int.natCast_nonneg _), if_pos (by omega), rd_getD, fits_f k (l.getD i z35) (hs _ hmem), Option.bind_some]
  have e1 : wrap64 ((i : Int) + 1) = ((i + 1 : Nat) : Int) := by unfold wrap64; omega
  rw [e1]
  have ihk := ih (i + 1) (k + 5) (by omega) (by omega)
  rw [ihk]
  conv => rhs; unfold goC
  cases hf : fitsC (l.getD i z35)
  ·simp
  ·simp only [if_true, Bool.true_and]
   by_cases hi0 : 0 < i
   ·rw [if_pos (by omega : (i : Int) > 0)]
    by_cases h8 : (l.getD i z35).f8 = 0
    ·rw [if_pos h8]
     have e2 : wrap64 ((i : Int) - 1) = ((i - 1 : Nat) : Int) := by unfold wrap64; omega
     rw [e2, if_pos (Int.natCast_nonneg _), if_pos (by omega), rd_getD]
     by_cases h9 : (l.getD (i - 1) z35).f8 = 0
     ·rw [if_pos h9, if_neg (by rw [decide_eq_true hi0, decide_eq_true h8, decide_eq_true h9]; decide)]
     ·rw [if_neg h9, if_pos (by rw [decide_eq_false h9]; simp)]
    ·rw [if_neg h8, if_pos (by rw [decide_eq_false h8]; simp)]
   ·rw [if_neg (by omega : ¬ (i : Int) > 0), if_pos (by rw [decide_eq_false hi0]; rfl)]
theorem check_f (l : List S35) (hl : l.length ≤ 1000000) (hs : ∀ x ∈ l, x.f0.size < 4294967281) {k : Nat} (hk : 2 * l.length + 6 < k) : spec_Check.f k l = some (checkC l) := by
 unfold spec_Check.f checkC
 by_cases h : 500 < l.length
 ·rw [if_pos (by omega), if_pos h]
 ·rw [if_neg (by omega), if_neg h]
  exact check_go l hl hs l.length 0 k (by omega) (by omega)
end Go.Proofs.YtnhbgahfmcicnaaGreatDoor.PA
end
