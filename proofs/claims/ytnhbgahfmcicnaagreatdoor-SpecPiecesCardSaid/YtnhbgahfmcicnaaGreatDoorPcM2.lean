/- A part of the proof of the claim's statement. -/
import Derived.Test.YtnhbgahfmcicnaaGreatDoorPcPAx10
import Derived.Test.YtnhbgahfmcicnaaGreatDoorPcPAx4
import Derived.Test.YtnhbgahfmcicnaaGreatDoorPcPAx5
import Derived.Test.YtnhbgahfmcicnaaGreatDoorPcM1
section
namespace Go.Proofs.YtnhbgahfmcicnaaGreatDoor.PA
set_option linter.unusedVariables false
set_option linter.unusedSimpArgs false
open Go.RowKit Go.Shelf Go.Proofs.YtnhbgahfmcicnaaGreatDoorW.PrintWords Go.Proofs.YtnhbgahfmcicnaaGreatDoorW.PrintLast Go.Proofs.YtnhbgahfmcicnaaGreatDoorW.PrintMore
structure Suf (fmt : ByteArray) (l : List UInt8) : Prop where
 s : l <:+ fmt.data.toList
 z : fmt.size ≤ 2000
def st (fmt : ByteArray) (l : List UInt8) (b nx pl : Int) (lg : Bool) : RdT := (((fmt.size - l.length : Nat) : Int), fmt, b, nx, pl, lg)
theorem Suf.len {fmt : ByteArray} {l : List UInt8} (h : Suf fmt l) : l.length ≤ fmt.size := by
 have := h.s.length_le
 rwa [data_length] at this
theorem Suf.of {fmt : ByteArray} {l t : List UInt8} (h : Suf fmt l) (ht : t <:+ l) : Suf fmt t := ⟨ht.trans h.s, h.z⟩
theorem Suf.tail {fmt : ByteArray} {c : UInt8} {l : List UInt8} (h : Suf fmt (c :: l)) : Suf fmt l := h.of (List.suffix_cons c l)
theorem Suf.at_ {fmt : ByteArray} {c : UInt8} {l : List UInt8} (h : Suf fmt (c :: l)) : bt fmt ((fmt.size - (c :: l).length : Nat) : Int) = (c.toNat : Int) := by
 have hl := h.len
 obtain ⟨pre, hp⟩ := h.s
 have hz : fmt.data.toList.length = fmt.size := data_length fmt
 have hpl : pre.length = fmt.size - (c :: l).length := by
  rw [← hz, ← hp, List.length_append]
  omega
 have hlt : fmt.size - (c :: l).length < fmt.size := by
  simp only [List.length_cons] at hl ⊢
  omega
 unfold bt
 rw [Int.toNat_natCast, dif_pos hlt]
 have e : fmt[fmt.size - (c :: l).length]'hlt = c := by
  show fmt.data[fmt.size - (c :: l).length]'hlt = c
  rw [← Array.getElem_toList]
  simp only [← hp, ← hpl]
  simp
 rw [e]
theorem hdI_range (l : List UInt8) : 0 ≤ hdI l ∧ hdI l < 256 := by
 cases l with
 | nil => exact ⟨Int.le_refl 0, by decide⟩
 | cons c l => exact ⟨Int.natCast_nonneg _, by have := c.toNat_lt; show ((c.toNat : Nat) : Int) < 256; omega⟩
theorem skipC_cons (b c : UInt8) (l : List UInt8) : skipC b (c :: l) = if c = b then some l else none := rfl
theorem skipC_suf {b : UInt8} {l t : List UInt8} (h : skipC b l = some t) : t <:+ l := by
 cases l with
 | nil => cases h
 | cons c l =>
  rw [skipC_cons] at h
  by_cases e : c = b
  ·rw [if_pos e] at h
   obtain rfl := Option.some.inj h
   exact List.suffix_cons _ _
  ·rw [if_neg e] at h
   cases h
theorem numC_suf (m : Int) : ∀ (l : List UInt8) (n : Int), (numC m n l).2 <:+ l := by
 intro l
 induction l with
 | nil => exact fun n => List.suffix_refl _
 | cons c l ih =>
  intro n
  unfold numC
  split
  ·exact (ih _).trans (List.suffix_cons c l)
  ·exact List.suffix_refl _
theorem flagsC_suf : ∀ (l : List UInt8) (a : Int), (flagsC a l).2 <:+ l := by
 intro l
 induction l with
 | nil => exact fun n => List.suffix_refl _
 | cons c l ih =>
  intro n
  unfold flagsC
  split
  ·exact List.suffix_refl _
  ·exact (ih _).trans (List.suffix_cons c l)
theorem placeC_suf (l : List UInt8) : (placeC l).2 <:+ l := by
 unfold placeC
 split
 ·split
  ·rename_i t h
   exact (skipC_suf h).trans (numC_suf _ _ _)
  ·exact List.suffix_refl _
 ·exact List.suffix_refl _
theorem starC_suf {l : List UInt8} {x : Int × List UInt8} (h : starC l = some x) : x.2 <:+ l := by
 unfold starC at h
 split at h
 ·obtain ⟨t, ht, rfl⟩ := Option.map_eq_some_iff.1 h
  exact (skipC_suf ht).trans (numC_suf _ _ _)
 ·obtain rfl := Option.some.inj h
  exact List.suffix_refl _
theorem fieldC_suf {l : List UInt8} {x : Fld × List UInt8} (h : fieldC l = some x) : x.2 <:+ l := by
 unfold fieldC at h
 split at h
 ·rename_i t ht
  obtain ⟨y, hy, rfl⟩ := Option.map_eq_some_iff.1 h
  exact (starC_suf hy).trans (skipC_suf ht)
 ·obtain rfl := Option.some.inj h
  exact numC_suf _ _ _
theorem lenC_suf (l : List UInt8) : (lenC l).2 <:+ l := List.drop_suffix _ _
theorem widthC_suf {l : List UInt8} {x : Fld × List UInt8} (h : widthC l = some x) : x.2 <:+ l := by
 unfold widthC at h
 split at h
 ·exact fieldC_suf h
 ·obtain rfl := Option.some.inj h
  exact List.suffix_refl _
theorem precC_suf {l : List UInt8} {x : Fld × List UInt8} (h : precC l = some x) : x.2 <:+ l := by
 unfold precC at h
 split at h
 ·rename_i t ht
  exact (fieldC_suf h).trans (skipC_suf ht)
 ·obtain rfl := Option.some.inj h
  exact List.suffix_refl _
theorem isDigit_st (c : Int) : spec_isDigit.f c = some (isDig c) := by
 unfold spec_isDigit.f isDig
 by_cases h : 48 ≤ c
 ·rw [if_pos h]; simp [h]
 ·rw [if_neg h]; simp [h]
section
variable {fmt : ByteArray} {l : List UInt8} {b nx pl : Int} {lg : Bool} {v : SlV}
theorem peekT_st (h : Suf fmt l) : peekT (st fmt l b nx pl lg) v = some (hdI l, st fmt l b nx pl lg) := by
 unfold peekT st spec_reader_peek.f
 cases l with
 | nil =>
  rw [if_neg (by simp)]
  rfl
 | cons c l =>
  have hl := h.len
  rw [if_pos (by simp only [List.length_cons] at hl ⊢; omega), if_pos (Int.natCast_nonneg _)]
  rw [show bt (((fmt.size - (c :: l).length : Nat) : Int), fmt, b, nx, pl, lg).2.1 (((fmt.size - (c :: l).length : Nat) : Int), fmt, b, nx, pl, lg).1 = (c.toNat : Int) from h.at_]
  rfl
theorem step_st {c : UInt8} (h : Suf fmt (c :: l)) : wrap64 (((fmt.size - (c :: l).length : Nat) : Int) + 1) = ((fmt.size - l.length : Nat) : Int) := by
 have hl := h.len
 have hz := h.z
 simp only [List.length_cons] at hl ⊢
 unfold wrap64
 omega
theorem skipT_st (h : Suf fmt l) (c : UInt8) (hc : (c.toNat : Int) ≠ 0) : skipT (st fmt l b nx pl lg) v (c.toNat : Int) = some (match skipC c l with
  | some t => (true, st fmt t b nx pl lg)
  | none => (false, st fmt l b nx pl lg)) := by
 have hp := peekT_st (b := b) (nx := nx) (pl := pl) (lg := lg) (v := v) h
 unfold peekT st at hp
 unfold skipT spec_reader_skip.f st
 rw [if_neg hc, hp, Option.bind_some]
 cases l with
 | nil =>
  rw [if_neg (fun e => hc e.symm)]
  have e : (hdI [] == (c.toNat : Int)) = false := beq_eq_false_iff_ne.2 (fun e => hc e.symm)
  simp only [e]
  rfl
 | cons d l =>
  by_cases e : d = c
  ·subst e
   dsimp only
   rw [if_pos (show hdI (d :: l) = (d.toNat : Int) from rfl), step_st h, skipC_cons, if_pos rfl]
   have e2 : (hdI (d :: l) == (d.toNat : Int)) = true := beq_self_eq_true _
   rw [e2]
  ·have e1 : (d.toNat : Int) ≠ (c.toNat : Int) := fun q => e (UInt8.toNat_inj.1 (by omega))
   dsimp only
   have e2 : (hdI (d :: l) == (c.toNat : Int)) = false := beq_eq_false_iff_ne.2 e1
   rw [if_neg (show ¬ hdI (d :: l) = (c.toNat : Int) from e1), skipC_cons, if_neg e, e2]
theorem wrap_small {x : Int} (h : -1000000000 ≤ x ∧ x ≤ 1000000000) : wrap64 x = x := by unfold wrap64; omega
theorem numberT_go (m : Int) (hm : 0 ≤ m ∧ m ≤ 100000) : ∀ (l : List UInt8) (k : Nat) (n : Int), l.length < k → 0 ≤ n → n ≤ m + 1 → Suf fmt l →
  spec_reader_number.l0 k m n ((fmt.size - l.length : Nat) : Int) fmt b nx pl lg v = some ((numC m n l).1, st fmt (numC m n l).2 b nx pl lg) := by
 intro l
 induction l with
 | nil =>
  intro k n hk h0 h1 hs
  obtain ⟨k, rfl⟩ : ∃ j, k = j + 1 := ⟨k - 1, by simp only [List.length_nil] at hk; omega⟩
  have hp := peekT_st (b := b) (nx := nx) (pl := pl) (lg := lg) (v := v) hs
  unfold peekT st at hp
  unfold spec_reader_number.l0
  rw [hp, Option.bind_some, isDigit_st, Option.bind_some]
  dsimp only
  rw [if_neg (show ¬ isDig (hdI []) = true from by decide)]
  rfl
 | cons c l ih =>
  intro k n hk h0 h1 hs
  obtain ⟨k, rfl⟩ : ∃ j, k = j + 1 := ⟨k - 1, by simp only [List.length_cons] at hk; omega⟩
  have hp := peekT_st (b := b) (nx := nx) (pl := pl) (lg := lg) (v := v) hs
  unfold peekT st at hp
  unfold spec_reader_number.l0
  rw [hp, Option.bind_some, isDigit_st, Option.bind_some]
  unfold numC
  by_cases e : isDig (hdI (c :: l)) = true
  ·have e2 : isDig (c.toNat : Int) = true := e
   have hd : 48 ≤ (c.toNat : Int) ∧ (c.toNat : Int) ≤ 57 := by
    unfold isDig at e2
    simpa using e2
   rw [if_pos e, if_pos e2]
   dsimp only
   rw [hp, Option.bind_some]
   dsimp only
   rw [step_st hs, wrap_small (x := m + 1) (by omega), wrap_small (x := 10 * n) (by omega), show (hdI (c :: l) - 48) % 256 = (c.toNat : Int) - 48 from by show ((c.toNat : Int) - 48) % 256 = _; omega, wrap_small (by omega)]
   exact ih k _ (by simp only [List.length_cons] at hk; omega) (by unfold mn; split <;> omega) (by unfold mn; split <;> omega) hs.tail
  ·have e2 : ¬ isDig (c.toNat : Int) = true := e
   rw [if_neg e, if_neg e2]
   rfl
theorem numberT_st (h : Suf fmt l) (m : Int) (hm : 0 ≤ m ∧ m ≤ 100000) {k : Nat} (hk : 2000 < k) : numberT k (st fmt l b nx pl lg) v m = some ((numC m 0 l).1, st fmt (numC m 0 l).2 b nx pl lg) :=
 numberT_go m hm l k 0 (by have := h.len; have := h.z; omega) (Int.le_refl 0) (by omega) h
theorem starT_st (h : Suf fmt l) {k : Nat} (hk : 2000 < k) : starT k (st fmt l b nx pl lg) v = some (match starC l with
  | some x => .ok (x.1, st fmt x.2 b nx pl lg)
  | none => .error (6, b)) := by
 unfold starT
 rw [peekT_st h, Option.bind_some, isDigit_st, Option.bind_some]
 dsimp only
 unfold starC
 by_cases c : posB l = true
 ·have c2 : isDig (hdI l) = true ∧ hdI l ≠ 48 := by unfold posB at c; simpa using c
  have hn : Suf fmt (numC 64 0 l).2 := h.of (numC_suf _ _ _)
  rw [if_pos c2, if_pos c, numberT_st h 64 (by decide) hk, Option.bind_some, show (36 : Int) = (((36 : UInt8).toNat : Nat) : Int) from rfl, skipT_st hn 36 (by decide), Option.bind_some]
  cases skipC 36 (numC 64 0 l).2 <;> rfl
 ·have c2 : ¬ (isDig (hdI l) = true ∧ hdI l ≠ 48) := by unfold posB at c; simpa using c
  rw [if_neg c2, if_neg c]
theorem fieldT_st (h : Suf fmt l) {k : Nat} (hk : 2000 < k) : fieldT k (st fmt l b nx pl lg) v = some (match fieldC l with
  | some x => .ok (x.1, st fmt x.2 b nx pl (lg || decide (10000 < x.1.1)))
  | none => .error (6, b)) := by
 unfold fieldT fieldC
 rw [show (42 : Int) = (((42 : UInt8).toNat : Nat) : Int) from rfl, skipT_st h 42 (by decide), Option.bind_some]
 cases hs : skipC 42 l with
 | some t =>
  have ht := h.of (skipC_suf hs)
  simp only [if_true]
  rw [starT_st ht hk, Option.bind_some]
  cases starC t with
  | none => rfl
  | some x =>
   simp only [Option.map_some]
   rw [show decide ((10000 : Int) < -1) = false from rfl, Bool.or_false]
 | none =>
  simp only [Bool.false_eq_true, if_false]
  rw [numberT_st h 10000 (by decide) hk, Option.bind_some]
  rfl
theorem placeT_st (h : Suf fmt l) {k : Nat} (hk : 2002 < k) : placeT k (st fmt l b nx pl lg) v = some ((placeC l).1, st fmt (placeC l).2 b nx pl lg) := by
 obtain ⟨k, rfl⟩ : ∃ j, k = j + 1 := ⟨k - 1, by omega⟩
 have hp := peekT_st (b := b) (nx := nx) (pl := pl) (lg := lg) (v := v) h
 unfold peekT st at hp
 have hn := numberT_st (b := b) (nx := nx) (pl := pl) (lg := lg) (v := v) h 64 (by decide) (show 2000 < k by omega)
 unfold numberT st at hn
 have hu := skipT_st (b := b) (nx := nx) (pl := pl) (lg := lg) (v := v) (h.of (numC_suf 64 l 0)) 36 (by decide)
 rw [show (((36 : UInt8).toNat : Nat) : Int) = 36 from rfl] at hu
 unfold skipT st at hu
 unfold placeT st spec_reader_place.f placeC posB
 rw [hp, Option.bind_some]
 dsimp only
 rw [isDigit_st, Option.bind_some]
 by_cases c : isDig (hdI l) = true
 ·rw [if_pos c]
  simp only [spec_reader_place.j0]
  by_cases c2 : hdI l = 48
  ·rw [show (hdI l != 48) = false from by simp [c2], if_neg Bool.false_ne_true]
   simp [c, c2]
  ·rw [show (hdI l != 48) = true from by simp [c2], if_pos rfl, hn, Option.bind_some]
   dsimp only
   rw [hu, Option.bind_some]
   simp only [c, c2, ne_eq, not_false_iff, decide_true, Bool.and_self, if_true]
   cases skipC 36 (numC 64 0 l).2 <;> simp
 ·rw [if_neg c]
  simp only [spec_reader_place.j0]
  rw [if_neg Bool.false_ne_true]
  simp [c]
theorem flagOf_st (l : List UInt8) : spec_flagOf.f (hdI l) = some (flagVal (hdI l)) := if_pos (hdI_range l)
theorem flagsT_go : ∀ (l : List UInt8) (k : Nat) (a : Int), l.length < k → Suf fmt l →
  spec_reader_flags.l0 k a ((fmt.size - l.length : Nat) : Int) fmt b nx pl lg v = some ((flagsC a l).1, st fmt (flagsC a l).2 b nx pl lg) := by
 intro l
 induction l with
 | nil =>
  intro k n hk hs
  obtain ⟨k, rfl⟩ : ∃ j, k = j + 1 := ⟨k - 1, by simp only [List.length_nil] at hk; omega⟩
  have hp := peekT_st (b := b) (nx := nx) (pl := pl) (lg := lg) (v := v) hs
  unfold peekT st at hp
  unfold spec_reader_flags.l0
  rw [hp, Option.bind_some, flagOf_st, Option.bind_some]
  dsimp only
  rw [hp, Option.bind_some]
  dsimp only
  rw [if_pos (show hdI [] = 0 from rfl)]
  rfl
 | cons c l ih =>
  intro k n hk hs
  obtain ⟨k, rfl⟩ : ∃ j, k = j + 1 := ⟨k - 1, by simp only [List.length_cons] at hk; omega⟩
  have hp := peekT_st (b := b) (nx := nx) (pl := pl) (lg := lg) (v := v) hs
  unfold peekT st at hp
  unfold spec_reader_flags.l0
  rw [hp, Option.bind_some, flagOf_st, Option.bind_some]
  dsimp only
  rw [hp, Option.bind_some]
  dsimp only
  unfold flagsC
  have hcc : hdI (c :: l) = (c.toNat : Int) := rfl
  rw [hcc]
  by_cases e : flagVal (c.toNat : Int) = 0
  ·simp only [if_pos e]
   by_cases e0 : (c.toNat : Int) = 0
   ·rw [if_pos e0]
    rfl
   ·rw [if_neg e0]
    rfl
  ·have e0 : ¬ (c.toNat : Int) = 0 := fun q => e (by rw [q]; rfl)
   simp only [if_neg e, if_neg e0]
   rw [step_st hs]
   exact ih k _ (by simp only [List.length_cons] at hk; omega) hs.tail
theorem flagsT_st (h : Suf fmt l) {k : Nat} (hk : 2000 < k) : flagsT k (st fmt l b nx pl lg) v = some ((flagsC 0 l).1, st fmt (flagsC 0 l).2 b nx pl lg) :=
 flagsT_go l k 0 (by have := h.len; have := h.z; omega) h
theorem drop_suf (h : Suf fmt l) : fmt.data.toList.drop (fmt.size - l.length) = l := by
 have hl := h.len
 obtain ⟨pre, hp⟩ := h.s
 have hz : fmt.data.toList.length = fmt.size := data_length fmt
 have hpl : pre.length = fmt.size - l.length := by
  rw [← hz, ← hp, List.length_append]
  omega
 rw [← hp, ← hpl, List.drop_left]
theorem bestMod_pre (l : List UInt8) : ∀ k, (mods.getD (bestMod l k) []).isPrefixOf l = true
 | 0 => by
  unfold bestMod
  cases l <;> rfl
 | k + 1 => by
  have ih := bestMod_pre l k
  unfold bestMod
  split
  ·rename_i h
   simp only [Bool.and_eq_true] at h
   exact h.1
  ·exact ih
theorem bestMod_length (l : List UInt8) (k : Nat) : modLen (bestMod l k) ≤ l.length := (List.isPrefixOf_iff_prefix.1 (bestMod_pre l k)).length_le
theorem lengthT_st (h : Suf fmt l) : lengthT (st fmt l b nx pl lg) v = some ((lenC l).1, st fmt (lenC l).2 b nx pl lg) := by
 have hl := h.len
 have hz := h.z
 have hb := bestMod_length l 12
 unfold lengthT st spec_reader_length.f
 dsimp only
 rw [if_pos ⟨Int.natCast_nonneg _, by omega, by omega⟩, Int.toNat_natCast, drop_suf h]
 unfold lenC
 dsimp only
 rw [List.length_drop, show ((fmt.size - l.length : Nat) : Int) + ((modLen (bestMod l 12) : Nat) : Int) = ((fmt.size - (l.length - modLen (bestMod l 12)) : Nat) : Int) from by omega]
theorem argumentT_st (n : Int) : argumentT (st fmt l b nx pl lg) v n = some ((argC pl nx n).1, st fmt l b (argC pl nx n).2 pl (lg || decide (64 < (argC pl nx n).1))) := by
 unfold argumentT st spec_reader_argument.f argC
 dsimp only
 by_cases c : pl = 2
 ·rw [if_pos c, if_pos c]
  cases lg <;> simp
 ·rw [if_neg c, if_neg c]
  cases lg <;> simp
end
theorem ruleOf_st (c : Int) : spec_ruleOf.f 5 c = some ((ruleC c).fl, (ruleC c).ln, (ruleC c).wd, (ruleC c).pr, (ruleC c).ok) := by
 by_cases a1 : c = 100
 ·subst a1; rfl
 by_cases a2 : c = 105
 ·subst a2; rfl
 by_cases a3 : c = 117
 ·subst a3; rfl
 by_cases a4 : c = 111
 ·subst a4; rfl
 by_cases a5 : c = 120
 ·subst a5; rfl
 by_cases a6 : c = 88
 ·subst a6; rfl
 by_cases a7 : c = 98
 ·subst a7; rfl
 by_cases a8 : c = 66
 ·subst a8; rfl
 by_cases a9 : c = 101
 ·subst a9; rfl
 by_cases a10 : c = 69
 ·subst a10; rfl
 by_cases a11 : c = 97
 ·subst a11; rfl
 by_cases a12 : c = 65
 ·subst a12; rfl
 by_cases a13 : c = 102
 ·subst a13; rfl
 by_cases a14 : c = 70
 ·subst a14; rfl
 by_cases a15 : c = 103
 ·subst a15; rfl
 by_cases a16 : c = 71
 ·subst a16; rfl
 by_cases a17 : c = 99
 ·subst a17; rfl
 by_cases a18 : c = 115
 ·subst a18; rfl
 by_cases a19 : c = 112
 ·subst a19; rfl
 by_cases a20 : c = 110
 ·subst a20; rfl
 simp [spec_ruleOf.f, spec_ruleOf.j0, spec_ruleOf.j1, spec_ruleOf.j2, spec_ruleOf.j3, ruleC, a1, a2, a3, a4, a5, a6, a7, a8, a9, a10, a11, a12, a13, a14, a15, a16, a17, a18, a19, a20]
theorem bytes_eq_iff (s t : ByteArray) : s.toList = t.data.toList ↔ s = t := by
 rw [Lib.toList_data]
 exact ⟨fun h => ByteArray.ext (Array.ext' h), fun h => by rw [h]⟩
theorem allows_st (a b c : _) (s : ByteArray) (n : Int) : spec_rule_allows.f a s b c n = some (allowsC s n) := by
 unfold spec_rule_allows.f allowsC
 have e1 : (s.toList = [105, 110, 116]) ↔ s = bInt := bytes_eq_iff s bInt
 have e2 : (s.toList = [102, 108, 111, 97, 116]) ↔ s = bFloat := bytes_eq_iff s bFloat
 have e3 : (s.toList = [99, 104, 97, 114]) ↔ s = bChar := bytes_eq_iff s bChar
 simp only [e1, e2, e3]
 by_cases c1 : s = bInt
 ·rw [if_pos c1, if_pos c1]
  by_cases d : 0 ≤ n <;> simp [d]
 rw [if_neg c1, if_neg c1]
 by_cases c2 : s = bFloat
 ·rw [if_pos c2, if_pos c2]
  by_cases d : n = 0
  ·simp [d]
  ·by_cases d2 : n = 3
   ·simp [d2]
   ·by_cases d3 : 8 ≤ n <;> simp [d, d2, d3]
 rw [if_neg c2, if_neg c2]
 by_cases c3 : s = bChar
 ·rw [if_pos c3, if_pos c3]
  by_cases d : n = 0 <;> simp [d] <;> rfl
 rw [if_neg c3, if_neg c3]
 rfl
end Go.Proofs.YtnhbgahfmcicnaaGreatDoor.PA
end
