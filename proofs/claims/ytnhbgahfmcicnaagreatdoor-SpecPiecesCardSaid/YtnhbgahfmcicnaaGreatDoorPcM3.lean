/- A part of the proof of the claim's statement. -/
import Derived.Test.YtnhbgahfmcicnaaGreatDoorPcPAx4
import Derived.Test.YtnhbgahfmcicnaaGreatDoorPcM2
import Derived.Test.YtnhbgahfmcicnaaGreatDoorPcG1c
section
namespace Go.Proofs.YtnhbgahfmcicnaaGreatDoor.PA
set_option linter.unusedVariables false
set_option linter.unusedSimpArgs false
open Go.RowKit Go.Shelf Go.Proofs.YtnhbgahfmcicnaaGreatDoorW.PrintWords Go.Proofs.YtnhbgahfmcicnaaGreatDoorW.PrintLast Go.Proofs.YtnhbgahfmcicnaaGreatDoorW.PrintMore
theorem convE_l {own fl ln c pl nx : Int} {wd pr : Fld} {l : List UInt8} {r : ConvT} (h : convE own fl wd pr ln c pl nx l = some r) : r.l = l := by
 unfold convE at h
 split at h
 ·split at h
  ·split at h
   ·dsimp only at h
    split at h
    ·obtain rfl := Option.some.inj h
     rfl
    ·cases h
   ·cases h
  ·cases h
 ·cases h
theorem convC_suf {pl nx : Int} {l : List UInt8} {r : ConvT} (h : convC pl nx l = some r) : r.l <:+ l := by
 unfold convC at h
 dsimp only at h
 obtain ⟨wd, hw, h⟩ := Option.bind_eq_some_iff.1 h
 obtain ⟨pr, hp, h⟩ := Option.bind_eq_some_iff.1 h
 rw [convE_l h]
 exact (List.tail_suffix _).trans ((lenC_suf _).trans ((precC_suf hp).trans ((widthC_suf hw).trans ((flagsC_suf _ _).trans (placeC_suf _)))))
theorem pieceC_suf {full : Bool} {pl nx pl' nx' : Int} {l l' : List UInt8} {x : S35} (h : pieceC full pl nx l = .ok (x, pl', nx', l')) (hl : l ≠ []) : l' <:+ l ∧ l'.length < l.length := by
 unfold pieceC at h
 cases hk : skipC 37 l with
 | none =>
  rw [hk] at h
  dsimp only at h
  split at h
  ·cases h
  ·split at h
   ·cases h
   ·rename_i hz
    injection h with h
    simp only [Prod.mk.injEq] at h
    obtain ⟨_, _, _, rfl⟩ := h
    refine ⟨List.dropWhile_suffix _, ?_⟩
    cases l with
    | nil => exact absurd rfl hl
    | cons c t =>
     by_cases hc : isTxt c = true
     ·rw [List.dropWhile_cons_of_pos hc]
      have := (List.dropWhile_suffix isTxt (l := t)).length_le
      simp only [List.length_cons]
      omega
     ·exfalso
      apply hz
      rw [List.dropWhile_cons_of_neg hc]
      refine ⟨?_, by simp⟩
      rw [skipC_cons] at hk
      unfold isTxt at hc
      by_cases e : c = 37
      ·rw [if_pos e] at hk
       cases hk
      ·have e0 : c = 0 := by
        simp only [Bool.and_eq_true, bne_iff_ne, ne_eq, not_and, Decidable.not_not] at hc
        exact hc e
       subst e0
       rfl
 | some t =>
  rw [hk] at h
  dsimp only at h
  have ht : t <:+ l ∧ t.length < l.length := by
   cases l with
   | nil => cases hk
   | cons c l =>
    rw [skipC_cons] at hk
    split at hk
    ·obtain rfl := Option.some.inj hk
     exact ⟨List.suffix_cons _ _, by simp⟩
    ·cases hk
  cases hk2 : skipC 37 t with
  | some t' =>
   rw [hk2] at h
   dsimp only at h
   injection h with h
   simp only [Prod.mk.injEq] at h
   obtain ⟨_, _, _, rfl⟩ := h
   have h2 := skipC_suf hk2
   exact ⟨h2.trans ht.1, Nat.lt_of_le_of_lt h2.length_le ht.2⟩
  | none =>
   rw [hk2] at h
   dsimp only at h
   cases hc : convC pl nx t with
   | none =>
    rw [hc] at h
    cases h
   | some r =>
    rw [hc] at h
    dsimp only at h
    split at h
    ·cases h
    ·injection h with h
     simp only [Prod.mk.injEq] at h
     obtain ⟨_, _, _, rfl⟩ := h
     have h2 := convC_suf hc
     exact ⟨h2.trans ht.1, Nat.lt_of_le_of_lt h2.length_le ht.2⟩
theorem piecesC_fuel : ∀ (k k' : Nat) (acc : List S35) (pl nx : Int) (l : List UInt8), l.length < k → l.length < k' → piecesC k acc pl nx l = piecesC k' acc pl nx l := by
 intro k
 induction k with
 | zero => intro k' acc pl nx l h; omega
 | succ k ih =>
  intro k' acc pl nx l h h'
  obtain ⟨k', rfl⟩ : ∃ j, k' = j + 1 := ⟨k' - 1, by omega⟩
  unfold piecesC
  by_cases hl : l = []
  ·rw [if_pos hl, if_pos hl]
  ·rw [if_neg hl, if_neg hl]
   cases hp : pieceC (decide (acc.length = 500)) pl nx l with
   | error e => rfl
   | ok r =>
    obtain ⟨x, pl', nx', l'⟩ := r
    dsimp only
    split
    ·rfl
    ·have := (pieceC_suf hp hl).2
     exact ih k' _ _ _ _ (by omega) (by omega)
theorem piecesC_step {acc : List S35} {pl nx pl' nx' : Int} {l l' : List UInt8} {x : S35} (hl : l ≠ []) (hp : pieceC (decide (acc.length = 500)) pl nx l = .ok (x, pl', nx', l')) (ha : ¬ acc.length = 500) :
  piecesC (l'.length + 1) (acc ++ [x]) pl' nx' l' = piecesC (l.length + 1) acc pl nx l := by
 have h2 := (pieceC_suf hp hl).2
 conv => rhs; unfold piecesC
 rw [if_neg hl, hp]
 dsimp only
 rw [if_neg ha]
 exact piecesC_fuel _ _ _ _ _ _ (by omega) (by omega)
theorem piecesC_err {acc : List S35} {pl nx : Int} {l : List UInt8} {e : Int × List UInt8} (hl : l ≠ []) (hp : pieceC (decide (acc.length = 500)) pl nx l = .error e) :
  piecesC (l.length + 1) acc pl nx l = .error e := by
 unfold piecesC
 rw [if_neg hl, hp]
theorem piecesC_full {acc : List S35} {pl nx pl' nx' : Int} {l l' : List UInt8} {x : S35} (hl : l ≠ []) (hp : pieceC (decide (acc.length = 500)) pl nx l = .ok (x, pl', nx', l')) (ha : acc.length = 500) :
  piecesC (l.length + 1) acc pl nx l = .error (2, l) := by
 unfold piecesC
 rw [if_neg hl, hp]
 dsimp only
 rw [if_pos ha]
theorem piecesC_end {acc : List S35} {pl nx : Int} {k : Nat} : piecesC (k + 1) acc pl nx [] = .ok acc := by
 unfold piecesC
 rw [if_pos rfl]
def wholeC (l : List S35) : Bool := oneUp (Lib.compact (sortZ (allC l)))
def outC (n : Nat) : Except (Int × List UInt8) (List S35) → List S35 × Int × Int
 | .error e => ([], e.1, ((n - e.2.length : Nat) : Int))
 | .ok L => if wholeC L = true then (L, 0, 0) else ([], 6, (n : Int))
def parseC (l : List UInt8) : List S35 × Int × Int :=
 if 2000 < l.length then ([], 2, 0) else outC l.length (piecesC (l.length + 1) [] 0 0 l)
def spec_Parse.f (a0 : ByteArray) : Option (List S35 × Int × Int) := some (parseC a0.data.toList)
theorem rd_T35_at (l : List S35) (i : Nat) (h : i < l.length) : rd_T35 l (i : Int) = l[i] := by
 unfold rd_T35
 rw [Int.toNat_natCast, List.getD_eq_getElem?_getD, List.getElem?_eq_getElem h]
 rfl
theorem allC_cons (x : S35) (l : List S35) : allC (x :: l) = nonzero [x.f4, x.f6, x.f1] ++ allC l := rfl
theorem allC_append (a b : List S35) : allC (a ++ b) = allC a ++ allC b := by
 unfold allC
 rw [List.flatMap_append]
theorem allC_length (l : List S35) : (allC l).length ≤ 3 * l.length := by
 induction l with
 | nil => exact Nat.le_refl _
 | cons x l ih =>
  rw [allC_cons, List.length_append, List.length_cons]
  have : (nonzero [x.f4, x.f6, x.f1]).length ≤ 3 := List.length_filter_le _ _
  omega
theorem all_go (l : List S35) (hl : l.length ≤ 1000000) : ∀ (d i k : Nat), i + d = l.length → d < k →
  spec_all.l0 k (allC (l.take i)) l (l.length : Int) (i : Int) = some (allC l) := by
 intro d
 induction d with
 | zero =>
  intro i k hi hk
  obtain ⟨k, rfl⟩ : ∃ j, k = j + 1 := ⟨k - 1, by omega⟩
  unfold spec_all.l0
  rw [if_neg (by omega), List.take_of_length_le (by omega)]
 | succ d ih =>
  intro i k hi hk
  obtain ⟨k, rfl⟩ : ∃ j, k = j + 1 := ⟨k - 1, by omega⟩
  have hlt : i < l.length := by omega
  unfold spec_all.l0
  have hlen := allC_length (l.take i)
  have ht : (l.take i).length ≤ i := List.length_take_le _ _
  rw [if_pos (by omega), if_pos (Int.natCast_nonneg _), if_pos (by omega), rd_T35_at l i hlt]
  unfold spec_numbers.f
  rw [Option.bind_some]
  have hn : (nonzero [l[i].f4, l[i].f6, l[i].f1]).length ≤ 3 := List.length_filter_le _ _
  rw [if_pos (by omega), show wrap64 ((i : Int) + 1) = ((i + 1 : Nat) : Int) from by unfold wrap64; omega]
  have e : allC (l.take i) ++ nonzero [l[i].f4, l[i].f6, l[i].f1] = allC (l.take (i + 1)) := by
   rw [List.take_succ_eq_append_getElem hlt, allC_append, allC_cons]
   simp [allC]
  rw [e]
  exact ih (i + 1) k (by omega) (by omega)
theorem all_f (l : List S35) (hl : l.length ≤ 1000000) {k : Nat} (hk : l.length < k) : spec_all.f k l = some (allC l) := all_go l hl l.length 0 k (by omega) hk
end Go.Proofs.YtnhbgahfmcicnaaGreatDoor.PA
end
