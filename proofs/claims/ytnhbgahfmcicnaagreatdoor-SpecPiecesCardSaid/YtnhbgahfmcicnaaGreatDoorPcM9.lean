/- A part of the proof of the claim's statement. -/
import Derived.Test.YtnhbgahfmcicnaaGreatDoorPcPAx3
import Derived.Test.YtnhbgahfmcicnaaGreatDoorPcM8
section
namespace Go.Proofs.YtnhbgahfmcicnaaGreatDoor.PA
set_option linter.unusedVariables false
set_option linter.unusedSimpArgs false
open Go.RowKit Go.Shelf Go.Proofs.YtnhbgahfmcicnaaGreatDoorW.PrintWords Go.Proofs.YtnhbgahfmcicnaaGreatDoorW.PrintLast Go.Proofs.YtnhbgahfmcicnaaGreatDoorW.PrintMore
theorem upTo_mem (d : Array Int) : ∀ m, ∀ x, x ∈ Lib.compactUpTo d m ↔ ∃ j, j < m ∧ d[j]! = x := by
 intro m
 induction m with
 | zero => intro x; unfold Lib.compactUpTo; simp
 | succ m ih =>
  intro x
  rw [Lib.compactUpTo_succ, List.mem_append, ih x]
  constructor
  ·rintro (⟨j, hj, e⟩ | h)
   ·exact ⟨j, by omega, e⟩
   ·split at h
    ·exact ⟨m, by omega, (List.mem_singleton.1 h).symm⟩
    ·cases h
  ·rintro ⟨j, hj, e⟩
   by_cases hjm : j < m
   ·exact Or.inl ⟨j, hjm, e⟩
   ·obtain rfl : j = m := by omega
    by_cases hk : Lib.keeps d j = true
    ·rw [if_pos hk]; exact Or.inr (List.mem_singleton.2 e.symm)
    ·refine Or.inl ⟨j - 1, ?_, ?_⟩
     ·unfold Lib.keeps at hk
      simp at hk
      omega
     ·unfold Lib.keeps at hk
      simp at hk
      rw [← hk.2, e]
theorem upTo_lt (d : Array Int) (hs : ∀ i j, i ≤ j → j < d.size → d[i]! ≤ d[j]!) : ∀ m, m ≤ d.size → (Lib.compactUpTo d m).Pairwise (· < ·) := by
 intro m
 induction m with
 | zero => intro _; unfold Lib.compactUpTo; simp
 | succ m ih =>
  intro hm
  rw [Lib.compactUpTo_succ, List.pairwise_append]
  refine ⟨ih (by omega), by split <;> simp, ?_⟩
  intro x hx y hy
  split at hy
  ·rename_i hk
   obtain rfl := List.mem_singleton.1 hy
   obtain ⟨j, hj, rfl⟩ := (upTo_mem d m x).1 hx
   have h1 := hs j (m - 1) (by omega) (by omega)
   have h2 := hs (m - 1) m (by omega) (by omega)
   unfold Lib.keeps at hk
   simp at hk
   rcases hk with h | h
   ·omega
   ·omega
  ·cases hy
theorem compact_props (A : List Int) : (Lib.compact (sortZ A)).Pairwise (· < ·) ∧ ∀ x, x ∈ Lib.compact (sortZ A) ↔ x ∈ A := by
 have hp : (sortZ A).Pairwise (fun a b => a ≤ b) := by
  have := List.pairwise_mergeSort (le := fun x y : Int => decide (x ≤ y)) (fun a b c h1 h2 => by simp at *; omega) (fun a b => by simp; omega) A
  exact this.imp fun h => by simpa using h
 have hs : ∀ i j, i ≤ j → j < (sortZ A).toArray.size → (sortZ A).toArray[i]! ≤ (sortZ A).toArray[j]! := by
  intro i j hij hj
  have hj' : j < (sortZ A).length := by simpa using hj
  rw [getElem!_pos _ i (by omega), getElem!_pos _ j hj]
  rcases Nat.eq_or_lt_of_le hij with rfl | hlt
  ·exact Int.le_refl _
  ·exact List.pairwise_iff_getElem.1 hp i j (by omega) hj' hlt
 have hz : (sortZ A).toArray.size = (sortZ A).length := by simp
 refine ⟨upTo_lt _ hs _ (by rw [hz]; exact Nat.le_refl _), fun x => ?_⟩
 unfold Lib.compact
 rw [upTo_mem]
 have hm : x ∈ sortZ A ↔ x ∈ A := by unfold sortZ; exact List.mem_mergeSort
 rw [← hm, List.mem_iff_getElem]
 constructor
 ·rintro ⟨j, hj, e⟩
  refine ⟨j, hj, ?_⟩
  rw [getElem!_pos _ j (by omega)] at e
  exact e
 ·rintro ⟨j, hj, e⟩
  refine ⟨j, hj, ?_⟩
  rw [getElem!_pos _ j (by omega)]
  exact e
theorem oneUp_iff {S : List Int} (hp : S.Pairwise (· < ·)) (h1 : ∀ x ∈ S, 1 ≤ x) {M : Int} (hM : ∀ x ∈ S, x ≤ M) (hm : M = 0 ∨ M ∈ S) :
  oneUp S = true ↔ ∀ n : Int, 1 ≤ n → n ≤ M → n ∈ S := by
 constructor
 ·intro h n hn hnM
  unfold oneUp at h
  have h := beq_iff_eq.1 h
  have hle : M ≤ (S.length : Int) := by
   rcases hm with rfl | hm
   ·omega
   ·rw [h] at hm
    obtain ⟨i, hi, e⟩ := List.mem_map.1 hm
    have := List.mem_range.1 hi
    omega
  rw [h]
  exact List.mem_map.2 ⟨(n - 1).toNat, List.mem_range.2 (by omega), by omega⟩
 ·intro h
  apply oneUp_true
  intro j
  induction j using Nat.strongRecOn with
  | _ j ih =>
   intro hj
   have hg : ∀ i (hi : i < S.length), S[i]?.getD 0 = S[i] := fun i hi => by rw [List.getElem?_eq_getElem hi]; rfl
   rw [hg j hj]
   have hge : (j : Int) + 1 ≤ S[j] := by
    cases j with
    | zero => exact h1 _ (List.getElem_mem hj)
    | succ j =>
     have a := ih j (by omega) (by omega)
     rw [hg j (by omega)] at a
     have b := List.pairwise_iff_getElem.1 hp j (j + 1) (by omega) hj (by omega)
     omega
   by_cases he : S[j] = (j : Int) + 1
   ·exact he
   ·exfalso
    have hin := h ((j : Int) + 1) (by omega) (by have := hM _ (List.getElem_mem hj); omega)
    obtain ⟨i, hi, e⟩ := List.mem_iff_getElem.1 hin
    rcases Nat.lt_trichotomy i j with hl | rfl | hl
    ·have a := ih i hl hi
     rw [hg i hi] at a
     omega
    ·omega
    ·have b := List.pairwise_iff_getElem.1 hp j i hj hi hl
     omega
def mostC (A : List Int) : Int := A.foldl mx 0
theorem fold_mx : ∀ (A : List Int) (m : Int), m ≤ A.foldl mx m ∧ (∀ x ∈ A, x ≤ A.foldl mx m) ∧ (A.foldl mx m = m ∨ A.foldl mx m ∈ A)
 | [], m => ⟨Int.le_refl _, fun x h => absurd h List.not_mem_nil, Or.inl rfl⟩
 | a :: A, m => by
  obtain ⟨h1, h2, h3⟩ := fold_mx A (mx m a)
  have hm : m ≤ mx m a ∧ a ≤ mx m a ∧ (mx m a = m ∨ mx m a = a) := by unfold mx; split <;> omega
  rw [List.foldl_cons]
  refine ⟨by omega, fun x hx => ?_, ?_⟩
  ·rcases List.mem_cons.1 hx with rfl | hx
   ·omega
   ·exact h2 x hx
  ·rcases h3 with h3 | h3
   ·rcases hm.2.2 with e | e
    ·left; rw [h3, e]
    ·right; rw [h3, e]; exact List.mem_cons_self
   ·right; exact List.mem_cons_of_mem _ h3
end Go.Proofs.YtnhbgahfmcicnaaGreatDoor.PA
end
