/- A part of the proof of the claim's statement. -/
import Derived.Test.YtnhbgahfmcicnaaGreatDoorPtPAx3
import Derived.Test.YtnhbgahfmcicnaaGreatDoorPtM8
section
namespace Go.Proofs.YtnhbgahfmcicnaaGreatDoor.PA
set_option linter.unusedVariables false
set_option linter.unusedSimpArgs false
open Go.RowKit Go.Shelf Go.Proofs.YtnhbgahfmcicnaaGreatDoorW.PrintWords Go.Proofs.YtnhbgahfmcicnaaGreatDoorW.PrintLast Go.Proofs.YtnhbgahfmcicnaaGreatDoorW.PrintMore
theorem upTo_mem (d : Array Int) : ∀ m, ∀ x, x ∈ Lib.compactUpTo d m ↔ ∃ j, j < m ∧ d[j]! = x := by
 intro m
 induction m with
 | zero => intro x; unfold Lib.compactUpTo; simp
 | succ m ih =>
  intro x
  rw [Lib.compactUpTo_succ, List.mem_append, ih x]
  constructor
  ·rintro (⟨j, hj, e⟩ | h)
   ·exact ⟨j, by omega, e⟩
   ·split at h
    ·exact ⟨m, by omega, (List.mem_singleton.1 h).symm⟩
    ·cases h
  ·rintro ⟨j, hj, e⟩
   by_cases hjm : j < m
   ·exact Or.inl ⟨j, hjm, e⟩
   ·obtain rfl : j = m := by omega
    by_cases hk : Lib.keeps d j = true
    ·rw [if_pos hk]; exact Or.inr (List.mem_singleton.2 e.symm)
    ·refine Or.inl ⟨j - 1, ?_, ?_⟩
     ·unfold Lib.keeps at hk
      simp at hk
      omega
     ·unfold Lib.keeps at hk
      simp at hk
      rw [← hk.2, e]
theorem upTo_lt (d : Array Int) (hs : ∀ i j, i ≤ j → j < d.size → d[i]! ≤ d[j]!) : ∀ m, m ≤ d.size → (Lib.compactUpTo d m).Pairwise (· < ·) := by
 intro m
 induction m with
 | zero => intro _; unfold Lib.compactUpTo; simp
 | succ m ih =>
  intro hm
  rw [Lib.compactUpTo_succ, List.pairwise_append]
  refine ⟨ih (by omega), by split <;> simp, ?_⟩
  intro x hx y hy
  split at hy
  ·rename_i hk
   obtain rfl := List.mem_singleton.1 hy
   obtain ⟨j, hj, rfl⟩ := (upTo_mem d m x).1 hx
   have h1 := hs j (m - 1) (by omega) (by omega)
   have h2 := hs (m - 1) m (by omega) (by omega)
   unfold Lib.keeps at hk
   simp at hk
   rcases hk with h | h
   ·omega
   ·omega
  ·cases hy
theorem compact_props (A : List Int) : (Lib.compact (sortZ A)).Pairwise (· < ·) ∧ ∀ x, x ∈ Lib.compact (sortZ A) ↔ x ∈ A := by
 have hp : (sortZ A).Pairwise (fun a b => a ≤ b) := by
  have := List.pairwise_mergeSort (le := fun x y : Int => decide (x ≤ y)) (fun a b c h1 h2 => by simp at *; omega) (fun a b => by simp; omega) A
  exact this.imp fun h => by simpa using h
 have hs : ∀ i j, i ≤ j → j < (sortZ A).toArray.size → (sortZ A).toArray[i]! ≤ (sortZ A).toArray[j]! := by
  intro i j hij hj
  have hj' : j < (sortZ A).length := by simpa using hj
  rw [getElem!_pos _ i (by omega), getElem!_pos _ j hj]
  rcases Nat.eq_or_lt_of_le hij with rfl | hlt
  ·exact Int.le_refl _
  ·exact List.pairwise_iff_getElem.1 hp i j (by omega) hj' hlt
 have hz : (sortZ A).toArray.size = (sortZ A).length := by simp
 refine ⟨upTo_lt _ hs _ (by rw [hz]; exact Nat.le_refl _), fun x => ?_⟩
 unfold Lib.compact
 rw [upTo_mem]
 have hm : x ∈ sortZ A ↔ x ∈ A := by unfold sortZ; exact List.mem_mergeSort
 rw [← hm, List.mem_iff_getElem]
 constructor
 ·rintro ⟨j, hj, e⟩
  refine ⟨j, hj, ?_⟩
  rw [getElem!_pos _ j (by omega)] at e
  exact e
 ·rintro ⟨j, hj, e⟩
  refine ⟨j, hj, ?_⟩
  rw [getElem!_pos _ j (by omega)]
  exact e
theorem oneUp_iff {S : List Int} (hp : S.Pairwise (· < ·)) (h1 : ∀ x ∈ S, 1 ≤ x) {M : Int} (hM : ∀ x ∈ S, x ≤ M) (hm : M = 0 ∨ M ∈ S) :
  oneUp S = true ↔ ∀ n : Int, 1 ≤ n → n ≤ M → n ∈ S := by
 constructor
 ·intro h n hn hnM
  unfold oneUp at h
  have h := beq_iff_eq.1 h
  have hle : M ≤ (S.length : Int) := by
   rcases hm with rfl | hm
   ·omega
   ·rw [h] at hm
    obtain ⟨i, hi, e⟩ := List.mem_map.1 hm
    have := List.mem_range.1 hi
    omega
  rw [h]
  exact List.mem_map.2 ⟨(n - 1).toNat, List.mem_range.2 (by omega), by omega⟩
 ·intro h
  apply oneUp_true
  intro j
  induction j using Nat.strongRecOn with
  | _ j ih =>
   intro hj
   have hg : ∀ i (hi : i < S.length), S[i]?.getD 0 = S[i] := fun i hi => by rw [List.getElem?_eq_getElem hi]; rfl
   rw [hg j hj]
   have hge : (j : Int) + 1 ≤ S[j] := by
    cases j with
    | zero => exact h1 _ (List.getElem_mem hj)
    | succ j =>
     have a := ih j (by omega) (by omega)
     rw [hg j (by omega)] at a
     have b := List.pairwise_iff_getElem.1 hp j (j + 1) (by omega) hj (by omega)
     omega
   by_cases he : S[j] = (j : Int) + 1
   ·exact he
   ·exfalso
    have hin := h ((j : Int) + 1) (by omega) (by have := hM _ (List.getElem_mem hj); omega)
    obtain ⟨i, hi, e⟩ := List.mem_iff_getElem.1 hin
    rcases Nat.lt_trichotomy i j with hl | rfl | hl
    ·have a := ih i hl hi
     rw [hg i hi] at a
     omega
    ·omega
    ·have b := List.pairwise_iff_getElem.1 hp j i hj hi hl
     omega
theorem numbers_l1 (l : List S35) (acc : List Int) (hacc : acc.length ≤ 10000000) (i : Int) (a b c : Int) (k : Nat) :
  sorobanref21_Numbers.l1 (k + 4) l acc i [a, b, c] 0 = sorobanref21_Numbers.l0 k l (acc ++ nonzero [a, b, c]) (wrap64 (i + 1)) := by
 have step : ∀ (k : Nat) (acc : List Int) (j : Nat) (v : Int), j < 3 → rd [a, b, c] (j : Int) = v → acc.length ≤ 10000010 →
   sorobanref21_Numbers.l1 (k + 1) l acc i [a, b, c] (j : Int) = sorobanref21_Numbers.l1 k l (acc ++ nonzero [v]) i [a, b, c] ((j + 1 : Nat) : Int) := by
  intro k acc j v hj hv ha
  conv => lhs; unfold sorobanref21_Numbers.l1
  rw [if_pos (by omega), if_pos (by omega), if_pos (by show (j : Int) < 3; omega), hv, show wrap64 ((j : Int) + 1) = ((j + 1 : Nat) : Int) by unfold wrap64; omega]
  by_cases h : v = 0
  ·rw [if_pos h, h]
   simp [nonzero]
  ·rw [if_neg h, if_pos (by omega)]
   simp [nonzero, h]
 have e0 := step (k + 3) acc 0 a (by omega) rfl (by omega)
 have e1 := step (k + 2) (acc ++ nonzero [a]) 1 b (by omega) rfl (by rw [List.length_append]; have : (nonzero [a]).length ≤ 1 := List.length_filter_le _ _; omega)
 have e2 := step (k + 1) (acc ++ nonzero [a] ++ nonzero [b]) 2 c (by omega) rfl (by
  rw [List.length_append, List.length_append]
  have : (nonzero [a]).length ≤ 1 := List.length_filter_le _ _
  have : (nonzero [b]).length ≤ 1 := List.length_filter_le _ _
  omega)
 have e3 : sorobanref21_Numbers.l1 (k + 1) l (acc ++ nonzero [a] ++ nonzero [b] ++ nonzero [c]) i [a, b, c] ((3 : Nat) : Int) = sorobanref21_Numbers.l0 k l (acc ++ nonzero [a] ++ nonzero [b] ++ nonzero [c]) (wrap64 (i + 1)) := by
  conv => lhs; unfold sorobanref21_Numbers.l1
  rw [if_neg (by decide)]
 have e4 : acc ++ nonzero [a] ++ nonzero [b] ++ nonzero [c] = acc ++ nonzero [a, b, c] := by
  rw [List.append_assoc, List.append_assoc]
  congr 1
  unfold nonzero
  rw [← List.filter_append, ← List.filter_append]
  rfl
 rw [show (0 : Int) = ((0 : Nat) : Int) from rfl, show k + 4 = (k + 3) + 1 from rfl, e0, show k + 3 = (k + 2) + 1 from rfl, e1, show k + 2 = (k + 1) + 1 from rfl, e2, e3, e4]
theorem numbers_go (l : List S35) (hl : l.length ≤ 1000000) : ∀ (d i k : Nat), i + d = l.length → 5 * d < k →
  sorobanref21_Numbers.l0 k l (allC (l.take i)) (i : Int) = some (allC l) := by
 intro d
 induction d with
 | zero =>
  intro i k hi hk
  obtain ⟨k, rfl⟩ : ∃ j, k = j + 1 := ⟨k - 1, by omega⟩
  unfold sorobanref21_Numbers.l0
  rw [if_neg (by omega), List.take_of_length_le (by omega)]
 | succ d ih =>
  intro i k hi hk
  obtain ⟨k, rfl⟩ : ∃ j, k = j + 5 := ⟨k - 5, by omega⟩
  have hlt : i < l.length := by omega
  unfold sorobanref21_Numbers.l0
  rw [if_pos (by omega), if_pos (by omega), rd_T35_at l i hlt, numbers_l1 l _ (by have := allC_length (l.take i); rw [List.length_take] at this; omega) _ _ _ _ k,
   show wrap64 ((i : Int) + 1) = ((i + 1 : Nat) : Int) by unfold wrap64; omega]
  have e : allC (l.take i) ++ nonzero [(l[i]).f4, (l[i]).f6, (l[i]).f1] = allC (l.take (i + 1)) := by
   rw [← List.take_append_getElem hlt, allC_append]
   congr 1
   rw [allC_cons]
   show _ = nonzero _ ++ []
   rw [List.append_nil]
  rw [e]
  exact ih (i + 1) k (by omega) (by omega)
theorem numbers_f (l : List S35) (hl : l.length ≤ 1000000) {k : Nat} (hk : 5 * l.length < k) : sorobanref21_Numbers.f k l = some (allC l) :=
 numbers_go l hl l.length 0 k (by omega) hk
def mostC (A : List Int) : Int := A.foldl mx 0
theorem fold_mx : ∀ (A : List Int) (m : Int), m ≤ A.foldl mx m ∧ (∀ x ∈ A, x ≤ A.foldl mx m) ∧ (A.foldl mx m = m ∨ A.foldl mx m ∈ A)
 | [], m => ⟨Int.le_refl _, fun x h => absurd h List.not_mem_nil, Or.inl rfl⟩
 | a :: A, m => by
  obtain ⟨h1, h2, h3⟩ := fold_mx A (mx m a)
  have hm : m ≤ mx m a ∧ a ≤ mx m a ∧ (mx m a = m ∨ mx m a = a) := by unfold mx; split <;> omega
  rw [List.foldl_cons]
  refine ⟨by omega, fun x hx => ?_, ?_⟩
  ·rcases List.mem_cons.1 hx with rfl | hx
   ·omega
   ·exact h2 x hx
  ·rcases h3 with h3 | h3
   ·rcases hm.2.2 with e | e
    ·left; rw [h3, e]
    ·right; rw [h3, e]; exact List.mem_cons_self
   ·right; exact List.mem_cons_of_mem _ h3
theorem most_go (A : List Int) (hA : A.length ≤ 10000000) : ∀ (d i k : Nat) (m : Int), i + d = A.length → d < k →
  sorobanref21_Most.l0 k m A (i : Int) = some ((A.drop i).foldl mx m) := by
 intro d
 induction d with
 | zero =>
  intro i k m hi hk
  obtain ⟨k, rfl⟩ : ∃ j, k = j + 1 := ⟨k - 1, by omega⟩
  unfold sorobanref21_Most.l0
  rw [if_neg (by omega), List.drop_eq_nil_of_le (by omega)]
  rfl
 | succ d ih =>
  intro i k m hi hk
  obtain ⟨k, rfl⟩ : ∃ j, k = j + 1 := ⟨k - 1, by omega⟩
  have hlt : i < A.length := by omega
  unfold sorobanref21_Most.l0
  rw [if_pos (by omega), if_pos (by omega), show wrap64 ((i : Int) + 1) = ((i + 1 : Nat) : Int) by unfold wrap64; omega, ih (i + 1) k _ (by omega) (by omega), List.drop_eq_getElem_cons hlt, List.foldl_cons]
  congr 2
  unfold rd
  rw [Int.toNat_natCast, List.getD_eq_getElem?_getD, List.getElem?_eq_getElem hlt]
  rfl
theorem most_f (l : List S35) (hl : l.length ≤ 1000000) {k : Nat} (hk : 5 * l.length < k) : sorobanref21_Most.f k l = some (mostC (allC l)) := by
 unfold sorobanref21_Most.f
 have := allC_length l
 rw [numbers_f l hl hk, Option.bind_some]
 have := most_go (allC l) (by omega) (allC l).length 0 k 0 (by omega) (by omega)
 rw [show (0 : Int) = ((0 : Nat) : Int) from rfl] at this ⊢
 rw [this]
 rfl
theorem whole_l1 (l : List S35) (A : List Int) (hA : A.length ≤ 10000000) (n : Int) : ∀ (d i k : Nat) (b : Bool), i + d = A.length →
  sorobanref21_Whole.l1 (k + d + 1) l A n b (i : Int) = if (b || (A.drop i).contains n) = true then sorobanref21_Whole.l0 k l A (wrap64 (n + 1)) else some false := by
 intro d
 induction d with
 | zero =>
  intro i k b hi
  conv => lhs; unfold sorobanref21_Whole.l1
  rw [if_neg (by omega), List.drop_eq_nil_of_le (by omega)]
  simp
 | succ d ih =>
  intro i k b hi
  have hlt : i < A.length := by omega
  have hr : rd A (i : Int) = A[i] := by
   unfold rd
   rw [Int.toNat_natCast, List.getD_eq_getElem?_getD, List.getElem?_eq_getElem hlt]
   rfl
  rw [show k + (d + 1) + 1 = (k + d + 1) + 1 by omega]
  conv => lhs; unfold sorobanref21_Whole.l1
  rw [if_pos (by omega), show wrap64 ((i : Int) + 1) = ((i + 1 : Nat) : Int) by unfold wrap64; omega]
  cases b
  ·rw [if_neg (by simp), if_pos (by omega), ih (i + 1) k _ (by omega), hr, List.drop_eq_getElem_cons hlt, List.contains_cons]
   have : (A[i] == n) = (n == A[i]) := Bool.eq_iff_iff.2 (by rw [beq_iff_eq, beq_iff_eq]; exact eq_comm)
   rw [this]
   simp
  ·rw [if_pos rfl, ih (i + 1) k _ (by omega)]
   simp
theorem whole_go (l : List S35) (hl : l.length ≤ 1000000) (hM : mostC (allC l) ≤ 64) : ∀ (d : Nat) (n : Int) (k : Nat), n + d = mostC (allC l) + 1 → 1 ≤ n → (d + 2) * (5 * l.length + 3) < k →
  ∃ b, sorobanref21_Whole.l0 k l (allC l) n = some b ∧ (b = true ↔ ∀ m : Int, n ≤ m → m ≤ mostC (allC l) → m ∈ allC l) := by
 have hA := allC_length l
 intro d
 induction d with
 | zero =>
  intro n k hn h1 hk
  have hk2 : 2 * (5 * l.length + 3) < k := by simpa using hk
  obtain ⟨k, rfl⟩ : ∃ j, k = j + 1 := ⟨k - 1, by omega⟩
  refine ⟨true, ?_, ⟨fun _ m h2 h3 => by omega, fun _ => rfl⟩⟩
  unfold sorobanref21_Whole.l0
  rw [most_f l hl (by omega), Option.bind_some, if_neg (by omega)]
 | succ d ih =>
  intro n k hn h1 hk
  have hk2 : (d + 2) * (5 * l.length + 3) + (5 * l.length + 3) < k := by
   have : (d + 1 + 2) * (5 * l.length + 3) = (d + 2) * (5 * l.length + 3) + (5 * l.length + 3) := by rw [← Nat.succ_mul]
   omega
  obtain ⟨j, rfl⟩ : ∃ j, k = (j + (allC l).length + 1) + 1 := ⟨k - ((allC l).length + 2), by omega⟩
  obtain ⟨b, hb, hbi⟩ := ih (n + 1) j (by omega) (by omega) (by omega)
  have hw : wrap64 (n + 1) = n + 1 := by unfold wrap64; omega
  have hl1 := whole_l1 l (allC l) (by omega) n (allC l).length 0 j false (by omega)
  unfold sorobanref21_Whole.l0
  rw [most_f l hl (by omega), Option.bind_some, if_pos (by omega)]
  rw [show (0 : Int) = ((0 : Nat) : Int) from rfl, hl1, hw, hb]
  by_cases hc : (allC l).contains n = true
  ·refine ⟨b, by rw [List.drop_zero, Bool.false_or, if_pos hc], hbi.trans ⟨fun h m h2 h3 => ?_, fun h m h2 h3 => h m (by omega) h3⟩⟩
   rcases (by omega : m = n ∨ n + 1 ≤ m) with rfl | h4
   ·exact List.contains_iff_mem.1 hc
   ·exact h m h4 h3
  ·refine ⟨false, by rw [List.drop_zero, Bool.false_or, if_neg hc], ⟨fun h => absurd h Bool.false_ne_true, fun h => ?_⟩⟩
   exact absurd (List.contains_iff_mem.2 (h n (by omega) (by omega))) hc
theorem whole_rf (l : List S35) (hl : l.length ≤ 1000000) (hn : ∀ x ∈ allC l, 1 ≤ x ∧ x ≤ 64) {k : Nat} (hk : 70 * (5 * l.length + 3) < k) : sorobanref21_Whole.f k l = some (wholeC l) := by
 unfold sorobanref21_Whole.f
 rw [numbers_f l hl (by omega), Option.bind_some]
 obtain ⟨h0, h1, h2⟩ := fold_mx (allC l) 0
 have hM : mostC (allC l) ≤ 64 := by
  rcases h2 with h | h
  ·show (allC l).foldl mx 0 ≤ 64; omega
  ·exact (hn _ h).2
 have h0' : 0 ≤ mostC (allC l) := h0
 have hd : ((mostC (allC l)).toNat + 2) * (5 * l.length + 3) < k := by
  have : ((mostC (allC l)).toNat + 2) * (5 * l.length + 3) ≤ 70 * (5 * l.length + 3) := Nat.mul_le_mul_right _ (by omega)
  omega
 obtain ⟨b, hb, hbi⟩ := whole_go l hl hM (mostC (allC l)).toNat 1 k (by omega) (by omega) hd
 rw [hb]
 congr 1
 unfold wholeC
 obtain ⟨hp, hm⟩ := compact_props (allC l)
 have := oneUp_iff hp (fun x hx => (hn x ((hm x).1 hx)).1) (M := mostC (allC l)) (fun x hx => h1 x ((hm x).1 hx)) (by
  rcases h2 with h | h
  ·exact Or.inl h
  ·exact Or.inr ((hm _).2 h))
 rw [Bool.eq_iff_iff, hbi, this]
 exact ⟨fun h n h1 h2 => (hm n).2 (h n h1 h2), fun h n h1 h2 => (hm n).1 (h n h1 h2)⟩
end Go.Proofs.YtnhbgahfmcicnaaGreatDoor.PA
end
