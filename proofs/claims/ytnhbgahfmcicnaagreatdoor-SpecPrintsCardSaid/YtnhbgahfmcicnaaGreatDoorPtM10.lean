/- A part of the proof of the claim's statement. -/
import Derived.Test.YtnhbgahfmcicnaaGreatDoorPtPAx15
import Derived.Test.YtnhbgahfmcicnaaGreatDoorPtM9
section
namespace Go.Proofs.YtnhbgahfmcicnaaGreatDoor.PA
set_option linter.unusedVariables false
set_option linter.unusedSimpArgs false
open Go.RowKit Go.Shelf Go.Proofs.YtnhbgahfmcicnaaGreatDoorW.PrintWords Go.Proofs.YtnhbgahfmcicnaaGreatDoorW.PrintLast Go.Proofs.YtnhbgahfmcicnaaGreatDoorW.PrintMore
theorem allC_fits {l : List S35} (h : ∀ x ∈ l, fitsC x = true) : ∀ n ∈ allC l, 1 ≤ n ∧ n ≤ 64 := by
  intro n hn
  unfold allC at hn
  obtain ⟨x, hx, hn⟩ := List.mem_flatMap.1 hn
  obtain ⟨hn, h0⟩ := List.mem_filter.1 hn
  have h0' : ¬ n = 0 := by simpa using h0
  have hf := h x hx
  unfold fitsC at hf
  by_cases h8 : x.f8 = 0
  · rw [if_pos h8] at hf
    unfold plainC at hf
    simp only [Bool.and_eq_true, decide_eq_true_eq] at hf
    simp only [List.mem_cons, List.not_mem_nil, or_false] at hn
    omega
  · rw [if_neg h8] at hf
    by_cases h37 : x.f8 = 37
    · rw [if_pos h37] at hf
      unfold plainC at hf
      simp only [Bool.and_eq_true, decide_eq_true_eq] at hf
      simp only [List.mem_cons, List.not_mem_nil, or_false] at hn
      omega
    · rw [if_neg h37] at hf
      unfold argOk at hf
      simp only [Bool.and_eq_true, decide_eq_true_eq] at hf
      simp only [List.mem_cons, List.not_mem_nil, or_false] at hn
      omega
theorem rcheck_go (l : List S35) (hl : l.length ≤ 1000000) (hs : ∀ x ∈ l, x.f0.size ≤ 1000000 ∧ -9223372036854775808 ≤ x.f2 ∧ x.f2 ≤ 9223372036854775807) : ∀ (d i k : Nat), i + d = l.length → (∀ j, j < i → fitsC (l.getD j z35) = true) →
    d + 1000040 + 70 * (5 * l.length + 3) < k → sorobanref21_Check.l0 k l (i : Int) = some (goC l d i) := by
  intro d
  induction d with
  | zero =>
    intro i k hi hf hk
    obtain ⟨k, rfl⟩ : ∃ j, k = j + 1 := ⟨k - 1, by omega⟩
    have hall : ∀ x ∈ l, fitsC x = true := by
      intro x hx
      obtain ⟨j, hj, rfl⟩ := List.mem_iff_getElem.1 hx
      have := hf j (by omega)
      rw [List.getD_eq_getElem?_getD, List.getElem?_eq_getElem hj] at this
      exact this
    unfold sorobanref21_Check.l0
    rw [if_neg (by omega), whole_rf l hl (allC_fits hall) (by omega), Option.bind_some]
    unfold goC
    cases wholeC l <;> rfl
  | succ d ih =>
    intro i k hi hf hk
    obtain ⟨k, rfl⟩ : ∃ j, k = (j + 30) + 1 := ⟨k - 31, by omega⟩
    have hlt : i < l.length := by omega
    have hmem : l.getD i z35 ∈ l := by
      rw [List.getD_eq_getElem?_getD, List.getElem?_eq_getElem hlt]
      exact List.getElem_mem hlt
    unfold sorobanref21_Check.l0
    rw [if_pos (by omega), if_pos (Int.natCast_nonneg _), rd_getD, valid_f k (l.getD i z35) (hs _ hmem).1 (hs _ hmem).2 (by have := (hs _ hmem).1; omega), Option.bind_some]
    have e1 : wrap64 ((i : Int) + 1) = ((i + 1 : Nat) : Int) := by unfold wrap64; omega
    rw [e1]
    conv => rhs; unfold goC
    cases hfi : fitsC (l.getD i z35)
    · simp
    · have ihk := ih (i + 1) (k + 30) (by omega) (fun j hj => by
        rcases (by omega : j < i ∨ j = i) with h | rfl
        · exact hf j h
        · exact hfi) (by omega)
      rw [ihk]
      simp only [if_true, Bool.true_and]
      by_cases hi0 : 0 < i
      · rw [if_pos (by omega : (i : Int) > 0)]
        by_cases h8 : (l.getD i z35).f8 = 0
        · rw [if_pos h8]
          have e2 : wrap64 ((i : Int) - 1) = ((i - 1 : Nat) : Int) := by unfold wrap64; omega
          rw [e2, if_pos (Int.natCast_nonneg _), if_pos (by omega), rd_getD]
          by_cases h9 : (l.getD (i - 1) z35).f8 = 0
          · rw [if_pos h9, if_neg (by rw [decide_eq_true hi0, decide_eq_true h8, decide_eq_true h9]; decide)]
          · rw [if_neg h9, if_pos (by rw [decide_eq_false h9]; simp)]
        · rw [if_neg h8, if_pos (by rw [decide_eq_false h8]; simp)]
      · rw [if_neg (by omega : ¬ (i : Int) > 0), if_pos (by rw [decide_eq_false hi0]; rfl)]
theorem rcheck_f (l : List S35) (hl : l.length ≤ 1000000) (hs : ∀ x ∈ l, x.f0.size ≤ 1000000 ∧ -9223372036854775808 ≤ x.f2 ∧ x.f2 ≤ 9223372036854775807) {k : Nat}
    (hk : l.length + 1000040 + 70 * (5 * l.length + 3) < k) : sorobanref21_Check.f k l = some (checkC l) := by
  unfold sorobanref21_Check.f checkC
  by_cases h : 500 < l.length
  · rw [if_pos (by omega), if_pos h]
  · rw [if_neg (by omega), if_neg h]
    exact rcheck_go l hl hs l.length 0 k (by omega) (fun j hj => by omega) hk
def neqC (x y : S35) : Bool := (!((x.f0.toList) == (y.f0.toList)) || (!((x.f1) == (y.f1)) || (!((x.f2) == (y.f2)) || (!((x.f3) == (y.f3)) || (!((x.f4) == (y.f4)) || (!((x.f5) == (y.f5)) || (!((x.f6) == (y.f6)) || (!((x.f7) == (y.f7)) || (!((x.f8) == (y.f8))))))))))) 
theorem neqC_self (x : S35) : neqC x x = false := by unfold neqC; simp
def sizesC (l : List S35) : Nat := (l.map fun x => x.f0.size).sum
theorem sizesC_mem {l : List S35} {x : S35} (h : x ∈ l) : x.f0.size ≤ sizesC l := by
  unfold sizesC
  induction l with
  | nil => cases h
  | cons y l ih =>
    rw [List.map_cons, List.sum_cons]
    rcases List.mem_cons.1 h with rfl | h
    · omega
    · have := ih h; omega
theorem sizesC_le {l : List S35} {m : Nat} (h : ∀ x ∈ l, x.f0.size ≤ m) : sizesC l ≤ l.length * m := by
  unfold sizesC
  induction l with
  | nil => exact Nat.zero_le _
  | cons y l ih =>
    rw [List.map_cons, List.sum_cons, List.length_cons, Nat.succ_mul]
    have := ih fun x hx => h x (List.mem_cons_of_mem _ hx)
    have := h y List.mem_cons_self
    omega
theorem sizesC_take (l : List S35) (i : Nat) (h : i < l.length) : sizesC (l.take (i + 1)) = sizesC (l.take i) + (l[i]).f0.size := by
  unfold sizesC
  rw [← List.take_append_getElem h, List.map_append, List.sum_append]
  simp
theorem small_big (l : List S35) (hl : l.length ≤ 140737488355328) (h6 : 600 < l.length) : ∀ (d i : Nat) (k : Nat) (n : Int), i + d = l.length → d < k →
    sorobanlaw21_small.l0 k l n (i : Int) = some false := by
  intro d
  induction d with
  | zero =>
    intro i k n hi hk
    obtain ⟨k, rfl⟩ : ∃ j, k = j + 1 := ⟨k - 1, by omega⟩
    unfold sorobanlaw21_small.l0
    rw [if_neg (by omega), if_neg (by omega)]
  | succ d ih =>
    intro i k n hi hk
    obtain ⟨k, rfl⟩ : ∃ j, k = j + 1 := ⟨k - 1, by omega⟩
    unfold sorobanlaw21_small.l0
    rw [if_pos (by omega), if_pos (by omega), show wrap64 ((i : Int) + 1) = ((i + 1 : Nat) : Int) by unfold wrap64; omega]
    exact ih (i + 1) k _ (by omega) (by omega)
theorem small_le (l : List S35) (h6 : l.length ≤ 600) (hs : ∀ x ∈ l, x.f0.size ≤ 140737488355328) : ∀ (d i : Nat) (k : Nat), i + d = l.length → d < k →
    sorobanlaw21_small.l0 k l (sizesC (l.take i) : Int) (i : Int) = some (decide (sizesC l ≤ 20000)) := by
  intro d
  induction d with
  | zero =>
    intro i k hi hk
    obtain ⟨k, rfl⟩ : ∃ j, k = j + 1 := ⟨k - 1, by omega⟩
    unfold sorobanlaw21_small.l0
    rw [if_neg (by omega), if_pos (by omega), List.take_of_length_le (by omega)]
    congr 1
    exact decide_eq_decide.2 (by omega)
  | succ d ih =>
    intro i k hi hk
    obtain ⟨k, rfl⟩ : ∃ j, k = j + 1 := ⟨k - 1, by omega⟩
    have hlt : i < l.length := by omega
    have hb : sizesC (l.take i) ≤ 600 * 140737488355328 := by
      have h1 := sizesC_le (l := l.take i) (m := 140737488355328) fun x hx => hs x (List.mem_of_mem_take hx)
      have h2 : ∀ m : Nat, (l.take i).length * m ≤ 600 * m := fun m => Nat.mul_le_mul (by rw [List.length_take]; omega) (Nat.le_refl m)
      exact Nat.le_trans h1 (h2 _)
    have hx := hs _ (List.getElem_mem hlt)
    unfold sorobanlaw21_small.l0
    rw [if_pos (by omega), if_pos (by omega), rd_T35_at l i hlt, show wrap64 ((i : Int) + 1) = ((i + 1 : Nat) : Int) by unfold wrap64; omega,
      show wrap64 ((sizesC (l.take i) : Int) + ((l[i]).f0.size : Int)) = (sizesC (l.take (i + 1)) : Int) by rw [sizesC_take l i hlt]; unfold wrap64; omega]
    exact ih (i + 1) k (by omega) (by omega)
def smallC (l : List S35) : Bool := decide (l.length ≤ 600) && decide (sizesC l ≤ 20000)
theorem small_f (l : List S35) (hl : l.length ≤ 140737488355328) (hs : ∀ x ∈ l, x.f0.size ≤ 140737488355328) {k : Nat} (hk : l.length < k) : sorobanlaw21_small.f k l = some (smallC l) := by
  unfold sorobanlaw21_small.f smallC
  by_cases h : l.length ≤ 600
  · rw [decide_eq_true h]
    exact small_le l h hs l.length 0 k (by omega) hk
  · rw [decide_eq_false h]
    exact small_big l hl (by omega) l.length 0 k 0 (by omega) hk
end Go.Proofs.YtnhbgahfmcicnaaGreatDoor.PA
end
