/- A part of the proof of the claim's statement. -/
import Derived.Test.YtnhbgahfmcicnaaGreatDoorPcPAx15
import Derived.Test.YtnhbgahfmcicnaaGreatDoorPcM9
section
namespace Go.Proofs.YtnhbgahfmcicnaaGreatDoor.PA
set_option linter.unusedVariables false
set_option linter.unusedSimpArgs false
open Go.RowKit Go.Shelf Go.Proofs.YtnhbgahfmcicnaaGreatDoorW.PrintWords Go.Proofs.YtnhbgahfmcicnaaGreatDoorW.PrintLast Go.Proofs.YtnhbgahfmcicnaaGreatDoorW.PrintMore
theorem allC_fits {l : List S35} (h : ∀ x ∈ l, fitsC x = true) : ∀ n ∈ allC l, 1 ≤ n ∧ n ≤ 64 := by
  intro n hn
  unfold allC at hn
  obtain ⟨x, hx, hn⟩ := List.mem_flatMap.1 hn
  obtain ⟨hn, h0⟩ := List.mem_filter.1 hn
  have h0' : ¬ n = 0 := by simpa using h0
  have hf := h x hx
  unfold fitsC at hf
  by_cases h8 : x.f8 = 0
  · rw [if_pos h8] at hf
    unfold plainC at hf
    simp only [Bool.and_eq_true, decide_eq_true_eq] at hf
    simp only [List.mem_cons, List.not_mem_nil, or_false] at hn
    omega
  · rw [if_neg h8] at hf
    by_cases h37 : x.f8 = 37
    · rw [if_pos h37] at hf
      unfold plainC at hf
      simp only [Bool.and_eq_true, decide_eq_true_eq] at hf
      simp only [List.mem_cons, List.not_mem_nil, or_false] at hn
      omega
    · rw [if_neg h37] at hf
      unfold argOk at hf
      simp only [Bool.and_eq_true, decide_eq_true_eq] at hf
      simp only [List.mem_cons, List.not_mem_nil, or_false] at hn
      omega
def neqC (x y : S35) : Bool := (!((x.f0.toList) == (y.f0.toList)) || (!((x.f1) == (y.f1)) || (!((x.f2) == (y.f2)) || (!((x.f3) == (y.f3)) || (!((x.f4) == (y.f4)) || (!((x.f5) == (y.f5)) || (!((x.f6) == (y.f6)) || (!((x.f7) == (y.f7)) || (!((x.f8) == (y.f8))))))))))) 
def sameC : List S35 → List S35 → Bool
  | [], [] => true
  | x :: a, y :: b => !neqC x y && sameC a b
  | [], _ :: _ => false
  | _ :: _, [] => false
theorem neqC_self (x : S35) : neqC x x = false := by unfold neqC; simp
theorem sameC_self : ∀ l : List S35, sameC l l = true
  | [] => rfl
  | x :: l => by unfold sameC; rw [neqC_self, sameC_self l]; rfl
theorem neqC_iff {x y : S35} : neqC x y = false ↔ x = y := by
  constructor
  · intro h
    unfold neqC at h
    simp only [Bool.or_eq_false_iff, Bool.not_eq_false', beq_iff_eq] at h
    obtain ⟨h0, h1, h2, h3, h4, h5, h6, h7, h8⟩ := h
    obtain ⟨f0, f1, f2, f3, f4, f5, f6, f7, f8⟩ := x
    obtain ⟨g0, g1, g2, g3, g4, g5, g6, g7, g8⟩ := y
    simp only [Lib.toList_data] at h0 h1 h2 h3 h4 h5 h6 h7 h8
    subst h1 h2 h3 h4 h5 h6 h7 h8
    obtain ⟨d⟩ := f0
    obtain ⟨e⟩ := g0
    have : d = e := Array.toList_inj.1 h0
    rw [this]
  · rintro rfl
    exact neqC_self x
theorem sameC_iff : ∀ {a b : List S35}, sameC a b = true ↔ a = b
  | [], [] => ⟨fun _ => rfl, fun _ => rfl⟩
  | [], y :: b => ⟨fun h => absurd h Bool.false_ne_true, fun h => absurd h (by simp)⟩
  | x :: a, [] => ⟨fun h => absurd h Bool.false_ne_true, fun h => absurd h (by simp)⟩
  | x :: a, y :: b => by
    unfold sameC
    rw [Bool.and_eq_true, sameC_iff, Bool.not_eq_true', neqC_iff]
    constructor
    · rintro ⟨rfl, rfl⟩; rfl
    · intro h; injection h with h1 h2; exact ⟨h1, h2⟩
theorem sameC_length : ∀ {a b : List S35}, a.length ≠ b.length → sameC a b = false := by
  intro a b h
  rw [Bool.eq_false_iff]
  intro e
  exact h (by rw [sameC_iff.1 e])
theorem rsame_go (a b : List S35) (hl : a.length = b.length) (hm : a.length ≤ 1000000) : ∀ (d i k : Nat), i + d = a.length → d < k →
    sorobanref21_Same.l0 k a b (i : Int) = some (sameC (a.drop i) (b.drop i)) := by
  intro d
  induction d with
  | zero =>
    intro i k hi hk
    obtain ⟨k, rfl⟩ : ∃ j, k = j + 1 := ⟨k - 1, by omega⟩
    unfold sorobanref21_Same.l0
    rw [if_neg (by omega), List.drop_eq_nil_of_le (by omega), List.drop_eq_nil_of_le (by omega)]
    rfl
  | succ d ih =>
    intro i k hi hk
    obtain ⟨k, rfl⟩ : ∃ j, k = j + 1 := ⟨k - 1, by omega⟩
    have hlt : i < a.length := by omega
    have hlt2 : i < b.length := by omega
    unfold sorobanref21_Same.l0
    rw [if_pos (by omega), if_pos (by omega), if_pos (by omega), rd_T35_at a i hlt, rd_T35_at b i hlt2, show wrap64 ((i : Int) + 1) = ((i + 1 : Nat) : Int) by unfold wrap64; omega,
      ih (i + 1) k (by omega) (by omega), List.drop_eq_getElem_cons hlt, List.drop_eq_getElem_cons hlt2]
    show (if neqC a[i] b[i] = true then some false else _) = some (!neqC a[i] b[i] && _)
    cases neqC a[i] b[i] <;> simp
theorem rsame_f (a b : List S35) (hm : a.length ≤ 1000000) (hm2 : b.length ≤ 1000000) {k : Nat} (hk : a.length < k) : sorobanref21_Same.f k a b = some (sameC a b) := by
  unfold sorobanref21_Same.f
  by_cases h : a.length = b.length
  · rw [if_pos (by omega)]
    exact rsame_go a b h hm a.length 0 k (by omega) hk
  · rw [if_neg (by omega), sameC_length h]
end Go.Proofs.YtnhbgahfmcicnaaGreatDoor.PA
end
