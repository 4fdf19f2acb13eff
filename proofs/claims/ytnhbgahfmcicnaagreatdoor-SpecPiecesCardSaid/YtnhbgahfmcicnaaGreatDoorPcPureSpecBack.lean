/- A part of the proof of the claim's statement. -/
import Derived.Test.YtnhbgahfmcicnaaGreatDoorPcM10
import Derived.Test.YtnhbgahfmcicnaaGreatDoorPcM15
section
namespace Go.Proofs.YtnhbgahfmcicnaaGreatDoor.Pure
set_option linter.unusedVariables false
open Go.RowKit Go.Proofs.YtnhbgahfmcicnaaGreatDoor.PA Go.Proofs.YtnhbgahfmcicnaaGreatDoorW.PrintWords Go.Proofs.YtnhbgahfmcicnaaGreatDoorW.PrintLast
theorem goC_of {l : List S35} (h : ListOk l) : ∀ (d i : Nat), i + d = l.length → goC l d i = (0, 0) := by
  intro d
  induction d with
  | zero =>
    intro i hi
    unfold goC
    rw [h.whole]
    rfl
  | succ d ih =>
    intro i hi
    have hlt : i < l.length := by omega
    unfold goC
    have e1 : fitsC (l.getD i z35) = true := by
      rw [List.getD_eq_getElem?_getD, List.getElem?_eq_getElem hlt]
      exact h.fit _ (List.getElem_mem hlt)
    have e2 : (decide (0 < i) && (decide ((l.getD i z35).f8 = 0) && decide ((l.getD (i - 1) z35).f8 = 0))) = false := by
      have key : ∀ (l : List S35), apart l → ∀ j, j + 1 < l.length → ¬ ((l.getD j z35).f8 = 0 ∧ (l.getD (j + 1) z35).f8 = 0) := by
        intro l
        induction l with
        | nil => intro _ j hj; simp at hj
        | cons x l ihl =>
          intro ha j hj
          cases l with
          | nil => simp at hj
          | cons y l =>
            cases j with
            | zero => exact ha.1
            | succ j => exact ihl ha.2 j (by simpa using hj)
      rw [Bool.and_eq_false_iff, Bool.and_eq_false_iff, decide_eq_false_iff_not, decide_eq_false_iff_not, decide_eq_false_iff_not]
      by_cases hi0 : 0 < i
      · right
        have := key l h.apart (i - 1) (by omega)
        rw [show i - 1 + 1 = i by omega] at this
        by_cases e : (l.getD i z35).f8 = 0
        · exact Or.inr fun e' => this ⟨e', e⟩
        · exact Or.inl e
      · exact Or.inl hi0
    rw [e1, e2]
    exact ih (i + 1) (by omega)
theorem check_of {l : List S35} (h : ListOk l) : checkC l = (0, 0) := by
  unfold checkC
  have := h.len
  rw [if_neg (by omega)]
  exact goC_of h l.length 0 (by omega)
theorem text_mem {l : List S35} {x : S35} (h : x ∈ l) (p : Bool) : (textB x p).length ≤ (textsB l p).length := by
  induction l with
  | nil => cases h
  | cons y l ih =>
    have e : textsB (y :: l) p = textB y p ++ textsB l p := by unfold textsB; rw [List.flatMap_cons]
    rw [e, List.length_append]
    rcases List.mem_cons.1 h with rfl | h
    · omega
    · have := ih h; omega
theorem lit_le {x : S35} (hf : fitsC x = true) (p : Bool) : x.f0.size ≤ (textB x p).length := by
  have hsz : x.f0.size = x.f0.data.toList.length := by rw [Array.length_toList]; rfl
  unfold textB
  by_cases h0 : x.f8 = 0
  · rw [if_pos h0, hsz]; exact Nat.le_refl _
  · have he : x.f0.data.toList = [] := by
      unfold fitsC at hf
      rw [if_neg h0] at hf
      by_cases h37 : x.f8 = 37
      · rw [if_pos h37, Bool.and_eq_true, decide_eq_true_eq] at hf
        exact hf.1
      · rw [if_neg h37] at hf
        simp only [Bool.and_eq_true, decide_eq_true_eq] at hf
        exact hf.2.1
    rw [hsz, he]
    exact Nat.zero_le _
theorem strOf_size (t : List UInt8) : (PA.strOf t).size = t.length := by show t.toArray.size = _; simp
end Go.Proofs.YtnhbgahfmcicnaaGreatDoor.Pure
end
