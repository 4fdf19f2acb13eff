/- A part of the proof that Parse of Print is the list, and that Print of what Parse returns is read so again and no longer. -/
import Derived.Test.YtnhbgahfmcicnaaGreatDoorBkM10
import Derived.Test.YtnhbgahfmcicnaaGreatDoorBkM15
section
namespace Go.Proofs.YtnhbgahfmcicnaaGreatDoor.Pure
set_option linter.unusedVariables false
open Go.RowKit Go.Proofs.YtnhbgahfmcicnaaGreatDoor.PA Go.Proofs.YtnhbgahfmcicnaaGreatDoorW.PrintWords Go.Proofs.YtnhbgahfmcicnaaGreatDoorW.PrintLast
theorem goC_of {l : List S35} (h : ListOk l) : ∀ (d i : Nat), i + d = l.length → goC l d i = (0, 0) := by
  intro d
  induction d with
  | zero =>
    intro i hi
    unfold goC
    rw [h.whole]
    rfl
  | succ d ih =>
    intro i hi
    have hlt : i < l.length := by omega
    unfold goC
    have e1 : fitsC (l.getD i z35) = true := by
      rw [List.getD_eq_getElem?_getD, List.getElem?_eq_getElem hlt]
      exact h.fit _ (List.getElem_mem hlt)
    have e2 : (decide (0 < i) && (decide ((l.getD i z35).f8 = 0) && decide ((l.getD (i - 1) z35).f8 = 0))) = false := by
      have key : ∀ (l : List S35), apart l → ∀ j, j + 1 < l.length → ¬ ((l.getD j z35).f8 = 0 ∧ (l.getD (j + 1) z35).f8 = 0) := by
        intro l
        induction l with
        | nil => intro _ j hj; simp at hj
        | cons x l ihl =>
          intro ha j hj
          cases l with
          | nil => simp at hj
          | cons y l =>
            cases j with
            | zero => exact ha.1
            | succ j => exact ihl ha.2 j (by simpa using hj)
      rw [Bool.and_eq_false_iff, Bool.and_eq_false_iff, decide_eq_false_iff_not, decide_eq_false_iff_not, decide_eq_false_iff_not]
      by_cases hi0 : 0 < i
      · right
        have := key l h.apart (i - 1) (by omega)
        rw [show i - 1 + 1 = i by omega] at this
        by_cases e : (l.getD i z35).f8 = 0
        · exact Or.inr fun e' => this ⟨e', e⟩
        · exact Or.inl e
      · exact Or.inl hi0
    rw [e1, e2]
    exact ih (i + 1) (by omega)
theorem check_of {l : List S35} (h : ListOk l) : checkC l = (0, 0) := by
  unfold checkC
  have := h.len
  rw [if_neg (by omega)]
  exact goC_of h l.length 0 (by omega)
theorem goC_zero (l : List S35) : ∀ (d i : Nat), (goC l d i).1 = 0 → goC l d i = (0, 0) := by
  intro d
  induction d with
  | zero =>
    intro i h
    unfold goC at h ⊢
    split
    · rfl
    · rename_i hw
      rw [if_neg hw] at h
      cases h
  | succ d ih =>
    intro i h
    unfold goC at h ⊢
    split
    · rename_i hc
      rw [if_pos hc] at h
      exact ih (i + 1) h
    · rename_i hc
      rw [if_neg hc] at h
      cases h
theorem check_zero {l : List S35} (h : (checkC l).1 = 0) : checkC l = (0, 0) := by
  unfold checkC at h ⊢
  split
  · rename_i hc
    rw [if_pos hc] at h
    cases h
  · rename_i hc
    rw [if_neg hc] at h
    exact goC_zero l _ _ h
theorem print_bad {l : List S35} (hs : ∀ x ∈ l, x.f0.size ≤ 20000) (hl : l.length ≤ 600) (hc : ¬ (checkC l).1 = 0) {k : Nat} (hk : 4 * l.length + 10 < k) :
    spec_Print.f k l = some ((⟨#[]⟩ : ByteArray), (checkC l).1) := by
  unfold spec_Print.f
  rw [check_f l (by omega) (fun x hx => by have := hs x hx; omega) (by omega), Option.bind_some, if_neg hc]
theorem text_mem {l : List S35} {x : S35} (h : x ∈ l) (p : Bool) : (textB x p).length ≤ (textsB l p).length := by
  induction l with
  | nil => cases h
  | cons y l ih =>
    have e : textsB (y :: l) p = textB y p ++ textsB l p := by unfold textsB; rw [List.flatMap_cons]
    rw [e, List.length_append]
    rcases List.mem_cons.1 h with rfl | h
    · omega
    · have := ih h; omega
theorem lit_le {x : S35} (hf : fitsC x = true) (p : Bool) : x.f0.size ≤ (textB x p).length := by
  have hsz : x.f0.size = x.f0.data.toList.length := by rw [Array.length_toList]; rfl
  unfold textB
  by_cases h0 : x.f8 = 0
  · rw [if_pos h0, hsz]; exact Nat.le_refl _
  · have he : x.f0.data.toList = [] := by
      unfold fitsC at hf
      rw [if_neg h0] at hf
      by_cases h37 : x.f8 = 37
      · rw [if_pos h37, Bool.and_eq_true, decide_eq_true_eq] at hf
        exact hf.1
      · rw [if_neg h37] at hf
        simp only [Bool.and_eq_true, decide_eq_true_eq] at hf
        exact hf.2.1
    rw [hsz, he]
    exact Nat.zero_le _
theorem strOf_bytes (t : List UInt8) : (PA.strOf t).data.toList = t := rfl
theorem strOf_size (t : List UInt8) : (PA.strOf t).size = t.length := by show t.toArray.size = _; simp
theorem back_j0 (a0 : ByteArray) {K : Nat} (hK : 5000 < K) : sorobanlaw21_SpecBack.j0 (K + 1) a0 = some true := by
  simp only [sorobanlaw21_SpecBack.j0]
  unfold spec_Parse.f
  rw [Option.bind_some]
  by_cases h : (parseC a0.data.toList).2.1 = 0
  · obtain ⟨h1, h2, h3, h4, h5⟩ := parse_valid h
    rw [if_pos h]
    generalize hL : (parseC a0.data.toList).1 = L at h2 h3 h4 ⊢
    have hlen := h2.len
    have hs : ∀ x ∈ L, x.f0.size ≤ 20000 := fun x hx => by
      have e1 := lit_le (h2.fit x hx) (!oneUp (allC L))
      have e2 := text_mem hx (!oneUp (allC L))
      omega
    have hc := check_of h2
    have hpr : spec_Print.f K L = some (PA.strOf (textsB L (!oneUp (allC L))), 0) := by
      rw [print_f hc h3 hs (by omega), if_neg (by omega)]
    have hpa : parseC (textsB L (!oneUp (allC L))) = (L, 0, 0) := parse_text h2 h3 (by omega)
    rw [check_f L (by omega) (fun x hx => by have := hs x hx; omega) (by omega), Option.bind_some, hc, hpr, Option.bind_some]
    dsimp only
    rw [Option.bind_some, strOf_bytes, hpa]
    dsimp only
    rw [hpr, Option.bind_some]
    unfold sorobanlaw21_sanity.f
    rw [Option.bind_some, if_pos rfl, if_pos rfl, if_pos rfl, if_pos rfl, if_pos rfl, rsame_f L L (by omega) (by omega) (by omega), Option.bind_some, sameC_self, if_pos rfl, if_pos rfl, strOf_size]
    have hsz : a0.size = a0.data.toList.length := by rw [Array.length_toList]; rfl
    rw [decide_eq_true (by omega)]
  · rw [if_neg h]
    rfl
theorem SpecBack (a0 : ByteArray) (l : List S35) (h0 : a0.size ≤ 140737488351232) (hl : HandedL l) : ∃ k, sorobanlaw21_SpecBack.f k a0 l = some true := by
  obtain ⟨K, hK⟩ : ∃ K, l.length + 2000000 < K := ⟨_, Nat.lt_succ_self _⟩
  have hj := back_j0 a0 (K := K) (by omega)
  refine ⟨K + 1, ?_⟩
  unfold sorobanlaw21_SpecBack.f
  rw [small_f l (Nat.le_trans hl.1 (by decide)) (fun x hx => Nat.le_trans (hl.2 x hx).1 (by decide)) (by omega), Option.bind_some]
  cases hsm : smallC l with
  | false => rw [if_neg (by simp)]; exact hj
  | true =>
    rw [if_pos rfl]
    unfold smallC at hsm
    simp only [Bool.and_eq_true, decide_eq_true_eq] at hsm
    have hs : ∀ x ∈ l, x.f0.size ≤ 20000 := fun x hx => Nat.le_trans (sizesC_mem hx) hsm.2
    have hp : ∀ x ∈ l, PieceOk x := fun x hx => (hl.2 x hx).2
    by_cases hc : (checkC l).1 = 0
    · have hc' := check_zero hc
      have h2 := check_ok hc'
      rw [print_f hc' hp hs (by omega)]
      by_cases hb : 2000 < (textsB l (!oneUp (allC l))).length
      · rw [if_pos hb, Option.bind_some]
        unfold spec_Parse.f
        dsimp only
        rw [Option.bind_some, if_neg (by decide)]
        exact hj
      · rw [if_neg hb, Option.bind_some]
        unfold spec_Parse.f
        dsimp only
        rw [Option.bind_some, if_pos rfl, strOf_bytes, parse_text h2 hp (by omega)]
        dsimp only
        rw [if_pos rfl, rsame_f l l (by omega) (by omega) (by omega), Option.bind_some, sameC_self, if_pos rfl]
        exact hj
    · rw [print_bad hs (by omega) hc (by omega), Option.bind_some]
      unfold spec_Parse.f
      dsimp only
      rw [Option.bind_some, if_neg hc]
      exact hj
end Go.Proofs.YtnhbgahfmcicnaaGreatDoor.Pure
end
