/- A part of the proof of SpecOffsetsCardSaid: the law answers true at every text, with no condition. -/
import Derived.Test.YtnhbgahfmcicnaaGreatDoorOsPAx14
import Derived.Test.YtnhbgahfmcicnaaGreatDoorOsM6
section
namespace Go.Proofs.YtnhbgahfmcicnaaGreatDoor.Pure
set_option linter.unusedVariables false
open Go.RowKit Go.Proofs.YtnhbgahfmcicnaaGreatDoor.PA Go.Proofs.YtnhbgahfmcicnaaGreatDoorW.PrintWords Go.Proofs.YtnhbgahfmcicnaaGreatDoorW.PrintLast
theorem pieceC_code {full : Bool} {pl nx : Int} {l : List UInt8} {e : Int × List UInt8} (h : pieceC full pl nx l = .error e) : (e.1 = 2 ∨ e.1 = 6) ∧ e.2 <:+ l := by
  unfold pieceC at h
  split at h
  · split at h
    · injection h with h; rw [← h]; exact ⟨Or.inl rfl, List.suffix_refl _⟩
    · split at h
      · injection h with h; rw [← h]; exact ⟨Or.inr rfl, List.dropWhile_suffix _⟩
      · cases h
  · split at h
    · cases h
    · split at h
      · injection h with h; rw [← h]; exact ⟨Or.inr rfl, List.suffix_refl _⟩
      · split at h
        · injection h with h; rw [← h]; exact ⟨Or.inl rfl, List.suffix_refl _⟩
        · cases h
theorem piecesC_code : ∀ (k : Nat) (acc : List S35) (pl nx : Int) (l : List UInt8) (e : Int × List UInt8), piecesC k acc pl nx l = .error e → (e.1 = 2 ∨ e.1 = 6) ∧ e.2 <:+ l := by
  intro k
  induction k with
  | zero => intro acc pl nx l e h; cases h
  | succ k ih =>
    intro acc pl nx l e h
    unfold piecesC at h
    split at h
    · cases h
    · rename_i hne
      split at h
      · rename_i e' he
        injection h with h
        subst h
        exact pieceC_code he
      · rename_i x pl' nx' l' he
        split at h
        · injection h with h; rw [← h]; exact ⟨Or.inl rfl, List.suffix_refl _⟩
        · obtain ⟨h1, h2⟩ := ih _ _ _ _ _ h
          exact ⟨h1, h2.trans (pieceC_suf he hne).1⟩
theorem parse_place (l : List UInt8) :
    ((parseC l).2.1 = 0 ∧ (parseC l).2.2 = 0) ∨ ((parseC l).2.1 = 2 ∧ 0 ≤ (parseC l).2.2 ∧ (parseC l).2.2 ≤ (l.length : Int)) ∨ ((parseC l).2.1 = 6 ∧ (parseC l).2.2 = (l.length : Int)) ∨
    ((parseC l).2.1 = 6 ∧ ∃ p s, l = p ++ s ∧ s ≠ [] ∧ (hdI s = 37 ∨ hdI s = 0) ∧ (parseC l).2.2 = (p.length : Int) ∧ (((parseC p).2.1 = 0) ∨ ((parseC p).2.1 = 6 ∧ (parseC p).2.2 = (p.length : Int)))) := by
  have hm : ∀ m : List UInt8, parseC m = if 2000 < m.length then ([], 2, 0) else outC m.length (piecesC (m.length + 1) [] 0 0 m) := fun _ => rfl
  by_cases h2 : 2000 < l.length
  · rw [hm l, if_pos h2]
    exact Or.inr (Or.inl ⟨rfl, by show (0 : Int) ≤ 0; omega, by show (0 : Int) ≤ _; omega⟩)
  · rw [hm l, if_neg h2]
    cases hp : piecesC (l.length + 1) [] 0 0 l with
    | ok L =>
      unfold outC
      dsimp only
      by_cases hw : wholeC L = true
      · rw [if_pos hw]; exact Or.inl ⟨rfl, rfl⟩
      · rw [if_neg hw]; exact Or.inr (Or.inr (Or.inl ⟨rfl, rfl⟩))
    | error e =>
      obtain ⟨hc, hsuf⟩ := piecesC_code _ _ _ _ _ _ hp
      obtain ⟨e1, s⟩ := e
      unfold outC
      dsimp only at hc hsuf ⊢
      rcases hc with rfl | rfl
      · refine Or.inr (Or.inl ⟨rfl, ?_, ?_⟩) <;> omega
      · obtain ⟨h1, h3, p, rfl, L, hL⟩ := pieces_before _ l [] 0 0 s (Nat.le_refl _) hp
        refine Or.inr (Or.inr (Or.inr ⟨rfl, p, s, rfl, h1, h3, by rw [List.length_append]; omega, ?_⟩))
        rw [List.length_append] at h2
        rw [hm p, if_neg (by omega), hL]
        unfold outC
        dsimp only
        by_cases hw : wholeC L = true
        · rw [if_pos hw]; exact Or.inl rfl
        · rw [if_neg hw]; exact Or.inr ⟨rfl, rfl⟩
theorem SpecOffsets : sorobanlaw21_SpecOffsets.Pure := by
  intro a0 _
  have hsz : (a0.size : Int) = (a0.data.toList.length : Int) := by rw [Array.length_toList]; rfl
  refine ⟨2, ?_⟩
  unfold sorobanlaw21_SpecOffsets.f spec_Parse.f sorobanlaw21_sanity.f
  simp only [Option.bind_some]
  rcases parse_place a0.data.toList with ⟨h1, h2⟩ | ⟨h1, h2, h3⟩ | ⟨h1, h2⟩ | ⟨h1, p, s, hl, hs, hh, h2, h3⟩
  · rw [h1, h2]
    simp
  · rw [h1]
    have h4 : (parseC a0.data.toList).2.2 ≤ (a0.size : Int) := by omega
    simp [h2, h4]
  · rw [h1, h2, if_pos rfl, if_pos hsz.symm]
  · have hll : a0.data.toList.length = p.length + s.length := by rw [hl, List.length_append]
    have hsl : 0 < s.length := List.length_pos_iff.2 hs
    rw [h1, if_pos rfl, h2, if_neg (by omega), if_neg (by omega), if_neg (by omega), if_pos (by omega), if_pos (by omega)]
    have hj : sorobanlaw21_SpecOffsets.j0 2 a0 (p.length : Int) false = some true := by
      simp only [sorobanlaw21_SpecOffsets.j0]
      unfold spec_Parse.f sorobanlaw21_sanity.f
      rw [if_neg (by simp), if_pos (by omega), if_pos (by omega)]
      simp only [Option.bind_some]
      have he : (a0.extract 0 ((p.length : Int)).toNat).data.toList = p := by
        rw [Int.toNat_natCast, ByteArray.data_extract, Array.toList_extract, List.extract_eq_take_drop, hl]
        simp
      rw [he]
      rcases h3 with h3 | ⟨h3, h4⟩
      · rw [h3]; simp
      · rw [h3, h4]; simp
    have hb : bt a0 (p.length : Int) = hdI s := by
      unfold bt
      rw [Int.toNat_natCast, dif_pos (by omega)]
      have : a0.data.toList[p.length]? = s[0]? := by
        rw [hl, List.getElem?_append_right (Nat.le_refl _), Nat.sub_self]
      cases s with
      | nil => exact absurd rfl hs
      | cons c s =>
        rw [List.getElem?_cons_zero] at this
        have h5 : p.length < a0.size := by omega
        rw [Lib.data_getElem? a0 p.length h5] at this
        have h6 := Option.some.inj this
        show (((a0[p.length]'h5).toNat : Nat) : Int) = _
        rw [h6]
        rfl
    rw [hb]
    by_cases h37 : hdI s = 37
    · rw [if_pos h37]; exact hj
    · rw [if_neg h37]
      have h0 : hdI s = 0 := hh.resolve_left h37
      rw [h0]
      exact hj
end Go.Proofs.YtnhbgahfmcicnaaGreatDoor.Pure
end
