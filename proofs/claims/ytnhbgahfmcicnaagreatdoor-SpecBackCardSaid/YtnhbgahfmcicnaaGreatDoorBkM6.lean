/- A part of the proof that Parse of Print is the list, and that Print of what Parse returns is read so again and no longer. -/
import Derived.Test.YtnhbgahfmcicnaaGreatDoorBkM3
section
namespace Go.Proofs.YtnhbgahfmcicnaaGreatDoor.PA
set_option linter.unusedVariables false
open Go.RowKit Go.Proofs.YtnhbgahfmcicnaaGreatDoorW.PrintWords Go.Proofs.YtnhbgahfmcicnaaGreatDoorW.PrintLast
structure Stop (c : UInt8) : Prop where
  dig : isDig (c.toNat : Int) = false
  flag : flagVal (c.toNat : Int) = 0
  n36 : c ≠ 36
  n37 : c ≠ 37
  n42 : c ≠ 42
  n46 : c ≠ 46
  n48 : ((c.toNat : Int)) ≠ 42
  mod : ∀ k, ¬ c ∈ mods.getD k []
def stopB (n : Nat) : Bool := !isDig (n : Int) && (flagVal (n : Int) == 0 && (n != 36 && (n != 37 && (n != 42 && (n != 46 && mods.all fun m => m.all fun d => d.toNat != n)))))
theorem stopB_all : ∀ n : Fin 256, (ruleC (n.val : Int)).ok = true → stopB n.val = true := by decide +kernel
theorem stop_of {c : UInt8} (h : (ruleC (c.toNat : Int)).ok = true) : Stop c := by
  have hb := stopB_all ⟨c.toNat, c.toNat_lt⟩ h
  unfold stopB at hb
  simp only [Bool.and_eq_true, Bool.not_eq_true', beq_iff_eq, bne_iff_ne, ne_eq] at hb
  obtain ⟨h1, h2, h3, h4, h5, h6, h7⟩ := hb
  refine ⟨h1, h2, fun e => h3 (by rw [e]; rfl), fun e => h4 (by rw [e]; rfl), fun e => h5 (by rw [e]; rfl), fun e => h6 (by rw [e]; rfl), by omega, fun k hc => ?_⟩
  rw [List.getD_eq_getElem?_getD] at hc
  cases hk : mods[k]? with
  | none => rw [hk] at hc; simp at hc
  | some m =>
    rw [hk, Option.getD_some] at hc
    have h8 := List.all_eq_true.1 (List.all_eq_true.1 h7 m (List.mem_of_getElem? hk)) c hc
    simp at h8
theorem prefixU {c : UInt8} : ∀ (m q : List UInt8), ¬ c ∈ m → ∀ r, m.isPrefixOf (q ++ c :: r) = m.isPrefixOf q
  | [], q, _, r => by simp
  | d :: m, [], h, r => by
    show (d :: m).isPrefixOf (c :: r) = _
    have : (d == c) = false := beq_eq_false_iff_ne.2 fun e => h (by rw [e]; exact List.mem_cons_self)
    simp [List.isPrefixOf, this]
  | d :: m, e :: q, h, r => by
    rw [List.cons_append]
    simp only [List.isPrefixOf]
    rw [prefixU m q (fun hm => h (List.mem_cons_of_mem _ hm)) r]
theorem bestU {c : UInt8} (hc : Stop c) (q r : List UInt8) : ∀ k, bestMod (q ++ c :: r) k = bestMod q k
  | 0 => rfl
  | k + 1 => by
    unfold bestMod
    rw [bestU hc q r k, prefixU _ q (hc.mod k) r]
theorem best_prefix (l : List UInt8) : ∀ k, (mods.getD (bestMod l k) []).isPrefixOf l = true
  | 0 => by show (mods.getD 0 []).isPrefixOf l = true; simp [mods]
  | k + 1 => by
    unfold bestMod
    split
    · rename_i h
      simp only [Bool.and_eq_true] at h
      exact h.1
    · exact best_prefix l k
def Ends (r : List UInt8) : Prop := r = [] ∨ ∃ t, r = 37 :: t
theorem Ends.drop {l : List UInt8} (h : ¬ (hdI (l.dropWhile isTxt) = 0 ∧ l.dropWhile isTxt ≠ [])) : Ends (l.dropWhile isTxt) := by
  induction l with
  | nil => exact Or.inl rfl
  | cons c l ih =>
    rw [List.dropWhile_cons] at h ⊢
    cases hc : isTxt c with
    | true => rw [hc, if_pos rfl] at h; rw [if_pos rfl]; exact ih h
    | false =>
      rw [hc, if_neg (by simp)] at h
      rw [if_neg (by simp)]
      refine Or.inr ⟨l, ?_⟩
      have h0 : c ≠ 0 := fun e => h ⟨by rw [e]; rfl, by simp⟩
      have : c = 37 := by
        unfold isTxt at hc
        simp only [Bool.and_eq_false_iff, bne_eq_false_iff_eq] at hc
        rcases hc with e | e
        · exact e
        · exact absurd e h0
      rw [this]
theorem txt_append {q r : List UInt8} (hq : ∀ c ∈ q, isTxt c = true) (hr : Ends r) : (q ++ r).takeWhile isTxt = q ∧ (q ++ r).dropWhile isTxt = r := by
  induction q with
  | nil =>
    rcases hr with rfl | ⟨t, rfl⟩
    · exact ⟨rfl, rfl⟩
    · exact ⟨rfl, rfl⟩
  | cons c q ih =>
    have h1 := hq c List.mem_cons_self
    have h2 := ih fun d hd => hq d (List.mem_cons_of_mem _ hd)
    rw [List.cons_append, List.takeWhile_cons, List.dropWhile_cons, if_pos h1, if_pos h1, h2.1, h2.2]
    exact ⟨rfl, rfl⟩
theorem skipC_eq {b : UInt8} {l t : List UInt8} (h : skipC b l = some t) : l = b :: t := by
  cases l with
  | nil => cases h
  | cons c l =>
    rw [skipC_cons] at h
    split at h
    · rename_i e
      obtain rfl := Option.some.inj h
      rw [e]
    · cases h
theorem skipC_hit {b : UInt8} (t : List UInt8) : skipC b (b :: t) = some t := by simp [skipC]
def txtP (q : List UInt8) : S35 := ⟨⟨q.toArray⟩, 0, 0, -1, 0, -1, 0, 0, 0⟩
theorem piece_txt {q r : List UInt8} {pl nx : Int} (hq : ∀ c ∈ q, isTxt c = true) (hne : q ≠ []) (hr : Ends r) : pieceC false pl nx (q ++ r) = .ok (txtP q, pl, nx, r) := by
  obtain ⟨h1, h2⟩ := txt_append hq hr
  have hs : skipC 37 (q ++ r) = none := by
    cases q with
    | nil => exact absurd rfl hne
    | cons c q =>
      have : c ≠ 37 := fun e => by
        have := hq c List.mem_cons_self
        rw [e] at this
        cases this
      simp [skipC, this]
  have hd : ¬ (hdI r = 0 ∧ r ≠ []) := by
    rcases hr with rfl | ⟨t, rfl⟩
    · simp
    · simp [hdI]
  unfold pieceC
  rw [hs]
  dsimp only
  rw [if_neg (by simp), h1, h2, if_neg hd]
  rfl
end Go.Proofs.YtnhbgahfmcicnaaGreatDoor.PA
end
