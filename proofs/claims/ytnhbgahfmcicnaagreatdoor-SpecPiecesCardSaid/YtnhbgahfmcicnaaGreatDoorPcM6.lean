/- A part of the proof of the claim's statement. -/
import Derived.Test.YtnhbgahfmcicnaaGreatDoorPcM3
section
namespace Go.Proofs.YtnhbgahfmcicnaaGreatDoor.PA
set_option linter.unusedVariables false
open Go.RowKit Go.Proofs.YtnhbgahfmcicnaaGreatDoorW.PrintWords Go.Proofs.YtnhbgahfmcicnaaGreatDoorW.PrintLast
structure Stop (c : UInt8) : Prop where
  dig : isDig (c.toNat : Int) = false
  flag : flagVal (c.toNat : Int) = 0
  n36 : c ≠ 36
  n37 : c ≠ 37
  n42 : c ≠ 42
  n46 : c ≠ 46
  n48 : ((c.toNat : Int)) ≠ 42
  mod : ∀ k, ¬ c ∈ mods.getD k []
def stopB (n : Nat) : Bool := !isDig (n : Int) && (flagVal (n : Int) == 0 && (n != 36 && (n != 37 && (n != 42 && (n != 46 && mods.all fun m => m.all fun d => d.toNat != n)))))
theorem stopB_all : ∀ n : Fin 256, (ruleC (n.val : Int)).ok = true → stopB n.val = true := by decide +kernel
theorem stop_of {c : UInt8} (h : (ruleC (c.toNat : Int)).ok = true) : Stop c := by
  have hb := stopB_all ⟨c.toNat, c.toNat_lt⟩ h
  unfold stopB at hb
  simp only [Bool.and_eq_true, Bool.not_eq_true', beq_iff_eq, bne_iff_ne, ne_eq] at hb
  obtain ⟨h1, h2, h3, h4, h5, h6, h7⟩ := hb
  refine ⟨h1, h2, fun e => h3 (by rw [e]; rfl), fun e => h4 (by rw [e]; rfl), fun e => h5 (by rw [e]; rfl), fun e => h6 (by rw [e]; rfl), by omega, fun k hc => ?_⟩
  rw [List.getD_eq_getElem?_getD] at hc
  cases hk : mods[k]? with
  | none => rw [hk] at hc; simp at hc
  | some m =>
    rw [hk, Option.getD_some] at hc
    have h8 := List.all_eq_true.1 (List.all_eq_true.1 h7 m (List.mem_of_getElem? hk)) c hc
    simp at h8
theorem numU {c : UInt8} (hc : Stop c) (m : Int) : ∀ (q : List UInt8) (n : Int), ∃ v t, ∀ r, numC m n (q ++ c :: r) = (v, t ++ c :: r)
  | [], n => ⟨n, [], fun r => by
      show numC m n (c :: r) = _
      unfold numC
      rw [hc.dig]
      rfl⟩
  | d :: q, n => by
    by_cases hd : isDig (d.toNat : Int) = true
    · obtain ⟨v, t, h⟩ := numU hc m q (mn (m + 1) (10 * n + ((d.toNat : Int) - 48)))
      refine ⟨v, t, fun r => ?_⟩
      rw [List.cons_append]
      unfold numC
      rw [if_pos hd]
      exact h r
    · refine ⟨n, d :: q, fun r => ?_⟩
      rw [List.cons_append]
      unfold numC
      rw [if_neg hd]
theorem flagsU {c : UInt8} (hc : Stop c) : ∀ (q : List UInt8) (a : Int), ∃ v t, ∀ r, flagsC a (q ++ c :: r) = (v, t ++ c :: r)
  | [], a => ⟨a, [], fun r => by
      show flagsC a (c :: r) = _
      unfold flagsC
      rw [if_pos hc.flag]
      rfl⟩
  | d :: q, a => by
    by_cases hd : flagVal (d.toNat : Int) = 0
    · refine ⟨a, d :: q, fun r => ?_⟩
      rw [List.cons_append]
      unfold flagsC
      rw [if_pos hd]
    · obtain ⟨v, t, h⟩ := flagsU hc q (Go.bits .or .i64 a (flagVal (d.toNat : Int)))
      refine ⟨v, t, fun r => ?_⟩
      rw [List.cons_append]
      unfold flagsC
      rw [if_neg hd]
      exact h r
theorem skipU {b c : UInt8} (hbc : c ≠ b) (q : List UInt8) : (∀ r, skipC b (q ++ c :: r) = none) ∨ ∃ t, ∀ r, skipC b (q ++ c :: r) = some (t ++ c :: r) := by
  cases q with
  | nil => exact Or.inl fun r => by simp [skipC, hbc]
  | cons d q =>
    by_cases hd : d = b
    · exact Or.inr ⟨q, fun r => by simp [skipC, hd]⟩
    · exact Or.inl fun r => by simp [skipC, hd]
theorem hdU {c : UInt8} (q : List UInt8) : ∃ v, ∀ r, hdI (q ++ c :: r) = v := by
  cases q with
  | nil => exact ⟨_, fun r => rfl⟩
  | cons d q => exact ⟨_, fun r => rfl⟩
theorem posU {c : UInt8} (q : List UInt8) : ∃ v, ∀ r, posB (q ++ c :: r) = v := by
  obtain ⟨v, hv⟩ := hdU (c := c) q
  exact ⟨_, fun r => by unfold posB; rw [hv r]⟩
theorem widU {c : UInt8} (q : List UInt8) : ∃ v, ∀ r, widB (q ++ c :: r) = v := by
  obtain ⟨v, hv⟩ := hdU (c := c) q
  exact ⟨_, fun r => by unfold widB; rw [hv r]⟩
theorem placeU {c : UInt8} (hc : Stop c) (q : List UInt8) : ∃ v t, ∀ r, placeC (q ++ c :: r) = (v, t ++ c :: r) := by
  obtain ⟨p, hp⟩ := posU (c := c) q
  cases p with
  | false => exact ⟨0, q, fun r => by unfold placeC; rw [hp r]; rfl⟩
  | true =>
    obtain ⟨v, t, h⟩ := numU hc 64 q 0
    rcases skipU (b := 36) hc.n36 t with hs | ⟨t', hs⟩
    · exact ⟨0, q, fun r => by unfold placeC; rw [hp r, if_pos rfl, h r]; dsimp only; rw [hs r]⟩
    · exact ⟨v, t', fun r => by unfold placeC; rw [hp r, if_pos rfl, h r]; dsimp only; rw [hs r]⟩
theorem starU {c : UInt8} (hc : Stop c) (q : List UInt8) : (∀ r, starC (q ++ c :: r) = none) ∨ ∃ v t, ∀ r, starC (q ++ c :: r) = some (v, t ++ c :: r) := by
  obtain ⟨p, hp⟩ := posU (c := c) q
  cases p with
  | false => exact Or.inr ⟨0, q, fun r => by unfold starC; rw [hp r]; rfl⟩
  | true =>
    obtain ⟨v, t, h⟩ := numU hc 64 q 0
    rcases skipU (b := 36) hc.n36 t with hs | ⟨t', hs⟩
    · exact Or.inl fun r => by unfold starC; rw [hp r, if_pos rfl, h r]; dsimp only; rw [hs r]; rfl
    · exact Or.inr ⟨v, t', fun r => by unfold starC; rw [hp r, if_pos rfl, h r]; dsimp only; rw [hs r]; rfl⟩
theorem fieldU {c : UInt8} (hc : Stop c) (q : List UInt8) : (∀ r, fieldC (q ++ c :: r) = none) ∨ ∃ v t, ∀ r, fieldC (q ++ c :: r) = some (v, t ++ c :: r) := by
  rcases skipU (b := 42) hc.n42 q with hs | ⟨t, hs⟩
  · obtain ⟨v, t, h⟩ := numU hc 10000 q 0
    exact Or.inr ⟨(v, false, 0), t, fun r => by unfold fieldC; rw [hs r, h r]⟩
  · rcases starU hc t with h | ⟨v, t', h⟩
    · exact Or.inl fun r => by unfold fieldC; rw [hs r]; dsimp only; rw [h r]; rfl
    · exact Or.inr ⟨(-1, true, v), t', fun r => by unfold fieldC; rw [hs r]; dsimp only; rw [h r]; rfl⟩
theorem widthU {c : UInt8} (hc : Stop c) (q : List UInt8) : (∀ r, widthC (q ++ c :: r) = none) ∨ ∃ v t, ∀ r, widthC (q ++ c :: r) = some (v, t ++ c :: r) := by
  obtain ⟨p, hp⟩ := widU (c := c) q
  cases p with
  | false => exact Or.inr ⟨noFld, q, fun r => by unfold widthC; rw [hp r]; rfl⟩
  | true =>
    rcases fieldU hc q with h | ⟨v, t, h⟩
    · exact Or.inl fun r => by unfold widthC; rw [hp r, if_pos rfl, h r]
    · exact Or.inr ⟨v, t, fun r => by unfold widthC; rw [hp r, if_pos rfl, h r]⟩
theorem precU {c : UInt8} (hc : Stop c) (q : List UInt8) : (∀ r, precC (q ++ c :: r) = none) ∨ ∃ v t, ∀ r, precC (q ++ c :: r) = some (v, t ++ c :: r) := by
  rcases skipU (b := 46) hc.n46 q with hs | ⟨t, hs⟩
  · exact Or.inr ⟨noFld, q, fun r => by unfold precC; rw [hs r]⟩
  · rcases fieldU hc t with h | ⟨v, t', h⟩
    · exact Or.inl fun r => by unfold precC; rw [hs r]; exact h r
    · exact Or.inr ⟨v, t', fun r => by unfold precC; rw [hs r]; exact h r⟩
theorem prefixU {c : UInt8} : ∀ (m q : List UInt8), ¬ c ∈ m → ∀ r, m.isPrefixOf (q ++ c :: r) = m.isPrefixOf q
  | [], q, _, r => by simp
  | d :: m, [], h, r => by
    show (d :: m).isPrefixOf (c :: r) = _
    have : (d == c) = false := beq_eq_false_iff_ne.2 fun e => h (by rw [e]; exact List.mem_cons_self)
    simp [List.isPrefixOf, this]
  | d :: m, e :: q, h, r => by
    rw [List.cons_append]
    simp only [List.isPrefixOf]
    rw [prefixU m q (fun hm => h (List.mem_cons_of_mem _ hm)) r]
theorem bestU {c : UInt8} (hc : Stop c) (q r : List UInt8) : ∀ k, bestMod (q ++ c :: r) k = bestMod q k
  | 0 => rfl
  | k + 1 => by
    unfold bestMod
    rw [bestU hc q r k, prefixU _ q (hc.mod k) r]
theorem best_prefix (l : List UInt8) : ∀ k, (mods.getD (bestMod l k) []).isPrefixOf l = true
  | 0 => by show (mods.getD 0 []).isPrefixOf l = true; simp [mods]
  | k + 1 => by
    unfold bestMod
    split
    · rename_i h
      simp only [Bool.and_eq_true] at h
      exact h.1
    · exact best_prefix l k
theorem lenU {c : UInt8} (hc : Stop c) (q : List UInt8) : ∃ v t, ∀ r, lenC (q ++ c :: r) = (v, t ++ c :: r) := by
  refine ⟨(bestMod q 12 : Int), q.drop (modLen (bestMod q 12)), fun r => ?_⟩
  have hl : modLen (bestMod q 12) ≤ q.length := (List.isPrefixOf_iff_prefix.1 (best_prefix q 12)).length_le
  unfold lenC
  rw [bestU hc q r 12, List.drop_append_of_le_length hl]
theorem convU {pl nx : Int} {l : List UInt8} {x : ConvT} (h : convC pl nx l = some x) :
    ∃ q : List UInt8, q ≠ [] ∧ l = q ++ x.l ∧ ∀ r, convC pl nx (q ++ r) = some { x with l := r } := by
  unfold convC at h
  obtain ⟨⟨wd, l3⟩, hw, h⟩ := Option.bind_eq_some_iff.1 h
  obtain ⟨⟨pr, l4⟩, hp, h⟩ := Option.bind_eq_some_iff.1 h
  dsimp only at h hw hp
  have hxl := convE_l h
  have hok : (ruleC (hdI (lenC l4).2)).ok = true := by
    unfold convE at h
    by_cases hr : (ruleC (hdI (lenC l4).2)).ok = true
    · exact hr
    · rw [if_neg hr] at h; cases h
  cases hl5 : (lenC l4).2 with
  | nil => rw [hl5] at hok; exact absurd hok (by decide)
  | cons c l' =>
    rw [hl5] at h hok hxl
    have hc : Stop c := stop_of hok
    have hs : (c :: l') <:+ l := by
      have h1 := lenC_suf l4
      rw [hl5] at h1
      exact h1.trans ((precC_suf hp).trans ((widthC_suf hw).trans ((flagsC_suf _ _).trans (placeC_suf l))))
    obtain ⟨q, rfl⟩ := hs
    have hxl' : x.l = l' := hxl
    obtain ⟨v1, t1, e1⟩ := placeU hc q
    obtain ⟨v2, t2, e2⟩ := flagsU hc t1 0
    rw [e1 l'] at hw
    dsimp only at hw
    rw [e2 l'] at hw
    dsimp only at hw
    rcases widthU hc t2 with e3 | ⟨v3, t3, e3⟩
    · rw [e3 l'] at hw; cases hw
    · rw [e3 l'] at hw
      obtain ⟨rfl, rfl⟩ := Prod.mk.inj (Option.some.inj hw)
      rcases precU hc t3 with e4 | ⟨v4, t4, e4⟩
      · rw [e4 l'] at hp; cases hp
      · rw [e4 l'] at hp
        obtain ⟨rfl, rfl⟩ := Prod.mk.inj (Option.some.inj hp)
        obtain ⟨v5, t5, e5⟩ := lenU hc t4
        rw [e5 l'] at hl5
        have ht5 : t5 = [] := by
          have := congrArg List.length hl5
          simp only [List.length_append, List.length_cons] at this
          exact List.length_eq_zero_iff.1 (by omega)
        subst ht5
        refine ⟨q ++ [c], by simp, by rw [hxl']; simp, fun r => ?_⟩
        rw [e1 l', e5 l'] at h
        dsimp only at h
        rw [e2 l'] at h
        dsimp only at h
        rw [List.append_assoc, List.singleton_append]
        unfold convC
        rw [e1 r]
        dsimp only
        rw [e2 r]
        dsimp only
        rw [e3 r]
        simp only [Option.bind_some]
        rw [e4 r]
        simp only [Option.bind_some]
        rw [e5 r]
        dsimp only [List.nil_append, hdI, List.tail_cons] at h ⊢
        unfold convE at h ⊢
        dsimp only at h ⊢
        split at h
        · rename_i h1
          split at h
          · rename_i h2
            split at h
            · rename_i h3
              split at h
              · rename_i h4
                obtain rfl := Option.some.inj h
                rw [if_pos h1, if_pos h2, if_pos h3, if_pos h4]
              · cases h
            · cases h
          · cases h
        · cases h
def Ends (r : List UInt8) : Prop := r = [] ∨ ∃ t, r = 37 :: t
theorem Ends.drop {l : List UInt8} (h : ¬ (hdI (l.dropWhile isTxt) = 0 ∧ l.dropWhile isTxt ≠ [])) : Ends (l.dropWhile isTxt) := by
  induction l with
  | nil => exact Or.inl rfl
  | cons c l ih =>
    rw [List.dropWhile_cons] at h ⊢
    cases hc : isTxt c with
    | true => rw [hc, if_pos rfl] at h; rw [if_pos rfl]; exact ih h
    | false =>
      rw [hc, if_neg (by simp)] at h
      rw [if_neg (by simp)]
      refine Or.inr ⟨l, ?_⟩
      have h0 : c ≠ 0 := fun e => h ⟨by rw [e]; rfl, by simp⟩
      have : c = 37 := by
        unfold isTxt at hc
        simp only [Bool.and_eq_false_iff, bne_eq_false_iff_eq] at hc
        rcases hc with e | e
        · exact e
        · exact absurd e h0
      rw [this]
theorem txt_append {q r : List UInt8} (hq : ∀ c ∈ q, isTxt c = true) (hr : Ends r) : (q ++ r).takeWhile isTxt = q ∧ (q ++ r).dropWhile isTxt = r := by
  induction q with
  | nil =>
    rcases hr with rfl | ⟨t, rfl⟩
    · exact ⟨rfl, rfl⟩
    · exact ⟨rfl, rfl⟩
  | cons c q ih =>
    have h1 := hq c List.mem_cons_self
    have h2 := ih fun d hd => hq d (List.mem_cons_of_mem _ hd)
    rw [List.cons_append, List.takeWhile_cons, List.dropWhile_cons, if_pos h1, if_pos h1, h2.1, h2.2]
    exact ⟨rfl, rfl⟩
theorem skipC_eq {b : UInt8} {l t : List UInt8} (h : skipC b l = some t) : l = b :: t := by
  cases l with
  | nil => cases h
  | cons c l =>
    rw [skipC_cons] at h
    split at h
    · rename_i e
      obtain rfl := Option.some.inj h
      rw [e]
    · cases h
theorem skipC_hit {b : UInt8} (t : List UInt8) : skipC b (b :: t) = some t := by simp [skipC]
def txtP (q : List UInt8) : S35 := ⟨⟨q.toArray⟩, 0, 0, -1, 0, -1, 0, 0, 0⟩
theorem piece_txt {q r : List UInt8} {pl nx : Int} (hq : ∀ c ∈ q, isTxt c = true) (hne : q ≠ []) (hr : Ends r) : pieceC false pl nx (q ++ r) = .ok (txtP q, pl, nx, r) := by
  obtain ⟨h1, h2⟩ := txt_append hq hr
  have hs : skipC 37 (q ++ r) = none := by
    cases q with
    | nil => exact absurd rfl hne
    | cons c q =>
      have : c ≠ 37 := fun e => by
        have := hq c List.mem_cons_self
        rw [e] at this
        cases this
      simp [skipC, this]
  have hd : ¬ (hdI r = 0 ∧ r ≠ []) := by
    rcases hr with rfl | ⟨t, rfl⟩
    · simp
    · simp [hdI]
  unfold pieceC
  rw [hs]
  dsimp only
  rw [if_neg (by simp), h1, h2, if_neg hd]
  rfl
end Go.Proofs.YtnhbgahfmcicnaaGreatDoor.PA
end
