/- A part of the proof of the claim's statement. -/
import Derived.Test.YtnhbgahfmcicnaaGreatDoorPcM22
import Derived.Test.YtnhbgahfmcicnaaGreatDoorPcM9
section
namespace Go.Proofs.YtnhbgahfmcicnaaGreatDoor.Pure
set_option linter.unusedVariables false
set_option linter.unusedSimpArgs false
open Go.RowKit Go.Proofs.YtnhbgahfmcicnaaGreatDoor.PA Go.Proofs.YtnhbgahfmcicnaaGreatDoorW.PrintWords Go.Proofs.YtnhbgahfmcicnaaGreatDoorW.PrintLast
def noPos : List UInt8 → Bool
  | [] => true
  | [_] => true
  | d :: c :: l => !(decide (c = 36) && isDig (d.toNat : Int)) && noPos (c :: l)
theorem noPos_tail {c : UInt8} {l : List UInt8} (h : noPos (c :: l) = true) : noPos l = true := by
  cases l with
  | nil => rfl
  | cons d l =>
    unfold noPos at h
    exact (Bool.and_eq_true_iff.1 h).2
theorem noPos_drop : ∀ (q : List UInt8) {l : List UInt8}, noPos (q ++ l) = true → noPos l = true
  | [], l, h => h
  | c :: q, l, h => noPos_drop q (noPos_tail h)
theorem noPos_suf {l t : List UInt8} (h : noPos l = true) (hs : t <:+ l) : noPos t = true := by
  obtain ⟨q, rfl⟩ := hs
  exact noPos_drop q h
theorem num_noPos (m : Int) : ∀ (l : List UInt8) (n : Int), noPos l = true → isDig (hdI l) = true → skipC 36 (numC m n l).2 = none
  | [], n, _, h => by cases h
  | c :: l, n, hp, h => by
    have hc : isDig (c.toNat : Int) = true := h
    unfold numC
    rw [if_pos hc]
    by_cases hd : isDig (hdI l) = true
    · exact num_noPos m l _ (noPos_tail hp) hd
    · have hd : isDig (hdI l) = false := by simpa using hd
      rw [numC_stop hd]
      cases l with
      | nil => rfl
      | cons d t =>
        rw [skipC_cons]
        by_cases e : d = 36
        · unfold noPos at hp
          rw [decide_eq_true e, hc] at hp
          cases hp
        · rw [if_neg e]
theorem place_noPos {l : List UInt8} (h : noPos l = true) : placeC l = (0, l) := by
  unfold placeC
  by_cases hb : posB l = true
  · rw [if_pos hb]
    have hd : isDig (hdI l) = true := by
      unfold posB at hb
      exact (Bool.and_eq_true_iff.1 hb).1
    rw [num_noPos 64 l 0 h hd]
  · rw [if_neg hb]
theorem star_noPos {l : List UInt8} {v : Int × List UInt8} (h : noPos l = true) (hs : starC l = some v) : v = (0, l) := by
  unfold starC at hs
  by_cases hb : posB l = true
  · rw [if_pos hb] at hs
    have hd : isDig (hdI l) = true := by
      unfold posB at hb
      exact (Bool.and_eq_true_iff.1 hb).1
    rw [num_noPos 64 l 0 h hd] at hs
    cases hs
  · rw [if_neg hb] at hs
    exact (Option.some.inj hs).symm
theorem field_noPos {l : List UInt8} {v : Fld × List UInt8} (h : noPos l = true) (hs : fieldC l = some v) : v.1.2.2 = 0 := by
  unfold fieldC at hs
  cases hk : skipC 42 l with
  | none =>
    rw [hk] at hs
    obtain rfl := Option.some.inj hs
    rfl
  | some t =>
    rw [hk] at hs
    dsimp only at hs
    obtain ⟨x, hx, rfl⟩ := Option.map_eq_some_iff.1 hs
    have := star_noPos (noPos_suf h (skipC_suf hk)) hx
    rw [this]
theorem width_noPos {l : List UInt8} {v : Fld × List UInt8} (h : noPos l = true) (hs : widthC l = some v) : v.1.2.2 = 0 := by
  unfold widthC at hs
  by_cases hb : widB l = true
  · rw [if_pos hb] at hs
    exact field_noPos h hs
  · rw [if_neg hb] at hs
    obtain rfl := Option.some.inj hs
    rfl
theorem prec_noPos {l : List UInt8} {v : Fld × List UInt8} (h : noPos l = true) (hs : precC l = some v) : v.1.2.2 = 0 := by
  unfold precC at hs
  cases hk : skipC 46 l with
  | none =>
    rw [hk] at hs
    obtain rfl := Option.some.inj hs
    rfl
  | some t =>
    rw [hk] at hs
    exact field_noPos (noPos_suf h (skipC_suf hk)) hs
def later (s : Int) (x : S35) : S35 := { x with f1 := if 0 < x.f1 then x.f1 + s else x.f1, f4 := if 0 < x.f4 then x.f4 + s else x.f4, f6 := if 0 < x.f6 then x.f6 + s else x.f6 }
theorem wrap_small {z : Int} (h0 : 0 ≤ z) (h1 : z ≤ 1000) : wrap64 z = z := by unfold wrap64; omega
theorem convE_shift {fl ln c pl nx pl2 s : Int} {wd pr : Fld} {l : List UInt8} {v : ConvT} (h : convE 0 fl wd pr ln c pl nx l = some v) (hw : wd.2.2 = 0) (hp : pr.2.2 = 0)
    (hpl : pl = 0 ∨ pl = 2) (hpl2 : pl2 = 0 ∨ pl2 = 2) (hn : 0 ≤ nx ∧ nx ≤ 100) (hs : 0 ≤ s ∧ s ≤ 100) (hlg : v.lg = false) :
    ∃ v2, convE 0 fl wd pr ln c pl2 (nx + s) l = some v2 ∧ v2.x = later s v.x ∧ v2.pl = 2 ∧ v2.nx = v.nx + s ∧ v2.l = v.l ∧ (v2.lg = true → 64 < v.x.f1 + s) ∧ v.pl = 2 ∧ v.x.f1 = v.nx ∧ 1 ≤ v.x.f1 := by
  obtain ⟨w1, w2, w3⟩ := wd
  obtain ⟨p1, p2, p3⟩ := pr
  dsimp only at hw hp
  subst hw hp
  have hm : modeOf (decide ((0 : Int) < 0)) = 2 := rfl
  unfold convE at h ⊢
  rw [hm] at h ⊢
  by_cases c1 : (ruleC c).ok = true
  · rw [if_pos c1] at h ⊢
    rw [if_pos hpl] at h
    rw [if_pos hpl2]
    by_cases c2 : agrees (w1, w2, 0) 0 = true ∧ agrees (p1, p2, 0) 0 = true
    · rw [if_pos c2] at h ⊢
      dsimp only at h ⊢
      by_cases c3 : okC (ruleC c) fl ln (w1, w2, 0) (p1, p2, 0) = true
      · rw [if_pos c3] at h ⊢
        obtain rfl := Option.some.inj h
        refine ⟨_, rfl, ?_⟩
        have k1 : wrap64 (nx + 1) = nx + 1 := wrap_small (by omega) (by omega)
        have k2 : wrap64 (nx + 1 + 1) = nx + 1 + 1 := wrap_small (by omega) (by omega)
        have k3 : wrap64 (nx + 1 + 1 + 1) = nx + 1 + 1 + 1 := wrap_small (by omega) (by omega)
        have l1 : wrap64 (nx + s + 1) = nx + s + 1 := wrap_small (by omega) (by omega)
        have l2 : wrap64 (nx + s + 1 + 1) = nx + s + 1 + 1 := wrap_small (by omega) (by omega)
        have l3 : wrap64 (nx + s + 1 + 1 + 1) = nx + s + 1 + 1 + 1 := wrap_small (by omega) (by omega)
        unfold starArg argC at hlg ⊢
        unfold later
        cases w2 <;> cases p2 <;> simp only [if_true, if_false, Bool.false_eq_true, k1, k2, k3, l1, l2, l3, Bool.false_and, Bool.true_and, Bool.or_eq_false_iff, Bool.or_eq_true, decide_eq_false_iff_not, decide_eq_true_eq] at hlg ⊢
        all_goals
          refine ⟨?_, trivial, by omega, trivial, fun hh => ?_, trivial, trivial, by omega⟩
          · simp only [S35.mk.injEq, true_and, and_true]
            repeat' split
            all_goals first | omega | (refine ⟨?_, ?_⟩ <;> omega) | (refine ⟨?_, ?_, ?_⟩ <;> omega)
          · try simp only [true_and, false_or] at hh hlg
            omega
      · rw [if_neg c3] at h; cases h
    · rw [if_neg c2] at h; cases h
  · rw [if_neg c1] at h; cases h
theorem conv_shift {pl nx pl2 s : Int} {l : List UInt8} {v : ConvT} (h : convC pl nx l = some v) (hp : noPos l = true)
    (hpl : pl = 0 ∨ pl = 2) (hpl2 : pl2 = 0 ∨ pl2 = 2) (hn : 0 ≤ nx ∧ nx ≤ 100) (hs : 0 ≤ s ∧ s ≤ 100) (hlg : v.lg = false) :
    ∃ v2, convC pl2 (nx + s) l = some v2 ∧ v2.x = later s v.x ∧ v2.pl = 2 ∧ v2.nx = v.nx + s ∧ v2.l = v.l ∧ (v2.lg = true → 64 < v.x.f1 + s) ∧ v.pl = 2 ∧ v.x.f1 = v.nx ∧ 1 ≤ v.x.f1 := by
  unfold convC at h ⊢
  rw [place_noPos hp] at h ⊢
  dsimp only at h ⊢
  obtain ⟨wd, hw, h⟩ := Option.bind_eq_some_iff.1 h
  obtain ⟨pr, hpr, h⟩ := Option.bind_eq_some_iff.1 h
  have n1 := noPos_suf hp (flagsC_suf l 0)
  have n2 := noPos_suf n1 (widthC_suf hw)
  rw [hw, Option.bind_some, hpr, Option.bind_some]
  exact convE_shift h (width_noPos n1 hw) (prec_noPos n2 hpr) hpl hpl2 hn hs hlg
end Go.Proofs.YtnhbgahfmcicnaaGreatDoor.Pure
end
section
namespace Go.Proofs.YtnhbgahfmcicnaaGreatDoor.Pure
set_option linter.unusedVariables false
set_option linter.unusedSimpArgs false
open Go.RowKit Go.Proofs.YtnhbgahfmcicnaaGreatDoor.PA Go.Proofs.YtnhbgahfmcicnaaGreatDoorW.PrintWords Go.Proofs.YtnhbgahfmcicnaaGreatDoorW.PrintLast
theorem piece_kind {pl nx pl' nx' : Int} {l l' : List UInt8} {x : S35} (h : pieceC false pl nx l = .ok (x, pl', nx', l')) (hl : l ≠ []) :
    (∃ q : List UInt8, q ≠ [] ∧ (∀ c ∈ q, isTxt c = true) ∧ l = q ++ l' ∧ x = txtP q ∧ pl' = pl ∧ nx' = nx ∧ PA.Ends l') ∨
    (∃ q : List UInt8, q ≠ [] ∧ l = 37 :: q ++ l' ∧ ∀ full r, pieceC full pl nx (37 :: q ++ r) = .ok (x, pl', nx', r)) := by
  unfold pieceC at h
  cases hk : skipC 37 l with
  | none =>
    left
    rw [hk] at h
    dsimp only at h
    rw [if_neg (by simp)] at h
    split at h
    · cases h
    · rename_i hd
      injection h with h
      simp only [Prod.mk.injEq] at h
      obtain ⟨rfl, rfl, rfl, rfl⟩ := h
      have hq : ∀ c ∈ l.takeWhile isTxt, isTxt c = true := fun c hc => List.all_eq_true.1 (List.all_takeWhile) c hc
      refine ⟨_, ?_, hq, List.takeWhile_append_dropWhile.symm, rfl, rfl, rfl, PA.Ends.drop hd⟩
      intro e
      have h2 := PA.Ends.drop hd
      have h3 : l = l.dropWhile isTxt := by
        have := List.takeWhile_append_dropWhile (p := isTxt) (l := l)
        rw [e, List.nil_append] at this
        exact this.symm
      rw [← h3] at h2
      rcases h2 with e | ⟨t, e⟩
      · exact hl e
      · rw [e] at hk
        simp [skipC] at hk
  | some t =>
    right
    rw [hk] at h
    dsimp only at h
    obtain rfl := skipC_eq hk
    cases hk2 : skipC 37 t with
    | some t' =>
      rw [hk2] at h
      dsimp only at h
      obtain rfl := skipC_eq hk2
      injection h with h
      simp only [Prod.mk.injEq] at h
      obtain ⟨rfl, rfl, rfl, rfl⟩ := h
      exact ⟨[37], by simp, rfl, fun full r => by unfold pieceC; simp [skipC]⟩
    | none =>
      rw [hk2] at h
      dsimp only at h
      cases hc : convC pl nx t with
      | none => rw [hc] at h; cases h
      | some v =>
        rw [hc] at h
        dsimp only at h
        split at h
        · cases h
        · rename_i hlg
          injection h with h
          simp only [Prod.mk.injEq] at h
          obtain ⟨rfl, rfl, rfl, rfl⟩ := h
          obtain ⟨q, hq, rfl, hu⟩ := convU hc
          refine ⟨q, hq, rfl, fun full r => ?_⟩
          unfold pieceC
          rw [List.cons_append, skipC_hit]
          dsimp only
          have : skipC 37 (q ++ r) = none := by
            cases q with
            | nil => exact absurd rfl hq
            | cons d q =>
              by_cases hd : d = 37
              · rw [hd] at hk2; simp [skipC] at hk2
              · simp [skipC, hd]
          rw [this]
          dsimp only
          rw [hu r]
          dsimp only
          rw [if_neg hlg]
theorem piece_shift {pl nx pl' nx' pl2 s : Int} {l l' : List UInt8} {x : S35} (h : pieceC false pl nx l = .ok (x, pl', nx', l')) (hl : l ≠ []) (hp : noPos l = true)
    (hpl : pl = 0 ∨ pl = 2) (hpl2 : pl2 = 0 ∨ pl2 = 2) (hn : 0 ≤ nx ∧ nx ≤ 100) (hs : 0 ≤ s ∧ s ≤ 100) :
    (pl' = 0 ∨ pl' = 2) ∧ ((∃ pl3, (pl3 = 0 ∨ pl3 = 2) ∧ pieceC false pl2 (nx + s) l = .ok (later s x, pl3, nx' + s, l')) ∨ ((∀ full, ∃ e, pieceC full pl2 (nx + s) l = .error (2, e)) ∧ 1 ≤ x.f1 ∧ 64 < x.f1 + s)) := by
  have h' := h
  unfold pieceC at h
  cases hk : skipC 37 l with
  | none =>
    rw [hk] at h
    dsimp only at h
    rw [if_neg (by simp)] at h
    split at h
    · cases h
    · rename_i hd
      injection h with h
      simp only [Prod.mk.injEq] at h
      obtain ⟨rfl, rfl, rfl, rfl⟩ := h
      refine ⟨hpl, Or.inl ⟨pl2, hpl2, ?_⟩⟩
      unfold pieceC
      rw [hk]
      dsimp only
      rw [if_neg (by simp), if_neg hd]
      rfl
  | some t =>
    rw [hk] at h
    dsimp only at h
    obtain rfl := skipC_eq hk
    cases hk2 : skipC 37 t with
    | some t' =>
      rw [hk2] at h
      dsimp only at h
      obtain rfl := skipC_eq hk2
      injection h with h
      simp only [Prod.mk.injEq] at h
      obtain ⟨rfl, rfl, rfl, rfl⟩ := h
      refine ⟨hpl, Or.inl ⟨pl2, hpl2, ?_⟩⟩
      unfold pieceC
      rw [hk]
      dsimp only
      rw [hk2]
      rfl
    | none =>
      rw [hk2] at h
      dsimp only at h
      cases hc : convC pl nx t with
      | none => rw [hc] at h; cases h
      | some v =>
        rw [hc] at h
        dsimp only at h
        split at h
        · cases h
        · rename_i hlg
          injection h with h
          simp only [Prod.mk.injEq] at h
          obtain ⟨rfl, rfl, rfl, rfl⟩ := h
          obtain ⟨v2, e1, e2, e3, e4, e5, e6, e7, e8, e9⟩ := conv_shift hc (noPos_tail hp) hpl hpl2 hn hs (by simpa using hlg)
          refine ⟨Or.inr e7, ?_⟩
          have hu : ∀ full, pieceC full pl2 (nx + s) (37 :: t) = if v2.lg = true then .error (2, 37 :: t) else .ok (v2.x, v2.pl, v2.nx, v2.l) := fun full => by
            unfold pieceC
            rw [hk]
            dsimp only
            rw [hk2]
            dsimp only
            rw [e1]
          by_cases hb : v2.lg = true
          · exact Or.inr ⟨fun full => ⟨_, (hu full).trans (if_pos hb)⟩, e9, e6 hb⟩
          · refine Or.inl ⟨2, Or.inr rfl, ?_⟩
            rw [hu false, if_neg hb, e2, e3, e4, e5]
theorem inv_small {acc : List S35} {pl nx : Int} {l : List UInt8} {N : Nat} (inv : ReadInv acc pl nx l N) (hpl : pl = 0 ∨ pl = 2) : 0 ≤ nx ∧ nx ≤ 64 ∧ seqN 0 (allC acc) ∧ nx = ((allC acc).length : Int) := by
  rcases inv.num with ⟨_, h2, h3⟩ | ⟨h1, _⟩ | ⟨_, h2, h3, h4⟩
  · rw [h3]; exact ⟨by omega, by omega, trivial, h2⟩
  · omega
  · exact ⟨by omega, h2, h3, h4⟩
theorem pieces_one {acc L : List S35} {pl nx : Int} {l : List UInt8} (hl : l ≠ []) (h : piecesC (l.length + 1) acc pl nx l = .ok L) :
    ¬ acc.length = 500 ∧ ∃ x pl' nx' l', pieceC false pl nx l = .ok (x, pl', nx', l') ∧ piecesC (l'.length + 1) (acc ++ [x]) pl' nx' l' = .ok L := by
  cases hp : pieceC (decide (acc.length = 500)) pl nx l with
  | error e => rw [piecesC_err hl hp] at h; cases h
  | ok r =>
    obtain ⟨x, pl', nx', l'⟩ := r
    by_cases ha : acc.length = 500
    · rw [piecesC_full hl hp ha] at h; cases h
    · refine ⟨ha, x, pl', nx', l', ?_, ?_⟩
      · rw [decide_eq_false ha] at hp; exact hp
      · rw [piecesC_step hl hp ha]; exact h
theorem pieces_shift : ∀ (n : Nat) (l : List UInt8) (acc accS : List S35) (pl nx pl2 s : Int) (N : Nat) (L : List S35), l.length ≤ n → noPos l = true → ReadInv acc pl nx l N → (pl = 0 ∨ pl = 2) → (pl2 = 0 ∨ pl2 = 2) → (0 ≤ s ∧ s ≤ 100) → accS.length ≤ 500 →
    piecesC (l.length + 1) acc pl nx l = .ok L →
    ∃ M plE nxE, L = acc ++ M ∧ ReadInv L plE nxE [] N ∧ (plE = 0 ∨ plE = 2) ∧
      ((piecesC (l.length + 1) accS pl2 (nx + s) l = .ok (accS ++ M.map (later s)) ∧ accS.length + M.length ≤ 500) ∨
       ((∃ e, piecesC (l.length + 1) accS pl2 (nx + s) l = .error (2, e)) ∧ (500 < accS.length + M.length ∨ ∃ x ∈ M, 1 ≤ x.f1 ∧ 64 < x.f1 + s))) := by
  intro n
  induction n with
  | zero =>
    intro l acc accS pl nx pl2 s N L hl hp inv hpl hpl2 hs hS h
    obtain rfl : l = [] := List.length_eq_zero_iff.1 (by omega)
    rw [piecesC_end] at h
    injection h with h
    subst h
    exact ⟨[], pl, nx, by simp, inv, hpl, Or.inl ⟨by rw [piecesC_end]; simp, by simpa using hS⟩⟩
  | succ n ih =>
    intro l acc accS pl nx pl2 s N L hl hp inv hpl hpl2 hs hS h
    by_cases hne : l = []
    · subst hne
      rw [piecesC_end] at h
      injection h with h
      subst h
      exact ⟨[], pl, nx, by simp, inv, hpl, Or.inl ⟨by rw [piecesC_end]; simp, by simpa using hS⟩⟩
    · obtain ⟨ha, x, pl', nx', l', h1, h2⟩ := pieces_one hne h
      have hsm := inv_small inv hpl
      obtain ⟨hpl', hc⟩ := piece_shift h1 hne hp hpl hpl2 (by omega) hs
      have hsuf := pieceC_suf h1 hne
      have inv' := read_step inv hne h1
      by_cases hfull : accS.length = 500
      · -- no room for another piece
        have herr : ∃ e, piecesC (l.length + 1) accS pl2 (nx + s) l = .error (2, e) := by
          cases hq : pieceC true pl2 (nx + s) l with
          | error e =>
            rw [piecesC_err hne (by rw [decide_eq_true hfull]; exact hq)]
            obtain ⟨c, e⟩ := e
            have : c = 2 := by
              rcases hc with ⟨pl3, hpl3, h3⟩ | ⟨h3, _⟩
              · rcases piece_kind h3 hne with ⟨q, hq0, hqt, rfl, _⟩ | ⟨q, hq0, rfl, hu⟩
                · unfold pieceC at hq
                  have hsk : skipC 37 (q ++ l') = none := by
                    cases q with
                    | nil => exact absurd rfl hq0
                    | cons c q =>
                      have : c ≠ 37 := fun e => by
                        have := hqt c List.mem_cons_self
                        rw [e] at this
                        cases this
                      simp [skipC, this]
                  rw [hsk] at hq
                  dsimp only at hq
                  rw [if_pos rfl] at hq
                  injection hq with hq
                  exact (Prod.mk.inj hq).1.symm
                · rw [hu true l'] at hq
                  cases hq
              · obtain ⟨e', h3⟩ := h3 true
                rw [h3] at hq
                injection hq with hq
                exact (Prod.mk.inj hq).1.symm
            subst this
            exact ⟨e, rfl⟩
          | ok r =>
            obtain ⟨y, a, b, c⟩ := r
            exact ⟨_, piecesC_full hne (by rw [decide_eq_true hfull]; exact hq) hfull⟩
        obtain ⟨M, plE, nxE, rfl, hE, hEp, _⟩ := ih l' (acc ++ [x]) [] pl' nx' pl2 s N L (by omega) (noPos_suf hp hsuf.1) inv' hpl' hpl2 hs (by simp) h2
        exact ⟨x :: M, plE, nxE, by simp, hE, hEp, Or.inr ⟨herr, Or.inl (by simp only [List.length_cons]; omega)⟩⟩
      · rcases hc with ⟨pl3, hpl3, h3⟩ | ⟨h3, hx1, hx2⟩
        · obtain ⟨M, plE, nxE, rfl, hE, hEp, hr⟩ := ih l' (acc ++ [x]) (accS ++ [later s x]) pl' nx' pl3 s N L (by omega) (noPos_suf hp hsuf.1) inv' hpl' hpl3 hs (by simp only [List.length_append, List.length_cons, List.length_nil]; omega) h2
          refine ⟨x :: M, plE, nxE, by simp, hE, hEp, ?_⟩
          rw [piecesC_step hne (by rw [decide_eq_false hfull]; exact h3) hfull] at hr
          rcases hr with ⟨hr, hr2⟩ | ⟨hr, hr2⟩
          · left
            refine ⟨by rw [hr]; simp, ?_⟩
            simp only [List.length_append, List.length_cons, List.length_nil] at hr2 ⊢
            omega
          · right
            refine ⟨hr, ?_⟩
            rcases hr2 with hr2 | ⟨y, hy, hr2⟩
            · left
              simp only [List.length_append, List.length_cons, List.length_nil] at hr2 ⊢
              omega
            · exact Or.inr ⟨y, List.mem_cons_of_mem _ hy, hr2⟩
        · obtain ⟨M, plE, nxE, rfl, hE, hEp, _⟩ := ih l' (acc ++ [x]) [] pl' nx' pl2 s N L (by omega) (noPos_suf hp hsuf.1) inv' hpl' hpl2 hs (by simp) h2
          obtain ⟨e, h3⟩ := h3 (decide (accS.length = 500))
          exact ⟨x :: M, plE, nxE, by simp, hE, hEp, Or.inr ⟨⟨e, piecesC_err hne h3⟩, Or.inr ⟨x, List.mem_cons_self, hx1, hx2⟩⟩⟩
end Go.Proofs.YtnhbgahfmcicnaaGreatDoor.Pure
end
section
namespace Go.Proofs.YtnhbgahfmcicnaaGreatDoor.Pure
set_option linter.unusedVariables false
set_option linter.unusedSimpArgs false
open Go.RowKit Go.Proofs.YtnhbgahfmcicnaaGreatDoor.PA Go.Proofs.YtnhbgahfmcicnaaGreatDoorW.PrintWords Go.Proofs.YtnhbgahfmcicnaaGreatDoorW.PrintLast
theorem most_seq : ∀ (A : List Int) (n : Int), seqN n A → A.foldl mx n = n + (A.length : Int)
  | [], n, _ => by simp
  | a :: A, n, h => by
    obtain ⟨h1, h2⟩ := h
    subst h1
    rw [List.foldl_cons, show mx n (n + 1) = n + 1 by unfold mx; split <;> omega, most_seq A (n + 1) h2, List.length_cons]
    omega
theorem seq_mem : ∀ (A : List Int) (n : Int), seqN n A → ∀ x, x ∈ A ↔ n < x ∧ x ≤ n + (A.length : Int)
  | [], n, _, x => by
    rw [List.length_nil]
    exact ⟨fun h => absurd h List.not_mem_nil, fun h => by omega⟩
  | a :: A, n, h, x => by
    obtain ⟨h1, h2⟩ := h
    subst h1
    rw [List.mem_cons, seq_mem A (n + 1) h2 x, List.length_cons]
    omega
def Front (one two : List UInt8) (acc : List S35) (pl nx : Int) (N : Nat) (L : List S35) : Prop :=
  ∃ accL q plE nxE, (∀ c ∈ q, isTxt c = true) ∧ ((q = [] ∧ L = accL ∧ ∀ y, L.getLast? = some y → ¬ y.f8 = 0) ∨ (q ≠ [] ∧ L = accL ++ [txtP q])) ∧ (plE = 0 ∨ plE = 2) ∧ L.length ≤ 500 ∧ ReadInv accL plE nxE q N ∧
      piecesC ((one ++ two).length + 1) acc pl nx (one ++ two) = piecesC ((q ++ two).length + 1) accL plE nxE (q ++ two)
theorem pieces_prefix : ∀ (n : Nat) (one two : List UInt8) (acc : List S35) (pl nx : Int) (N : Nat) (L : List S35), one.length ≤ n → noPos one = true → ReadInv acc pl nx one N → (pl = 0 ∨ pl = 2) → acc.length ≤ 500 →
    (one = [] → ∀ y, acc.getLast? = some y → ¬ y.f8 = 0) → piecesC (one.length + 1) acc pl nx one = .ok L →
    Front one two acc pl nx N L := by
  intro n
  induction n with
  | zero =>
    intro one two acc pl nx N L hl hp inv hpl ha hlast h
    obtain rfl : one = [] := List.length_eq_zero_iff.1 (by omega)
    rw [piecesC_end] at h
    injection h with h
    subst h
    exact ⟨acc, [], pl, nx, fun c hc => absurd hc List.not_mem_nil, Or.inl ⟨rfl, rfl, hlast rfl⟩, hpl, ha, inv, rfl⟩
  | succ n ih =>
    intro one two acc pl nx N L hl hp inv hpl ha hlast h
    by_cases hne : one = []
    · subst hne
      rw [piecesC_end] at h
      injection h with h
      subst h
      exact ⟨acc, [], pl, nx, fun c hc => absurd hc List.not_mem_nil, Or.inl ⟨rfl, rfl, hlast rfl⟩, hpl, ha, inv, rfl⟩
    · obtain ⟨hf, x, pl', nx', l', h1, h2⟩ := pieces_one hne h
      have hsm := inv_small inv hpl
      have inv' := read_step inv hne h1
      have hsuf := pieceC_suf h1 hne
      have hpl' := (piece_shift (pl2 := 0) (s := 0) h1 hne hp hpl (Or.inl rfl) (by omega) (by omega)).1
      have key : ∀ r : List UInt8, l' ++ two = r → pieceC (decide (acc.length = 500)) pl nx (one ++ two) = .ok (x, pl', nx', r) → (l' = [] → ∀ y, (acc ++ [x]).getLast? = some y → ¬ y.f8 = 0) → Front one two acc pl nx N L := fun r hr hpc hl2 => by
        subst hr
        obtain ⟨accL, q, plE, nxE, k1, k2, k3, k4, k5, k6⟩ := ih l' two (acc ++ [x]) pl' nx' N L (by omega) (noPos_suf hp hsuf.1) inv' hpl' (by simp only [List.length_append, List.length_cons, List.length_nil]; omega) hl2 h2
        rw [piecesC_step (by simp [hne]) hpc hf] at k6
        exact ⟨accL, q, plE, nxE, k1, k2, k3, k4, k5, k6⟩
      rcases piece_kind h1 hne with ⟨q, hq0, hqt, hq, rfl, rfl, rfl, hE⟩ | ⟨q, hq0, hq, hu⟩
      · by_cases hl' : l' = []
        · subst hl'
          rw [List.append_nil] at hq
          rw [piecesC_end] at h2
          injection h2 with h2
          subst h2
          refine ⟨acc, q, pl', nx', hqt, Or.inr ⟨hq0, rfl⟩, hpl', ?_, by rw [← hq]; exact inv, by rw [hq]⟩
          simp only [List.length_append, List.length_cons, List.length_nil]
          omega
        · obtain ⟨t, ht⟩ := hE.resolve_left hl'
          refine key _ rfl ?_ fun e => absurd e hl'
          rw [decide_eq_false hf, hq, List.append_assoc]
          exact piece_txt hqt hq0 (Or.inr ⟨t ++ two, by rw [ht]; rfl⟩)
      · refine key _ rfl ?_ fun e y hy => ?_
        · rw [hq, List.append_assoc]
          exact hu _ _
        · rw [List.getLast?_concat] at hy
          obtain rfl := Option.some.inj hy
          rw [hq] at h1
          exact piece_notxt (t := q ++ l') h1 (by omega)
end Go.Proofs.YtnhbgahfmcicnaaGreatDoor.Pure
end
section
namespace Go.Proofs.YtnhbgahfmcicnaaGreatDoor.Pure
set_option linter.unusedVariables false
set_option linter.unusedSimpArgs false
open Go.RowKit Go.Proofs.YtnhbgahfmcicnaaGreatDoor.PA Go.Proofs.YtnhbgahfmcicnaaGreatDoorW.PrintWords Go.Proofs.YtnhbgahfmcicnaaGreatDoorW.PrintLast
theorem whole_seq {l : List S35} (h : seqN 0 (allC l)) : wholeC l = true := by
  obtain ⟨h1, h2⟩ := compact_props (allC l)
  have hm := seq_mem (allC l) 0 h
  unfold wholeC
  refine (oneUp_iff h1 (M := ((allC l).length : Int)) (fun x hx => ?_) (fun x hx => ?_) ?_).2 fun n hn hnM => ?_
  · have := (hm x).1 ((h2 x).1 hx); omega
  · have := (hm x).1 ((h2 x).1 hx); omega
  · by_cases e : (allC l).length = 0
    · left; omega
    · right; exact (h2 _).2 ((hm _).2 (by omega))
  · exact (h2 n).2 ((hm n).2 (by omega))
theorem seqN_add (s : Int) : ∀ (A : List Int) (n : Int), seqN n A → seqN (n + s) (A.map (· + s))
  | [], n, _ => trivial
  | a :: A, n, h => ⟨by rw [h.1]; show n + 1 + s = n + s + 1; omega, by rw [show n + s + 1 = n + 1 + s by omega]; exact seqN_add s A (n + 1) h.2⟩
theorem fits_nonneg {x : S35} (hp : PieceOk x) (hf : fitsC x = true) : 0 ≤ x.f1 ∧ 0 ≤ x.f4 ∧ 0 ≤ x.f6 := by
  by_cases h : x.f8 = 0 ∨ x.f8 = 37
  · have := fits_plain hf h
    unfold plainC at this
    simp only [Bool.and_eq_true, decide_eq_true_eq] at this
    omega
  · have h1 := conv_ok hp hf (by omega) (by omega)
    have := h1.i1
    have := h1.i4
    have := h1.i6
    omega
theorem nonzero_later {s : Int} (hs : 0 ≤ s) : ∀ (l : List Int), (∀ n ∈ l, 0 ≤ n) → nonzero (l.map fun n => if 0 < n then n + s else n) = (nonzero l).map (· + s)
  | [], _ => rfl
  | n :: l, h => by
    have h0 := h n List.mem_cons_self
    have ih := nonzero_later hs l fun m hm => h m (List.mem_cons_of_mem _ hm)
    rw [List.map_cons]
    by_cases e : n = 0
    · rw [if_neg (by omega)]
      unfold nonzero at ih ⊢
      simp only [e, List.filter_cons, beq_self_eq_true, Bool.not_true, Bool.false_eq_true, if_false] at ih ⊢
      exact ih
    · rw [if_pos (by omega)]
      unfold nonzero at ih ⊢
      have e1 : (!(n == 0)) = true := by simpa using e
      have e2 : (!(n + s == 0)) = true := by
        have : n + s ≠ 0 := by omega
        simpa using this
      rw [List.filter_cons, e2, List.filter_cons, e1, if_pos rfl, if_pos rfl, List.map_cons, ih]
theorem allC_later {s : Int} (hs : 0 ≤ s) : ∀ (l : List S35), (∀ x ∈ l, 0 ≤ x.f1 ∧ 0 ≤ x.f4 ∧ 0 ≤ x.f6) → allC (l.map (later s)) = (allC l).map (· + s)
  | [], _ => rfl
  | x :: l, h => by
    have h0 := h x List.mem_cons_self
    have ih := allC_later hs l fun y hy => h y (List.mem_cons_of_mem _ hy)
    rw [List.map_cons, allC_cons, allC_cons, ih, List.map_append]
    have := nonzero_later hs [x.f4, x.f6, x.f1] (fun n hn => by
      simp only [List.mem_cons, List.not_mem_nil, or_false] at hn
      rcases hn with rfl | rfl | rfl <;> omega)
    rw [← this]
    rfl
theorem parse_pieces {a : List UInt8} {L : List S35} {c : Int} (h : parseC a = (L, 0, c)) : a.length ≤ 2000 ∧ piecesC (a.length + 1) [] 0 0 a = .ok L := by
  unfold parseC at h
  by_cases h2 : 2000 < a.length
  · rw [if_pos h2] at h
    have := congrArg (fun p => p.2.1) h
    exact absurd this (by simp)
  · rw [if_neg h2] at h
    refine ⟨by omega, ?_⟩
    cases hp : piecesC (a.length + 1) [] 0 0 a with
    | error e =>
      rw [hp] at h
      have h1 := congrArg (fun p => p.2.1) h
      have h1 : e.1 = 0 := h1
      have := (piecesC_code2 _ _ _ _ _ _ hp).1
      omega
    | ok L' =>
      rw [hp] at h
      unfold outC at h
      dsimp only at h
      split at h
      · have := congrArg Prod.fst h
        rw [show L' = L from this]
      · have := congrArg (fun p => p.2.1) h
        exact absurd this (by simp)
theorem inv_nil (l : List UInt8) : ReadInv [] 0 0 l l.length :=
  ⟨fun x hx => absurd hx List.not_mem_nil, trivial, fun y hy => absurd hy (by simp), Or.inl ⟨rfl, rfl, rfl⟩, by show 0 + l.length ≤ l.length; omega, fun _ => by show 0 + l.length ≤ l.length; omega⟩
theorem finish {whole rest : List UInt8} {accS accM M : List S35} {plE s : Int} {N : Nat} (hw : piecesC (whole.length + 1) [] 0 0 whole = piecesC (rest.length + 1) accS plE s rest) (hlen : whole.length ≤ 2000)
    (hp : noPos rest = true) (inv : ReadInv accM 0 0 rest N) (hpl : plE = 0 ∨ plE = 2) (hs : 0 ≤ s ∧ s ≤ 64) (hS : accS.length ≤ 500) (hseq : seqN 0 (allC accS)) (hsn : s = ((allC accS).length : Int))
    (hM : piecesC (rest.length + 1) accM 0 0 rest = .ok M) (hA : allC accM = []) :
    ∃ M1, M = accM ++ M1 ∧ (parseC whole = (accS ++ M1.map (later s), 0, 0) ∨ ((∃ c, parseC whole = ([], 2, c)) ∧ (500 < (accS ++ M1.map (later s)).length ∨ 64 < s + mostC (allC M)))) := by
  obtain ⟨M1, plF, nxF, rfl, hE, hEp, hr⟩ := pieces_shift rest.length rest accM accS 0 0 plE s N M (Nat.le_refl _) hp inv (Or.inl rfl) hpl (by omega) hS hM
  have hin := inv_small hE hEp
  have hAM : allC (accM ++ M1) = allC M1 := by rw [allC_append, hA, List.nil_append]
  rw [hAM] at hin
  refine ⟨M1, rfl, ?_⟩
  rw [Int.zero_add] at hr
  have hpc : parseC whole = outC whole.length (piecesC (rest.length + 1) accS plE s rest) := by
    unfold parseC
    rw [if_neg (by omega), hw]
  rcases hr with ⟨hr, hr2⟩ | ⟨⟨e, hr⟩, hr2⟩
  · left
    have hq : wholeC (accS ++ M1.map (later s)) = true := by
      refine whole_seq ?_
      rw [allC_append, allC_later hs.1 M1 fun x hx => by
        have := hE.ok x (List.mem_append.2 (Or.inr hx))
        exact fits_nonneg this.1 this.2]
      refine seqN_snoc _ _ _ hseq ?_
      rw [← hsn]
      exact seqN_add s _ 0 hin.2.2.1
    rw [hpc, hr]
    unfold outC
    dsimp only
    rw [if_pos hq]
  · right
    refine ⟨⟨_, by rw [hpc, hr]; rfl⟩, ?_⟩
    rcases hr2 with hr2 | ⟨x, hx, hx1, hx2⟩
    · left
      rw [List.length_append, List.length_map]
      exact hr2
    · right
      have hmem : x.f1 ∈ allC M1 := by
        unfold allC
        refine List.mem_flatMap.2 ⟨x, hx, ?_⟩
        have : (!(x.f1 == 0)) = true := by
          have : x.f1 ≠ 0 := by omega
          simpa using this
        rw [List.mem_filter]
        exact ⟨by simp, this⟩
      have := (fold_mx (allC M1) 0).2.1 _ hmem
      rw [hAM]
      unfold mostC
      omega
end Go.Proofs.YtnhbgahfmcicnaaGreatDoor.Pure
end
section
namespace Go.Proofs.YtnhbgahfmcicnaaGreatDoor.Pure
set_option linter.unusedVariables false
set_option linter.unusedSimpArgs false
open Go.RowKit Go.Proofs.YtnhbgahfmcicnaaGreatDoor.PA Go.Proofs.YtnhbgahfmcicnaaGreatDoorW.PrintWords Go.Proofs.YtnhbgahfmcicnaaGreatDoorW.PrintLast
def joinC (s : Int) (L M : List S35) : List S35 := match L.getLast?, M with
  | some y, m :: M' => if m.f8 = 0 ∧ y.f8 = 0 then L.dropLast ++ [{ y with f0 := y.f0 ++ m.f0 }] ++ M'.map (later s) else L ++ (m :: M').map (later s)
  | _, M => L ++ M.map (later s)
theorem join_apart {s : Int} {L M : List S35} (h : ∀ y, L.getLast? = some y → ∀ m, M.head? = some m → ¬ (m.f8 = 0 ∧ y.f8 = 0)) : joinC s L M = L ++ M.map (later s) := by
  unfold joinC
  cases hl : L.getLast? with
  | none => cases M <;> rfl
  | some y =>
    cases M with
    | nil => rfl
    | cons m M =>
      dsimp only
      rw [if_neg (h y hl m rfl)]
theorem join_texts {s : Int} {A M1 : List S35} {q t : List UInt8} : joinC s (A ++ [txtP q]) ([txtP t] ++ M1) = A ++ [txtP (q ++ t)] ++ M1.map (later s) := by
  unfold joinC
  rw [List.getLast?_concat]
  have e : ({ txtP q with f0 := (txtP q).f0 ++ (txtP t).f0 } : S35) = txtP (q ++ t) := by
    unfold txtP
    show (⟨PA.strOf q ++ PA.strOf t, 0, 0, -1, 0, -1, 0, 0, 0⟩ : S35) = ⟨PA.strOf (q ++ t), 0, 0, -1, 0, -1, 0, 0, 0⟩
    rw [strOf_append]
  show (if (txtP t).f8 = 0 ∧ (txtP q).f8 = 0 then (A ++ [txtP q]).dropLast ++ [({ txtP q with f0 := (txtP q).f0 ++ (txtP t).f0 } : S35)] ++ M1.map (later s) else _) = _
  rw [if_pos ⟨rfl, rfl⟩, List.dropLast_concat, e]
theorem allC_txt (A : List S35) (q : List UInt8) : allC (A ++ [txtP q]) = allC A := by
  rw [allC_append]
  show allC A ++ [] = _
  simp
def Both (one two : List UInt8) (L M : List S35) : Prop :=
  parseC (one ++ two) = (joinC (mostC (allC L)) L M, 0, 0) ∨
    ((∃ c, parseC (one ++ two) = ([], 2, c)) ∧ (2000 < one.length + two.length ∨ 500 < (joinC (mostC (allC L)) L M).length ∨ 64 < mostC (allC L) + mostC (allC M)))
theorem both_parse {one two : List UInt8} {L M : List S35} {a b : Int} (h1 : noPos one = true) (h2 : noPos two = true) (e1 : parseC one = (L, 0, a)) (e2 : parseC two = (M, 0, b)) :
    Both one two L M := by
  obtain ⟨l1, p1⟩ := parse_pieces e1
  obtain ⟨l2, p2⟩ := parse_pieces e2
  by_cases hlen : 2000 < one.length + two.length
  · right
    refine ⟨⟨0, ?_⟩, Or.inl hlen⟩
    unfold parseC
    rw [if_pos (by rw [List.length_append]; exact hlen)]
  · obtain ⟨A, q, plE, nxE, hqt, hk, hpl, hL5, hA, hw⟩ := pieces_prefix one.length one two [] 0 0 one.length L (Nat.le_refl _) h1 (inv_nil one) (Or.inl rfl) (by simp) (fun _ y hy => absurd hy (by simp)) p1
    have hin := inv_small hA hpl
    have hwl : (one ++ two).length ≤ 2000 := by rw [List.length_append]; omega
    have hmA : mostC (allC A) = nxE := by
      unfold mostC
      rw [most_seq _ 0 hin.2.2.1, hin.2.2.2]
      omega
    -- from here on: what stands behind A
    have go : ∀ (rest : List UInt8) (accS accM : List S35) (N : Nat), piecesC ((one ++ two).length + 1) [] 0 0 (one ++ two) = piecesC (rest.length + 1) accS plE nxE rest → noPos rest = true → ReadInv accM 0 0 rest N → accS.length ≤ 500 → allC accS = allC A →
        piecesC (rest.length + 1) accM 0 0 rest = .ok M → allC accM = [] → (∀ M1, M = accM ++ M1 → joinC nxE L M = accS ++ M1.map (later nxE)) → mostC (allC L) = nxE → Both one two L M := fun rest accS accM N g1 g2 g3 g4 g5 g6 g7 g8 g9 => by
      obtain ⟨M1, hM1, hr⟩ := finish g1 hwl g2 g3 hpl (by omega) g4 (by rw [g5]; exact hin.2.2.1) (by rw [g5]; exact hin.2.2.2) g6 g7
      have hj := g8 M1 hM1
      rw [← g9] at hr hj
      rw [← hj] at hr
      exact hr.imp id fun h => ⟨h.1, Or.inr h.2⟩
    rcases hk with ⟨rfl, rfl, hlast⟩ | ⟨hq0, rfl⟩
    · rw [List.nil_append] at hw
      exact go two L [] two.length hw h2 (inv_nil two) hL5 rfl p2 rfl (fun M1 hM => by
        rw [List.nil_append] at hM
        subst hM
        exact join_apart fun y hy m hm hh => hlast y hy hh.2) hmA
    · have hA5 : A.length < 500 := by
        rw [List.length_append] at hL5
        simp only [List.length_cons, List.length_nil] at hL5
        omega
      have hmL : mostC (allC (A ++ [txtP q])) = nxE := by rw [allC_txt]; exact hmA
      have hfull : ¬ A.length = 500 := by omega
      -- the second begins with no text
      have plainEnd : PA.Ends two → (∀ m, M.head? = some m → ¬ m.f8 = 0) → Both one two (A ++ [txtP q]) M := fun hE hM0 => by
        have hs := piecesC_step (acc := A) (l := q ++ two) (by simp [hq0]) (by rw [decide_eq_false hfull]; exact piece_txt (pl := plE) (nx := nxE) hqt hq0 hE) hfull
        rw [← hs] at hw
        exact go two (A ++ [txtP q]) [] two.length hw h2 (inv_nil two) hL5 (allC_txt A q) p2 rfl (fun M1 hM => by
          rw [List.nil_append] at hM
          subst hM
          exact join_apart fun y hy m hm hh => hM0 m hm hh.1) hmL
      by_cases hne : two = []
      · subst hne
        rw [piecesC_end] at p2
        injection p2 with p2
        subst p2
        exact plainEnd (Or.inl rfl) fun m hm => by cases hm
      · obtain ⟨-, x, pl', nx', l', g1, g2⟩ := pieces_one hne p2
        rcases piece_kind g1 hne with ⟨t, ht0, htt, ht, rfl, rfl, rfl, hE⟩ | ⟨t, ht0, ht, hu⟩
        · -- both are texts
          have hqq : ∀ c ∈ q ++ t, isTxt c = true := fun c hc => (List.mem_append.1 hc).elim (hqt c) (htt c)
          have hs := piecesC_step (acc := A) (l := q ++ two) (by simp [hq0]) (by rw [decide_eq_false hfull, ht, ← List.append_assoc]; exact piece_txt (pl := plE) (nx := nxE) hqq (by simp [hq0]) hE) hfull
          rw [← hs] at hw
          have hsuf := pieceC_suf g1 hne
          have iv := read_step (inv_nil two) hne g1
          rw [List.nil_append] at iv g2
          exact go l' (A ++ [txtP (q ++ t)]) [txtP t] two.length hw (noPos_suf h2 hsuf.1) iv (by simp only [List.length_append, List.length_cons, List.length_nil]; omega) (allC_txt A _) g2 rfl (fun M1 hM => by
            subst hM
            exact join_texts) hmL
        · refine plainEnd (Or.inr ⟨t ++ l', by rw [ht]; rfl⟩) fun m hm => ?_
          obtain ⟨M1, plF, nxF, hM1, _⟩ := pieces_shift l'.length l' ([] ++ [x]) [] pl' nx' 0 0 two.length M (Nat.le_refl _) (noPos_suf h2 (pieceC_suf g1 hne).1) (read_step (inv_nil two) hne g1) (piece_shift (pl2 := 0) (s := 0) g1 hne h2 (Or.inl rfl) (Or.inl rfl) (by omega) (by omega)).1 (Or.inl rfl) (by omega) (by simp) g2
          rw [hM1] at hm
          obtain rfl := Option.some.inj hm
          rw [ht] at g1
          exact piece_notxt (t := t ++ l') g1 (by omega)
end Go.Proofs.YtnhbgahfmcicnaaGreatDoor.Pure
end
