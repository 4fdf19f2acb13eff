/- A part of the proof of the claim's statement. -/
import Derived.Test.YtnhbgahfmcicnaaGreatDoorPcM11
section
namespace Go.Proofs.YtnhbgahfmcicnaaGreatDoor.PA
set_option linter.unusedVariables false
set_option linter.unusedSimpArgs false
open Go.RowKit Go.Proofs.YtnhbgahfmcicnaaGreatDoorW.PrintWords Go.Proofs.YtnhbgahfmcicnaaGreatDoorW.PrintLast
theorem flag_cases (b : Int) : flagVal b = 0 ∨ flagVal b ∈ [1, 2, 4, 8, 16, 32] := by
  unfold flagVal
  repeat' split
  all_goals simp
theorem marks_or : ∀ a : Fin 64, ∀ v ∈ ([1, 2, 4, 8, 16, 32] : List Int), (0 ≤ Go.bits .or .i64 (a.val : Int) v ∧ Go.bits .or .i64 (a.val : Int) v ≤ 63) ∧ (flagMarks (Go.bits .or .i64 (a.val : Int) v) 6).length ≤ (flagMarks (a.val : Int) 6).length + 1 := by decide +kernel
theorem flags_len : ∀ (l : List UInt8) (a : Int), 0 ≤ a ∧ a ≤ 63 → (0 ≤ (flagsC a l).1 ∧ (flagsC a l).1 ≤ 63) ∧ (flagMarks (flagsC a l).1 6).length + (flagsC a l).2.length ≤ (flagMarks a 6).length + l.length ∧ flagVal (hdI (flagsC a l).2) = 0
  | [], a, h => ⟨h, Nat.le_refl _, rfl⟩
  | c :: l, a, h => by
    unfold flagsC
    by_cases hc : flagVal (c.toNat : Int) = 0
    · rw [if_pos hc]
      exact ⟨h, Nat.le_refl _, hc⟩
    · rw [if_neg hc]
      have hm := marks_or ⟨a.toNat, by omega⟩ _ ((flag_cases (c.toNat : Int)).resolve_left hc)
      rw [show ((a.toNat : Nat) : Int) = a by omega] at hm
      obtain ⟨h1, h2, h3⟩ := flags_len l _ hm.1
      refine ⟨h1, ?_, h3⟩
      have := hm.2
      rw [List.length_cons]
      omega
def digN (n : Nat) : Nat := if n = 0 then 0 else Lib.nDigits n
theorem nDigits_mono : ∀ (b a : Nat), a ≤ b → Lib.nDigits a ≤ Lib.nDigits b := by
  intro b
  induction b using Nat.strongRecOn with
  | _ b ih =>
    intro a h
    by_cases ha : a < 10
    · rw [Lib.nDigits_small ha]; exact Lib.nDigits_pos b
    · rw [Lib.nDigits_big ha, Lib.nDigits_big (show ¬ b < 10 by omega)]
      have := ih (b / 10) (by omega) (a / 10) (by omega)
      omega
theorem digN_mono {a b : Nat} (h : a ≤ b) : digN a ≤ digN b := by
  unfold digN
  by_cases ha : a = 0
  · rw [if_pos ha]; exact Nat.zero_le _
  · rw [if_neg ha, if_neg (show ¬ b = 0 by omega)]
    exact nDigits_mono b a h
theorem digN_step (n d : Nat) (hd : d < 10) : digN (10 * n + d) ≤ digN n + 1 := by
  unfold digN
  by_cases hn : n = 0
  · subst hn
    rw [if_pos rfl]
    split
    · omega
    · rw [Lib.nDigits_small (by omega)]; omega
  · rw [if_neg hn, if_neg (by omega), Lib.nDigits_big (by omega), show (10 * n + d) / 10 = n by omega]
    omega
theorem num_len (m : Int) (hm : 0 ≤ m) : ∀ (l : List UInt8) (n : Int), 0 ≤ n ∧ n ≤ m + 1 → (0 ≤ (numC m n l).1 ∧ (numC m n l).1 ≤ m + 1) ∧ digN (numC m n l).1.toNat + (numC m n l).2.length ≤ digN n.toNat + l.length ∧ isDig (hdI (numC m n l).2) = false
  | [], n, h => ⟨h, Nat.le_refl _, rfl⟩
  | c :: l, n, h => by
    unfold numC
    by_cases hc : isDig (c.toNat : Int) = true
    · rw [if_pos hc]
      have hd : 48 ≤ (c.toNat : Int) ∧ (c.toNat : Int) ≤ 57 := by
        unfold isDig at hc
        simpa using hc
      have hb : 0 ≤ mn (m + 1) (10 * n + ((c.toNat : Int) - 48)) ∧ mn (m + 1) (10 * n + ((c.toNat : Int) - 48)) ≤ m + 1 ∧ mn (m + 1) (10 * n + ((c.toNat : Int) - 48)) ≤ 10 * n + ((c.toNat : Int) - 48) := by
        unfold mn
        split <;> omega
      obtain ⟨h1, h2, h3⟩ := num_len m hm l _ ⟨hb.1, hb.2.1⟩
      refine ⟨h1, ?_, h3⟩
      have s1 := digN_mono (a := (mn (m + 1) (10 * n + ((c.toNat : Int) - 48))).toNat) (b := 10 * n.toNat + (c.toNat - 48)) (by omega)
      have s2 := digN_step n.toNat (c.toNat - 48) (by omega)
      rw [List.length_cons]
      omega
    · rw [if_neg hc]
      exact ⟨h, Nat.le_refl _, Bool.eq_false_iff.2 hc⟩
theorem itoa_len {n : Int} (h : 1 ≤ n) : (Lib.itoa n).length = digN n.toNat := by
  rw [itoa_pos (by omega), Lib.decDigits_length]
  unfold digN
  rw [if_neg (by omega)]
theorem num_pos {m : Int} (hm : 1 ≤ m) : ∀ (l : List UInt8) (n : Int), 1 ≤ n → 1 ≤ (numC m n l).1
  | [], n, h => h
  | c :: l, n, h => by
    unfold numC
    by_cases hc : isDig (c.toNat : Int) = true
    · rw [if_pos hc]
      have hd : 48 ≤ (c.toNat : Int) ∧ (c.toNat : Int) ≤ 57 := by
        unfold isDig at hc
        simpa using hc
      exact num_pos hm l _ (by unfold mn; split <;> omega)
    · rw [if_neg hc]; exact h
theorem num_pos_head {m : Int} (hm : 1 ≤ m) {l : List UInt8} (h : posB l = true) : 1 ≤ (numC m 0 l).1 := by
  cases l with
  | nil => cases h
  | cons c l =>
    unfold posB at h
    rw [Bool.and_eq_true, decide_eq_true_eq] at h
    have hc : isDig (c.toNat : Int) = true := h.1
    have h48 : (c.toNat : Int) ≠ 48 := h.2
    have hd : 48 ≤ (c.toNat : Int) ∧ (c.toNat : Int) ≤ 57 := by
      unfold isDig at hc
      simpa using hc
    unfold numC
    rw [if_pos hc]
    exact num_pos hm l _ (by unfold mn; split <;> omega)
end Go.Proofs.YtnhbgahfmcicnaaGreatDoor.PA
end
section
namespace Go.Proofs.YtnhbgahfmcicnaaGreatDoor.PA
set_option linter.unusedVariables false
set_option linter.unusedSimpArgs false
open Go.RowKit Go.Proofs.YtnhbgahfmcicnaaGreatDoorW.PrintWords Go.Proofs.YtnhbgahfmcicnaaGreatDoorW.PrintLast
theorem place_len (l : List UInt8) : ((placeC l).1 = 0 ∧ (placeC l).2 = l) ∨ (1 ≤ (placeC l).1 ∧ (placeC l).1 ≤ 65 ∧ digN (placeC l).1.toNat + 1 + (placeC l).2.length ≤ l.length) := by
  unfold placeC
  by_cases hp : posB l = true
  · rw [if_pos hp]
    cases hk : skipC 36 (numC 64 0 l).2 with
    | none => exact Or.inl ⟨rfl, rfl⟩
    | some t =>
      obtain ⟨h1, h2, _⟩ := num_len 64 (by omega) l 0 (by omega)
      rw [skipC_eq hk, List.length_cons] at h2
      have h3 := num_pos_head (m := 64) (by omega) hp
      have h0 : digN (0 : Int).toNat = 0 := rfl
      dsimp only
      right
      refine ⟨h3, h1.2, ?_⟩
      omega
  · rw [if_neg hp]
    exact Or.inl ⟨rfl, rfl⟩
theorem star_len {l : List UInt8} {v : Int × List UInt8} (h : starC l = some v) : (v.1 = 0 ∧ v.2 = l) ∨ (1 ≤ v.1 ∧ v.1 ≤ 65 ∧ digN v.1.toNat + 1 + v.2.length ≤ l.length) := by
  unfold starC at h
  by_cases hp : posB l = true
  · rw [if_pos hp] at h
    cases hk : skipC 36 (numC 64 0 l).2 with
    | none => rw [hk] at h; cases h
    | some t =>
      rw [hk] at h
      obtain rfl := Option.some.inj h
      obtain ⟨h1, h2, _⟩ := num_len 64 (by omega) l 0 (by omega)
      rw [skipC_eq hk, List.length_cons] at h2
      have h3 := num_pos_head (m := 64) (by omega) hp
      have h0 : digN (0 : Int).toNat = 0 := rfl
      dsimp only
      right
      refine ⟨h3, h1.2, ?_⟩
      omega
  · rw [if_neg hp] at h
    obtain rfl := Option.some.inj h
    exact Or.inl ⟨rfl, rfl⟩
def FieldIs (f : Fld) (n : Nat) : Prop :=
  (f.1 = -1 ∧ f.2.1 = true ∧ ((f.2.2 = 0 ∧ 1 ≤ n) ∨ (1 ≤ f.2.2 ∧ f.2.2 ≤ 65 ∧ digN f.2.2.toNat + 2 ≤ n))) ∨
  (0 ≤ f.1 ∧ f.1 ≤ 10001 ∧ f.2.1 = false ∧ f.2.2 = 0 ∧ digN f.1.toNat ≤ n)
theorem field_len {l : List UInt8} {v : Fld × List UInt8} (h : fieldC l = some v) : ∃ n, FieldIs v.1 n ∧ n + v.2.length = l.length := by
  have hsuf := (fieldC_suf h).length_le
  refine ⟨l.length - v.2.length, ?_, by omega⟩
  unfold fieldC at h
  cases hk : skipC 42 l with
  | none =>
    rw [hk] at h
    obtain rfl := Option.some.inj h
    obtain ⟨h1, h2, _⟩ := num_len 10000 (by omega) l 0 (by omega)
    have h0 : digN (0 : Int).toNat = 0 := rfl
    right
    dsimp only at hsuf ⊢
    exact ⟨h1.1, h1.2, rfl, rfl, by omega⟩
  | some t =>
    rw [hk] at h
    obtain ⟨w, hw, rfl⟩ := Option.map_eq_some_iff.1 h
    obtain rfl := skipC_eq hk
    left
    refine ⟨rfl, rfl, ?_⟩
    dsimp only at hsuf ⊢
    rw [List.length_cons] at hsuf ⊢
    rcases star_len hw with ⟨h1, h2⟩ | ⟨h1, h2, h3⟩
    · left
      rw [h2]
      exact ⟨h1, by omega⟩
    · right
      exact ⟨h1, h2, by omega⟩
theorem width_len {l : List UInt8} {v : Fld × List UInt8} (h : widthC l = some v) (hf : flagVal (hdI l) = 0) :
    (v = (noFld, l)) ∨ ∃ n, FieldIs v.1 n ∧ n + v.2.length = l.length ∧ (v.1.2.1 = false → 1 ≤ v.1.1) := by
  unfold widthC at h
  by_cases hw : widB l = true
  · rw [if_pos hw] at h
    obtain ⟨n, h1, h2⟩ := field_len h
    refine Or.inr ⟨n, h1, h2, fun hs => ?_⟩
    unfold fieldC at h
    cases hk : skipC 42 l with
    | some t =>
      rw [hk] at h
      obtain ⟨w, hw, rfl⟩ := Option.map_eq_some_iff.1 h
      cases hs
    | none =>
      rw [hk] at h
      obtain rfl := Option.some.inj h
      refine num_pos_head (by omega) ?_
      unfold widB at hw
      unfold posB
      have h42 : hdI l ≠ 42 := by
        cases l with
        | nil => decide
        | cons c l =>
          intro e
          have : c = 42 := UInt8.toNat_inj.1 (by have e : (c.toNat : Int) = 42 := e; show c.toNat = 42; omega)
          rw [this] at hk
          simp [skipC] at hk
      rw [decide_eq_false h42, Bool.false_or] at hw
      have h48 : hdI l ≠ 48 := fun e => by rw [e] at hf; exact absurd hf (by decide)
      rw [hw]
      simp [h48]
  · rw [if_neg hw] at h
    obtain rfl := Option.some.inj h
    exact Or.inl rfl
theorem prec_len {l : List UInt8} {v : Fld × List UInt8} (h : precC l = some v) : (v = (noFld, l)) ∨ ∃ n, FieldIs v.1 n ∧ n + 1 + v.2.length = l.length := by
  unfold precC at h
  cases hk : skipC 46 l with
  | none =>
    rw [hk] at h
    obtain rfl := Option.some.inj h
    exact Or.inl rfl
  | some t =>
    rw [hk] at h
    obtain rfl := skipC_eq hk
    obtain ⟨n, h1, h2⟩ := field_len h
    refine Or.inr ⟨n, h1, ?_⟩
    rw [List.length_cons]
    omega
theorem body_places (x : S35) (h : 1 ≤ x.f1) : (bodyB x false).length ≤ (bodyB x true).length := by
  have s : ∀ n : Int, (starB n false).length ≤ (starB n true).length := fun n => by
    unfold starB
    simp
  unfold bodyB widthB precB
  have s4 := s x.f4
  have s6 := s x.f6
  rw [if_neg (show ¬ false = true by simp), if_pos rfl]
  simp only [List.length_append, List.length_nil]
  have b3 : (if 0 < x.f4 then starB x.f4 false else if 0 < x.f3 then Lib.itoa x.f3 else []).length ≤ (if 0 < x.f4 then starB x.f4 true else if 0 < x.f3 then Lib.itoa x.f3 else []).length := by
    split
    · exact s4
    · exact Nat.le_refl _
  have b5 : (if 0 < x.f6 then 46 :: starB x.f6 false else if 0 < x.f5 then 46 :: Lib.itoa x.f5 else if x.f5 = 0 then [46] else []).length ≤ (if 0 < x.f6 then 46 :: starB x.f6 true else if 0 < x.f5 then 46 :: Lib.itoa x.f5 else if x.f5 = 0 then [46] else []).length := by
    split
    · rw [List.length_cons, List.length_cons]; omega
    · exact Nat.le_refl _
  omega
end Go.Proofs.YtnhbgahfmcicnaaGreatDoor.PA
end
section
namespace Go.Proofs.YtnhbgahfmcicnaaGreatDoor.PA
set_option linter.unusedVariables false
set_option linter.unusedSimpArgs false
open Go.RowKit Go.Proofs.YtnhbgahfmcicnaaGreatDoorW.PrintWords Go.Proofs.YtnhbgahfmcicnaaGreatDoorW.PrintLast
structure FieldIn (f : Fld) (p : Bool) (nx : Int) (k : Nat) : Prop where
  two : (starArg (modeOf p) nx f).2 = if p then nx else nx + (if (starArg (modeOf p) nx f).1 = 0 then 0 else 1)
  arg : p = false → (starArg (modeOf p) nx f).1 ≠ 0 → (starArg (modeOf p) nx f).1 = nx + 1
  star : f.2.1 = true → f.1 = -1 ∧ 1 ≤ (starArg (modeOf p) nx f).1 ∧ (starB (starArg (modeOf p) nx f).1 p).length ≤ k
  none : f.2.1 = false → (starArg (modeOf p) nx f).1 = 0 ∧ (f.1 = -1 ∨ (0 ≤ f.1 ∧ f.1 ≤ 10001 ∧ digN f.1.toNat ≤ k))
theorem noFld_in (p : Bool) (nx : Int) : FieldIn noFld p nx 0 := by
  refine ⟨?_, ?_, fun h => ?_, fun _ => ⟨rfl, Or.inl rfl⟩⟩
  · cases p <;> simp [starArg, noFld]
  · intro _ h; exact absurd rfl h
  · cases h
theorem field_in {f : Fld} {n : Nat} {p : Bool} {nx : Int} (hf : FieldIs f n) (hag : f.2.1 = true → decide (0 < f.2.2) = p) (hn : 0 ≤ nx ∧ nx ≤ 99000) : FieldIn f p nx n := by
  have hw : wrap64 (nx + 1) = nx + 1 := wrap_small (by omega)
  rcases hf with ⟨h1, h2, h3⟩ | ⟨h1, h2, h3, h4, h5⟩
  · have hp := hag h2
    have e : starArg (modeOf p) nx f = if p then (f.2.2, nx) else (nx + 1, nx + 1) := by
      unfold starArg argC modeOf
      rw [if_pos h2]
      cases p <;> simp [hw]
    refine ⟨?_, ?_, fun _ => ⟨h1, ?_, ?_⟩, fun h => by rw [h2] at h; cases h⟩
    · rw [e]
      cases p
      · simp
        omega
      · simp
    · rw [e]
      intro hp' _
      rw [hp']
      rfl
    · rw [e]
      cases p
      · simp
        omega
      · have := of_decide_eq_true hp
        simp
        omega
    · rw [e]
      cases p
      · simp [starB]
        omega
      · have h0 := of_decide_eq_true hp
        have hl := itoa_len (n := f.2.2) (by omega)
        simp [starB]
        omega
  · have e : starArg (modeOf p) nx f = (0, nx) := by
      unfold starArg
      rw [h3]
      rfl
    refine ⟨?_, ?_, fun h => ?_, fun _ => ⟨by rw [e], Or.inr ⟨h1, h2, h5⟩⟩⟩
    · rw [e]
      cases p <;> simp
    · rw [e]
      intro _ h
      exact absurd rfl h
    · rw [h3] at h; cases h
theorem width_le {f : Fld} {p : Bool} {nx : Int} {k : Nat} (h : FieldIn f p nx k) : (widthB f.1 (starArg (modeOf p) nx f).1 p).length ≤ k := by
  unfold widthB
  cases hs : f.2.1 with
  | true =>
    obtain ⟨h1, h2, h3⟩ := h.star hs
    rw [if_pos (by omega)]
    exact h3
  | false =>
    obtain ⟨h1, h2⟩ := h.none hs
    rw [if_neg (by omega)]
    by_cases h0 : 0 < f.1
    · rw [if_pos h0, itoa_len (by omega)]
      rcases h2 with h2 | h2
      · omega
      · exact h2.2.2
    · rw [if_neg h0]
      simp
theorem prec_le {f : Fld} {p : Bool} {nx : Int} {k : Nat} (h : FieldIn f p nx k) (hf : f = noFld ∨ ∃ n, k = n + 1 ∧ FieldIn f p nx n) : (precB f.1 (starArg (modeOf p) nx f).1 p).length ≤ k := by
  rcases hf with rfl | ⟨n, rfl, h'⟩
  · have : precB noFld.1 (starArg (modeOf p) nx noFld).1 p = [] := by
      cases p <;> rfl
    rw [this]
    exact Nat.zero_le _
  · unfold precB
    cases hs : f.2.1 with
    | true =>
      obtain ⟨h1, h2, h3⟩ := h'.star hs
      rw [if_pos (by omega), List.length_cons]
      omega
    | false =>
      obtain ⟨h1, h2⟩ := h'.none hs
      rw [if_neg (by omega)]
      by_cases h0 : 0 < f.1
      · rw [if_pos h0, List.length_cons, itoa_len (by omega)]
        rcases h2 with h2 | h2
        · omega
        · have := h2.2.2
          omega
      · rw [if_neg h0]
        split
        · simp
        · simp
end Go.Proofs.YtnhbgahfmcicnaaGreatDoor.PA
end
section
namespace Go.Proofs.YtnhbgahfmcicnaaGreatDoor.PA
set_option linter.unusedVariables false
set_option linter.unusedSimpArgs false
open Go.RowKit Go.Proofs.YtnhbgahfmcicnaaGreatDoorW.PrintWords Go.Proofs.YtnhbgahfmcicnaaGreatDoorW.PrintLast
theorem conv_len {pl nx : Int} {l : List UInt8} {v : ConvT} (h : convC pl nx l = some v) (hlg : v.lg = false) (hn : 0 ≤ nx ∧ nx ≤ 98000) :
    ∃ p, (pl = 0 ∨ pl = modeOf p) ∧ v.pl = modeOf p ∧ v.nx = afterN v.x p nx ∧ (p = false → nextN v.x nx) ∧ ConvOk v.x ∧ (bodyB v.x p).length + v.l.length ≤ l.length := by
  unfold convC at h
  obtain ⟨⟨wf, l3⟩, hw, h⟩ := Option.bind_eq_some_iff.1 h
  obtain ⟨⟨pf, l4⟩, hp, h⟩ := Option.bind_eq_some_iff.1 h
  dsimp only at h hw hp
  have hplace := place_len l
  obtain ⟨hfl, hfl2, hfl3⟩ := flags_len (placeC l).2 0 (by omega)
  have hf0 : (flagMarks 0 6).length = 0 := by decide
  have hlen := best_prefix l4 12
  generalize hO : (placeC l).1 = own at h hplace
  generalize hL : (placeC l).2 = l1 at hfl hfl2 hfl3 hw hplace h
  generalize hF : (flagsC 0 l1).1 = fl at hfl hfl2 h
  generalize hL2 : (flagsC 0 l1).2 = l2 at hfl2 hfl3 hw
  have hwid := width_len hw hfl3
  have hprc := prec_len hp
  unfold convE at h
  split at h
  · rename_i hr
    split at h
    · rename_i hpl
      split at h
      · rename_i hag
        dsimp only at h
        split at h
        · rename_i hok
          obtain rfl := Option.some.inj h
          clear h
          dsimp only at hlg ⊢
          obtain ⟨p, hpp⟩ : ∃ p, decide (0 < own) = p := ⟨_, rfl⟩
          rw [hpp] at hpl hlg ⊢
          have ag1 : wf.2.1 = true → decide (0 < wf.2.2) = p := fun e => by
            have := hag.1
            unfold agrees at this
            rw [e, hpp] at this
            simpa using this
          have ag2 : pf.2.1 = true → decide (0 < pf.2.2) = p := fun e => by
            have := hag.2
            unfold agrees at this
            rw [e, hpp] at this
            simpa using this
          have W : ∃ k1, FieldIn wf p nx k1 ∧ k1 + l3.length = l2.length ∧ (wf.2.1 = false → wf.1 = -1 ∨ 1 ≤ wf.1) := by
            rcases hwid with e | ⟨n, h1, h2, h3⟩
            · obtain ⟨rfl, rfl⟩ := Prod.mk.inj e
              exact ⟨0, noFld_in p nx, by omega, fun _ => Or.inl rfl⟩
            · exact ⟨n, field_in h1 ag1 (by omega), h2, fun e => Or.inr (h3 e)⟩
          obtain ⟨k1, W1, W2, W3⟩ := W
          have hn2 : 0 ≤ (starArg (modeOf p) nx wf).2 ∧ (starArg (modeOf p) nx wf).2 ≤ 98001 := by
            rw [W1.two]
            cases p
            · simp only [Bool.false_eq_true, if_false]
              split <;> omega
            · simp only [if_true]
              omega
          have P : ∃ k2, FieldIn pf p (starArg (modeOf p) nx wf).2 k2 ∧ k2 + l4.length = l3.length ∧ (precB pf.1 (starArg (modeOf p) (starArg (modeOf p) nx wf).2 pf).1 p).length ≤ k2 := by
            rcases hprc with e | ⟨n, h1, h2⟩
            · obtain ⟨rfl, rfl⟩ := Prod.mk.inj e
              exact ⟨0, noFld_in p _, by omega, prec_le (noFld_in p _) (Or.inl rfl)⟩
            · have h3 := field_in h1 ag2 (p := p) (nx := (starArg (modeOf p) nx wf).2) (by omega)
              have h4 : FieldIn pf p (starArg (modeOf p) nx wf).2 (n + 1) := ⟨h3.two, h3.arg, fun e => ⟨(h3.star e).1, (h3.star e).2.1, Nat.le_succ_of_le (h3.star e).2.2⟩, fun e => ⟨(h3.none e).1, (h3.none e).2.imp id fun q => ⟨q.1, q.2.1, Nat.le_succ_of_le q.2.2⟩⟩⟩
              exact ⟨n + 1, h4, by omega, prec_le h4 (Or.inr ⟨n, rfl, h3⟩)⟩
          obtain ⟨k2, P1, P2, P3⟩ := P
          have WL := width_le W1
          have hW2 := W1.two
          have hW4 := W1.arg
          have hP2 := P1.two
          have hP4 := P1.arg
          have hWs := W1.star
          have hWn := W1.none
          have hPs := P1.star
          have hPn := P1.none
          clear W1 P1 hwid hprc ag1 ag2 hag hw hp
          simp only [Bool.or_eq_false_iff, Bool.and_eq_false_iff, decide_eq_false_iff_not] at hlg
          obtain ⟨g1, g2, g3, g4, g5⟩ := hlg
          unfold okC at hok
          simp only [Bool.and_eq_true, Bool.or_eq_true, decide_eq_true_eq, Bool.not_eq_true'] at hok
          obtain ⟨o1, o2, o3, o4⟩ := hok
          generalize hA4 : starArg (modeOf p) nx wf = A4 at *
          obtain ⟨a4, nx2⟩ := A4
          dsimp only at *
          generalize hA6 : starArg (modeOf p) nx2 pf = A6 at *
          obtain ⟨a6, nx3⟩ := A6
          dsimp only at *
          have hAr : argC (modeOf p) nx3 own = if p then (own, nx3) else (nx3 + 1, nx3 + 1) := by
            unfold argC modeOf
            cases p
            · have hw3 : wrap64 (nx3 + 1) = nx3 + 1 := wrap_small (by rw [hP2]; simp only [Bool.false_eq_true, if_false]; split <;> omega)
              simp [hw3]
            · simp
          have hrest : ∃ c r, (lenC l4).2 = c :: r ∧ modLen (bestMod l4 12) + 1 + r.length = l4.length := by
            have e : (lenC l4).2 = l4.drop (modLen (bestMod l4 12)) := rfl
            cases hc : (lenC l4).2 with
            | nil => rw [hc] at hr; exact absurd hr (by decide)
            | cons c r =>
              refine ⟨c, r, rfl, ?_⟩
              have := congrArg List.length (e.symm.trans hc)
              rw [List.length_drop, List.length_cons] at this
              omega
          obtain ⟨c, r, hc, hcl⟩ := hrest
          rw [hc] at hr o1 o2 o3 o4 ⊢
          rw [hAr] at g5 ⊢
          have hown : p = true → 1 ≤ own := fun e => by
            have := of_decide_eq_true (hpp.trans e)
            omega
          have hplace2 : (if p = true then Lib.itoa own ++ [36] else []).length + l1.length ≤ l.length := by
            rcases hplace with ⟨h1, h2⟩ | ⟨h1, h2, h3⟩
            · have : p = false := by rw [← hpp, h1]; rfl
              rw [this, h2]
              simp
            · cases p
              · have := of_decide_eq_false hpp
                omega
              · rw [if_pos rfl, List.length_append, itoa_len (by omega), List.length_singleton]
                omega
          have hc8 : hdI (c :: r) = (c.toNat : Int) := rfl
          have hcb : (c.toNat : Int) < 256 := by have := c.toNat_lt; omega
          have hbl := bestMod_lt l4 12 (Nat.le_refl _)
          have hmodl : (mods.getD (bestMod l4 12) []).length = modLen (bestMod l4 12) := rfl
          have ok : ∀ f1 : Int, 1 ≤ f1 → f1 ≤ 64 → ConvOk ⟨⟨#[]⟩, f1, fl, wf.1, a4, pf.1, a6, (bestMod l4 12 : Int), hdI (c :: r)⟩ := by
            intro f1 b1 b2
            refine ⟨rfl, hr, ⟨b1, b2⟩, hfl, o1, o2, ?_, ?_, ?_, ?_, ⟨by show (0 : Int) ≤ (bestMod l4 12 : Int); omega, by show (bestMod l4 12 : Int) < 12; omega⟩, ⟨show (0 : Int) ≤ (c.toNat : Int) by omega, show (c.toNat : Int) < 256 from hcb⟩, ?_, ?_⟩
            · show wf.1 = -1 ∨ (a4 = 0 ∧ 1 ≤ wf.1 ∧ wf.1 ≤ 10000)
              cases hs : wf.2.1 with
              | true => exact Or.inl (hWs hs).1
              | false =>
                obtain ⟨q1, q2⟩ := hWn hs
                have := W3 hs
                omega
            · show 0 ≤ a4 ∧ a4 ≤ 64
              cases hs : wf.2.1 with
              | true =>
                obtain ⟨q1, q2, q3⟩ := hWs hs
                rw [hs] at g3
                have := g3.resolve_left (by simp)
                omega
              | false =>
                obtain ⟨q1, q2⟩ := hWn hs
                omega
            · show pf.1 = -1 ∨ (a6 = 0 ∧ 0 ≤ pf.1 ∧ pf.1 ≤ 10000)
              cases hs : pf.2.1 with
              | true => exact Or.inl (hPs hs).1
              | false =>
                obtain ⟨q1, q2⟩ := hPn hs
                omega
            · show 0 ≤ a6 ∧ a6 ≤ 64
              cases hs : pf.2.1 with
              | true =>
                obtain ⟨q1, q2, q3⟩ := hPs hs
                rw [hs] at g4
                have := g4.resolve_left (by simp)
                omega
              | false =>
                obtain ⟨q1, q2⟩ := hPn hs
                omega
            · rcases o3 with o | o
              · exact Or.inl o
              · exact Or.inr ⟨o.1, (hWn o.2).1⟩
            · rcases o4 with o | o
              · exact Or.inl o
              · exact Or.inr ⟨o.1, (hPn o.2).1⟩
          have hbody : ∀ f1 : Int, (p = true → f1 = own) → (bodyB ⟨⟨#[]⟩, f1, fl, wf.1, a4, pf.1, a6, (bestMod l4 12 : Int), hdI (c :: r)⟩ p).length + r.length ≤ l.length := by
            intro f1 hf1
            unfold bodyB
            dsimp only
            have e1 : (if p = true then Lib.itoa f1 ++ [36] else []).length = (if p = true then Lib.itoa own ++ [36] else []).length := by
              cases p
              · rfl
              · rw [hf1 rfl]
            simp only [List.length_append, List.length_singleton, Int.toNat_natCast, hmodl]
            omega
          refine ⟨p, hpl, rfl, ?_, ?_, ?_, ?_⟩
          · unfold afterN
            cases p
            · rfl
            · simp only [if_true] at hP2 hW2 ⊢
              rw [hP2, hW2]
          · intro hp
            subst hp
            simp only [Bool.false_eq_true, if_false] at hP2 hW2 ⊢
            unfold nextN
            dsimp only
            refine ⟨fun h4 => hW4 rfl h4, fun h6 => ?_, ?_⟩
            · rw [hP4 rfl h6, hW2]
            · rw [hP2, hW2]
          · refine ok _ ?_ (by omega)
            cases p
            · simp only [Bool.false_eq_true, if_false] at hP2 hW2 ⊢
              rw [hP2]
              split <;> omega
            · exact hown rfl
          · exact hbody _ fun e => by rw [e]; rfl
        · cases h
      · cases h
    · cases h
  · cases h
end Go.Proofs.YtnhbgahfmcicnaaGreatDoor.PA
end
section
namespace Go.Proofs.YtnhbgahfmcicnaaGreatDoor.PA
set_option linter.unusedVariables false
set_option linter.unusedSimpArgs false
open Go.RowKit Go.Proofs.YtnhbgahfmcicnaaGreatDoorW.PrintWords Go.Proofs.YtnhbgahfmcicnaaGreatDoorW.PrintLast
theorem conv_fits {x : S35} (h : ConvOk x) : PieceOk x ∧ fitsC x = true ∧ ¬ x.f8 = 0 ∧ ¬ x.f8 = 37 := by
  obtain ⟨h0, hok, i1, i2, hb, hl, i3, i4, i5, i6, i7, i8, hw, hp⟩ := h
  have n0 : ¬ x.f8 = 0 := fun e => by rw [e] at hok; exact absurd hok (by decide)
  have n37 : ¬ x.f8 = 37 := fun e => by rw [e] at hok; exact absurd hok (by decide)
  refine ⟨⟨⟨by omega, by omega⟩, ⟨by omega, by omega⟩, ⟨by omega, by omega⟩, ⟨by omega, by omega⟩, ⟨by omega, by omega⟩, ⟨by omega, by omega⟩, ⟨by omega, by omega⟩, by omega⟩, ?_, n0, n37⟩
  unfold fitsC
  rw [if_neg n0, if_neg n37]
  have e0 : x.f0.data.toList = [] := by rw [h0]
  have ew : withinC x.f3 1 = true := by
    unfold withinC
    simp only [Bool.or_eq_true, Bool.and_eq_true, decide_eq_true_eq]
    omega
  have ep : withinC x.f5 0 = true := by
    unfold withinC
    simp only [Bool.or_eq_true, Bool.and_eq_true, decide_eq_true_eq]
    omega
  have e4 : argOk x.f4 = true := by unfold argOk; simp only [Bool.and_eq_true, decide_eq_true_eq]; exact i4
  have e6 : argOk x.f6 = true := by unfold argOk; simp only [Bool.and_eq_true, decide_eq_true_eq]; exact i6
  have et : tailC (ruleC x.f8) x = true := by
    unfold tailC
    simp only [Bool.and_eq_true, Bool.or_eq_true, decide_eq_true_eq, Bool.not_eq_true', Bool.or_eq_false_iff, Bool.and_eq_false_iff, decide_eq_false_iff_not, ne_eq, Decidable.not_not]
    exact ⟨⟨by omega, by omega⟩, hw, hp⟩
  rw [hok, decide_eq_true e0, decide_eq_true i1.1, decide_eq_true i1.2, decide_eq_true hb, hl, ew, ep, e4, e6, et]
  rfl
theorem piece_plain (q : ByteArray) (c : Int) (hc : c = 0 ∨ c = 37) : PieceOk ⟨q, 0, 0, -1, 0, -1, 0, 0, c⟩ := by
  have z : In64 0 := ⟨by omega, by omega⟩
  have m : In64 (-1) := ⟨by omega, by omega⟩
  exact ⟨z, z, m, z, m, z, z, by show 0 ≤ c ∧ c ≤ 255; omega⟩
theorem piece_len {full : Bool} {pl nx pl' nx' : Int} {l l' : List UInt8} {x : S35} (h : pieceC full pl nx l = .ok (x, pl', nx', l')) (hl : l ≠ []) (hn : 0 ≤ nx ∧ nx ≤ 98000) :
    PieceOk x ∧ fitsC x = true ∧ ((x.f8 = 0 ∧ pl' = pl ∧ nx' = nx ∧ Ends l' ∧ ∀ p, (textB x p).length + l'.length ≤ l.length) ∨ (x.f8 = 37 ∧ pl' = pl ∧ nx' = nx ∧ ∀ p, (textB x p).length + l'.length ≤ l.length) ∨
      (¬ x.f8 = 0 ∧ ∃ p, (pl = 0 ∨ pl = modeOf p) ∧ pl' = modeOf p ∧ nx' = afterN x p nx ∧ (p = false → nextN x nx) ∧ ConvOk x ∧ (textB x p).length + l'.length ≤ l.length)) := by
  unfold pieceC at h
  cases hk : skipC 37 l with
  | none =>
    rw [hk] at h
    dsimp only at h
    split at h
    · cases h
    · split at h
      · cases h
      · rename_i hd
        injection h with h
        simp only [Prod.mk.injEq] at h
        obtain ⟨rfl, rfl, rfl, rfl⟩ := h
        have hq : ∀ c ∈ l.takeWhile isTxt, isTxt c = true := fun c hc => List.all_eq_true.1 (List.all_takeWhile) c hc
        have hne : l.takeWhile isTxt ≠ [] := by
          intro e
          have h2 := Ends.drop hd
          have h3 : l = l.dropWhile isTxt := by
            have := List.takeWhile_append_dropWhile (p := isTxt) (l := l)
            rw [e, List.nil_append] at this
            exact this.symm
          rw [← h3] at h2
          rcases h2 with e | ⟨t, e⟩
          · exact hl e
          · rw [e] at hk
            simp [skipC] at hk
        refine ⟨piece_plain _ _ (Or.inl rfl), ?_, Or.inl ⟨rfl, rfl, rfl, Ends.drop hd, fun p => ?_⟩⟩
        · unfold fitsC
          rw [if_pos rfl]
          have e1 : plainC ⟨⟨(l.takeWhile isTxt).toArray⟩, 0, 0, -1, 0, -1, 0, 0, 0⟩ = true := rfl
          rw [e1, Bool.true_and]
          unfold txtOk
          rw [indexAny_pos]
          have c0 : (l.takeWhile isTxt).contains 0 = false := by
            rw [Bool.eq_false_iff]
            intro e
            have := hq 0 (List.contains_iff_mem.1 e)
            cases this
          have c37 : (l.takeWhile isTxt).contains 37 = false := by
            rw [Bool.eq_false_iff]
            intro e
            have := hq 37 (List.contains_iff_mem.1 e)
            cases this
          show (decide ((l.takeWhile isTxt) ≠ []) && !((l.takeWhile isTxt).contains 0 || (l.takeWhile isTxt).contains 37)) = true
          rw [c0, c37]
          simp [hne]
        · show (l.takeWhile isTxt).length + (l.dropWhile isTxt).length ≤ l.length
          rw [← List.length_append, List.takeWhile_append_dropWhile]
          exact Nat.le_refl _
  | some t =>
    rw [hk] at h
    dsimp only at h
    obtain rfl := skipC_eq hk
    cases hk2 : skipC 37 t with
    | some t' =>
      rw [hk2] at h
      dsimp only at h
      obtain rfl := skipC_eq hk2
      injection h with h
      simp only [Prod.mk.injEq] at h
      obtain ⟨rfl, rfl, rfl, rfl⟩ := h
      exact ⟨piece_plain _ _ (Or.inr rfl), rfl, Or.inr (Or.inl ⟨rfl, rfl, rfl, fun p => by
        show 2 + t'.length ≤ (37 :: 37 :: t').length
        rw [List.length_cons, List.length_cons]
        omega⟩)⟩
    | none =>
      rw [hk2] at h
      dsimp only at h
      cases hc : convC pl nx t with
      | none => rw [hc] at h; cases h
      | some v =>
        rw [hc] at h
        dsimp only at h
        split at h
        · cases h
        · rename_i hlg
          injection h with h
          simp only [Prod.mk.injEq] at h
          obtain ⟨rfl, rfl, rfl, rfl⟩ := h
          obtain ⟨p, h1, h2, h3, h4, h5, h6⟩ := conv_len hc (by simpa using hlg) hn
          obtain ⟨q1, q2, q3, q4⟩ := conv_fits h5
          refine ⟨q1, q2, Or.inr (Or.inr ⟨q3, p, h1, h2, h3, h4, h5, ?_⟩)⟩
          unfold textB
          rw [if_neg q3, if_neg q4, List.length_cons, List.length_cons]
          omega
end Go.Proofs.YtnhbgahfmcicnaaGreatDoor.PA
end
section
namespace Go.Proofs.YtnhbgahfmcicnaaGreatDoor.PA
set_option linter.unusedVariables false
set_option linter.unusedSimpArgs false
open Go.RowKit Go.Proofs.YtnhbgahfmcicnaaGreatDoorW.PrintWords Go.Proofs.YtnhbgahfmcicnaaGreatDoorW.PrintLast
theorem apart_snoc : ∀ (l : List S35) (x : S35), apart l → (∀ y, l.getLast? = some y → ¬ (y.f8 = 0 ∧ x.f8 = 0)) → apart (l ++ [x])
  | [], x, _, _ => trivial
  | [y], x, _, h => ⟨h y rfl, trivial⟩
  | y :: z :: l, x, ha, h => ⟨ha.1, apart_snoc (z :: l) x ha.2 fun w hw => h w (by rw [List.getLast?_cons_cons]; exact hw)⟩
theorem seqN_snoc : ∀ (l : List Int) (n : Int) (r : List Int), seqN n l → seqN (n + (l.length : Int)) r → seqN n (l ++ r)
  | [], n, r, _, h => by simpa using h
  | a :: l, n, r, ha, h => ⟨ha.1, seqN_snoc l (n + 1) r ha.2 (by rw [List.length_cons] at h; rw [show n + 1 + (l.length : Int) = n + ((l.length + 1 : Nat) : Int) by omega]; exact h)⟩
theorem seqN_oneUp {l : List Int} (h : seqN 0 l) : oneUp l = true := by
  apply oneUp_true
  have key : ∀ (l : List Int) (n : Int), seqN n l → ∀ j, j < l.length → l[j]?.getD 0 = n + (j : Int) + 1 := by
    intro l
    induction l with
    | nil => intro n _ j hj; simp at hj
    | cons a l ih =>
      intro n hs j hj
      cases j with
      | zero => simp [hs.1]
      | succ j =>
        have := ih (n + 1) hs.2 j (by simpa using hj)
        rw [List.getElem?_cons_succ, this]
        omega
  intro j hj
  rw [key l 0 h j hj]
  omega
structure ReadInv (acc : List S35) (pl nx : Int) (l : List UInt8) (N : Nat) : Prop where
  ok : ∀ x ∈ acc, PieceOk x ∧ fitsC x = true
  ap : apart acc
  last : ∀ y, acc.getLast? = some y → y.f8 = 0 → Ends l
  num : (pl = 0 ∧ nx = 0 ∧ allC acc = []) ∨ (pl = 1 ∧ nx = 0) ∨ (pl = 2 ∧ nx ≤ 64 ∧ seqN 0 (allC acc) ∧ nx = ((allC acc).length : Int))
  lf : (textsB acc false).length + l.length ≤ N
  lt : pl ≠ 2 → (textsB acc true).length + l.length ≤ N
theorem seq_next_mk {x : S35} {n : Int} (h : nextN x n) (h1 : 1 ≤ x.f1) : seqN n (nonzero [x.f4, x.f6, x.f1]) ∧ x.f1 = n + ((nonzero [x.f4, x.f6, x.f1]).length : Int) := by
  obtain ⟨a, b, c⟩ := h
  have e1 : ¬ x.f1 = 0 := by omega
  unfold nonzero
  by_cases e4 : x.f4 = 0
  · by_cases e6 : x.f6 = 0
    · rw [if_pos e4, if_pos e6] at c
      simp [e4, e6, e1, seqN]
      omega
    · rw [if_pos e4, if_neg e6] at c
      rw [if_pos e4] at b
      have := b e6
      simp [e4, e6, e1, seqN]
      omega
  · have := a e4
    by_cases e6 : x.f6 = 0
    · rw [if_neg e4, if_pos e6] at c
      simp [e4, e6, e1, seqN]
      omega
    · rw [if_neg e4, if_neg e6] at c
      rw [if_neg e4] at b
      have := b e6
      simp [e4, e6, e1, seqN]
      omega
theorem piece_notxt {full : Bool} {pl nx pl' nx' : Int} {t l' : List UInt8} {x : S35} (h : pieceC full pl nx (37 :: t) = .ok (x, pl', nx', l')) (hn : 0 ≤ nx ∧ nx ≤ 98000) : ¬ x.f8 = 0 := by
  unfold pieceC at h
  rw [skipC_hit] at h
  dsimp only at h
  cases hk2 : skipC 37 t with
  | some t' =>
    rw [hk2] at h
    injection h with h
    simp only [Prod.mk.injEq] at h
    rw [← h.1]
    decide
  | none =>
    rw [hk2] at h
    dsimp only at h
    cases hc : convC pl nx t with
    | none => rw [hc] at h; cases h
    | some v =>
      rw [hc] at h
      dsimp only at h
      split at h
      · cases h
      · rename_i hlg
        injection h with h
        simp only [Prod.mk.injEq] at h
        obtain ⟨p, _, _, _, _, h5, _⟩ := conv_len hc (by simpa using hlg) hn
        rw [← h.1]
        exact (conv_fits h5).2.2.1
theorem textsB_snoc (acc : List S35) (x : S35) (p : Bool) : (textsB (acc ++ [x]) p).length = (textsB acc p).length + (textB x p).length := by
  unfold textsB
  rw [List.flatMap_append, List.length_append]
  simp
theorem allC_snoc (acc : List S35) (x : S35) : allC (acc ++ [x]) = allC acc ++ nonzero [x.f4, x.f6, x.f1] := by
  rw [allC_append, allC_cons]
  show _ ++ (_ ++ []) = _
  rw [List.append_nil]
theorem plain_nums {x : S35} (hf : fitsC x = true) (h : x.f8 = 0 ∨ x.f8 = 37) : nonzero [x.f4, x.f6, x.f1] = [] := by
  have hp : plainC x = true := by
    unfold fitsC at hf
    rcases h with h | h
    · rw [if_pos h, Bool.and_eq_true] at hf
      exact hf.1
    · rw [if_neg (by rw [h]; decide), if_pos h, Bool.and_eq_true] at hf
      exact hf.2
  unfold plainC at hp
  simp only [Bool.and_eq_true, decide_eq_true_eq] at hp
  rw [hp.1, hp.2.2.2.1, hp.2.2.2.2.2.1]
  rfl
theorem read_step {acc : List S35} {full : Bool} {pl nx pl' nx' : Int} {l l' : List UInt8} {N : Nat} {x : S35} (inv : ReadInv acc pl nx l N) (hl : l ≠ []) (h : pieceC full pl nx l = .ok (x, pl', nx', l')) :
    ReadInv (acc ++ [x]) pl' nx' l' N := by
  have hn : 0 ≤ nx ∧ nx ≤ 98000 := by
    rcases inv.num with ⟨_, e, _⟩ | ⟨_, e⟩ | ⟨_, h1, _, e⟩ <;> omega
  obtain ⟨q1, q2, q3⟩ := piece_len h hl hn
  have hok : ∀ y ∈ acc ++ [x], PieceOk y ∧ fitsC y = true := by
    intro y hy
    rcases List.mem_append.1 hy with hy | hy
    · exact inv.ok y hy
    · obtain rfl := List.mem_singleton.1 hy
      exact ⟨q1, q2⟩
  have hap : apart (acc ++ [x]) := by
    refine apart_snoc acc x inv.ap fun y hy hh => ?_
    rcases inv.last y hy hh.1 with e | ⟨t, e⟩
    · exact hl e
    · subst e
      exact piece_notxt h hn hh.2
  have hlast : ∀ y, (acc ++ [x]).getLast? = some y → y = x := fun y hy => by
    rw [List.getLast?_append] at hy
    simpa using hy.symm
  have lf := inv.lf
  rcases q3 with ⟨h0, rfl, rfl, he, hlen⟩ | ⟨h37, rfl, rfl, hlen⟩ | ⟨h0, p, hp1, rfl, hx, hnx, hc, hlen⟩
  · have hz := plain_nums q2 (Or.inl h0)
    refine ⟨hok, hap, fun y hy _ => he, ?_, ?_, fun hp => ?_⟩
    · rw [allC_snoc, hz, List.append_nil]; exact inv.num
    · rw [textsB_snoc]; have := hlen false; omega
    · rw [textsB_snoc]; have := hlen true; have := inv.lt hp; omega
  · have hz := plain_nums q2 (Or.inr h37)
    refine ⟨hok, hap, fun y hy h0 => ?_, ?_, ?_, fun hp => ?_⟩
    · rw [hlast y hy] at h0; omega
    · rw [allC_snoc, hz, List.append_nil]; exact inv.num
    · rw [textsB_snoc]; have := hlen false; omega
    · rw [textsB_snoc]; have := hlen true; have := inv.lt hp; omega
  · have h37 : ¬ x.f8 = 37 := (conv_fits hc).2.2.2
    have hbt : (textB x false).length ≤ (textB x true).length := by
      unfold textB
      rw [if_neg h0, if_neg h0, if_neg h37, if_neg h37, List.length_cons, List.length_cons]
      have := body_places x hc.i1.1
      omega
    have i1 := hc.i1
    cases p with
    | true =>
      have hp2 : pl ≠ 2 := by rcases hp1 with e | e <;> rw [e] <;> decide
      have hnx0 : nx = 0 := by
        rcases inv.num with ⟨_, e, _⟩ | ⟨_, e⟩ | ⟨e, _⟩
        · exact e
        · exact e
        · exact absurd e hp2
      have lt := inv.lt hp2
      refine ⟨hok, hap, fun y hy h0' => ?_, Or.inr (Or.inl ⟨rfl, ?_⟩), ?_, fun _ => ?_⟩
      · rw [hlast y hy] at h0'; exact absurd h0' h0
      · rw [hx, hnx0]; rfl
      · rw [textsB_snoc]; omega
      · rw [textsB_snoc]; omega
    | false =>
      have hseq : seqN 0 (allC acc) ∧ nx = ((allC acc).length : Int) := by
        rcases inv.num with ⟨_, e, e2⟩ | ⟨e, _⟩ | ⟨_, _, e, e2⟩
        · rw [e2]; exact ⟨trivial, e⟩
        · rcases hp1 with e' | e' <;> rw [e'] at e <;> exact absurd e (by decide)
        · exact ⟨e, e2⟩
      obtain ⟨s1, s2⟩ := seq_next_mk (hnx rfl) i1.1
      refine ⟨hok, hap, fun y hy h0' => ?_, Or.inr (Or.inr ⟨rfl, ?_, ?_, ?_⟩), ?_, fun h => absurd rfl h⟩
      · rw [hlast y hy] at h0'; exact absurd h0' h0
      · rw [hx]; exact i1.2
      · rw [allC_snoc]
        exact seqN_snoc _ 0 _ hseq.1 (by rw [show (0 : Int) + ((allC acc).length : Int) = nx by omega]; exact s1)
      · rw [hx, allC_snoc, List.length_append]
        show x.f1 = _
        omega
      · rw [textsB_snoc]; omega
end Go.Proofs.YtnhbgahfmcicnaaGreatDoor.PA
end
section
namespace Go.Proofs.YtnhbgahfmcicnaaGreatDoor.PA
set_option linter.unusedVariables false
set_option linter.unusedSimpArgs false
open Go.RowKit Go.Proofs.YtnhbgahfmcicnaaGreatDoorW.PrintWords Go.Proofs.YtnhbgahfmcicnaaGreatDoorW.PrintLast
theorem read_list : ∀ (n : Nat) (l : List UInt8) (acc : List S35) (pl nx : Int) (N : Nat) (L : List S35), l.length ≤ n → acc.length ≤ 500 → ReadInv acc pl nx l N → piecesC (l.length + 1) acc pl nx l = .ok L →
    ∃ pl' nx', ReadInv L pl' nx' [] N ∧ L.length ≤ 500 := by
  intro n
  induction n with
  | zero =>
    intro l acc pl nx N L hl ha inv h
    obtain rfl : l = [] := List.length_eq_zero_iff.1 (by omega)
    rw [piecesC_end] at h
    injection h with h
    subst h
    exact ⟨pl, nx, inv, ha⟩
  | succ n ih =>
    intro l acc pl nx N L hl ha inv h
    by_cases hne : l = []
    · subst hne
      rw [piecesC_end] at h
      injection h with h
      subst h
      exact ⟨pl, nx, inv, ha⟩
    · cases hp : pieceC (decide (acc.length = 500)) pl nx l with
      | error e =>
        rw [piecesC_err hne hp] at h
        cases h
      | ok r =>
        obtain ⟨x, pl', nx', l'⟩ := r
        by_cases hf : acc.length = 500
        · rw [piecesC_full hne hp hf] at h
          cases h
        · rw [← piecesC_step hne hp hf] at h
          have hlt := (pieceC_suf hp hne).2
          exact ih l' _ _ _ N L (by omega) (by rw [List.length_append, List.length_singleton]; omega) (read_step inv hne hp) h
theorem pieceC_code2 {full : Bool} {pl nx : Int} {l : List UInt8} {e : Int × List UInt8} (h : pieceC full pl nx l = .error e) : (e.1 = 2 ∨ e.1 = 6) ∧ e.2 <:+ l := by
  unfold pieceC at h
  split at h
  · split at h
    · injection h with h; rw [← h]; exact ⟨Or.inl rfl, List.suffix_refl _⟩
    · split at h
      · injection h with h; rw [← h]; exact ⟨Or.inr rfl, List.dropWhile_suffix _⟩
      · cases h
  · split at h
    · cases h
    · split at h
      · injection h with h; rw [← h]; exact ⟨Or.inr rfl, List.suffix_refl _⟩
      · split at h
        · injection h with h; rw [← h]; exact ⟨Or.inl rfl, List.suffix_refl _⟩
        · cases h
theorem piecesC_code2 : ∀ (k : Nat) (acc : List S35) (pl nx : Int) (l : List UInt8) (e : Int × List UInt8), piecesC k acc pl nx l = .error e → (e.1 = 2 ∨ e.1 = 6) ∧ e.2 <:+ l := by
  intro k
  induction k with
  | zero => intro acc pl nx l e h; cases h
  | succ k ih =>
    intro acc pl nx l e h
    unfold piecesC at h
    split at h
    · cases h
    · rename_i hne
      split at h
      · rename_i e' he
        injection h with h
        subst h
        exact pieceC_code2 he
      · rename_i x pl' nx' l' he
        split at h
        · injection h with h; rw [← h]; exact ⟨Or.inl rfl, List.suffix_refl _⟩
        · obtain ⟨h1, h2⟩ := ih _ _ _ _ _ h
          exact ⟨h1, h2.trans (pieceC_suf he hne).1⟩
theorem parse_valid {a : List UInt8} (h : (parseC a).2.1 = 0) :
    (parseC a).2.2 = 0 ∧ ListOk (parseC a).1 ∧ (∀ x ∈ (parseC a).1, PieceOk x) ∧ (textsB (parseC a).1 (!oneUp (allC (parseC a).1))).length ≤ a.length ∧ a.length ≤ 2000 := by
  have hm : parseC a = if 2000 < a.length then ([], 2, 0) else outC a.length (piecesC (a.length + 1) [] 0 0 a) := rfl
  by_cases h2 : 2000 < a.length
  · rw [hm, if_pos h2] at h
    cases h
  · rw [if_neg h2] at hm
    cases hp : piecesC (a.length + 1) [] 0 0 a with
    | error e =>
      exfalso
      rw [hm, hp] at h
      have he : e.1 = 0 := h
      have := (piecesC_code2 _ _ _ _ _ _ hp).1
      omega
    | ok L =>
      rw [hp] at hm
      unfold outC at hm
      dsimp only at hm
      by_cases hw : wholeC L = true
      · rw [if_pos hw] at hm
        obtain ⟨pl, nx, inv, hl⟩ := read_list _ a [] 0 0 a.length L (Nat.le_refl _) (Nat.zero_le _) ⟨fun x hx => absurd hx List.not_mem_nil, trivial, fun y hy => absurd hy (by simp), Or.inl ⟨rfl, rfl, rfl⟩, by show 0 + a.length ≤ a.length; omega, fun _ => by show 0 + a.length ≤ a.length; omega⟩ hp
        rw [hm]
        refine ⟨rfl, ⟨hl, fun x hx => (inv.ok x hx).2, inv.ap, hw⟩, fun x hx => (inv.ok x hx).1, ?_, by omega⟩
        have lf := inv.lf
        simp only [List.length_nil, Nat.add_zero] at lf
        cases ho : oneUp (allC L) with
        | true => exact lf
        | false =>
          have h3 : pl ≠ 2 := by
            intro e
            rcases inv.num with ⟨e', _⟩ | ⟨e', _⟩ | ⟨_, _, s, _⟩
            · omega
            · omega
            · rw [seqN_oneUp s] at ho; cases ho
          have := inv.lt h3
          simpa using this
      · rw [if_neg hw] at hm
        rw [hm] at h
        cases h
end Go.Proofs.YtnhbgahfmcicnaaGreatDoor.PA
end
