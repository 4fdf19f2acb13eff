/- A part of the proof of the claim's statement. -/
import Derived.Test.YtnhbgahfmcicnaaGreatDoorCnPureSpecBack
section
namespace Go.Proofs.YtnhbgahfmcicnaaGreatDoor.Pure
set_option linter.unusedVariables false
set_option linter.unusedSimpArgs false
open Go.RowKit Go.Proofs.YtnhbgahfmcicnaaGreatDoor.PA Go.Proofs.YtnhbgahfmcicnaaGreatDoorW.PrintWords Go.Proofs.YtnhbgahfmcicnaaGreatDoorW.PrintLast
def flagsOk1 (a : Nat) (b : Bool) : Bool :=
  decide (0 ≤ canonF2 (canonF1 (a : Int)) b ∧ canonF2 (canonF1 (a : Int)) b ≤ 63) && (decide (Go.bits .and .i64 (canonF2 (canonF1 (a : Int)) b) (a : Int) = canonF2 (canonF1 (a : Int)) b) && (decide (canonF2 (canonF1 (canonF2 (canonF1 (a : Int)) b)) b = canonF2 (canonF1 (a : Int)) b) &&
    ((([55, 49, 25, 31, 63, 1, 0] : List Nat).all fun m => !decide (Go.bits .andNot .i64 (a : Int) (m : Int) = 0) || decide (Go.bits .andNot .i64 (canonF2 (canonF1 (a : Int)) b) (m : Int) = 0)) && decide ((flagMarks (canonF2 (canonF1 (a : Int)) b) 6).length ≤ (flagMarks (a : Int) 6).length))))
theorem flags1_all : ∀ a : Fin 64, ∀ b : Bool, flagsOk1 a.val b = true := by decide +kernel
structure Flags1 (a c : Int) (b : Bool) : Prop where
  lo : 0 ≤ c
  hi : c ≤ 63
  sub : Go.bits .and .i64 c a = c
  idem : canonF2 (canonF1 c) b = c
  rule : ∀ m ∈ ([55, 49, 25, 31, 63, 1, 0] : List Nat), Go.bits .andNot .i64 a (m : Int) = 0 → Go.bits .andNot .i64 c (m : Int) = 0
  len : (flagMarks c 6).length ≤ (flagMarks a 6).length
theorem flags1 {a : Int} (h0 : 0 ≤ a) (h1 : a ≤ 63) (b : Bool) : Flags1 a (canonF2 (canonF1 a) b) b := by
  obtain ⟨n, rfl⟩ : ∃ n : Nat, a = (n : Int) := ⟨a.toNat, by omega⟩
  have h := flags1_all ⟨n, by omega⟩ b
  unfold flagsOk1 at h
  simp only [Bool.and_eq_true, decide_eq_true_eq, List.all_eq_true, Bool.or_eq_true, Bool.not_eq_true', decide_eq_false_iff_not] at h
  obtain ⟨⟨q1, q2⟩, q3, q4, q5, q6⟩ := h
  exact ⟨q1, q2, q3, q4, fun m hm e => (q5 m hm).resolve_left fun h => h e, q6⟩
theorem canonL_idem (c n : Int) : canonL c (canonL c n) = canonL c n := by
  unfold canonL
  by_cases h : (ruleC c).ln = bFloat ∧ n = 3
  · rw [if_pos h, if_neg (by omega)]
  · rw [if_neg h, if_neg h]
theorem canonL_cases (c n : Int) : canonL c n = n ∨ (canonL c n = 0 ∧ n = 3) := by
  unfold canonL
  by_cases h : (ruleC c).ln = bFloat ∧ n = 3
  · rw [if_pos h]; exact Or.inr ⟨rfl, h.2⟩
  · rw [if_neg h]; exact Or.inl rfl
theorem canon_idem {x : S35} (h0 : 0 ≤ x.f2) (h1 : x.f2 ≤ 63) : canon1 (canon1 x) = canon1 x := by
  have e := (flags1 h0 h1 (preciseC x)).idem
  have e2 := canonL_idem x.f8 x.f7
  unfold canon1
  show ({ x with f2 := canonF2 (canonF1 (canonF2 (canonF1 x.f2) (preciseC x))) (preciseC x), f7 := canonL x.f8 (canonL x.f8 x.f7) } : S35) = _
  rw [e, e2]
theorem fits_flags {x : S35} (hp : PieceOk x) (hf : fitsC x = true) : 0 ≤ x.f2 ∧ x.f2 ≤ 63 := by
  by_cases h0 : x.f8 = 0
  · unfold fitsC at hf
    rw [if_pos h0] at hf
    unfold plainC at hf
    simp only [Bool.and_eq_true, decide_eq_true_eq] at hf
    omega
  · by_cases h37 : x.f8 = 37
    · unfold fitsC at hf
      rw [if_neg h0, if_pos h37] at hf
      unfold plainC at hf
      simp only [Bool.and_eq_true, decide_eq_true_eq] at hf
      omega
    · exact (conv_ok hp hf h0 h37).i2
theorem canon_plain {x : S35} (h2 : x.f2 = 0) (h7 : x.f7 = 0) : canon1 x = x := by
  have e : ∀ b : Bool, canonF2 (canonF1 0) b = 0 := by decide +kernel
  unfold canon1
  rw [h2, e, h7]
  have e7 : canonL x.f8 0 = 0 := by
    rcases canonL_cases x.f8 0 with h | h
    · exact h
    · exact h.1
  rw [e7, ← h2]
  cases x
  simp only at h2 h7
  subst h2 h7
  rfl
theorem plain_canon {x : S35} (h : plainC x = true) : canon1 x = x := by
  unfold plainC at h
  simp only [Bool.and_eq_true, decide_eq_true_eq] at h
  exact canon_plain h.2.1 h.2.2.2.2.2.2
theorem fits_plain {x : S35} (hf : fitsC x = true) (h : x.f8 = 0 ∨ x.f8 = 37) : plainC x = true := by
  unfold fitsC at hf
  by_cases h0 : x.f8 = 0
  · rw [if_pos h0] at hf
    exact (Bool.and_eq_true _ _ ▸ hf).1
  · rw [if_neg h0, if_pos (by omega)] at hf
    exact (Bool.and_eq_true _ _ ▸ hf).2
theorem allows_canon {c n : Int} (h : allowsC (ruleC c).ln n = true) : allowsC (ruleC c).ln (canonL c n) = true := by
  unfold canonL
  by_cases hc : (ruleC c).ln = bFloat ∧ n = 3
  · rw [if_pos hc, hc.1]; rfl
  · rw [if_neg hc]; exact h
theorem fits_canon {x : S35} (hp : PieceOk x) (hf : fitsC x = true) : fitsC (canon1 x) = true := by
  by_cases h : x.f8 = 0 ∨ x.f8 = 37
  · rw [plain_canon (fits_plain hf h)]; exact hf
  · have hfl := fits_flags hp hf
    have F := flags1 hfl.1 hfl.2 (preciseC x)
    have hf' := hf
    unfold fitsC at hf ⊢
    rw [if_neg (by omega), if_neg (by omega)] at hf
    show (if x.f8 = 0 then _ else if x.f8 = 37 then _ else _) = true
    rw [if_neg (by omega), if_neg (by omega)]
    simp only [Bool.and_eq_true, decide_eq_true_eq] at hf ⊢
    obtain ⟨ho, hl, ha, hb, h2, hln, hr⟩ := hf
    obtain ⟨m, hm, e⟩ := rule_fl _ ho
    refine ⟨ho, hl, ha, hb, ?_, allows_canon hln, hr⟩
    show Go.bits .andNot .i64 (canonF2 (canonF1 x.f2) (preciseC x)) (ruleC x.f8).fl = 0
    rw [e] at h2 ⊢
    exact F.rule m hm h2
theorem piece_canon {x : S35} (hp : PieceOk x) (hf : fitsC x = true) : PieceOk (canon1 x) := by
  have hfl := fits_flags hp hf
  have F := flags1 hfl.1 hfl.2 (preciseC x)
  have h7 := hp.i7
  refine ⟨hp.i1, ⟨?_, ?_⟩, hp.i3, hp.i4, hp.i5, hp.i6, ?_, hp.i8⟩
  · have := F.lo; show (_ : Int) ≤ canonF2 (canonF1 x.f2) (preciseC x); omega
  · have := F.hi; show canonF2 (canonF1 x.f2) (preciseC x) ≤ (_ : Int); omega
  · show In64 (canonL x.f8 x.f7)
    rcases canonL_cases x.f8 x.f7 with e | e
    · rw [e]; exact h7
    · rw [e.1]; exact ⟨by decide, by decide⟩
theorem allC_canon : ∀ l : List S35, allC (l.map canon1) = allC l
  | [] => rfl
  | x :: l => by
    rw [List.map_cons, allC_cons, allC_cons, allC_canon l]
    rfl
theorem apart_canon : ∀ l : List S35, apart l → apart (l.map canon1)
  | [], _ => trivial
  | [_], _ => trivial
  | x :: y :: l, h => ⟨h.1, apart_canon (y :: l) h.2⟩
theorem canon_ok {l : List S35} (h : ListOk l) (hp : ∀ x ∈ l, PieceOk x) : ListOk (l.map canon1) ∧ ∀ x ∈ l.map canon1, PieceOk x := by
  refine ⟨⟨by rw [List.length_map]; exact h.len, fun x hx => ?_, apart_canon l h.apart, ?_⟩, fun x hx => ?_⟩
  · obtain ⟨y, hy, rfl⟩ := List.mem_map.1 hx
    exact fits_canon (hp y hy) (h.fit y hy)
  · unfold wholeC
    rw [allC_canon]
    exact h.whole
  · obtain ⟨y, hy, rfl⟩ := List.mem_map.1 hx
    exact piece_canon (hp y hy) (h.fit y hy)
theorem canon_twice {l : List S35} (h : ListOk l) (hp : ∀ x ∈ l, PieceOk x) : (l.map canon1).map canon1 = l.map canon1 := by
  rw [List.map_map]
  refine List.map_congr_left fun x hx => ?_
  have hfl := fits_flags (hp x hx) (h.fit x hx)
  exact canon_idem hfl.1 hfl.2
theorem canon_len {x : S35} (hp : PieceOk x) (hf : fitsC x = true) (p : Bool) : (textB (canon1 x) p).length ≤ (textB x p).length := by
  by_cases h : x.f8 = 0 ∨ x.f8 = 37
  · rw [plain_canon (fits_plain hf h)]; exact Nat.le_refl _
  · have hfl := fits_flags hp hf
    have F := (flags1 hfl.1 hfl.2 (preciseC x)).len
    unfold textB
    show (if x.f8 = 0 then _ else if x.f8 = 37 then _ else (37 :: bodyB (canon1 x) p)).length ≤ _
    rw [if_neg (by omega), if_neg (by omega), if_neg (by omega), if_neg (by omega)]
    have e7 : (mods.getD (canonL x.f8 x.f7).toNat []).length ≤ (mods.getD x.f7.toNat []).length := by
      rcases canonL_cases x.f8 x.f7 with e | e
      · rw [e]; exact Nat.le_refl _
      · rw [e.1]; exact Nat.zero_le _
    show (37 :: ((if p then Lib.itoa x.f1 ++ [36] else []) ++ (flagMarks (canonF2 (canonF1 x.f2) (preciseC x)) 6 ++ (widthB x.f3 x.f4 p ++ (precB x.f5 x.f6 p ++ (mods.getD (canonL x.f8 x.f7).toNat [] ++ [x.f8.toNat.toUInt8])))))).length ≤ (37 :: ((if p then Lib.itoa x.f1 ++ [36] else []) ++ (flagMarks x.f2 6 ++ (widthB x.f3 x.f4 p ++ (precB x.f5 x.f6 p ++ (mods.getD x.f7.toNat [] ++ [x.f8.toNat.toUInt8])))))).length
    simp only [List.length_cons, List.length_append]
    omega
theorem canon_texts : ∀ {l : List S35} (p : Bool), (∀ x ∈ l, PieceOk x ∧ fitsC x = true) → (textsB (l.map canon1) p).length ≤ (textsB l p).length
  | [], _, _ => Nat.le_refl _
  | x :: l, p, h => by
    have h1 := canon_len (h x List.mem_cons_self).1 (h x List.mem_cons_self).2 p
    have h2 := canon_texts (l := l) p fun y hy => h y (List.mem_cons_of_mem _ hy)
    unfold textsB at h2 ⊢
    simp only [List.map_cons, List.flatMap_cons, List.length_append]
    omega
end Go.Proofs.YtnhbgahfmcicnaaGreatDoor.Pure
end
