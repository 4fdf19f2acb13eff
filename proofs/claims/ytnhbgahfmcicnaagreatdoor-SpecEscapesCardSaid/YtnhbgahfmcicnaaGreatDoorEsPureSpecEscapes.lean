/- A part of the proof of SpecEscapesCardSaid: the law answers true at every text, with no condition. -/
import Derived.Test.YtnhbgahfmcicnaaGreatDoorEsPAx13
section
namespace Go.Proofs.YtnhbgahfmcicnaaGreatDoor.Pure
set_option linter.unusedVariables false
open Go.RowKit Go.Proofs.YtnhbgahfmcicnaaGreatDoor.PA Go.Proofs.YtnhbgahfmcicnaaGreatDoorW.PrintWords Go.Proofs.YtnhbgahfmcicnaaGreatDoorW.PrintLast
def escC : List UInt8 → List UInt8
  | [] => []
  | c :: l => if c = 37 then 37 :: 37 :: escC l else c :: escC l
theorem escC_append (a b : List UInt8) : escC (a ++ b) = escC a ++ escC b := by
  induction a with
  | nil => rfl
  | cons c a ih =>
    rw [List.cons_append]
    conv => lhs; unfold escC
    conv => rhs; lhs; unfold escC
    split
    · rw [ih]; rfl
    · rw [ih]; rfl
theorem escC_length (l : List UInt8) : (escC l).length = l.length + l.count 37 := by
  induction l with
  | nil => rfl
  | cons c l ih =>
    unfold escC
    rw [List.count_cons]
    split
    · rename_i e
      subst e
      rw [List.length_cons, List.length_cons, List.length_cons, ih]
      simp
      omega
    · rename_i e
      rw [List.length_cons, List.length_cons, ih]
      have : (c == 37) = false := beq_eq_false_iff_ne.2 e
      rw [this]
      simp
      omega
theorem escC_le (l : List UInt8) : (escC l).length ≤ 2 * l.length := by
  have := List.count_le_length (a := (37 : UInt8)) (l := l)
  rw [escC_length]
  omega
theorem replaceK_esc : ∀ (l : List UInt8), Lib.replaceK [37] [37, 37] (Lib.count l [37]) l = escC l := by
  intro l
  induction l with
  | nil =>
    rw [Lib.count_one]
    rfl
  | cons c l ih =>
    by_cases hc : c = 37
    · subst hc
      rw [Lib.count_cons_eq, Nat.add_comm, Lib.replaceK_hit [37] [37, 37] _ _ 0 (by rw [Lib.index_one]; unfold Lib.indexByte; simp)]
      unfold escC
      rw [if_pos rfl]
      simpa using ih
    · rw [Lib.count_cons_ne _ _ _ hc]
      unfold escC
      rw [if_neg hc, ← ih]
      have hi : Lib.index (c :: l) [37] = if Lib.index l [37] == -1 then -1 else Lib.index l [37] + 1 := by
        rw [Lib.index_one, Lib.index_one]
        conv => lhs; unfold Lib.indexByte
        simp [hc]
      cases hk : Lib.count l [37] with
      | zero => rfl
      | succ k =>
        obtain ⟨i, hi2⟩ := Lib.index_of_count (s := l) (old := [37]) (by omega)
        rw [Lib.replaceK_hit _ _ _ l i hi2, Lib.replaceK_hit _ _ _ (c :: l) (i + 1) (by
          rw [hi, hi2]
          have : ((i : Int) == -1) = false := by rw [beq_eq_false_iff_ne]; omega
          rw [this]
          simp)]
        have e : i + 1 + [(37 : UInt8)].length = (i + [(37 : UInt8)].length) + 1 := by omega
        rw [e, List.take_succ_cons, List.drop_succ_cons]
        rfl
theorem replaceAll_esc (l : List UInt8) : Lib.replaceAll l [37] [37, 37] = escC l := by
  unfold Lib.replaceAll Lib.replace Lib.replaceNum
  have e : (([37] : List UInt8) == [37, 37]) = false := by decide
  rw [e, if_neg (by simp), if_pos (Or.inl (by omega))]
  exact replaceK_esc l
theorem escape_f (a0 : ByteArray) (h : a0.size ≤ 5000) :
    spec_Escape.f a0 = some (if a0.data.toList.contains 0 then ((⟨#[]⟩ : ByteArray), 6) else if 2000 < (escC a0.data.toList).length then ((⟨#[]⟩ : ByteArray), 2) else (⟨(escC a0.data.toList).toArray⟩, 0)) := by
  unfold spec_Escape.f strings_IndexByte.f
  rw [Option.bind_some]
  have hz : (Lib.indexByte a0.data.toList (0 : Int).toNat.toUInt8 ≥ 0) = (a0.data.toList.contains 0 = true) := by
    have := Lib.contains_iff_indexByte a0.data.toList 0
    rw [this]
    simp
  by_cases hc : a0.data.toList.contains 0 = true
  · rw [if_pos (by rw [hz]; exact hc), if_pos hc]
  · rw [if_neg (by rw [hz]; exact hc), if_neg hc]
    unfold strings_ReplaceAll.f
    have hcb : Lib.countB a0 ⟨#[37]⟩ ≤ a0.size := by
      have := Lib.countB_mul_le ⟨#[37]⟩ (by decide) a0.size a0 (Nat.le_refl _)
      have e : (⟨#[37]⟩ : ByteArray).size = 1 := rfl
      rw [e] at this
      omega
    have hs2 : (⟨#[37, 37]⟩ : ByteArray).size = 2 := rfl
    rw [if_pos ⟨by omega, by decide, by rw [hs2]; omega⟩, Option.bind_some]
    have e : Lib.replaceAll a0.data.toList (⟨#[37]⟩ : ByteArray).data.toList (⟨#[37, 37]⟩ : ByteArray).data.toList = escC a0.data.toList := replaceAll_esc _
    rw [e]
    have e2 : (⟨(escC a0.data.toList).toArray⟩ : ByteArray).size = (escC a0.data.toList).length := by
      show (escC a0.data.toList).toArray.size = _
      simp
    rw [e2]
    by_cases hl : 2000 < (escC a0.data.toList).length
    · rw [if_pos (by omega), if_pos hl]
    · rw [if_neg (by omega), if_neg hl]
def plainP (x : S35) : Prop := (x.f8 = 0 ∨ x.f8 = 37) ∧ x.f1 = 0 ∧ x.f4 = 0 ∧ x.f6 = 0
def backP (x : S35) : List UInt8 := (if x.f8 = 37 then [37] else []) ++ x.f0.data.toList
def backL (L : List S35) : List UInt8 := L.flatMap backP
theorem takeWhile_esc (l : List UInt8) : (escC l).takeWhile isTxt = l.takeWhile isTxt ∧ (escC l).dropWhile isTxt = escC (l.dropWhile isTxt) := by
  induction l with
  | nil => exact ⟨rfl, rfl⟩
  | cons c l ih =>
    by_cases hc : c = 37
    · subst hc
      unfold escC
      rw [if_pos rfl]
      exact ⟨rfl, by simp [isTxt]⟩
    · conv => lhs; lhs; unfold escC
      conv => rhs; lhs; unfold escC
      rw [if_neg hc]
      rw [List.takeWhile_cons, List.takeWhile_cons, List.dropWhile_cons, List.dropWhile_cons]
      cases ht : isTxt c with
      | true => exact ⟨by simp [ih.1], by simp [ih.2]⟩
      | false =>
        refine ⟨by simp, ?_⟩
        simp
        conv => rhs; unfold escC
        rw [if_neg hc]
theorem dropWhile_head (l : List UInt8) (h0 : ¬ (0 : UInt8) ∈ l) : ¬ (hdI ((escC l).dropWhile isTxt) = 0 ∧ (escC l).dropWhile isTxt ≠ []) := by
  rw [(takeWhile_esc l).2]
  have h0' : ¬ (0 : UInt8) ∈ l.dropWhile isTxt := fun h => h0 ((List.dropWhile_suffix _).subset h)
  cases hd : l.dropWhile isTxt with
  | nil => simp [escC]
  | cons c m =>
    rw [hd] at h0'
    rintro ⟨h1, _⟩
    unfold escC at h1
    split at h1
    · simp [hdI] at h1
    · simp only [hdI] at h1
      apply h0'
      have hc : c = 0 := by
        apply UInt8.toNat_inj.1
        have : (c.toNat : Int) = 0 := h1
        show c.toNat = 0
        omega
      rw [hc]
      exact List.mem_cons_self
theorem pieces_esc : ∀ (n : Nat) (l : List UInt8) (acc : List S35), l.length ≤ n → ¬ (0 : UInt8) ∈ l → (∀ x ∈ acc, plainP x) →
    (∃ t, piecesC ((escC l).length + 1) acc 0 0 (escC l) = .error (2, t)) ∨
    (∃ L, piecesC ((escC l).length + 1) acc 0 0 (escC l) = .ok L ∧ (∀ x ∈ L, plainP x) ∧ backL L = backL acc ++ l) := by
  intro n
  induction n with
  | zero =>
    intro l acc hl h0 ha
    have : l = [] := List.length_eq_zero_iff.1 (by omega)
    subst this
    exact Or.inr ⟨acc, piecesC_end, ha, by simp⟩
  | succ n ih =>
    intro l acc hl h0 ha
    cases l with
    | nil => exact Or.inr ⟨acc, piecesC_end, ha, by simp⟩
    | cons c l =>
      by_cases hc : c = 37
      · subst hc
        have e : escC (37 :: l) = 37 :: 37 :: escC l := by
          conv => lhs; unfold escC
          rw [if_pos rfl]
        have hp : pieceC (decide (acc.length = 500)) 0 0 (37 :: 37 :: escC l) = .ok (⟨⟨#[]⟩, 0, 0, -1, 0, -1, 0, 0, 37⟩, 0, 0, escC l) := by
          unfold pieceC
          simp [skipC]
        rw [e]
        by_cases hf : acc.length = 500
        · exact Or.inl ⟨_, piecesC_full (by simp) hp hf⟩
        · rw [← piecesC_step (by simp) hp hf]
          rcases ih l (acc ++ [⟨⟨#[]⟩, 0, 0, -1, 0, -1, 0, 0, 37⟩]) (by simp only [List.length_cons] at hl; omega) (fun h => h0 (List.mem_cons_of_mem _ h)) (by
            intro x hx
            rcases List.mem_append.1 hx with h | h
            · exact ha x h
            · obtain rfl := List.mem_singleton.1 h
              exact ⟨Or.inr rfl, rfl, rfl, rfl⟩) with ⟨t, ht⟩ | ⟨L, h1, h2, h3⟩
          · exact Or.inl ⟨t, ht⟩
          · refine Or.inr ⟨L, h1, h2, ?_⟩
            rw [h3]
            unfold backL
            rw [List.flatMap_append]
            simp [backP]
      · have e : escC (c :: l) = c :: escC l := by
          conv => lhs; unfold escC
          rw [if_neg hc]
        have hne : escC (c :: l) ≠ [] := by rw [e]; simp
        have hsk : skipC 37 (escC (c :: l)) = none := by rw [e]; simp [skipC, hc]
        have hct : isTxt c = true := by
          have : c ≠ 0 := fun h => h0 (by rw [h]; exact List.mem_cons_self)
          simp [isTxt, hc, this]
        by_cases hf : acc.length = 500
        · refine Or.inl ⟨escC (c :: l), piecesC_err hne ?_⟩
          unfold pieceC
          rw [hsk, hf]
          simp
        · have hp : pieceC (decide (acc.length = 500)) 0 0 (escC (c :: l)) = .ok (⟨⟨((c :: l).takeWhile isTxt).toArray⟩, 0, 0, -1, 0, -1, 0, 0, 0⟩, 0, 0, escC ((c :: l).dropWhile isTxt)) := by
            unfold pieceC
            rw [hsk]
            dsimp only
            rw [decide_eq_false hf, if_neg (by simp), if_neg (dropWhile_head _ h0), (takeWhile_esc _).1, (takeWhile_esc _).2]
          rw [← piecesC_step hne hp hf]
          have hs : (c :: l).dropWhile isTxt = l.dropWhile isTxt := by rw [List.dropWhile_cons, if_pos hct]
          have hlen : ((c :: l).dropWhile isTxt).length ≤ n := by
            rw [hs]
            have := (List.dropWhile_suffix (p := isTxt) (l := l)).length_le
            simp only [List.length_cons] at hl
            omega
          rcases ih ((c :: l).dropWhile isTxt) (acc ++ [⟨⟨((c :: l).takeWhile isTxt).toArray⟩, 0, 0, -1, 0, -1, 0, 0, 0⟩]) hlen (fun h => h0 ((List.dropWhile_suffix _).subset h)) (by
            intro x hx
            rcases List.mem_append.1 hx with h | h
            · exact ha x h
            · obtain rfl := List.mem_singleton.1 h
              exact ⟨Or.inl rfl, rfl, rfl, rfl⟩) with ⟨t, ht⟩ | ⟨L, h1, h2, h3⟩
          · exact Or.inl ⟨t, ht⟩
          · refine Or.inr ⟨L, h1, h2, ?_⟩
            rw [h3]
            unfold backL
            rw [List.flatMap_append]
            simp only [List.flatMap_cons, List.flatMap_nil, List.append_nil, List.append_assoc]
            congr 1
            show ([] : List UInt8) ++ (List.takeWhile isTxt (c :: l)).toArray.toList ++ _ = _
            simp [List.takeWhile_append_dropWhile]
theorem allC_plain {L : List S35} (h : ∀ x ∈ L, plainP x) : allC L = [] := by
  induction L with
  | nil => rfl
  | cons x L ih =>
    obtain ⟨_, h1, h4, h6⟩ := h x List.mem_cons_self
    rw [allC_cons, ih (fun y hy => h y (List.mem_cons_of_mem _ hy)), h1, h4, h6]
    rfl
theorem wholeC_nil {L : List S35} (h : allC L = []) : wholeC L = true := by
  unfold wholeC sortZ
  rw [h]
  simp
  rfl
theorem l0_f (a0 x3 : ByteArray) (x4 : Int) (hs : a0.size ≤ 5000) (k : Nat) : ∀ (d i : Nat) (x5 : ByteArray) (x6 : Bool), i + d = a0.size →
    x5.data.toList = escC (a0.data.toList.take i) → x6 = (a0.data.toList.take i).contains 0 →
    ∃ want : ByteArray, want.data.toList = escC a0.data.toList ∧ sorobanlaw21_SpecEscapes.l0 (d + (k + 1)) a0 x3 x4 x5 x6 (i : Int) =
      if a0.data.toList.contains 0 = true then sorobanlaw21_SpecEscapes.j1 k a0 x3 x4 want true true else sorobanlaw21_SpecEscapes.j1 k a0 x3 x4 want false (decide (2000 < (escC a0.data.toList).length)) := by
  have hsz : ∀ b : ByteArray, b.size = b.data.toList.length := fun b => by rw [Array.length_toList]; rfl
  intro d
  induction d with
  | zero =>
    intro i x5 x6 hi h5 h6
    have hlt : i = a0.data.toList.length := by rw [← hsz]; omega
    rw [hlt, List.take_length] at h5 h6
    refine ⟨x5, h5, ?_⟩
    rw [Nat.zero_add]
    simp only [sorobanlaw21_SpecEscapes.l0]
    rw [if_neg (by omega)]
    subst h6
    by_cases hc : a0.data.toList.contains 0 = true
    · rw [if_pos hc, if_pos hc, hc]
    · rw [if_neg hc, if_neg hc, Bool.eq_false_iff.2 hc]
      congr 1
      rw [← h5, ← hsz]
      exact decide_eq_decide.2 (by omega)
  | succ d ih =>
    intro i x5 x6 hi h5 h6
    have hil : i < a0.size := by omega
    have hil2 : i < a0.data.toList.length := by rw [← hsz]; omega
    have hw : wrap64 ((i : Int) + 1) = ((i + 1 : Nat) : Int) := by unfold wrap64; omega
    have hx : (a0.extract i (i + 1)).data.toList = [a0.data.toList[i]] := by
      rw [ByteArray.data_extract, Array.toList_extract]
      rw [List.extract_eq_take_drop, show i + 1 - i = 1 by omega, List.drop_eq_getElem_cons hil2]
      rfl
    have hx5 : x5.size ≤ 10000 := by
      have := escC_le (a0.data.toList.take i)
      rw [hsz, h5]
      rw [List.length_take] at this
      omega
    have hx1 : (a0.extract i (i + 1)).size = 1 := by rw [hsz, hx]; rfl
    have hb : bt a0 (i : Int) = ((a0.data.toList[i]).toNat : Int) := by
      unfold bt
      rw [Int.toNat_natCast, dif_pos hil]
      rfl
    have ht : a0.data.toList.take (i + 1) = a0.data.toList.take i ++ [a0.data.toList[i]] := (List.take_append_getElem hil2).symm
    have hz : ((a0.data.toList.take (i + 1)).contains 0) = (x6 || (bt a0 (i : Int) == 0)) := by
      rw [ht, hb, h6]
      have : (((a0.data.toList[i]).toNat : Int) == 0) = ((a0.data.toList[i]) == 0) := by
        rw [Bool.eq_iff_iff, beq_iff_eq, beq_iff_eq]
        constructor
        · intro h; exact UInt8.toNat_inj.1 (by show (a0.data.toList[i]).toNat = 0; omega)
        · intro h; rw [h]; rfl
      rw [this]
      rw [List.contains_append]
      congr 1
      rw [List.contains_cons, List.contains_nil, Bool.or_false, Bool.eq_iff_iff, beq_iff_eq, beq_iff_eq]
      exact ⟨fun h => h.symm, fun h => h.symm⟩
    have hstep : ∀ m : Nat, sorobanlaw21_SpecEscapes.l0 (m + 1) a0 x3 x4 x5 x6 (i : Int) =
        sorobanlaw21_SpecEscapes.l0 m a0 x3 x4 (if bt a0 (i : Int) = 37 then (x5 ++ a0.extract i (i + 1)) ++ ⟨#[37]⟩ else x5 ++ a0.extract i (i + 1)) (x6 || (bt a0 (i : Int) == 0)) ((i + 1 : Nat) : Int) := by
      intro m
      conv => lhs; simp only [sorobanlaw21_SpecEscapes.l0]
      rw [if_pos (by omega)]
      have hs1 : (x5 ++ a0.extract i (i + 1)).size ≤ 10001 := by rw [ByteArray.size_append]; omega
      simp only [hw, Int.toNat_natCast, if_pos (show (0 : Int) ≤ (i : Int) by omega), if_pos (show (i : Int) ≤ ((i + 1 : Nat) : Int) by omega), if_pos (show ((i + 1 : Nat) : Int) ≤ (a0.size : Int) by omega),
        if_pos (show x5.size + (a0.extract i (i + 1)).size ≤ 9223372036854775807 by omega), if_pos (show (x5 ++ a0.extract i (i + 1)).size + 1 ≤ 9223372036854775807 by omega)]
      cases x6 <;> by_cases hc : bt a0 (i : Int) = 37 <;> simp [hc]
    rw [show d + 1 + (k + 1) = (d + (k + 1)) + 1 by omega, hstep]
    refine ih (i + 1) _ _ (by omega) ?_ hz.symm
    rw [ht, escC_append, ← h5]
    have hc : (bt a0 (i : Int) = 37) ↔ (a0.data.toList[i] = 37) := by
      rw [hb]
      constructor
      · intro h; exact UInt8.toNat_inj.1 (by show (a0.data.toList[i]).toNat = 37; omega)
      · intro h; rw [h]; rfl
    by_cases h37 : bt a0 (i : Int) = 37
    · rw [if_pos h37, ByteArray.data_append, ByteArray.data_append, Array.toList_append, Array.toList_append, hx, hc.1 h37]
      simp [escC]
    · rw [if_neg h37, ByteArray.data_append, Array.toList_append, hx]
      have h37' : ¬ a0.data.toList[i] = 37 := fun h => h37 (hc.2 h)
      unfold escC
      rw [if_neg h37']
      rfl
theorem l1_f (a0 : ByteArray) (L : List S35) (hL : L.length ≤ 100000) (hP : ∀ x ∈ L, plainP x) (hB : backL L = a0.data.toList) (hs : a0.size ≤ 5000) (k : Nat) : ∀ (d i : Nat) (x11 : ByteArray), i + d = L.length →
    x11.data.toList = backL (L.take i) → sorobanlaw21_SpecEscapes.l1 (d + (k + 1)) a0 L x11 (i : Int) = some true := by
  have hsz : ∀ b : ByteArray, b.size = b.data.toList.length := fun b => by rw [Array.length_toList]; rfl
  intro d
  induction d with
  | zero =>
    intro i x11 hi h11
    have hlt : i = L.length := by omega
    rw [hlt, List.take_length] at h11
    rw [Nat.zero_add]
    simp only [sorobanlaw21_SpecEscapes.l1]
    rw [if_neg (by omega)]
    show some (x11.toList == a0.toList) = some true
    rw [Lib.toList_data, Lib.toList_data, h11, hB]
    simp
  | succ d ih =>
    intro i x11 hi h11
    have hil : i < L.length := by omega
    have hw : wrap64 ((i : Int) + 1) = ((i + 1 : Nat) : Int) := by unfold wrap64; omega
    have e : d + 1 + (k + 1) = (d + (k + 1)) + 1 := by omega
    rw [e]
    simp only [sorobanlaw21_SpecEscapes.l1]
    rw [if_pos (by omega), if_pos (by omega), rd_T35_at L i hil, hw]
    have ht : L.take (i + 1) = L.take i ++ [L[i]] := (List.take_append_getElem hil).symm
    have hbt : backL (L.take (i + 1)) = x11.data.toList ++ backP L[i] := by
      rw [ht, h11]
      unfold backL
      rw [List.flatMap_append]
      simp
    have hle : (backL (L.take (i + 1))).length ≤ 5000 := by
      have h1 : (backL L).length = (backL (L.take (i + 1))).length + (backL (L.drop (i + 1))).length := by
        rw [← List.length_append]
        unfold backL
        rw [← List.flatMap_append, List.take_append_drop]
      rw [hB, ← hsz] at h1
      omega
    obtain ⟨h8, _⟩ := hP _ (List.getElem_mem hil)
    by_cases h37 : (L[i]).f8 = 37
    · have hb : backP L[i] = 37 :: (L[i]).f0.data.toList := by unfold backP; rw [if_pos h37]; rfl
      have hl2 : x11.size + (1 + (L[i]).f0.size) ≤ 5000 := by
        rw [hbt, hb, List.length_append, List.length_cons, ← hsz, ← hsz] at hle
        omega
      have h1 : (x11 ++ (⟨#[37]⟩ : ByteArray)).size = x11.size + 1 := by rw [ByteArray.size_append]; rfl
      rw [if_pos h37, if_pos (by omega), if_pos (by omega)]
      refine ih (i + 1) _ (by omega) ?_
      rw [hbt, hb, ByteArray.data_append, ByteArray.data_append, Array.toList_append, Array.toList_append]
      simp
    · have h0 : (L[i]).f8 = 0 := by omega
      have hb : backP L[i] = (L[i]).f0.data.toList := by unfold backP; rw [if_neg h37]; rfl
      have hl2 : x11.size + (L[i]).f0.size ≤ 5000 := by
        rw [hbt, hb, List.length_append, ← hsz, ← hsz] at hle
        omega
      rw [if_neg h37, if_pos h0, if_pos (by omega)]
      refine ih (i + 1) _ (by omega) ?_
      rw [hbt, hb, ByteArray.data_append, Array.toList_append]
theorem piecesC_500 : ∀ (k : Nat) (acc : List S35) (pl nx : Int) (l : List UInt8) (L : List S35), acc.length ≤ 500 → piecesC k acc pl nx l = .ok L → L.length ≤ 500 := by
  intro k
  induction k with
  | zero =>
    intro acc pl nx l L ha h
    injection h with h
    subst h
    exact ha
  | succ k ih =>
    intro acc pl nx l L ha h
    unfold piecesC at h
    split at h
    · injection h with h
      subst h
      exact ha
    · split at h
      · cases h
      · split at h
        · cases h
        · exact ih _ _ _ _ _ (by rw [List.length_append, List.length_singleton]; omega) h
theorem nil_toList : (⟨#[]⟩ : ByteArray).toList = ([] : List UInt8) := by rw [Lib.toList_data]
theorem SpecEscapes : sorobanlaw21_SpecEscapes.Pure := by
  intro a0 _
  by_cases hs : a0.size ≤ 5000
  · have hsz : ∀ b : ByteArray, b.size = b.data.toList.length := fun b => by rw [Array.length_toList]; rfl
    refine ⟨a0.size + ((5000 + 1 + 1 + 1) + 1), ?_⟩
    unfold sorobanlaw21_SpecEscapes.f
    rw [if_neg (by omega), escape_f a0 hs, Option.bind_some]
    generalize hE : (if a0.data.toList.contains 0 = true then ((⟨#[]⟩ : ByteArray), (6 : Int)) else if 2000 < (escC a0.data.toList).length then ((⟨#[]⟩ : ByteArray), 2) else (⟨(escC a0.data.toList).toArray⟩, 0)) = E
    obtain ⟨want, hw, hl0⟩ := l0_f a0 E.1 E.2 hs (5000 + 1 + 1 + 1) a0.size 0 (⟨#[]⟩ : ByteArray) false (by omega) rfl rfl
    show sorobanlaw21_SpecEscapes.l0 _ a0 E.1 E.2 _ _ (0 : Int) = _
    rw [show (0 : Int) = ((0 : Nat) : Int) from rfl, hl0]
    clear hl0
    by_cases hc : a0.data.toList.contains 0 = true
    · rw [if_pos hc] at hE ⊢
      subst hE
      simp only [sorobanlaw21_SpecEscapes.j1]
      rw [if_pos trivial, if_pos nil_toList]
      rfl
    · rw [if_neg hc] at hE ⊢
      by_cases hl : 2000 < (escC a0.data.toList).length
      · rw [if_pos hl] at hE
        subst hE
        rw [decide_eq_true hl]
        simp only [sorobanlaw21_SpecEscapes.j1]
        rw [if_pos trivial, if_pos nil_toList]
        rfl
      · rw [if_neg hl] at hE
        subst hE
        rw [decide_eq_false hl]
        have h0 : ¬ (0 : UInt8) ∈ a0.data.toList := fun h => hc (List.contains_iff_mem.2 h)
        simp only [sorobanlaw21_SpecEscapes.j1]
        rw [if_neg (by simp)]
        unfold spec_Parse.f
        rw [Option.bind_some, if_pos trivial]
        have e1 : ((⟨(escC a0.data.toList).toArray⟩ : ByteArray).toList != want.toList) = false := by
          rw [Lib.toList_data, Lib.toList_data, hw]
          simp
        rw [e1]
        show sorobanlaw21_SpecEscapes.j2 _ a0 (parseC (escC a0.data.toList)).1 (parseC (escC a0.data.toList)).2.1 false = some true
        unfold parseC
        rw [if_neg hl]
        rcases pieces_esc _ a0.data.toList [] (Nat.le_refl _) h0 (fun x hx => absurd hx (List.not_mem_nil)) with ⟨t, ht⟩ | ⟨L, h1, h2, h3⟩
        · rw [ht]
          rfl
        · rw [h1]
          unfold outC
          dsimp only
          rw [if_pos (wholeC_nil (allC_plain h2))]
          simp only [sorobanlaw21_SpecEscapes.j2]
          rw [if_neg (by simp), if_pos trivial]
          have hLl : L.length ≤ 500 := piecesC_500 _ _ _ _ _ _ (Nat.zero_le _) h1
          have := l1_f a0 L (by omega) h2 (by rw [h3]; rfl) hs (5000 - L.length) L.length 0 (⟨#[]⟩ : ByteArray) (by omega) rfl
          rw [show L.length + (5000 - L.length + 1) = 5000 + 1 by omega] at this
          exact this
  · refine ⟨1, ?_⟩
    unfold sorobanlaw21_SpecEscapes.f
    rw [if_pos (by omega)]
    rfl
end Go.Proofs.YtnhbgahfmcicnaaGreatDoor.Pure
end
