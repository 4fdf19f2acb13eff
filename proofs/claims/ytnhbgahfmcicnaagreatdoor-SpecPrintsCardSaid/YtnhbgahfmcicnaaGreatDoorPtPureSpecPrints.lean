/- A part of the proof of the claim's statement. -/
import Derived.Test.YtnhbgahfmcicnaaGreatDoorPtPAx17
import Derived.Test.YtnhbgahfmcicnaaGreatDoorPtPureSpecBack
section
namespace Go.Proofs.YtnhbgahfmcicnaaGreatDoor.Pure
set_option linter.unusedVariables false
set_option linter.unusedSimpArgs false
open Go.RowKit Go.Proofs.YtnhbgahfmcicnaaGreatDoor.PA Go.Proofs.YtnhbgahfmcicnaaGreatDoorW.PrintWords Go.Proofs.YtnhbgahfmcicnaaGreatDoorW.PrintLast
theorem foldl_max_ge : ∀ (A : List Int) (m : Int), m ≤ A.foldl max m ∧ (∀ x ∈ A, x ≤ A.foldl max m) ∧ (A.foldl max m = m ∨ A.foldl max m ∈ A)
 | [], m => ⟨Int.le_refl _, fun x h => absurd h List.not_mem_nil, Or.inl rfl⟩
 | a :: A, m => by
  obtain ⟨h1, h2, h3⟩ := foldl_max_ge A (max m a)
  rw [List.foldl_cons]
  refine ⟨by omega, fun x hx => ?_, ?_⟩
  ·rcases List.mem_cons.1 hx with rfl | hx
   ·omega
   ·exact h2 x hx
  ·rcases h3 with h3 | h3
   ·rcases (by omega : max m a = m ∨ max m a = a) with e | e
    ·left; rw [h3, e]
    ·right; rw [h3, e]; exact List.mem_cons_self
   ·right; exact List.mem_cons_of_mem _ h3
theorem max_most (A : List Int) : Lib.maxOf (A ++ [0]) = mostC A := by
 unfold Lib.maxOf
 obtain ⟨a1, a2, a3⟩ := foldl_max_ge (A ++ [0]) ((A ++ [0]).headD 0)
 obtain ⟨b1, b2, b3⟩ := fold_mx A 0
 show _ = A.foldl mx 0
 generalize (A ++ [0]).foldl max ((A ++ [0]).headD 0) = x at a1 a2 a3
 generalize A.foldl mx 0 = y at b1 b2 b3
 have h0 : (0 : Int) ≤ x := a2 0 (by simp)
 have hhd : (A ++ [0]).headD 0 ∈ A ++ [0] := by
  cases A with
  | nil => simp
  | cons a A => simp
 have hx : x ∈ A ++ [0] := by
  rcases a3 with e | e
  ·rw [e]; exact hhd
  ·exact e
 have h1 : x ≤ y := by
  rcases List.mem_append.1 hx with e | e
  ·exact b2 x e
  ·rw [List.mem_singleton.1 e]; exact b1
 have h2 : y ≤ x := by
  rcases b3 with e | e
  ·rw [e]; exact h0
  ·exact a2 y (List.mem_append.2 (Or.inl e))
 omega
theorem args_f {l : List S35} (hl : l.length ≤ 1000000) (hs : ∀ x ∈ l, x.f0.size < 4294967281) {k : Nat} (hk : 2 * l.length + 6 < k) :
  spec_Args.f k l = some (if (checkC l).1 = 0 then (mostC (allC l), 0) else (0, (checkC l).1)) := by
 unfold spec_Args.f
 rw [check_f l hl hs hk, Option.bind_some]
 by_cases h : (checkC l).1 = 0
 ·have hal := allC_length l
  rw [if_pos h, if_pos h, all_f l hl (by omega), Option.bind_some, if_pos (by omega)]
  unfold slices_Max_int_int.f
  rw [if_pos (by simp), Option.bind_some, max_most]
 ·rw [if_neg h, if_neg h]
theorem ordered_sf {l : List S35} (hl : l.length ≤ 1000000) (hs : ∀ x ∈ l, x.f0.size < 4294967281) {k : Nat} (hk : 3 * l.length + 6 < k) :
  spec_Ordered.f k l = some (if (checkC l).1 = 0 then (oneUp (allC l), 0) else (false, (checkC l).1)) := by
 unfold spec_Ordered.f
 rw [check_f l hl hs (by omega), Option.bind_some]
 by_cases h : (checkC l).1 = 0
 ·have hal := allC_length l
  rw [if_pos h, if_pos h, all_f l hl (by omega), Option.bind_some, ordered_f _ (by omega) (by omega), Option.bind_some]
 ·rw [if_neg h, if_neg h]
theorem rordered_go (ns : List Int) (hl : ns.length ≤ 10000000) : ∀ (d i k : Nat), i + d = ns.length → d < k → (∀ j, j < i → ns[j]?.getD 0 = (j : Int) + 1) →
  sorobanref21_Ordered.l0 k ns (i : Int) = some (oneUp ns) := by
 intro d
 induction d with
 | zero =>
  intro i k hi hk hj
  obtain ⟨k, rfl⟩ : ∃ j, k = j + 1 := ⟨k - 1, by omega⟩
  unfold sorobanref21_Ordered.l0
  rw [if_neg (by omega), oneUp_true fun j h => hj j (by omega)]
 | succ d ih =>
  intro i k hi hk hj
  obtain ⟨k, rfl⟩ : ∃ j, k = j + 1 := ⟨k - 1, by omega⟩
  have hlt : i < ns.length := by omega
  have hr : rd ns (i : Int) = ns[i]?.getD 0 := by
   unfold rd
   rw [Int.toNat_natCast, List.getD_eq_getElem?_getD]
  have hw : wrap64 ((i : Int) + 1) = ((i + 1 : Nat) : Int) := by unfold wrap64; omega
  unfold sorobanref21_Ordered.l0
  rw [if_pos (by omega), if_pos (by omega), hw, hr]
  by_cases e : ns[i]?.getD 0 = ((i + 1 : Nat) : Int)
  ·rw [if_pos e]
   exact ih (i + 1) k (by omega) (by omega) fun j h => by
    rcases (by omega : j < i ∨ j = i) with h | rfl
    ·exact hj j h
    ·rw [e]; omega
  ·rw [if_neg e, oneUp_false hlt (by omega)]
theorem rordered_f (l : List S35) (hl : l.length ≤ 1000000) {k : Nat} (hk : 5 * l.length < k) : sorobanref21_Ordered.f k l = some (oneUp (allC l)) := by
 have hal := allC_length l
 unfold sorobanref21_Ordered.f
 rw [numbers_f l hl hk, Option.bind_some]
 exact rordered_go (allC l) (by omega) (allC l).length 0 k (by omega) (by omega) fun j h => by omega
theorem rpiece_body {x : S35} (hp : PieceOk x) (hf : fitsC x = true) (h0 : ¬ x.f8 = 0) (h37 : ¬ x.f8 = 37) (k : Nat) (o : Bool) :
  sorobanref21_piece.f k x.f0 x.f1 x.f2 x.f3 x.f4 x.f5 x.f6 x.f7 x.f8 o = some (PA.strOf (37 :: bodyB x (!o))) := by
 have hf' := hf
 unfold fitsC at hf'
 rw [if_neg h0, if_neg h37] at hf'
 simp only [Bool.and_eq_true, decide_eq_true_eq] at hf'
 obtain ⟨q1, q2, q3, q4, q5, q6, q7, q8, q9, q10, q11⟩ := hf'
 have a7 : 0 ≤ x.f7 ∧ x.f7 < 12 := by
  unfold allowsC at q6
  repeat' split at q6
  all_goals simp only [Bool.and_eq_true, Bool.or_eq_true, decide_eq_true_eq] at q6; omega
 have a8 := hp.i8
 unfold sorobanref21_piece.f
 rw [if_pos ⟨hp.i1, hp.i3, hp.i4, hp.i5, hp.i6, a7.1, a7.2, a8.1, by omega⟩, ← shown_body]
 have e1 : rwidthB x.f3 x.f4 (!o) = widthB x.f3 x.f4 (!o) := by
  unfold argOk at q9
  simp only [Bool.and_eq_true, decide_eq_true_eq] at q9
  unfold withinC at q7
  simp only [Bool.and_eq_true, Bool.or_eq_true, decide_eq_true_eq] at q7
  unfold rwidthB widthB
  by_cases h4 : x.f4 = 0
  ·have n4 : ¬ 0 < x.f4 := by omega
   by_cases h3 : 0 ≤ x.f3
   ·have n3 : 0 < x.f3 := by omega
    simp only [h4, h3, n3, ne_eq, not_true_eq_false, if_true, if_false, Int.lt_irrefl]
   ·have n3 : ¬ 0 < x.f3 := by omega
    simp only [h4, h3, n3, ne_eq, not_true_eq_false, if_true, if_false, Int.lt_irrefl]
  ·have n4 : 0 < x.f4 := by omega
   simp only [h4, n4, ne_eq, not_false_eq_true, if_true]
 have e2 : rprecB x.f5 x.f6 (!o) = precB x.f5 x.f6 (!o) := by
  unfold argOk at q10
  simp only [Bool.and_eq_true, decide_eq_true_eq] at q10
  unfold rprecB precB
  by_cases h6 : x.f6 = 0
  ·by_cases h5 : x.f5 = 0
   ·simp only [h6, h5, ne_eq, not_true_eq_false, if_true, if_false, Int.lt_irrefl]
   ·by_cases h5p : 0 < x.f5
    ·simp only [h6, h5, h5p, ne_eq, not_true_eq_false, if_true, if_false, Int.lt_irrefl]
    ·simp only [h6, h5, h5p, ne_eq, not_true_eq_false, if_true, if_false, Int.lt_irrefl]
  ·have n6 : 0 < x.f6 := by omega
   simp only [h6, n6, ne_eq, not_false_eq_true, if_true]
 unfold rpieceB shownB
 rw [e1, e2]
theorem text_go (l : List S35) (o : Bool) (hl : l.length ≤ 1000000) (hp : ∀ x ∈ l, PieceOk x ∧ fitsC x = true) (hs : ∀ x ∈ l, x.f0.size ≤ 20000) : ∀ (d i k : Nat), i + d = l.length → d < k →
  sorobanref21_Text.l0 k l (PA.strOf (textsB (l.take i) (!o))) o (i : Int) = some (PA.strOf (textsB l (!o))) := by
 intro d
 induction d with
 | zero =>
  intro i k hi hk
  obtain ⟨k, rfl⟩ : ∃ j, k = j + 1 := ⟨k - 1, by omega⟩
  unfold sorobanref21_Text.l0
  rw [if_neg (by omega), List.take_of_length_le (by omega)]
 | succ d ih =>
  intro i k hi hk
  obtain ⟨k, rfl⟩ : ∃ j, k = j + 1 := ⟨k - 1, by omega⟩
  have hlt : i < l.length := by omega
  obtain ⟨hpx, hfx⟩ := hp _ (List.getElem_mem hlt)
  have hsx := hs _ (List.getElem_mem hlt)
  have hw : wrap64 ((i : Int) + 1) = ((i + 1 : Nat) : Int) := by unfold wrap64; omega
  have hT : textsB (l.take (i + 1)) (!o) = textsB (l.take i) (!o) ++ textB l[i] (!o) := by
   unfold textsB
   rw [← List.take_append_getElem hlt, List.flatMap_append]
   simp
  have hb1 := textsB_le (l := l.take i) (!o) (fun y hy => (hp y (List.mem_of_mem_take hy)).1) (fun y hy => hs y (List.mem_of_mem_take hy))
  have hb2 : (l.take i).length ≤ 1000000 := by rw [List.length_take]; omega
  have hb3 := textB_le hpx hsx (!o)
  have hb4 : (l.take i).length * 20100 ≤ 1000000 * 20100 := Nat.mul_le_mul_right _ hb2
  have ihk := ih (i + 1) k (by omega) (by omega)
  rw [hT] at ihk
  unfold sorobanref21_Text.l0
  rw [if_pos (by omega), if_pos (by omega), rd_T35_at l i hlt, hw]
  unfold textB at ihk hb3
  by_cases h0 : (l[i]).f8 = 0
  ·rw [if_pos h0] at ihk hb3 ⊢
   have e : PA.strOf (textsB (l.take i) (!o)) ++ (l[i]).f0 = PA.strOf (textsB (l.take i) (!o) ++ (l[i]).f0.data.toList) := by
    rw [← strOf_append]
    rfl
   rw [if_pos (by rw [PA.strOf_size]; omega), e]
   exact ihk
  ·rw [if_neg h0] at ihk hb3 ⊢
   by_cases h37 : (l[i]).f8 = 37
   ·rw [if_pos h37] at ihk hb3 ⊢
    have e : PA.strOf (textsB (l.take i) (!o)) ++ (⟨#[37, 37]⟩ : ByteArray) = PA.strOf (textsB (l.take i) (!o) ++ [37, 37]) := by
     rw [← strOf_append]
     rfl
    rw [if_pos (by rw [PA.strOf_size]; omega), e]
    exact ihk
   ·rw [if_neg h37] at ihk hb3 ⊢
    rw [rpiece_body hpx hfx h0 h37, Option.bind_some, if_pos (by rw [PA.strOf_size, PA.strOf_size]; omega), strOf_append]
    exact ihk
theorem text_f {l : List S35} (hl : l.length ≤ 1000000) (hp : ∀ x ∈ l, PieceOk x ∧ fitsC x = true) (hs : ∀ x ∈ l, x.f0.size ≤ 20000) {k : Nat} (hk : 5 * l.length < k) :
  sorobanref21_Text.f k l = some (PA.strOf (textsB l (!oneUp (allC l)))) := by
 unfold sorobanref21_Text.f
 rw [rordered_f l hl hk, Option.bind_some]
 exact text_go l _ hl hp hs l.length 0 k (by omega) (by omega)
theorem simple_flags : ∀ a : Fin 64, ∀ b d : Bool, canonF2 (canonF1 (a.val : Int)) (b && d) =
  (if Go.bits .and .i64 (simpleF1 (a.val : Int)) 16 != 0 then (if Go.bits .and .i64 (simpleF1 (a.val : Int)) 1 != 0 then wrap64 (simpleF1 (a.val : Int) - 16) else if d then (if b then wrap64 (simpleF1 (a.val : Int) - 16) else simpleF1 (a.val : Int)) else simpleF1 (a.val : Int)) else simpleF1 (a.val : Int)) := by decide +kernel
theorem di_byte : ∀ c : Fin 256, decide (0 ≤ Lib.indexByte (⟨#[100, 105, 117, 111, 120, 88, 98, 66]⟩ : ByteArray).data.toList ((c.val : Int)).toNat.toUInt8) = inDi (c.val : Int) := by decide +kernel
theorem fl_byte : ∀ c : Fin 256, decide ((ruleC (c.val : Int)).ln = bFloat) = inFl (c.val : Int) := by decide +kernel
theorem simple_eq {x : S35} (hp : PieceOk x) (hf : fitsC x = true) : sorobanref21_Simple.f x.f0 x.f1 x.f2 x.f3 x.f4 x.f5 x.f6 x.f7 x.f8 =
  some ((canon1 x).f0, (canon1 x).f1, (canon1 x).f2, (canon1 x).f3, (canon1 x).f4, (canon1 x).f5, (canon1 x).f6, (canon1 x).f7, (canon1 x).f8) := by
 have hfl : 0 ≤ x.f2 ∧ x.f2 ≤ 63 := by
  unfold fitsC at hf
  by_cases h0 : x.f8 = 0
  ·rw [if_pos h0] at hf
   unfold plainC at hf
   simp only [Bool.and_eq_true, decide_eq_true_eq] at hf
   omega
  ·rw [if_neg h0] at hf
   by_cases h37 : x.f8 = 37
   ·rw [if_pos h37] at hf
    unfold plainC at hf
    simp only [Bool.and_eq_true, decide_eq_true_eq] at hf
    omega
   ·rw [if_neg h37] at hf
    simp only [Bool.and_eq_true, decide_eq_true_eq] at hf
    obtain ⟨⟨m, hm, hfm, _⟩, _⟩ := (of_rule x.f8).2.2.2 hf.1
    have h5 := hf.2.2.2.2.1
    rw [hfm] at h5
    exact andNot_small hp.i2 (by simp only [List.mem_cons, List.not_mem_nil, or_false] at hm; omega) h5
 have h8 := hp.i8
 have e8 : ((x.f8.toNat : Nat) : Int) = x.f8 := by omega
 have ed := di_byte ⟨x.f8.toNat, by omega⟩
 have ef := fl_byte ⟨x.f8.toNat, by omega⟩
 dsimp only at ed ef
 rw [e8] at ed ef
 have h1 := simple_flags ⟨x.f2.toNat, by omega⟩ (decide (0 ≤ x.f5)) (inDi x.f8)
 dsimp only at h1
 rw [show ((x.f2.toNat : Nat) : Int) = x.f2 by omega] at h1
 unfold sorobanref21_Simple.f canon1
 dsimp only
 have e2 : canonF2 (canonF1 x.f2) (preciseC x) = simpleF2 (simpleF1 x.f2) x.f5 x.f8 := by
  unfold preciseC simpleF2
  rw [ed, h1]
 have e7 : canonL x.f8 x.f7 = simpleLen x.f7 x.f8 := by
  unfold canonL simpleLen
  rw [← ef]
  by_cases h7 : x.f7 = 3
  ·by_cases hb : (ruleC x.f8).ln = bFloat
   ·rw [if_pos ⟨hb, h7⟩, if_pos (by simp [h7]), if_pos (by simp [hb])]
   ·rw [if_neg (fun e => hb e.1), if_pos (by simp [h7]), if_neg (by simp [hb])]
  ·rw [if_neg (fun e => h7 e.2), if_neg (by simp [h7])]
 rw [e2, e7]
theorem prints_l0 (l : List S35) (hl : l.length ≤ 1000000) (hp : ∀ x ∈ l, PieceOk x ∧ fitsC x = true) : ∀ (d i k : Nat), i + d = l.length → d < k →
  sorobanlaw21_SpecPrints.l0 k l (l.map canon1) (i : Int) = some true := by
 intro d
 induction d with
 | zero =>
  intro i k hi hk
  obtain ⟨k, rfl⟩ : ∃ j, k = j + 1 := ⟨k - 1, by omega⟩
  unfold sorobanlaw21_SpecPrints.l0
  rw [if_neg (by rw [List.length_map]; omega)]
  rfl
 | succ d ih =>
  intro i k hi hk
  obtain ⟨k, rfl⟩ : ∃ j, k = j + 1 := ⟨k - 1, by omega⟩
  have hlt : i < l.length := by omega
  obtain ⟨hpx, hfx⟩ := hp _ (List.getElem_mem hlt)
  have hw : wrap64 ((i : Int) + 1) = ((i + 1 : Nat) : Int) := by unfold wrap64; omega
  unfold sorobanlaw21_SpecPrints.l0
  rw [if_pos (by rw [List.length_map]; omega), if_pos (by omega), if_pos (by omega), rd_T35_at l i hlt, rd_T35_at (l.map canon1) i (by rw [List.length_map]; exact hlt), simple_eq hpx hfx, Option.bind_some, hw, ih (i + 1) k (by omega) (by omega), List.getElem_map]
  show (if neqC (canon1 l[i]) (canon1 l[i]) = true then _ else _) = _
  rw [neqC_self]
  rfl
theorem SpecPrints (l : List S35) (hl : HandedL l) : ∃ k, sorobanlaw21_SpecPrints.f k l = some true := by
 obtain ⟨K, hK⟩ : ∃ K, l.length + 2000000 < K := ⟨_, Nat.lt_succ_self _⟩
 refine ⟨K, ?_⟩
 unfold sorobanlaw21_SpecPrints.f
 rw [small_f l (Nat.le_trans hl.1 (by decide)) (fun x hx => Nat.le_trans (hl.2 x hx).1 (by decide)) (by omega), Option.bind_some]
 cases hsm : smallC l with
 | false => rw [if_neg (by simp)]; rfl
 | true =>
  rw [if_pos rfl]
  unfold smallC at hsm
  simp only [Bool.and_eq_true, decide_eq_true_eq] at hsm
  have hs : ∀ x ∈ l, x.f0.size ≤ 20000 := fun x hx => Nat.le_trans (sizesC_mem hx) hsm.2
  have hs2 : ∀ x ∈ l, x.f0.size < 4294967281 := fun x hx => by have := hs x hx; omega
  have hp : ∀ x ∈ l, PieceOk x := fun x hx => (hl.2 x hx).2
  have hrc : sorobanref21_Check.f K l = some (checkC l) := rcheck_f l (by omega) (fun x hx => ⟨by have := hs x hx; omega, (hp x hx).i2⟩) (by omega)
  have hcan : spec_Canonical.f K l = some (if (checkC l).1 = 0 then (l.map canon1, 0) else ([], (checkC l).1)) := by
   unfold spec_Canonical.f
   rw [check_f l (by omega) hs2 (by omega), Option.bind_some]
   by_cases h : (checkC l).1 = 0
   ·rw [if_pos h, if_pos h, if_pos (by omega)]
   ·rw [if_neg h, if_neg h]
  by_cases hc : (checkC l).1 = 0
  ·have hc' := check_zero hc
   have h2 := check_ok hc'
   have hpf : ∀ x ∈ l, PieceOk x ∧ fitsC x = true := fun x hx => ⟨hp x hx, h2.fit x hx⟩
   have hj1 : sorobanlaw21_SpecPrints.j1 (K - 1) l (l.map canon1) (oneUp (allC l) != oneUp (allC l)) = some true := by
    obtain ⟨K', rfl⟩ : ∃ j, K = j + 2 := ⟨K - 2, by omega⟩
    show sorobanlaw21_SpecPrints.j1 (K' + 1) l (l.map canon1) _ = _
    unfold sorobanlaw21_SpecPrints.j1
    rw [bne_self_eq_false]
    dsimp only
    rw [if_neg (by decide)]
    exact prints_l0 l (by omega) hpf l.length 0 K' (by omega) (by omega)
   have hj0 : sorobanlaw21_SpecPrints.j0 K l (l.map canon1) 0 (mostC (allC l)) 0 (oneUp (allC l)) 0 = some true := by
    obtain ⟨K', rfl⟩ : ∃ j, K = j + 1 := ⟨K - 1, by omega⟩
    unfold sorobanlaw21_SpecPrints.j0
    dsimp only
    rw [if_pos rfl, if_pos (by rw [List.length_map]), if_pos rfl, most_f l (by omega) (by omega), Option.bind_some, if_pos rfl, if_pos rfl, rordered_f l (by omega) (by omega), Option.bind_some]
    exact hj1
   rw [print_f hc' hp hs (by omega), hcan, args_f (by omega) hs2 (by omega), ordered_sf (by omega) hs2 (by omega), hrc]
   simp only [Option.bind_some, if_pos hc]
   rw [text_f (by omega) hpf hs (by omega), Option.bind_some, PA.strOf_size]
   by_cases hb : 2000 < (textsB l (!oneUp (allC l))).length
   ·rw [if_pos hb, if_pos (by omega)]
    simp only [if_true]
    rw [if_pos (by rw [Lib.toList_data])]
    exact hj0
   ·rw [if_neg hb, if_neg (by omega)]
    simp only [if_true]
    exact hj0
  ·rw [print_bad hs (by omega) hc (by omega), hcan, args_f (by omega) hs2 (by omega), ordered_sf (by omega) hs2 (by omega), hrc]
   simp only [Option.bind_some, if_neg hc]
   unfold sorobanlaw21_sanity.f
   simp only [Option.bind_some, if_true]
   rw [if_pos (by rw [Lib.toList_data])]
   rfl
end Go.Proofs.YtnhbgahfmcicnaaGreatDoor.Pure
end
