/- A part of the proof of the claim's statement. -/
import Derived.Test.YtnhbgahfmcicnaaGreatDoorPcM23
import Derived.Test.YtnhbgahfmcicnaaGreatDoorPcPQx1
section
namespace Go.Proofs.YtnhbgahfmcicnaaGreatDoor.Pure
set_option linter.unusedVariables false
set_option linter.unusedSimpArgs false
open Go.RowKit Go.Proofs.YtnhbgahfmcicnaaGreatDoor.PA Go.Proofs.YtnhbgahfmcicnaaGreatDoorW.PrintWords Go.Proofs.YtnhbgahfmcicnaaGreatDoorW.PrintLast
theorem later_f (x : S35) (s : Int) (k : Nat) (hs : 0 ≤ s ∧ s ≤ 100) (h : x.f1 ≤ 100 ∧ x.f4 ≤ 100 ∧ x.f6 ≤ 100) :
    PQ.sorobanlaw21_later.f (k + 1) x.f0 x.f1 x.f2 x.f3 x.f4 x.f5 x.f6 x.f7 x.f8 s =
      some ((later s x).f0, (later s x).f1, (later s x).f2, (later s x).f3, (later s x).f4, (later s x).f5, (later s x).f6, (later s x).f7, (later s x).f8) := by
  unfold PQ.sorobanlaw21_later.f PQ.sorobanlaw21_later.j0 later
  by_cases h1 : 0 < x.f1 <;> by_cases h4 : 0 < x.f4 <;> by_cases h6 : 0 < x.f6 <;>
    simp only [h1, h4, h6, gt_iff_lt, if_true, if_false] <;>
    (try rw [wrap_small (z := x.f1 + s) (by omega) (by omega)]) <;> (try rw [wrap_small (z := x.f4 + s) (by omega) (by omega)]) <;> (try rw [wrap_small (z := x.f6 + s) (by omega) (by omega)])
theorem noPos_at (l : List UInt8) (i : Nat) (h : i + 1 < l.length) (h0 : l[i + 1] = 36) (h1 : isDig ((l[i]'(by omega)).toNat : Int) = true) : noPos l = false := by
  cases hn : noPos l with
  | false => rfl
  | true =>
    exfalso
    have hd : l = l.take i ++ l[i]'(by omega) :: l[i + 1] :: l.drop (i + 2) := by
      conv => lhs; rw [← List.take_append_drop i l, List.drop_eq_getElem_cons (by omega), List.drop_eq_getElem_cons h]
    rw [hd] at hn
    have := noPos_drop _ hn
    unfold noPos at this
    rw [h0, decide_eq_true rfl, h1] at this
    cases this
theorem noPos_all : ∀ (l : List UInt8), (∀ i (h : i + 1 < l.length), ¬ (l[i + 1] = 36 ∧ isDig ((l[i]'(by omega)).toNat : Int) = true)) → noPos l = true
  | [], _ => rfl
  | [_], _ => rfl
  | d :: c :: l, h => by
    unfold noPos
    rw [noPos_all (c :: l) fun i hi => h (i + 1) (by simpa using hi), Bool.and_true]
    have := h 0 (by simp)
    by_cases e : c = 36
    · cases hd : isDig (d.toNat : Int) with
      | false => simp
      | true => exact absurd ⟨e, hd⟩ this
    · simp [e]
theorem bt_list (a : ByteArray) (i : Nat) (h : i < a.data.toList.length) : bt a (i : Int) = ((a.data.toList[i]).toNat : Int) := by
  unfold bt
  have hs : a.data.toList.length = a.size := by rw [Array.length_toList]; rfl
  rw [dif_pos (by rw [Int.toNat_natCast]; omega)]
  rfl
theorem pos_go (a : ByteArray) (hl : a.size ≤ 140737488351232) : ∀ (d i k : Nat), i + d = a.size → d < k → 1 ≤ i → (∀ j (h : j + 1 < a.data.toList.length), j + 1 < i → ¬ (a.data.toList[j + 1] = 36 ∧ isDig ((a.data.toList[j]'(by omega)).toNat : Int) = true)) →
    PQ.sorobanlaw21_positions.l0 k a (i : Int) = some (!noPos a.data.toList) := by
  intro d
  have hs : a.data.toList.length = a.size := by rw [Array.length_toList]; rfl
  induction d with
  | zero =>
    intro i k hi hk h1 hj
    obtain ⟨k, rfl⟩ : ∃ j, k = j + 1 := ⟨k - 1, by omega⟩
    unfold PQ.sorobanlaw21_positions.l0
    rw [if_neg (by omega), noPos_all _ fun j h => hj j h (by omega)]
    rfl
  | succ d ih =>
    intro i k hi hk h1 hj
    obtain ⟨k, rfl⟩ : ∃ j, k = j + 1 := ⟨k - 1, by omega⟩
    obtain ⟨m, rfl⟩ : ∃ m, i = m + 1 := ⟨i - 1, by omega⟩
    have w1 : wrap64 (((m + 1 : Nat) : Int) - 1) = (m : Int) := by unfold wrap64; omega
    have w2 : wrap64 (((m + 1 : Nat) : Int) + 1) = ((m + 2 : Nat) : Int) := by unfold wrap64; omega
    have b1 := bt_list a (m + 1) (by omega)
    have b0 := bt_list a m (by omega)
    have next : ¬ (a.data.toList[m + 1]'(by omega) = 36 ∧ isDig ((a.data.toList[m]'(by omega)).toNat : Int) = true) → PQ.sorobanlaw21_positions.l0 k a ((m + 2 : Nat) : Int) = some (!noPos a.data.toList) := fun hn =>
      ih (m + 2) k (by omega) (by omega) (by omega) fun j h hji => by
        rcases (by omega : j + 1 < m + 1 ∨ j = m) with e | rfl
        · exact hj j h e
        · exact hn
    unfold PQ.sorobanlaw21_positions.l0
    rw [if_pos (by omega), if_pos (by omega), w1, w2, b1, b0]
    by_cases c1 : ((a.data.toList[m + 1]'(by omega)).toNat : Int) = 36
    · have c1' : a.data.toList[m + 1]'(by omega) = 36 := UInt8.toNat_inj.1 (by show _ = 36; omega)
      rw [if_pos c1, if_pos (by omega), if_pos (by omega)]
      by_cases c2 : 48 ≤ ((a.data.toList[m]'(by omega)).toNat : Int)
      · rw [if_pos c2]
        by_cases c3 : ((a.data.toList[m]'(by omega)).toNat : Int) ≤ 57
        · rw [if_pos c3, noPos_at _ m (by omega) c1' (by unfold isDig; rw [decide_eq_true c2, decide_eq_true c3]; rfl)]
          rfl
        · rw [if_neg c3]
          exact next fun h => c3 (by have := h.2; unfold isDig at this; simp only [Bool.and_eq_true, decide_eq_true_eq] at this; exact this.2)
      · rw [if_neg c2]
        exact next fun h => c2 (by have := h.2; unfold isDig at this; simp only [Bool.and_eq_true, decide_eq_true_eq] at this; exact this.1)
    · rw [if_neg c1]
      exact next fun h => c1 (by rw [h.1]; rfl)
theorem pos_f (a : ByteArray) (hl : a.size ≤ 140737488351232) {k : Nat} (hk : a.size + 1 < k) : PQ.sorobanlaw21_positions.f k a = some (!noPos a.data.toList) := by
  unfold PQ.sorobanlaw21_positions.f
  have hs : a.data.toList.length = a.size := by rw [Array.length_toList]; rfl
  by_cases h : a.size = 0
  · obtain ⟨k, rfl⟩ : ∃ j, k = j + 1 := ⟨k - 1, by omega⟩
    unfold PQ.sorobanlaw21_positions.l0
    have e : a.data.toList = [] := List.length_eq_zero_iff.1 (by omega)
    rw [if_neg (by omega), e]
    rfl
  · exact pos_go a hl (a.size - 1) 1 k (by omega) (by omega) (by omega) fun j _ hj => by omega
end Go.Proofs.YtnhbgahfmcicnaaGreatDoor.Pure
end
section
namespace Go.Proofs.YtnhbgahfmcicnaaGreatDoor.Pure
set_option linter.unusedVariables false
set_option linter.unusedSimpArgs false
open Go.RowKit Go.Proofs.YtnhbgahfmcicnaaGreatDoor.PA Go.Proofs.YtnhbgahfmcicnaaGreatDoorW.PrintWords Go.Proofs.YtnhbgahfmcicnaaGreatDoorW.PrintLast
theorem join_nil (s : Int) (L : List S35) : joinC s L [] = L := by
  unfold joinC
  cases L.getLast? <;> simp
theorem join_meet {s : Int} {L M : List S35} {n : Nat} (hn : L.length = n + 1) (hM : 0 < M.length) (h1 : (M[0]'hM).f8 = 0) (h2 : (L[n]'(by omega)).f8 = 0) :
    joinC s L (M.take 1) = L.set n { L[n]'(by omega) with f0 := (L[n]'(by omega)).f0 ++ (M[0]'hM).f0 } := by
  cases M with
  | nil => simp at hM
  | cons m M' =>
    have hl : L.getLast? = some (L[n]'(by omega)) := by
      have e : L.length - 1 = n := by omega
      rw [List.getLast?_eq_getElem?, e, List.getElem?_eq_getElem (by omega)]
    simp only [List.take_succ_cons, List.take_zero, List.getElem_cons_zero] at h1 ⊢
    unfold joinC
    rw [hl]
    dsimp only
    rw [if_pos ⟨h1, h2⟩]
    simp only [List.map_nil, List.append_nil]
    apply List.ext_getElem
    · simp [hn]
    · intro i hi hj
      simp only [List.length_append, List.length_dropLast, List.length_cons, List.length_nil, List.length_set] at hi hj
      rw [List.getElem_set]
      by_cases hc : n = i
      · subst hc
        rw [if_pos rfl, List.getElem_append_right (by simp [hn])]
        simp [hn]
      · rw [if_neg hc, List.getElem_append_left (by simp [hn]; omega), List.getElem_dropLast]
theorem join_step {s : Int} {L M : List S35} {i : Nat} (hi : i < M.length) (h : ∀ n (hn : L.length = n + 1), i = 0 → (M[i]'hi).f8 = 0 → (L[n]'(by omega)).f8 = 0 → False) :
    joinC s L (M.take (i + 1)) = joinC s L (M.take i) ++ [later s (M[i]'hi)] := by
  have key : ∀ A : List S35, A ++ (M.take (i + 1)).map (later s) = (A ++ (M.take i).map (later s)) ++ [later s (M[i]'hi)] := fun A => by
    rw [List.take_succ_eq_append_getElem hi, List.map_append, List.append_assoc]
    rfl
  cases M with
  | nil => simp at hi
  | cons m M' =>
    cases i with
    | zero =>
      rw [List.take_zero, join_nil]
      rw [join_apart]
      · have := key L
        simp at this ⊢
      · intro y hy m' hm' ⟨h3, h4⟩
        simp only [List.take_succ_cons, List.take_zero, List.head?_cons, Option.some.injEq] at hm'
        subst hm'
        cases hL : L.length with
        | zero => rw [List.eq_nil_of_length_eq_zero hL] at hy; cases hy
        | succ n =>
          have e : L.length - 1 = n := by omega
          rw [List.getLast?_eq_getElem?, e, List.getElem?_eq_getElem (by omega)] at hy
          have hyy := Option.some.inj hy
          exact h n hL rfl h3 (by rw [hyy]; exact h4)
    | succ i =>
      simp only [List.take_succ_cons, List.getElem_cons_succ] at key ⊢
      have hi' : i < M'.length := by simpa using hi
      have e : List.map (later s) (M'.take (i + 1)) = List.map (later s) (M'.take i) ++ [later s M'[i]] := by
        rw [List.take_succ_eq_append_getElem hi', List.map_append]
        rfl
      unfold joinC
      cases hl : L.getLast? with
      | none =>
        dsimp only
        simp only [List.map_cons, e, List.append_assoc, List.cons_append]
      | some y =>
        dsimp only
        split
        · simp only [e, List.append_assoc]
        · simp only [List.map_cons, e, List.append_assoc, List.cons_append]
theorem join_len (s : Int) (L M : List S35) : (joinC s L M).length ≤ L.length + M.length := by
  unfold joinC
  split
  · split <;> simp <;> omega
  · simp
theorem most_le {l : List S35} (h : ∀ x ∈ l, fitsC x = true) : 0 ≤ mostC (allC l) ∧ mostC (allC l) ≤ 64 := by
  obtain ⟨h1, h2, h3⟩ := fold_mx (allC l) 0
  unfold mostC
  rcases h3 with h3 | h3
  · omega
  · have := allC_fits h _ h3
    omega
theorem nums_le {x : S35} (h : fitsC x = true) : x.f1 ≤ 64 ∧ x.f4 ≤ 64 ∧ x.f6 ≤ 64 := by
  have := allC_fits (l := [x]) (fun y hy => by rw [List.mem_singleton.1 hy]; exact h)
  have k : ∀ n ∈ [x.f4, x.f6, x.f1], n ≤ 64 := fun n hn => by
    by_cases h0 : n = 0
    · omega
    · exact (this n (by unfold allC; rw [List.mem_flatMap]; exact ⟨x, List.mem_singleton_self _, List.mem_filter.2 ⟨hn, by simpa using h0⟩⟩)).2
  exact ⟨k _ (by simp), k _ (by simp), k _ (by simp)⟩
end Go.Proofs.YtnhbgahfmcicnaaGreatDoor.Pure
end
