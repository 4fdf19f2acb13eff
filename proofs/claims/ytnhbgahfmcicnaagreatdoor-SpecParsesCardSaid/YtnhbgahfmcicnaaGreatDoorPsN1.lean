/- A part of the proof that Parse returns what the specification returns, for every string. -/
import Derived.Test.YtnhbgahfmcicnaaGreatDoorPsPAx10
import Derived.Test.YtnhbgahfmcicnaaGreatDoorPsPAx11
import Derived.Test.YtnhbgahfmcicnaaGreatDoorPsM2
import Derived.Test.YtnhbgahfmcicnaaGreatDoorPsM7
import Derived.Test.YtnhbgahfmcicnaaGreatDoorPsG2h
import Derived.Test.YtnhbgahfmcicnaaGreatDoorPsG3p5
import Derived.Test.YtnhbgahfmcicnaaGreatDoorPsM3
section
namespace Go.Proofs.YtnhbgahfmcicnaaGreatDoor.PA
set_option linter.unusedVariables false
set_option linter.unusedSimpArgs false
open Go.RowKit Go.Shelf Go.Proofs.YtnhbgahfmcicnaaGreatDoorW.PrintWords Go.Proofs.YtnhbgahfmcicnaaGreatDoorW.PrintLast Go.Proofs.YtnhbgahfmcicnaaGreatDoorW.PrintMore
def placeR (l : List UInt8) : Int × List UInt8 :=
  if posB l then match skipC 36 (numC 99999 0 l).2 with
    | some t => ((numC 99999 0 l).1, t)
    | none => (0, l)
  else (0, l)
def argR (nx : Int) (wi pn : Bool) (n : Int) : Int × Int × Bool × Bool := if n = 0 then (wrap64 (nx + 1), wrap64 (nx + 1), wi, true) else (n, nx, true, pn)
def widthR (nx : Int) (wi pn : Bool) (l : List UInt8) : Int × Int × Int × Bool × Bool × List UInt8 :=
  match skipC 42 l with
  | some t => (-1, (argR nx wi pn (placeR t).1).1, (argR nx wi pn (placeR t).1).2.1, (argR nx wi pn (placeR t).1).2.2.1, (argR nx wi pn (placeR t).1).2.2.2, (placeR t).2)
  | none => (if isDig (hdI l) then (numC 99999 0 l).1 else -1, 0, nx, wi, pn, (numC 99999 0 l).2)
def precR (nx : Int) (wi pn : Bool) (l : List UInt8) : Int × Int × Int × Bool × Bool × List UInt8 :=
  match skipC 46 l with
  | none => (-1, 0, nx, wi, pn, l)
  | some t => match skipC 42 t with
    | some u => (-1, (argR nx wi pn (placeR u).1).1, (argR nx wi pn (placeR u).1).2.1, (argR nx wi pn (placeR u).1).2.2.1, (argR nx wi pn (placeR u).1).2.2.2, (placeR u).2)
    | none => ((numC 99999 0 t).1, 0, nx, wi, pn, (numC 99999 0 t).2)
def endR (own fl : Int) (wd wa pr pa : Int) (nx : Int) (wi pn : Bool) (l : List UInt8) : (S35 × Bool) × Int × Bool × Bool × List UInt8 :=
  match (lenC l).2 with
  | [] => ((⟨⟨#[]⟩, 0, fl, wd, wa, pr, pa, (lenC l).1, 0⟩, false), nx, wi, pn, [])
  | c :: t => ((⟨⟨#[]⟩, (argR nx wi pn own).1, fl, wd, wa, pr, pa, (lenC l).1, (c.toNat : Int)⟩,
      rfitsC ⟨⟨#[]⟩, (argR nx wi pn own).1, fl, wd, wa, pr, pa, (lenC l).1, (c.toNat : Int)⟩ && !((argR nx wi pn own).2.2.1 && (argR nx wi pn own).2.2.2)),
      (argR nx wi pn own).2.1, (argR nx wi pn own).2.2.1, (argR nx wi pn own).2.2.2, t)
def rconvC (nx : Int) (wi pn : Bool) (l : List UInt8) : (S35 × Bool) × Int × Bool × Bool × List UInt8 :=
  let ow := placeR l
  let fl := flagsC 0 ow.2
  let wd := widthR nx wi pn fl.2
  let pr := precR wd.2.2.1 wd.2.2.2.1 wd.2.2.2.2.1 wd.2.2.2.2.2
  endR ow.1 fl.1 wd.1 wd.2.1 pr.1 pr.2.1 pr.2.2.1 pr.2.2.2.1 pr.2.2.2.2.1 pr.2.2.2.2.2
theorem placeR_suf (l : List UInt8) : (placeR l).2 <:+ l := by
  unfold placeR
  split
  · split
    · rename_i t h
      exact (skipC_suf h).trans (numC_suf _ _ _)
    · exact List.suffix_refl _
  · exact List.suffix_refl _
theorem widthR_suf (nx : Int) (wi pn : Bool) (l : List UInt8) : (widthR nx wi pn l).2.2.2.2.2 <:+ l := by
  unfold widthR
  split
  · rename_i t h
    exact (placeR_suf t).trans (skipC_suf h)
  · exact numC_suf _ _ _
theorem precR_suf (nx : Int) (wi pn : Bool) (l : List UInt8) : (precR nx wi pn l).2.2.2.2.2 <:+ l := by
  unfold precR
  split
  · exact List.suffix_refl _
  · rename_i t h
    split
    · rename_i u h2
      exact (placeR_suf u).trans ((skipC_suf h2).trans (skipC_suf h))
    · exact (numC_suf _ _ _).trans (skipC_suf h)
section
variable {fmt : ByteArray} {l : List UInt8} {nx : Int} {wi pn : Bool}
theorem ris_f (h : Suf fmt l) (b : UInt8) : sorobanref21_reader_is.f fmt (offI fmt l) nx wi pn (b.toNat : Int) = some ((skipC b l).isSome, fmt, offI fmt l, nx, wi, pn) := by
  unfold sorobanref21_reader_is.f offI
  cases l with
  | nil =>
    rw [if_neg (by simp)]
    rfl
  | cons c l =>
    have hl := h.len
    rw [if_pos (by simp only [List.length_cons] at hl ⊢; omega), if_pos (Int.natCast_nonneg _), h.at_, skipC_cons]
    congr 2
    by_cases e : c = b
    · subst e; simp
    · rw [if_neg e]
      have : ¬ (c.toNat : Int) = (b.toNat : Int) := fun h => e (UInt8.toNat_inj.1 (by omega))
      simp [this]
theorem isDig_iff (c : Int) : isDig c = true ↔ 48 ≤ c ∧ c ≤ 57 := by
  unfold isDig
  rw [Bool.and_eq_true, decide_eq_true_iff, decide_eq_true_iff]
theorem rdig_go (m : Int) (hm : m + 1 = 100000) : ∀ (l : List UInt8) (K : Nat) (n : Int) (kk : Nat), Suf fmt l → 0 ≤ n → n ≤ 100000 → kk + l.length ≤ 2000 → l.length < K →
    sorobanref21_reader_digits.l0 K n (kk : Int) fmt (offI fmt l) nx wi pn = some ((numC m n l).1, ((kk + (l.length - (numC m n l).2.length) : Nat) : Int), fmt, offI fmt (numC m n l).2, nx, wi, pn) := by
  intro l
  induction l with
  | nil =>
    intro K n kk h h0 h1 h2 h3
    obtain ⟨K, rfl⟩ : ∃ j, K = j + 1 := ⟨K - 1, by omega⟩
    unfold sorobanref21_reader_digits.l0 offI
    rw [if_neg (by simp)]
    simp [numC, offI]
  | cons c l ih =>
    intro K n kk h h0 h1 h2 h3
    obtain ⟨K, rfl⟩ : ∃ j, K = j + 1 := ⟨K - 1, by omega⟩
    have hl := h.len
    have hz := h.z
    have hc := c.toNat_lt
    have hst := step_st h
    unfold sorobanref21_reader_digits.l0 offI
    rw [if_pos (by simp only [List.length_cons] at hl ⊢; omega), if_pos (Int.natCast_nonneg _), h.at_, hst]
    simp only [List.length_cons] at h2 h3
    by_cases hd : isDig (c.toNat : Int) = true
    · have hd2 := (isDig_iff _).1 hd
      rw [if_pos (by omega), if_pos (by omega)]
      have a1 : wrap64 (10 * n) = 10 * n := by unfold wrap64; omega
      have a2 : ((c.toNat : Int) - 48) % 256 = (c.toNat : Int) - 48 := by omega
      have a3 : wrap64 (10 * n + ((c.toNat : Int) - 48)) = 10 * n + ((c.toNat : Int) - 48) := by unfold wrap64; omega
      have e2 : wrap64 ((kk : Int) + 1) = ((kk + 1 : Nat) : Int) := by unfold wrap64; omega
      have e3 : numC m n (c :: l) = numC m (mn (m + 1) (10 * n + ((c.toNat : Int) - 48))) l := by
        conv => lhs; unfold numC
        rw [if_pos hd]
      have hb : 0 ≤ mn (m + 1) (10 * n + ((c.toNat : Int) - 48)) ∧ mn (m + 1) (10 * n + ((c.toNat : Int) - 48)) ≤ 100000 := by unfold mn; split <;> omega
      rw [a1, a2, a3, e2, e3, ← hm]
      clear a1 a2 a3 e2 e3 hst
      generalize mn (m + 1) (10 * n + ((c.toNat : Int) - 48)) = q at hb ⊢
      have := ih K q (kk + 1) h.tail hb.1 hb.2 (by omega) (by omega)
      unfold offI at this
      rw [this]
      have := (numC_suf m l q).length_le
      generalize numC m q l = z at this ⊢
      rw [show kk + 1 + (l.length - z.2.length) = kk + ((c :: l).length - z.2.length) by rw [List.length_cons]; omega]
    · have e3 : numC m n (c :: l) = (n, c :: l) := by
        conv => lhs; unfold numC
        rw [if_neg hd]
      have hd2 : ¬ (48 ≤ (c.toNat : Int) ∧ (c.toNat : Int) ≤ 57) := fun e => hd ((isDig_iff _).2 e)
      rw [e3]
      dsimp only
      by_cases h48 : (c.toNat : Int) ≥ 48
      · rw [if_pos h48, if_neg (by omega), Nat.sub_self, Nat.add_zero]
      · rw [if_neg h48, Nat.sub_self, Nat.add_zero]
theorem rdigits_f (h : Suf fmt l) {k : Nat} (hk : 2000 < k) : sorobanref21_reader_digits.f k fmt (offI fmt l) nx wi pn = some ((numC 99999 0 l).1, ((l.length - (numC 99999 0 l).2.length : Nat) : Int), fmt, offI fmt (numC 99999 0 l).2, nx, wi, pn) := by
  have := rdig_go (nx := nx) (wi := wi) (pn := pn) 99999 (by decide) l k 0 0 h (Int.le_refl _) (by decide) (by have := h.len; have := h.z; omega) (by have := h.len; have := h.z; omega)
  unfold sorobanref21_reader_digits.f
  rw [Nat.zero_add] at this
  exact this
theorem numC_taken (m n : Int) (l : List UInt8) : (l.length - (numC m n l).2.length = 0) = (isDig (hdI l) = false) := by
  cases l with
  | nil => simp [numC, hdI]; decide
  | cons c l =>
    conv => lhs; unfold numC
    show _ = (isDig (c.toNat : Int) = false)
    cases hd : isDig (c.toNat : Int)
    · simp
    · have := (numC_suf m l (mn (m + 1) (10 * n + ((c.toNat : Int) - 48)))).length_le
      simp
      omega
theorem rposition_f (h : Suf fmt l) {k : Nat} (hk : 2000 < k) : sorobanref21_reader_position.f k fmt (offI fmt l) nx wi pn = some ((placeR l).1, fmt, offI fmt (placeR l).2, nx, wi, pn) := by
  have e48 := ris_f (nx := nx) (wi := wi) (pn := pn) h 48
  have hn : Suf fmt (numC 99999 0 l).2 := h.of (numC_suf _ _ _)
  have e36 := ris_f (nx := nx) (wi := wi) (pn := pn) hn 36
  unfold sorobanref21_reader_position.f
  rw [show (48 : Int) = (((48 : UInt8).toNat : Nat) : Int) from rfl, e48, Option.bind_some]
  dsimp only
  have h48 : (skipC 48 l).isSome = true ↔ hdI l = 48 := by
    cases l with
    | nil => simp [skipC, hdI]
    | cons c l =>
      rw [skipC_cons]
      by_cases e : c = 48
      · subst e; simp [hdI]
      · rw [if_neg e]
        have : ¬ (c.toNat : Int) = 48 := fun h => e (UInt8.toNat_inj.1 (by have : c.toNat = 48 := by omega
                                                                           exact this))
        simp [hdI, this]
  by_cases c0 : hdI l = 48
  · rw [if_pos (h48.2 c0)]
    unfold placeR posB
    rw [if_neg (by simp [c0])]
  · rw [if_neg (fun e => c0 (h48.1 e)), rdigits_f h hk, Option.bind_some]
    dsimp only
    by_cases hd : isDig (hdI l) = false
    · have e0 : ((l.length - (numC 99999 0 l).2.length : Nat) : Int) = 0 := by rw [(numC_taken 99999 0 l).mpr hd]; rfl
      rw [if_pos e0]
      unfold placeR posB
      rw [if_neg (by simp [hd])]
    · have e0 : ¬ ((l.length - (numC 99999 0 l).2.length : Nat) : Int) = 0 := fun e => hd ((numC_taken 99999 0 l).mp (by omega))
      rw [if_neg e0, show (36 : Int) = (((36 : UInt8).toNat : Nat) : Int) from rfl, e36, Option.bind_some]
      dsimp only
      have hd2 : isDig (hdI l) = true := by simpa using hd
      unfold placeR
      rw [if_pos (show posB l = true from by unfold posB; rw [hd2, decide_eq_true c0]; rfl)]
      generalize hm : numC 99999 0 l = m at hn e36 ⊢
      obtain ⟨n, r⟩ := m
      dsimp only at hn e36 ⊢
      cases r with
      | nil => rfl
      | cons c r =>
        rw [skipC_cons]
        by_cases e : c = 36
        · rw [if_pos e]
          show (if true = true then _ else _) = _
          rw [if_pos rfl]
          have := step_st hn
          unfold offI
          rw [this]
        · rw [if_neg e]
          rfl
theorem rargument_f (fmt : ByteArray) (at_ n : Int) : sorobanref21_reader_argument.f fmt at_ nx wi pn n = some ((argR nx wi pn n).1, fmt, at_, (argR nx wi pn n).2.1, (argR nx wi pn n).2.2.1, (argR nx wi pn n).2.2.2) := by
  unfold sorobanref21_reader_argument.f argR
  by_cases h : n = 0
  · rw [if_pos h, if_pos h]
  · rw [if_neg h, if_neg h]
theorem rlength_f (h : Suf fmt l) : sorobanref21_reader_length.f fmt (offI fmt l) nx wi pn = some ((lenC l).1, fmt, offI fmt (lenC l).2, nx, wi, pn) := by
  have hl := h.len
  have hz := h.z
  have hb := bestMod_length l 12
  unfold sorobanref21_reader_length.f offI
  rw [if_pos ⟨by omega, by omega, by omega⟩, Int.toNat_natCast, drop_suf h]
  unfold lenC
  dsimp only
  rw [List.length_drop]
  congr 4
  omega
def flC (c : Int) : Int → Nat → Nat → Int
  | a, _, 0 => a
  | a, i, d + 1 => flC c (if signAt i = c then Go.bits .or .i64 a ((2 ^ i : Nat) : Int) else a) (i + 1) d
theorem flC_val (c : Int) (hc : ¬ flagVal c = 0) (a : Int) : flC c a 0 6 = Go.bits .or .i64 a (flagVal c) := by
  have h : c = 45 ∨ c = 43 ∨ c = 32 ∨ c = 35 ∨ c = 48 ∨ c = 39 := by
    unfold flagVal at hc
    repeat' (split at hc; · simp_all)
    exact absurd rfl hc
  rcases h with rfl | rfl | rfl | rfl | rfl | rfl <;> rfl
theorem sign_byte : ∀ c : Fin 256, hasB ⟨#[45, 43, 32, 35, 48, 39]⟩ (c.val : Int) = !decide (flagVal (c.val : Int) = 0) := by decide +kernel
theorem rflags_l1 (h : Suf fmt l) {c : UInt8} {t : List UInt8} (ht : l = c :: t) : ∀ (d i k : Nat) (a : Int), i + d = 6 → d + 1 ≤ k →
    sorobanref21_reader_flags.l1 k a (i : Int) fmt (offI fmt l) nx wi pn = sorobanref21_reader_flags.l0 (k - (d + 1)) (flC (c.toNat : Int) a i d) fmt (offI fmt t) nx wi pn := by
  subst ht
  have hl := h.len
  have hat := h.at_
  have hst := step_st h
  intro d
  induction d with
  | zero =>
    intro i k a hi hk
    obtain ⟨k, rfl⟩ : ∃ j, k = j + 1 := ⟨k - 1, by omega⟩
    unfold sorobanref21_reader_flags.l1
    rw [if_neg (by omega)]
    unfold offI
    rw [hst]
    rfl
  | succ d ih =>
    intro i k a hi hk
    obtain ⟨k, rfl⟩ : ∃ j, k = j + 1 := ⟨k - 1, by omega⟩
    have e1 : wrap64 ((i : Int) + 1) = ((i + 1 : Nat) : Int) := by unfold wrap64; omega
    unfold sorobanref21_reader_flags.l1
    rw [if_pos (by omega), if_pos (by omega), if_pos (by unfold offI; omega), if_pos (by unfold offI; simp only [List.length_cons] at hl ⊢; omega), e1]
    have e2 : bt fmt (offI fmt (c :: t)) = (c.toNat : Int) := hat
    rw [e2, flag_f i (by omega), Option.bind_some, ih (i + 1) k _ (by omega) (by omega), ih (i + 1) k _ (by omega) (by omega)]
    show (if signAt i = (c.toNat : Int) then _ else _) = _
    rw [show k + 1 - (d + 1 + 1) = k - (d + 1) by omega]
    conv => rhs; unfold flC
    by_cases e : signAt i = (c.toNat : Int)
    · rw [if_pos e, if_pos e]
    · rw [if_neg e, if_neg e]
theorem rflags_go : ∀ (l : List UInt8) (k : Nat) (a : Int), Suf fmt l → 12 * l.length + 20 ≤ k →
    sorobanref21_reader_flags.l0 k a fmt (offI fmt l) nx wi pn = some ((flagsC a l).1, fmt, offI fmt (flagsC a l).2, nx, wi, pn) := by
  intro l
  induction l with
  | nil =>
    intro k a h hk
    obtain ⟨k, rfl⟩ : ∃ j, k = j + 2 := ⟨k - 2, by omega⟩
    unfold sorobanref21_reader_flags.l0
    rw [if_neg (by unfold offI; simp)]
    unfold sorobanref21_reader_flags.j1
    rw [if_neg (by simp)]
    rfl
  | cons c l ih =>
    intro k a h hk
    simp only [List.length_cons] at hk
    obtain ⟨k, rfl⟩ : ∃ j, k = j + 2 := ⟨k - 2, by omega⟩
    have hl := h.len
    have e2 : bt fmt (offI fmt (c :: l)) = (c.toNat : Int) := h.at_
    have hs := sign_byte ⟨c.toNat, c.toNat_lt⟩
    unfold sorobanref21_reader_flags.l0
    rw [if_pos (by unfold offI; simp only [List.length_cons] at hl ⊢; omega), if_pos (by unfold offI; omega), e2, in_f _ _ (by decide) (k + 1) (by show 6 < k + 1; omega), Option.bind_some, hs]
    dsimp only
    conv => rhs; unfold flagsC
    unfold sorobanref21_reader_flags.j1
    by_cases e : flagVal (c.toNat : Int) = 0
    · rw [if_neg (by simp [e]), if_pos e]
    · rw [if_pos (by simp [e]), if_neg e]
      have := rflags_l1 (nx := nx) (wi := wi) (pn := pn) h rfl 6 0 k a (by omega) (by omega)
      rw [show (0 : Int) = ((0 : Nat) : Int) from rfl, this, flC_val _ e]
      exact ih _ _ h.tail (by omega)
theorem rflags_f (h : Suf fmt l) {k : Nat} (hk : 30000 < k) : sorobanref21_reader_flags.f k fmt (offI fmt l) nx wi pn = some ((flagsC 0 l).1, fmt, offI fmt (flagsC 0 l).2, nx, wi, pn) := by
  unfold sorobanref21_reader_flags.f
  exact rflags_go l k 0 h (by have := h.len; have := h.z; omega)
end
end Go.Proofs.YtnhbgahfmcicnaaGreatDoor.PA
end
section
namespace Go.Proofs.YtnhbgahfmcicnaaGreatDoor.PA
set_option linter.unusedVariables false
set_option linter.unusedSimpArgs false
open Go.RowKit Go.Shelf Go.Proofs.YtnhbgahfmcicnaaGreatDoorW.PrintWords Go.Proofs.YtnhbgahfmcicnaaGreatDoorW.PrintLast Go.Proofs.YtnhbgahfmcicnaaGreatDoorW.PrintMore
theorem numC_cap {m M : Int} (hm : 0 ≤ m) (hM : m ≤ M) : ∀ (l : List UInt8) (n n' : Int), 0 ≤ n' → n = mn (m + 1) n' → n' ≤ M + 1 →
    (numC m n l).2 = (numC M n' l).2 ∧ (numC m n l).1 = mn (m + 1) (numC M n' l).1 ∧ 0 ≤ (numC M n' l).1 := by
  intro l
  induction l with
  | nil => intro n n' h0 h1 h2; exact ⟨rfl, h1, h0⟩
  | cons c l ih =>
    intro n n' h0 h1 h2
    unfold numC
    by_cases hd : isDig (c.toNat : Int) = true
    · rw [if_pos hd, if_pos hd]
      have hd2 := (isDig_iff _).1 hd
      generalize (c.toNat : Int) = d at hd2
      refine ih _ _ ?_ ?_ ?_
      · unfold mn; split <;> omega
      · subst h1; unfold mn; (repeat' split) <;> omega
      · unfold mn; split <;> omega
    · rw [if_neg hd, if_neg hd]
      exact ⟨rfl, h1, h0⟩
theorem numC_cap0 {m M : Int} (hm : 0 ≤ m) (hM : m ≤ M) (l : List UInt8) :
    (numC m 0 l).2 = (numC M 0 l).2 ∧ (numC m 0 l).1 = mn (m + 1) (numC M 0 l).1 ∧ 0 ≤ (numC M 0 l).1 :=
  numC_cap hm hM l 0 0 (Int.le_refl _) (by unfold mn; split <;> omega) (by omega)
theorem place_rel (l : List UInt8) : (placeC l).2 = (placeR l).2 ∧ (placeC l).1 = mn 65 (placeR l).1 ∧ 0 ≤ (placeR l).1 := by
  obtain ⟨h1, h2, h3⟩ := numC_cap0 (m := 64) (M := 99999) (by decide) (by decide) l
  unfold placeC placeR
  by_cases h : posB l = true
  · rw [if_pos h, if_pos h, h1]
    generalize numC 64 0 l = a at h1 h2
    generalize numC 99999 0 l = b at h1 h2 h3 ⊢
    cases skipC 36 b.2 with
    | none => exact ⟨rfl, rfl, Int.le_refl _⟩
    | some t => exact ⟨rfl, h2, h3⟩
  · rw [if_neg h, if_neg h]
    exact ⟨rfl, rfl, Int.le_refl _⟩
theorem star_rel {l : List UInt8} : match starC l with
    | some x => x.2 = (placeR l).2 ∧ x.1 = mn 65 (placeR l).1 ∧ 0 ≤ (placeR l).1
    | none => placeR l = (0, l) ∧ isDig (hdI l) = true := by
  obtain ⟨h1, h2, h3⟩ := numC_cap0 (m := 64) (M := 99999) (by decide) (by decide) l
  unfold starC placeR
  by_cases h : posB l = true
  · rw [if_pos h, if_pos h, h1]
    generalize numC 64 0 l = a at h1 h2
    generalize numC 99999 0 l = b at h1 h2 h3 ⊢
    cases skipC 36 b.2 with
    | none =>
      refine ⟨rfl, ?_⟩
      unfold posB at h
      rw [Bool.and_eq_true] at h
      exact h.1
    | some t => exact ⟨rfl, h2, h3⟩
  · rw [if_neg h, if_neg h]
    exact ⟨rfl, rfl, Int.le_refl _⟩
def FR (f : Fld) (nx : Int) (wi pn : Bool) (w a nx' : Int) (wi' pn' : Bool) : Prop :=
  (f.2.1 = true ∧ f.1 = -1 ∧ w = -1 ∧ ∃ p, 0 ≤ p ∧ f.2.2 = mn 65 p ∧ (a, nx', wi', pn') = argR nx wi pn p) ∨
  (f.2.1 = false ∧ a = 0 ∧ nx' = nx ∧ wi' = wi ∧ pn' = pn ∧ ((f.1 = -1 ∧ w = -1) ∨ (0 ≤ w ∧ f.1 = mn 10001 w)))
theorem dig_skip {b : UInt8} {l : List UInt8} (h : isDig (hdI l) = true) (hb : isDig (b.toNat : Int) = false) : skipC b l = none := by
  cases l with
  | nil => rfl
  | cons c l =>
    rw [skipC_cons, if_neg]
    intro e
    subst e
    have h' : isDig (c.toNat : Int) = true := h
    rw [hb] at h'
    cases h'
theorem dig_end {l : List UInt8} (h : isDig (hdI l) = true) (own fl wd wa pr pa nx : Int) (wi pn : Bool) : (endR own fl wd wa pr pa nx wi pn l).1.2 = false := by
  cases l with
  | nil => cases h
  | cons c l =>
    have h' : isDig (c.toNat : Int) = true := h
    have hd := (isDig_iff _).1 h'
    have hl : (lenC (c :: l)).2 = c :: l := by
      have hb : bestMod (c :: l) 12 = 0 := by
        have key : ∀ c : Fin 256, isDig (c.val : Int) = true → ∀ k : Fin 12, 1 ≤ k.val → ((mods.getD k.val []).head?.map fun x => decide (x.toNat = c.val)) = some false := by decide +kernel
        have h0 : ∀ k, k ≤ 12 → bestMod (c :: l) k = 0 := by
          intro k
          induction k with
          | zero => intro _; rfl
          | succ k ih =>
            intro hk
            have := ih (by omega)
            unfold bestMod
            by_cases k0 : k = 0
            · subst k0
              simp only [this]
              split <;> rfl
            · have hk2 := key ⟨c.toNat, c.toNat_lt⟩ h' ⟨k, by omega⟩ (by show 1 ≤ k; omega)
              dsimp only at hk2
              have hp : (mods.getD k []).isPrefixOf (c :: l) = false := by
                cases hm : mods.getD k [] with
                | nil => rw [hm] at hk2; cases hk2
                | cons x xs =>
                  rw [hm] at hk2
                  simp only [List.head?_cons, Option.map_some, Option.some.injEq, decide_eq_false_iff_not] at hk2
                  rw [List.isPrefixOf]
                  have : (x == c) = false := by
                    rw [beq_eq_false_iff_ne]
                    intro e
                    exact hk2 (by rw [e])
                  rw [this]
                  rfl
              rw [hp]
              simp only [Bool.false_and, Bool.false_eq_true, if_false]
              exact this
        exact h0 12 (Nat.le_refl _)
      unfold lenC
      rw [hb]
      rfl
    unfold endR
    rw [hl]
    dsimp only
    rw [Bool.and_eq_false_iff]
    left
    unfold rfitsC
    have ho : (ofVal (c.toNat : Int)).2.2.2.2 = false := by
      rw [(of_rule _).1]
      unfold ruleC
      repeat' (rw [if_neg (by omega)])
    dsimp only
    rw [ho]
    rfl
theorem width_rel (nx : Int) (wi pn : Bool) (l : List UInt8) : match widthC l with
    | some x => x.2 = (widthR nx wi pn l).2.2.2.2.2 ∧ FR x.1 nx wi pn (widthR nx wi pn l).1 (widthR nx wi pn l).2.1 (widthR nx wi pn l).2.2.1 (widthR nx wi pn l).2.2.2.1 (widthR nx wi pn l).2.2.2.2.1
    | none => isDig (hdI (widthR nx wi pn l).2.2.2.2.2) = true := by
  unfold widthC widthR
  cases hs : skipC 42 l with
  | some t =>
    have hl : l = 42 :: t := by
      cases l with
      | nil => cases hs
      | cons c l =>
        rw [skipC_cons] at hs
        by_cases e : c = 42
        · rw [if_pos e] at hs; rw [e, Option.some.inj hs]
        · rw [if_neg e] at hs; cases hs
    have hw : widB l = true := by rw [hl]; unfold widB; rfl
    rw [if_pos hw]
    unfold fieldC
    rw [hs]
    have := star_rel (l := t)
    dsimp only
    cases hst : starC t with
    | some x =>
      rw [hst] at this
      obtain ⟨h1, h2, h3⟩ := this
      refine ⟨h1, Or.inl ⟨rfl, rfl, rfl, (placeR t).1, h3, h2, rfl⟩⟩
    | none =>
      rw [hst] at this
      obtain ⟨h1, h2⟩ := this
      simp only [Option.map_none]
      rw [h1]
      exact h2
  | none =>
    obtain ⟨h1, h2, h3⟩ := numC_cap0 (m := 10000) (M := 99999) (by decide) (by decide) l
    have h42 : ¬ hdI l = 42 := by
      intro e
      cases l with
      | nil => cases e
      | cons c l =>
        rw [skipC_cons] at hs
        have : c = 42 := UInt8.toNat_inj.1 (by have h : (c.toNat : Int) = 42 := e; show c.toNat = 42; omega)
        rw [if_pos this] at hs
        cases hs
    by_cases hd : isDig (hdI l) = true
    · have hw : widB l = true := by unfold widB; rw [hd, Bool.or_true]
      rw [if_pos hw, if_pos hd]
      unfold fieldC
      rw [hs]
      exact ⟨h1, Or.inr ⟨rfl, rfl, rfl, rfl, rfl, Or.inr ⟨h3, h2⟩⟩⟩
    · have hd' : isDig (hdI l) = false := by simpa using hd
      have hw : ¬ widB l = true := by unfold widB; rw [decide_eq_false h42, hd']; simp
      rw [if_neg hw, if_neg hd]
      have hn : numC 99999 0 l = (0, l) := by
        cases l with
        | nil => rfl
        | cons c l =>
          unfold numC
          rw [if_neg (show ¬ isDig (c.toNat : Int) = true from hd)]
      rw [hn]
      exact ⟨rfl, Or.inr ⟨rfl, rfl, rfl, rfl, rfl, Or.inl ⟨rfl, rfl⟩⟩⟩
theorem prec_rel (nx : Int) (wi pn : Bool) (l : List UInt8) : match precC l with
    | some x => x.2 = (precR nx wi pn l).2.2.2.2.2 ∧ FR x.1 nx wi pn (precR nx wi pn l).1 (precR nx wi pn l).2.1 (precR nx wi pn l).2.2.1 (precR nx wi pn l).2.2.2.1 (precR nx wi pn l).2.2.2.2.1
    | none => isDig (hdI (precR nx wi pn l).2.2.2.2.2) = true := by
  unfold precC precR
  cases hs : skipC 46 l with
  | none => exact ⟨rfl, Or.inr ⟨rfl, rfl, rfl, rfl, rfl, Or.inl ⟨rfl, rfl⟩⟩⟩
  | some t =>
    dsimp only
    unfold fieldC
    cases hs2 : skipC 42 t with
    | some u =>
      dsimp only
      have := star_rel (l := u)
      cases hst : starC u with
      | some x =>
        rw [hst] at this
        obtain ⟨h1, h2, h3⟩ := this
        exact ⟨h1, Or.inl ⟨rfl, rfl, rfl, (placeR u).1, h3, h2, rfl⟩⟩
      | none =>
        rw [hst] at this
        obtain ⟨h1, h2⟩ := this
        simp only [Option.map_none]
        rw [h1]
        exact h2
    | none =>
      obtain ⟨h1, h2, h3⟩ := numC_cap0 (m := 10000) (M := 99999) (by decide) (by decide) t
      exact ⟨h1, Or.inr ⟨rfl, rfl, rfl, rfl, rfl, Or.inr ⟨h3, h2⟩⟩⟩
theorem precR_dig {nx : Int} {wi pn : Bool} {l : List UInt8} (h : isDig (hdI l) = true) : precR nx wi pn l = (-1, 0, nx, wi, pn, l) := by
  unfold precR
  rw [dig_skip h (by decide)]
theorem or_small : ∀ a : Fin 64, ∀ v ∈ [1, 2, 4, 8, 16, 32], 0 ≤ Go.bits .or .i64 (a.val : Int) ((v : Nat) : Int) ∧ Go.bits .or .i64 (a.val : Int) ((v : Nat) : Int) ≤ 63 := by decide +kernel
theorem flags_range : ∀ (l : List UInt8) (a : Int), 0 ≤ a ∧ a ≤ 63 → 0 ≤ (flagsC a l).1 ∧ (flagsC a l).1 ≤ 63 := by
  intro l
  induction l with
  | nil => intro a h; exact h
  | cons c l ih =>
    intro a h
    unfold flagsC
    by_cases e : flagVal (c.toNat : Int) = 0
    · rw [if_pos e]; exact h
    · rw [if_neg e]
      refine ih _ ?_
      have hv : ∃ v : Nat, v ∈ [1, 2, 4, 8, 16, 32] ∧ flagVal (c.toNat : Int) = (v : Int) := by
        unfold flagVal at e ⊢
        split; · exact ⟨1, by decide, rfl⟩
        split; · exact ⟨2, by decide, rfl⟩
        split; · exact ⟨4, by decide, rfl⟩
        split; · exact ⟨8, by decide, rfl⟩
        split; · exact ⟨16, by decide, rfl⟩
        split; · exact ⟨32, by decide, rfl⟩
        simp_all
      obtain ⟨v, hv1, hv2⟩ := hv
      rw [hv2]
      have := or_small ⟨a.toNat, by omega⟩ v hv1
      dsimp only at this
      rwa [show ((a.toNat : Nat) : Int) = a by omega] at this
def PlR (pl : Int) (wi pn : Bool) : Prop := (pl = 0 ∧ wi = false ∧ pn = false) ∨ (pl = 1 ∧ wi = true ∧ pn = false) ∨ (pl = 2 ∧ wi = false ∧ pn = true)
theorem argR_eq {nx p : Int} (h0 : 0 ≤ nx) (h1 : nx ≤ 100010) (hp : 0 ≤ p) (wi pn : Bool) : argR nx wi pn p = if 0 < p then (p, nx, true, pn) else (nx + 1, nx + 1, wi, true) := by
  unfold argR
  have e : wrap64 (nx + 1) = nx + 1 := by unfold wrap64; omega
  by_cases h : p = 0
  · rw [if_pos h, if_neg (by omega), e]
  · rw [if_neg h, if_pos (by omega)]
structure SR (f : Fld) (nx : Int) (wi pn : Bool) (w a nx' : Int) (wi' pn' P : Bool) (p : Int) : Prop where
  hp : 0 ≤ p
  hP : P = decide (0 < p)
  num : (f.1 = -1 ∧ w = -1) ∨ (0 ≤ w ∧ f.1 = mn 10001 w)
  st : f.2.1 = true → f.2.2 = mn 65 p ∧ f.1 = -1 ∧ w = -1
  wi_ : wi' = (wi || (f.2.1 && P))
  pn_ : pn' = (pn || (f.2.1 && !P))
  nx_ : nx' = nx + (if (f.2.1 && !P) = true then 1 else 0)
  a_ : a = if f.2.1 = true then (if P = true then p else nx + 1) else 0
theorem FR.sr {f : Fld} {nx : Int} {wi pn : Bool} {w a nx' : Int} {wi' pn' : Bool} (h : FR f nx wi pn w a nx' wi' pn') (h0 : 0 ≤ nx) (h1 : nx ≤ 100010) : ∃ P p, SR f nx wi pn w a nx' wi' pn' P p := by
  rcases h with ⟨e1, e2, e3, p, hp, e4, e5⟩ | ⟨e1, e2, e3, e4, e5, e6⟩
  · refine ⟨decide (0 < p), p, hp, rfl, Or.inl ⟨e2, e3⟩, fun _ => ⟨e4, e2, e3⟩, ?_, ?_, ?_, ?_⟩
    all_goals
      rw [argR_eq h0 h1 hp] at e5
      rw [e1]
      by_cases h : 0 < p
      · rw [if_pos h] at e5
        simp only [Prod.mk.injEq] at e5
        obtain ⟨rfl, rfl, rfl, rfl⟩ := e5
        simp [h]
      · rw [if_neg h] at e5
        simp only [Prod.mk.injEq] at e5
        obtain ⟨rfl, rfl, rfl, rfl⟩ := e5
        simp [h]
  · subst e2 e3 e4 e5
    exact ⟨false, 0, Int.le_refl _, rfl, e6, (fun h => absurd h (by rw [e1]; decide)), by rw [e1]; simp, by rw [e1]; simp, by rw [e1]; simp, by rw [e1]; simp⟩
theorem marks_agree (O P1 P2 s1 s2 : Bool) {pl : Int} {wi pn : Bool} (h : PlR pl wi pn) :
    (decide (pl = 0 ∨ pl = modeOf O) && ((!s1 || (P1 == O)) && (!s2 || (P2 == O)))) = !((((wi || (s1 && P1)) || (s2 && P2)) || O) && (((pn || (s1 && !P1)) || (s2 && !P2)) || !O)) := by
  rcases h with ⟨rfl, rfl, rfl⟩ | ⟨rfl, rfl, rfl⟩ | ⟨rfl, rfl, rfl⟩ <;> cases O <;> cases P1 <;> cases P2 <;> cases s1 <;> cases s2 <;> rfl
theorem lt_mn {a b c : Int} (h : c < a) : (c < mn a b) ↔ c < b := by unfold mn; split <;> omega
theorem mn_le {a b : Int} (h : b ≤ a) : mn a b = b := by unfold mn; split <;> omega
theorem rfits_ok {wd pr : Fld} {nx nx1 nx2 : Int} {wi pn wi1 pn1 wi2 pn2 P1 P2 : Bool} {w1 a1 w2 a2 p1 p2 A fl ln c : Int} (h0 : 0 ≤ nx) (hfl : 0 ≤ fl ∧ fl ≤ 63)
    (h1 : SR wd nx wi pn w1 a1 nx1 wi1 pn1 P1 p1) (h2 : SR pr nx1 wi1 pn1 w2 a2 nx2 wi2 pn2 P2 p2) :
    rfitsC ⟨⟨#[]⟩, A, fl, w1, a1, w2, a2, ln, c⟩ = ((ruleC c).ok && okC (ruleC c) fl ln wd pr) := by
  obtain ⟨e1, e2, e3, e4⟩ := of_rule c
  unfold rfitsC
  dsimp only
  rw [e1, e2, e3]
  cases hok : (ruleC c).ok
  · rfl
  · obtain ⟨⟨m, hm, hf, hs⟩, hl⟩ := e4 hok
    have hfe := flags_eq (n := fl) (m := m) (by omega) hm
    have hn1 : 0 ≤ nx1 := by rw [h1.nx_]; split <;> omega
    have x1 : (decide (w1 < 0) && decide (a1 = 0)) = (decide (wd.1 = -1) && !wd.2.1) := by
      rcases h1.num with ⟨q1, q2⟩ | ⟨q1, q2⟩
      · cases hst : wd.2.1
        · have := h1.a_
          rw [hst] at this
          simp_all
        · have : ¬ a1 = 0 := by
            rw [h1.a_, hst, if_pos rfl]
            split
            · rename_i hP; rw [h1.hP, decide_eq_true_iff] at hP; omega
            · omega
          simp [this]
      · have z1 : ¬ w1 < 0 := by omega
        have z2 : ¬ wd.1 = -1 := by rw [q2]; unfold mn; split <;> omega
        rw [decide_eq_false z1, decide_eq_false z2]
        rfl
    have x2 : (decide (w2 < 0) && decide (a2 = 0)) = (decide (pr.1 = -1) && !pr.2.1) := by
      rcases h2.num with ⟨q1, q2⟩ | ⟨q1, q2⟩
      · cases hst : pr.2.1
        · have := h2.a_
          rw [hst] at this
          simp_all
        · have : ¬ a2 = 0 := by
            rw [h2.a_, hst, if_pos rfl]
            split
            · rename_i hP; rw [h2.hP, decide_eq_true_iff] at hP; omega
            · omega
          simp [this]
      · have z1 : ¬ w2 < 0 := by omega
        have z2 : ¬ pr.1 = -1 := by rw [q2]; unfold mn; split <;> omega
        rw [decide_eq_false z1, decide_eq_false z2]
        rfl
    rw [hl, hs]
    unfold endC okC
    rw [x1, x2, hf, hfe]
    cases (decide (0 ≤ fl)) <;> cases (decide (fl ≤ 63)) <;> cases flagsOk fl (flOf m) <;> simp
def bigR (x : S35) : Bool := decide (10000 < x.f3) || (decide (10000 < x.f5) || (decide (64 < x.f1) || (decide (64 < x.f4) || decide (64 < x.f6))))
def ConvAgree (nx : Int) (c : Option ConvT) (e : (S35 × Bool) × Int × Bool × Bool × List UInt8) : Prop :=
  match c with
  | none => e.1.2 = false
  | some r => e.1.2 = true ∧ r.lg = bigR e.1.1 ∧ (r.lg = false → r.x = e.1.1 ∧ r.nx = e.2.1 ∧ PlR r.pl e.2.2.1 e.2.2.2.1 ∧ r.l = e.2.2.2.2 ∧ nx ≤ r.nx ∧ r.nx ≤ nx + 3)
theorem star_eq {f : Fld} {nx : Int} {wi pn : Bool} {w a nx' : Int} {wi' pn' P O : Bool} {p : Int} (h : SR f nx wi pn w a nx' wi' pn' P p) (h0 : 0 ≤ nx) (h1 : nx ≤ 100010) (hO : (!f.2.1 || (P == O)) = true) :
    ∃ x, starArg (modeOf O) nx f = (x, nx') ∧ (f.2.1 && decide (64 < x)) = decide (64 < a) ∧ (a ≤ 64 → x = a) ∧ decide (10000 < f.1) = decide (10000 < w) ∧ (w ≤ 10000 → f.1 = w) := by
  have hw : decide (10000 < f.1) = decide (10000 < w) ∧ (w ≤ 10000 → f.1 = w) := by
    rcases h.num with ⟨q1, q2⟩ | ⟨q1, q2⟩
    · rw [q1, q2]; exact ⟨rfl, fun _ => rfl⟩
    · rw [q2]
      exact ⟨decide_eq_decide.2 (lt_mn (by decide)), fun e => mn_le (by omega)⟩
  have ha := h.a_
  have hn := h.nx_
  unfold starArg
  cases hst : f.2.1
  · rw [hst] at ha hn
    rw [if_neg (by decide)] at ha
    subst ha
    have : nx' = nx := by rw [hn]; simp
    subst this
    exact ⟨0, by rw [if_neg (by decide)], by rfl, fun _ => rfl, hw⟩
  · rw [hst] at ha hn hO
    rw [if_pos rfl] at ha ⊢
    have hPO : P = O := by cases P <;> cases O <;> simp at hO ⊢
    subst hPO
    obtain ⟨s1, _, _⟩ := h.st hst
    unfold argC
    cases P
    · rw [if_neg (by decide)] at ha
      have e : wrap64 (nx + 1) = nx + 1 := by unfold wrap64; omega
      have : nx' = nx + 1 := by rw [hn]; rfl
      rw [if_pos (by rfl), e, this]
      exact ⟨_, rfl, by rw [ha, Bool.true_and], fun _ => ha.symm, hw⟩
    · rw [if_pos rfl] at ha
      have : nx' = nx := by rw [hn]; simp
      rw [if_neg (by decide), this, s1]
      subst ha
      exact ⟨_, rfl, by rw [Bool.true_and]; exact decide_eq_decide.2 (lt_mn (by decide)), fun e => mn_le (by omega), hw⟩
set_option maxHeartbeats 2000000 in
theorem end_rel {pl nx : Int} {wi pn : Bool} {own own' fl : Int} {wd pr : Fld} {w1 a1 nx1 w2 a2 nx2 : Int} {wi1 pn1 wi2 pn2 P1 P2 : Bool} {p1 p2 : Int} (l : List UInt8) (hpr : PlR pl wi pn) (h0 : 0 ≤ nx) (hnx : nx ≤ 100000) (hown : own = mn 65 own') (hown0 : 0 ≤ own') (hfl : 0 ≤ fl ∧ fl ≤ 63)
    (h1 : SR wd nx wi pn w1 a1 nx1 wi1 pn1 P1 p1) (h2 : SR pr nx1 wi1 pn1 w2 a2 nx2 wi2 pn2 P2 p2) :
    ConvAgree nx (convE own fl wd pr (lenC l).1 (hdI (lenC l).2) pl nx (lenC l).2.tail) (endR own' fl w1 a1 w2 a2 nx2 wi2 pn2 l) := by
  unfold endR
  generalize (lenC l).1 = ln
  generalize (lenC l).2 = l6
  cases l6 with
  | nil =>
    have : convE own fl wd pr ln (hdI []) pl nx ([] : List UInt8).tail = none := by
      unfold convE
      rw [if_neg (by decide)]
    rw [this]
    rfl
  | cons c t =>
    have hn1 : 0 ≤ nx1 ∧ nx1 ≤ nx + 1 := by rw [h1.nx_]; split <;> omega
    have hn2 : 0 ≤ nx2 ∧ nx2 ≤ nx1 + 1 := by rw [h2.nx_]; split <;> omega
    have hO : decide (0 < own) = decide (0 < own') := by rw [hown]; exact decide_eq_decide.2 (lt_mn (by decide))
    dsimp only
    rw [argR_eq hn2.1 (by omega) hown0, rfits_ok h0 hfl h1 h2]
    show ConvAgree nx (convE own fl wd pr ln (c.toNat : Int) pl nx t) _
    unfold convE
    rw [hO]
    have hag := marks_agree (decide (0 < own')) P1 P2 wd.2.1 pr.2.1 hpr
    have ag1 : agrees wd own = (!wd.2.1 || (P1 == decide (0 < own'))) := by
      unfold agrees
      rw [hO]
      cases hst : wd.2.1
      · rfl
      · rw [(h1.st hst).1, h1.hP]
        congr 2
        exact decide_eq_decide.2 (lt_mn (by decide))
    have ag2 : agrees pr own = (!pr.2.1 || (P2 == decide (0 < own'))) := by
      unfold agrees
      rw [hO]
      cases hst : pr.2.1
      · rfl
      · rw [(h2.st hst).1, h2.hP]
        congr 2
        exact decide_eq_decide.2 (lt_mn (by decide))
    rw [ag1, ag2]
    rw [← h1.wi_, ← h2.wi_, ← h1.pn_, ← h2.pn_] at hag
    have e1 : ((if 0 < own' then (own', nx2, true, pn2) else (nx2 + 1, nx2 + 1, wi2, true)).2.2.1 && (if 0 < own' then (own', nx2, true, pn2) else (nx2 + 1, nx2 + 1, wi2, true)).2.2.2) = ((wi2 || decide (0 < own')) && (pn2 || !decide (0 < own'))) := by
      by_cases h : 0 < own'
      · rw [if_pos h, decide_eq_true h]; simp
      · rw [if_neg h, decide_eq_false h]; simp
    rw [e1]
    generalize hB : ((wi2 || decide (0 < own')) && (pn2 || !decide (0 < own'))) = B at hag ⊢
    cases hok : (ruleC (c.toNat : Int)).ok
    · rw [if_neg (by decide)]; rfl
    · rw [if_pos rfl]
      by_cases q1 : pl = 0 ∨ pl = modeOf (decide (0 < own'))
      · rw [if_pos q1]
        rw [decide_eq_true q1, Bool.true_and] at hag
        by_cases q2 : (!wd.2.1 || (P1 == decide (0 < own'))) = true ∧ (!pr.2.1 || (P2 == decide (0 < own'))) = true
        · rw [if_pos q2]
          rw [q2.1, q2.2] at hag
          obtain rfl : B = false := by cases B <;> simp at hag ⊢
          dsimp only
          cases hf : okC (ruleC (c.toNat : Int)) fl ln wd pr
          · rw [if_neg (by decide)]; rfl
          · rw [if_pos rfl]
            obtain ⟨x1, r1, r2, r3, r4, r5⟩ := star_eq h1 h0 (by omega) q2.1
            obtain ⟨x2, t1, t2, t3, t4, t5⟩ := star_eq h2 hn1.1 (by omega) q2.2
            rw [r1]
            dsimp only
            rw [t1]
            dsimp only
            rw [r2, t2, r4, t4]
            obtain ⟨A, N, WI, PN, hA⟩ : ∃ A N WI PN, (if 0 < own' then (own', nx2, true, pn2) else (nx2 + 1, nx2 + 1, wi2, true)) = (A, N, WI, PN) := ⟨_, _, _, _, rfl⟩
            rw [hA]
            dsimp only
            have hx3 : ∃ x3, argC (modeOf (decide (0 < own'))) nx2 own = (x3, N) ∧ decide (64 < x3) = decide (64 < A) ∧ (A ≤ 64 → x3 = A) ∧ PlR (modeOf (decide (0 < own'))) WI PN ∧ nx2 ≤ N ∧ N ≤ nx2 + 1 := by
              by_cases h : 0 < own'
              · rw [if_pos h] at hA
                simp only [Prod.mk.injEq] at hA
                obtain ⟨rfl, rfl, rfl, rfl⟩ := hA
                rw [decide_eq_true h] at hB ⊢
                unfold argC
                rw [if_neg (by decide), hown]
                refine ⟨_, rfl, decide_eq_decide.2 (lt_mn (by decide)), fun e => mn_le (by omega), Or.inr (Or.inl ⟨rfl, rfl, ?_⟩), by omega, by omega⟩
                cases pn2 <;> simp at hB ⊢
              · rw [if_neg h] at hA
                simp only [Prod.mk.injEq] at hA
                obtain ⟨rfl, rfl, rfl, rfl⟩ := hA
                rw [decide_eq_false h] at hB ⊢
                have e : wrap64 (nx2 + 1) = nx2 + 1 := by unfold wrap64; omega
                unfold argC
                rw [if_pos (by rfl), e]
                refine ⟨_, rfl, rfl, fun _ => rfl, Or.inr (Or.inr ⟨rfl, ?_, rfl⟩), by omega, by omega⟩
                cases wi2 <;> simp at hB ⊢
            obtain ⟨x3, u1, u2, u3, u4, u5, u6⟩ := hx3
            rw [u1]
            dsimp only
            rw [u2]
            refine ⟨by simp, ?_, fun hlg => ?_⟩
            · show _ = bigR _
              unfold bigR
              dsimp only
              cases decide (10000 < w1) <;> cases decide (10000 < w2) <;> cases decide (64 < a1) <;> cases decide (64 < a2) <;> cases decide (64 < A) <;> rfl
            · have hlg' : (decide (10000 < w1) || (decide (10000 < w2) || (decide (64 < a1) || (decide (64 < a2) || decide (64 < A))))) = false := hlg
              simp only [Bool.or_eq_false_iff, decide_eq_false_iff_not] at hlg'
              obtain ⟨l1, l2, l3, l4, l5⟩ := hlg'
              refine ⟨?_, rfl, u4, rfl, ?_, ?_⟩
              · show (⟨_, x3, fl, wd.1, x1, pr.1, x2, ln, _⟩ : S35) = ⟨_, A, fl, w1, a1, w2, a2, ln, _⟩
                rw [u3 (by omega), r5 (by omega), r3 (by omega), t5 (by omega), t3 (by omega)]
              · show nx ≤ N
                have : nx ≤ nx1 := by rw [h1.nx_]; split <;> omega
                have : nx1 ≤ nx2 := by rw [h2.nx_]; split <;> omega
                omega
              · show N ≤ nx + 3
                omega
        · rw [if_neg q2]
          have : B = true := by
            cases B
            · exfalso
              rw [Bool.not_false, Bool.and_eq_true] at hag
              exact q2 hag
            · rfl
          rw [this]
          show (_ && !true) = false
          simp
      · rw [if_neg q1]
        rw [decide_eq_false q1, Bool.false_and] at hag
        have : B = true := by cases B <;> simp at hag ⊢
        rw [this]
        show (_ && !true) = false
        simp
theorem conv_rel {pl nx : Int} {wi pn : Bool} (hpr : PlR pl wi pn) (h0 : 0 ≤ nx) (hnx : nx ≤ 100000) (l : List UInt8) : ConvAgree nx (convC pl nx l) (rconvC nx wi pn l) := by
  unfold convC rconvC
  obtain ⟨p1, p2, p3⟩ := place_rel l
  dsimp only
  rw [← p1]
  obtain ⟨f1, f2⟩ := flags_range (placeC l).2 0 ⟨Int.le_refl _, by decide⟩
  generalize (placeR l).1 = own' at p2 p3 ⊢
  generalize placeC l = ow at p1 p2 f1 f2 ⊢
  generalize flagsC 0 ow.2 = fl at f1 f2 ⊢
  have hw := width_rel nx wi pn fl.2
  cases hwd : widthC fl.2 with
  | none =>
    rw [hwd] at hw
    rw [Option.bind_none]
    show (endR _ _ _ _ _ _ _ _ _ _).1.2 = false
    rw [precR_dig hw]
    exact dig_end hw _ _ _ _ _ _ _ _ _
  | some wd =>
    rw [hwd] at hw
    obtain ⟨w1, w2⟩ := hw
    rw [Option.bind_some, w1]
    obtain ⟨P1, q1, s1⟩ := FR.sr w2 h0 (by omega)
    generalize widthR nx wi pn fl.2 = W at w1 w2 s1 ⊢
    obtain ⟨w, a, nx1, wi1, pn1, l3⟩ := W
    dsimp only at w1 w2 s1 ⊢
    have hn1 : 0 ≤ nx1 ∧ nx1 ≤ nx + 1 := by rw [s1.nx_]; split <;> omega
    have hp := prec_rel nx1 wi1 pn1 l3
    cases hpd : precC l3 with
    | none =>
      rw [hpd] at hp
      rw [Option.bind_none]
      exact dig_end hp _ _ _ _ _ _ _ _ _
    | some pr =>
      rw [hpd] at hp
      obtain ⟨v1, v2⟩ := hp
      rw [Option.bind_some, v1]
      obtain ⟨P2, q2, s2⟩ := FR.sr v2 hn1.1 (by omega)
      generalize precR nx1 wi1 pn1 l3 = V at v1 v2 s2 ⊢
      obtain ⟨w', a', nx2, wi2, pn2, l4⟩ := V
      dsimp only at v1 v2 s2 ⊢
      exact end_rel l4 hpr h0 hnx p2 p3 ⟨f1, f2⟩ s1 s2
def pieceR (full : Bool) (nx : Int) (wi pn : Bool) (l : List UInt8) : Except (Int × List UInt8) (S35 × Int × Bool × Bool × List UInt8) :=
  match skipC 37 l with
  | none => if full then .error (2, l) else if hdI (l.dropWhile isTxt) = 0 ∧ l.dropWhile isTxt ≠ [] then .error (6, l.dropWhile isTxt)
      else .ok (⟨⟨(l.takeWhile isTxt).toArray⟩, 0, 0, -1, 0, -1, 0, 0, 0⟩, nx, wi, pn, l.dropWhile isTxt)
  | some t => match skipC 37 t with
    | some t' => .ok (⟨⟨#[]⟩, 0, 0, -1, 0, -1, 0, 0, 37⟩, nx, wi, pn, t')
    | none => if (rconvC nx wi pn t).1.2 then .ok ((rconvC nx wi pn t).1.1, (rconvC nx wi pn t).2) else .error (6, l)
def piecesR : Nat → List S35 → Int → Bool → Bool → List UInt8 → Except (Int × List UInt8) (List S35)
  | 0, acc, _, _, _, _ => .ok acc
  | k + 1, acc, nx, wi, pn, l => if l = [] then .ok acc else match pieceR (decide (acc.length = 500)) nx wi pn l with
    | .error e => .error e
    | .ok (x, nx', wi', pn', l') => if bigR x = true ∨ acc.length = 500 then .error (2, l) else piecesR k (acc ++ [x]) nx' wi' pn' l'
def rparseC (l : List UInt8) : List S35 × Int × Int := if 2000 < l.length then ([], 2, 0) else outC l.length (piecesR (l.length + 1) [] 0 false false l)
theorem pieces_rel : ∀ (k : Nat) (acc : List S35) (pl nx : Int) (wi pn : Bool) (l : List UInt8), PlR pl wi pn → 0 ≤ nx → nx + 3 * (k : Int) ≤ 100000 → piecesR k acc nx wi pn l = piecesC k acc pl nx l := by
  intro k
  induction k with
  | zero => intro acc pl nx wi pn l _ _ _; rfl
  | succ k ih =>
    intro acc pl nx wi pn l hpr h0 hk
    unfold piecesR piecesC
    by_cases hl : l = []
    · rw [if_pos hl, if_pos hl]
    · rw [if_neg hl, if_neg hl]
      unfold pieceR pieceC
      cases h1 : skipC 37 l with
      | none =>
        dsimp only
        by_cases hf : acc.length = 500
        · simp only [decide_eq_true hf, if_true]
        · simp only [decide_eq_false hf, Bool.false_eq_true, if_false]
          by_cases hz : hdI (l.dropWhile isTxt) = 0 ∧ l.dropWhile isTxt ≠ []
          · rw [if_pos hz, if_pos hz]
          · rw [if_neg hz, if_neg hz]
            dsimp only
            rw [if_neg hf, if_neg (by
              rintro (h | h)
              · exact absurd (show false = true from h) Bool.false_ne_true
              · exact hf h)]
            exact ih _ _ _ _ _ _ hpr h0 (by omega)
      | some t =>
        dsimp only
        cases h2 : skipC 37 t with
        | some t' =>
          dsimp only
          by_cases hf : acc.length = 500
          · rw [if_pos hf, if_pos (Or.inr hf)]
          · rw [if_neg hf, if_neg (by
              rintro (h | h)
              · exact absurd (show false = true from h) Bool.false_ne_true
              · exact hf h)]
            exact ih _ _ _ _ _ _ hpr h0 (by omega)
        | none =>
          dsimp only
          have hc := conv_rel hpr h0 (by omega) t
          cases hcv : convC pl nx t with
          | none =>
            rw [hcv] at hc
            have hc' : (rconvC nx wi pn t).1.2 = false := hc
            rw [hc', if_neg (by decide)]
          | some r =>
            rw [hcv] at hc
            obtain ⟨c1, c2, c3⟩ := hc
            rw [c1, if_pos rfl]
            dsimp only
            cases hlg : r.lg
            · simp only [Bool.false_eq_true, if_false]
              obtain ⟨d1, d2, d3, d4, d5, d6⟩ := c3 hlg
              rw [c2] at hlg
              generalize hR : rconvC nx wi pn t = R at hlg d1 d2 d3 d4 ⊢
              obtain ⟨⟨x, b⟩, nx', wi', pn', l'⟩ := R
              dsimp only at hlg d1 d2 d3 d4 ⊢
              subst d1 d2 d4
              by_cases hf : acc.length = 500
              · rw [if_pos hf, if_pos (Or.inr hf)]
              · rw [if_neg hf, if_neg (by
                  rintro (h | h)
                  · rw [hlg] at h; cases h
                  · exact hf h)]
                exact ih _ _ _ _ _ _ d3 (by omega) (by omega)
            · rw [if_pos rfl]
              rw [c2] at hlg
              generalize hR : rconvC nx wi pn t = R at hlg ⊢
              obtain ⟨⟨x, b⟩, nx', wi', pn', l'⟩ := R
              dsimp only at hlg ⊢
              rw [if_pos (Or.inl hlg)]
theorem parse_rel (l : List UInt8) : rparseC l = parseC l := by
  unfold rparseC parseC
  by_cases h : 2000 < l.length
  · rw [if_pos h, if_pos h]
  · rw [if_neg h, if_neg h, pieces_rel (l.length + 1) [] 0 0 false false l (Or.inl ⟨rfl, rfl, rfl⟩) (Int.le_refl _) (by omega)]
end Go.Proofs.YtnhbgahfmcicnaaGreatDoor.PA
end
section
namespace Go.Proofs.YtnhbgahfmcicnaaGreatDoor.PA
set_option linter.unusedVariables false
set_option linter.unusedSimpArgs false
open Go.RowKit Go.Shelf Go.Proofs.YtnhbgahfmcicnaaGreatDoorW.PrintWords Go.Proofs.YtnhbgahfmcicnaaGreatDoorW.PrintLast Go.Proofs.YtnhbgahfmcicnaaGreatDoorW.PrintMore
theorem argR_bound {nx p : Int} (h0 : 0 ≤ nx) (h1 : nx ≤ 100010) (hp : 0 ≤ p) (wi pn : Bool) : 0 ≤ (argR nx wi pn p).1 ∧ nx ≤ (argR nx wi pn p).2.1 ∧ (argR nx wi pn p).2.1 ≤ nx + 1 := by
  rw [argR_eq h0 h1 hp]
  split
  · exact ⟨hp, Int.le_refl _, by show nx ≤ nx + 1; omega⟩
  · exact ⟨by show 0 ≤ nx + 1; omega, by show nx ≤ nx + 1; omega, Int.le_refl _⟩
theorem widthR_bound {nx : Int} (h0 : 0 ≤ nx) (h1 : nx ≤ 100010) (wi pn : Bool) (l : List UInt8) : 0 ≤ (widthR nx wi pn l).2.1 ∧ nx ≤ (widthR nx wi pn l).2.2.1 ∧ (widthR nx wi pn l).2.2.1 ≤ nx + 1 := by
  unfold widthR
  split
  · exact argR_bound h0 h1 (place_rel _).2.2 wi pn
  · exact ⟨Int.le_refl _, Int.le_refl _, by show nx ≤ nx + 1; omega⟩
theorem precR_bound {nx : Int} (h0 : 0 ≤ nx) (h1 : nx ≤ 100010) (wi pn : Bool) (l : List UInt8) : 0 ≤ (precR nx wi pn l).2.1 ∧ nx ≤ (precR nx wi pn l).2.2.1 ∧ (precR nx wi pn l).2.2.1 ≤ nx + 1 := by
  unfold precR
  split
  · exact ⟨Int.le_refl _, Int.le_refl _, by show nx ≤ nx + 1; omega⟩
  · split
    · exact argR_bound h0 h1 (place_rel _).2.2 wi pn
    · exact ⟨Int.le_refl _, Int.le_refl _, by show nx ≤ nx + 1; omega⟩
theorem rconv_bound {nx : Int} (h0 : 0 ≤ nx) (h1 : nx ≤ 100000) (wi pn : Bool) (l : List UInt8) :
    0 ≤ (rconvC nx wi pn l).1.1.f1 ∧ 0 ≤ (rconvC nx wi pn l).1.1.f4 ∧ 0 ≤ (rconvC nx wi pn l).1.1.f6 ∧ 0 ≤ (rconvC nx wi pn l).2.1 ∧ (rconvC nx wi pn l).2.1 ≤ nx + 3 := by
  unfold rconvC
  dsimp only
  have a1 := widthR_bound h0 (by omega) wi pn (flagsC 0 (placeR l).2).2
  generalize widthR nx wi pn (flagsC 0 (placeR l).2).2 = W at a1 ⊢
  have a2 := precR_bound (nx := W.2.2.1) (by omega) (by omega) W.2.2.2.1 W.2.2.2.2.1 W.2.2.2.2.2
  generalize precR W.2.2.1 W.2.2.2.1 W.2.2.2.2.1 W.2.2.2.2.2 = V at a2 ⊢
  have a3 := argR_bound (nx := V.2.2.1) (by omega) (by omega) (place_rel l).2.2 V.2.2.2.1 V.2.2.2.2.1
  unfold endR
  split
  · exact ⟨Int.le_refl _, a1.1, a2.1, by show 0 ≤ V.2.2.1; omega, by show V.2.2.1 ≤ nx + 3; omega⟩
  · exact ⟨a3.1, a1.1, a2.1, by show 0 ≤ (argR _ _ _ _).2.1; omega, by show (argR _ _ _ _).2.1 ≤ nx + 3; omega⟩
theorem allC_one (x : S35) : allC [x] = [x.f4, x.f6, x.f1].filter fun n => !(n == 0) := by
  unfold allC
  simp
theorem pieceR_args {full : Bool} {nx nx' : Int} {wi pn wi' pn' : Bool} {l l' : List UInt8} {x : S35} (h0 : 0 ≤ nx) (h1 : nx ≤ 100000) (h : pieceR full nx wi pn l = .ok (x, nx', wi', pn', l')) (hb : bigR x = false) :
    (∀ n ∈ allC [x], 1 ≤ n ∧ n ≤ 64) ∧ 0 ≤ nx' ∧ nx' ≤ nx + 3 := by
  unfold pieceR at h
  split at h
  · split at h
    · cases h
    · split at h
      · cases h
      · simp only [Except.ok.injEq, Prod.mk.injEq] at h
        obtain ⟨rfl, rfl, rfl, rfl, rfl⟩ := h
        exact ⟨fun n hn => by rw [allC_one] at hn; simp at hn, h0, by omega⟩
  · split at h
    · simp only [Except.ok.injEq, Prod.mk.injEq] at h
      obtain ⟨rfl, rfl, rfl, rfl, rfl⟩ := h
      exact ⟨fun n hn => by rw [allC_one] at hn; simp at hn, h0, by omega⟩
    · rename_i t _ _ _
      split at h
      · have hc := rconv_bound h0 h1 wi pn t
        generalize rconvC nx wi pn t = c at h hc
        simp only [Except.ok.injEq, Prod.mk.injEq] at h
        obtain ⟨rfl, e⟩ := h
        have e1 : c.2.1 = nx' := congrArg Prod.fst e
        unfold bigR at hb
        simp only [Bool.or_eq_false_iff, decide_eq_false_iff_not] at hb
        refine ⟨fun n hn => ?_, by omega, by omega⟩
        rw [allC_one, List.mem_filter] at hn
        obtain ⟨hn, hz⟩ := hn
        have hz' : ¬ n = 0 := by simpa using hz
        simp only [List.mem_cons, List.not_mem_nil, or_false] at hn
        omega
      · cases h
theorem piecesR_end (k : Nat) (acc : List S35) (nx : Int) (wi pn : Bool) : piecesR (k + 1) acc nx wi pn [] = .ok acc := by
  unfold piecesR
  rw [if_pos rfl]
theorem piecesR_err {k : Nat} {acc : List S35} {nx : Int} {wi pn : Bool} {l : List UInt8} (hl : ¬ l = []) {e : Int × List UInt8} (h : pieceR (decide (acc.length = 500)) nx wi pn l = .error e) : piecesR (k + 1) acc nx wi pn l = .error e := by
  unfold piecesR
  rw [if_neg hl, h]
theorem piecesR_big {k : Nat} {acc : List S35} {nx nx' : Int} {wi pn wi' pn' : Bool} {l l' : List UInt8} {x : S35} (hl : ¬ l = []) (h : pieceR (decide (acc.length = 500)) nx wi pn l = .ok (x, nx', wi', pn', l')) (hb : bigR x = true ∨ acc.length = 500) : piecesR (k + 1) acc nx wi pn l = .error (2, l) := by
  unfold piecesR
  rw [if_neg hl, h]
  dsimp only
  rw [if_pos hb]
theorem rconv_suf (nx : Int) (wi pn : Bool) (t : List UInt8) : (rconvC nx wi pn t).2.2.2.2 <:+ t := by
  unfold rconvC endR
  dsimp only
  have s1 := placeR_suf t
  have s2 := flagsC_suf (placeR t).2 0
  have s3 := widthR_suf nx wi pn (flagsC 0 (placeR t).2).2
  generalize widthR nx wi pn (flagsC 0 (placeR t).2).2 = W at s3 ⊢
  have s4 := precR_suf W.2.2.1 W.2.2.2.1 W.2.2.2.2.1 W.2.2.2.2.2
  generalize precR W.2.2.1 W.2.2.2.1 W.2.2.2.2.1 W.2.2.2.2.2 = V at s4 ⊢
  have s5 := lenC_suf V.2.2.2.2.2
  have sa := s5.trans (s4.trans (s3.trans (s2.trans s1)))
  split
  · exact List.nil_suffix
  · rename_i c u hu
    rw [hu] at sa
    exact (List.suffix_cons c u).trans sa
theorem skipC_lt {b : UInt8} {l t : List UInt8} (h : skipC b l = some t) : t.length < l.length := by
  cases l with
  | nil => cases h
  | cons c l =>
    rw [skipC_cons] at h
    split at h
    · rw [← Option.some.inj h]; simp
    · cases h
theorem pieceR_lt {full : Bool} {nx nx' : Int} {wi pn wi' pn' : Bool} {l l' : List UInt8} {x : S35} (hl : ¬ l = []) (hp : pieceR full nx wi pn l = .ok (x, nx', wi', pn', l')) : l'.length < l.length ∧ l' <:+ l := by
  unfold pieceR at hp
  split at hp
  · rename_i h37
    split at hp
    · cases hp
    · split at hp
      · cases hp
      · rename_i hz
        simp only [Except.ok.injEq, Prod.mk.injEq] at hp
        obtain ⟨_, _, _, _, rfl⟩ := hp
        refine ⟨?_, List.dropWhile_suffix _⟩
        cases l with
        | nil => exact absurd rfl hl
        | cons c l =>
          have hc : isTxt c = true ∨ isTxt c = false := by cases isTxt c <;> simp
          rcases hc with hc | hc
          · rw [List.dropWhile_cons_of_pos hc]
            have := (List.dropWhile_suffix isTxt (l := l)).length_le
            rw [List.length_cons]
            omega
          · exfalso
            rw [List.dropWhile_cons_of_neg (by rw [hc]; decide)] at hz
            apply hz
            refine ⟨?_, by simp⟩
            rw [skipC_cons] at h37
            have hc37 : ¬ c = 37 := fun e => by rw [if_pos e] at h37; cases h37
            unfold isTxt at hc
            have hc0 : c = 0 := by
              have : (c != 37) = true := by simpa using hc37
              rw [this] at hc
              simpa using hc
            rw [hc0]
            rfl
  · rename_i t ht
    have h1 := skipC_lt ht
    split at hp
    · rename_i t' ht'
      have h2 := skipC_lt ht'
      simp only [Except.ok.injEq, Prod.mk.injEq] at hp
      obtain ⟨_, _, _, _, rfl⟩ := hp
      exact ⟨by omega, (skipC_suf ht').trans (skipC_suf ht)⟩
    · split at hp
      · simp only [Except.ok.injEq, Prod.mk.injEq] at hp
        obtain ⟨_, e⟩ := hp
        have e2 : (rconvC nx wi pn t).2.2.2.2 = l' := congrArg (fun z => z.2.2.2) e
        have := rconv_suf nx wi pn t
        rw [e2] at this
        exact ⟨by have := this.length_le; omega, this.trans (skipC_suf ht)⟩
      · cases hp
theorem piecesR_more : ∀ (j k : Nat) (acc : List S35) (nx : Int) (wi pn : Bool) (l : List UInt8), l.length < k → piecesR (k + j) acc nx wi pn l = piecesR k acc nx wi pn l := by
  intro j k
  induction k with
  | zero => intro acc nx wi pn l h; omega
  | succ k ih =>
    intro acc nx wi pn l h
    rw [show k + 1 + j = (k + j) + 1 by omega]
    unfold piecesR
    by_cases hl : l = []
    · rw [if_pos hl, if_pos hl]
    · rw [if_neg hl, if_neg hl]
      cases hp : pieceR (decide (acc.length = 500)) nx wi pn l with
      | error e => rfl
      | ok r =>
        obtain ⟨x, nx', wi', pn', l'⟩ := r
        dsimp only
        by_cases hb : bigR x = true ∨ acc.length = 500
        · rw [if_pos hb, if_pos hb]
        · rw [if_neg hb, if_neg hb]
          exact ih _ _ _ _ _ (by have := (pieceR_lt hl hp).1; omega)
theorem piecesR_step {acc : List S35} {nx nx' : Int} {wi pn wi' pn' : Bool} {l l' : List UInt8} {x : S35} (hl : ¬ l = []) (h : pieceR (decide (acc.length = 500)) nx wi pn l = .ok (x, nx', wi', pn', l')) (hb : bigR x = false) (h5 : ¬ acc.length = 500) :
    piecesR (l'.length + 1) (acc ++ [x]) nx' wi' pn' l' = piecesR (l.length + 1) acc nx wi pn l := by
  have hlt := (pieceR_lt hl h).1
  conv => rhs; unfold piecesR
  rw [if_neg hl, h]
  dsimp only
  rw [if_neg (by rintro (e | e); · rw [hb] at e; cases e
                 · exact h5 e)]
  obtain ⟨j, hj⟩ : ∃ j, l.length = l'.length + 1 + j := ⟨l.length - (l'.length + 1), by omega⟩
  rw [hj]
  exact (piecesR_more j (l'.length + 1) _ _ _ _ _ (by omega)).symm
theorem allC_snoc {acc : List S35} {x : S35} (h : ∀ n ∈ allC acc, 1 ≤ n ∧ n ≤ 64) (h2 : ∀ n ∈ allC [x], 1 ≤ n ∧ n ≤ 64) : ∀ n ∈ allC (acc ++ [x]), 1 ≤ n ∧ n ≤ 64 := by
  intro n hn
  rw [allC_append] at hn
  rcases List.mem_append.1 hn with h' | h'
  · exact h n h'
  · exact h2 n h'
end Go.Proofs.YtnhbgahfmcicnaaGreatDoor.PA
end
