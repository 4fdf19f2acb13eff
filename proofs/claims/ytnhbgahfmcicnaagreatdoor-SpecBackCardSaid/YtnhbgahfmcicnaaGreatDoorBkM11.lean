/- A part of the proof that Parse of Print is the list, and that Print of what Parse returns is read so again and no longer. -/
import Derived.Test.YtnhbgahfmcicnaaGreatDoorBkM6
import Derived.Test.YtnhbgahfmcicnaaGreatDoorBkG2f1
import Derived.Test.YtnhbgahfmcicnaaGreatDoorBkM4
import Derived.Test.YtnhbgahfmcicnaaGreatDoorBkM7
import Derived.Test.YtnhbgahfmcicnaaGreatDoorBkM8
import Derived.Test.YtnhbgahfmcicnaaGreatDoorBkM0
import Derived.Test.YtnhbgahfmcicnaaGreatDoorBkG2f
import Derived.Lib.ItoaLen
section
namespace Go.Proofs.YtnhbgahfmcicnaaGreatDoor.PA
set_option linter.unusedVariables false
set_option linter.unusedSimpArgs false
open Go.RowKit Go.Proofs.YtnhbgahfmcicnaaGreatDoorW.PrintWords Go.Proofs.YtnhbgahfmcicnaaGreatDoorW.PrintLast
theorem digit_val {d : Nat} (h : d < 10) : (((UInt8.ofNat (48 + d)).toNat : Nat) : Int) = 48 + (d : Int) := by
  rw [UInt8.toNat_ofNat']
  omega
theorem digit_dig {d : Nat} (h : d < 10) : isDig (((UInt8.ofNat (48 + d)).toNat : Nat) : Int) = true := by
  rw [digit_val h]
  unfold isDig
  rw [decide_eq_true (by omega), decide_eq_true (by omega)]
  rfl
theorem numC_stop {m n : Int} {r : List UInt8} (h : isDig (hdI r) = false) : numC m n r = (n, r) := by
  cases r with
  | nil => rfl
  | cons c r =>
    unfold numC
    rw [show isDig (c.toNat : Int) = false from h]
    rfl
theorem numC_dec (m : Int) : ∀ (u : Nat), (u : Int) ≤ m → ∀ r, numC m 0 (Lib.decDigits u ++ r) = numC m u r := by
  intro u
  induction u using Nat.strongRecOn with
  | _ u ih =>
    intro hu r
    by_cases h : u < 10
    · rw [Lib.decDigits_one h, List.singleton_append]
      conv => lhs; unfold numC
      rw [if_pos (digit_dig h), digit_val h]
      congr 1
      unfold mn
      rw [if_pos (by omega)]
      omega
    · rw [Lib.decDigits, dif_neg h, List.append_assoc, ih (u / 10) (by omega) (by omega), List.singleton_append]
      conv => lhs; unfold numC
      rw [if_pos (digit_dig (Nat.mod_lt _ (by decide))), digit_val (Nat.mod_lt _ (by decide))]
      congr 1
      unfold mn
      rw [if_pos (by omega)]
      omega
theorem numC_rest (m : Int) : ∀ (ds : List UInt8), (∀ d ∈ ds, isDig (d.toNat : Int) = true) → ∀ (n : Int) (r : List UInt8), isDig (hdI r) = false → (numC m n (ds ++ r)).2 = r
  | [], _, n, r, h => by rw [List.nil_append, numC_stop h]
  | d :: ds, hd, n, r, h => by
    rw [List.cons_append]
    unfold numC
    rw [if_pos (hd d List.mem_cons_self)]
    exact numC_rest m ds (fun e he => hd e (List.mem_cons_of_mem _ he)) _ r h
theorem dec_digits : ∀ (u : Nat), ∀ d ∈ Lib.decDigits u, isDig (d.toNat : Int) = true := by
  intro u
  induction u using Nat.strongRecOn with
  | _ u ih =>
    intro d hd
    by_cases h : u < 10
    · rw [Lib.decDigits_one h] at hd
      obtain rfl := List.mem_singleton.1 hd
      exact digit_dig h
    · rw [Lib.decDigits, dif_neg h] at hd
      rcases List.mem_append.1 hd with hd | hd
      · exact ih (u / 10) (by omega) d hd
      · obtain rfl := List.mem_singleton.1 hd
        exact digit_dig (Nat.mod_lt _ (by decide))
theorem dec_head : ∀ (u : Nat), 1 ≤ u → ∃ d ds, Lib.decDigits u = d :: ds ∧ isDig (d.toNat : Int) = true ∧ (d.toNat : Int) ≠ 48 := by
  intro u
  induction u using Nat.strongRecOn with
  | _ u ih =>
    intro hu
    by_cases h : u < 10
    · exact ⟨_, _, Lib.decDigits_one h, digit_dig h, by rw [digit_val h]; omega⟩
    · obtain ⟨d, ds, e, h1, h2⟩ := ih (u / 10) (by omega) (by omega)
      rw [Lib.decDigits, dif_neg h, e]
      exact ⟨d, _, rfl, h1, h2⟩
theorem itoa_pos {n : Int} (h : 0 ≤ n) : Lib.itoa n = Lib.decDigits n.toNat := by unfold Lib.itoa; rw [if_neg (by omega)]
theorem pos_dec {n : Int} (h : 1 ≤ n) (r : List UInt8) : posB (Lib.itoa n ++ r) = true := by
  rw [itoa_pos (by omega)]
  obtain ⟨d, ds, e, h1, h2⟩ := dec_head n.toNat (by omega)
  rw [e]
  unfold posB
  show (isDig (d.toNat : Int) && decide ((d.toNat : Int) ≠ 48)) = true
  rw [h1, decide_eq_true h2]
  rfl
theorem num_itoa {m n : Int} (h0 : 0 ≤ n) (h : n ≤ m) {r : List UInt8} (hr : isDig (hdI r) = false) : numC m 0 (Lib.itoa n ++ r) = (n, r) := by
  rw [itoa_pos h0, numC_dec m n.toNat (by omega), numC_stop hr]
  congr 1
  omega
theorem place_itoa {n : Int} (h1 : 1 ≤ n) (h2 : n ≤ 64) (r : List UInt8) : placeC (Lib.itoa n ++ 36 :: r) = (n, r) ∧ starC (Lib.itoa n ++ 36 :: r) = some (n, r) := by
  have hn := num_itoa (m := 64) (n := n) (by omega) h2 (r := 36 :: r) rfl
  refine ⟨?_, ?_⟩
  · unfold placeC
    rw [if_pos (pos_dec h1 _), hn]
    dsimp only
    rw [skipC_hit]
  · unfold starC
    rw [if_pos (pos_dec h1 _), hn]
    dsimp only
    rw [skipC_hit]
    rfl
theorem flagsC_app : ∀ (ms : List UInt8) (a : Int) (r : List UInt8), (∀ c ∈ ms, ¬ flagVal (c.toNat : Int) = 0) → flagsC a (ms ++ r) = flagsC (ms.foldl (fun a c => Go.bits .or .i64 a (flagVal (c.toNat : Int))) a) r
  | [], a, r, _ => rfl
  | c :: ms, a, r, h => by
    rw [List.cons_append, List.foldl_cons]
    conv => lhs; unfold flagsC
    rw [if_neg (h c List.mem_cons_self)]
    exact flagsC_app ms _ r fun d hd => h d (List.mem_cons_of_mem _ hd)
theorem flagsC_stop {a : Int} {r : List UInt8} (h : flagVal (hdI r) = 0) : flagsC a r = (a, r) := by
  cases r with
  | nil => rfl
  | cons c r =>
    unfold flagsC
    rw [if_pos (show flagVal (c.toNat : Int) = 0 from h)]
theorem marks_all : ∀ a : Fin 64, ((flagMarks (a.val : Int) 6).all fun c => !(flagVal (c.toNat : Int) == 0)) = true ∧ (flagMarks (a.val : Int) 6).foldl (fun a c => Go.bits .or .i64 a (flagVal (c.toNat : Int))) 0 = (a.val : Int) := by decide +kernel
theorem flags_back {a : Int} (h0 : 0 ≤ a) (h1 : a ≤ 63) {r : List UInt8} (hr : flagVal (hdI r) = 0) : flagsC 0 (flagMarks a 6 ++ r) = (a, r) := by
  have h := marks_all ⟨a.toNat, by omega⟩
  rw [show ((a.toNat : Nat) : Int) = a by omega] at h
  rw [flagsC_app _ _ _ fun c hc => by simpa using List.all_eq_true.1 h.1 c hc, flagsC_stop hr, h.2]
theorem flag_pos {c : UInt8} (h : ¬ flagVal (c.toNat : Int) = 0) (r : List UInt8) : posB (c :: r) = false := by
  unfold posB
  show (isDig (c.toNat : Int) && decide ((c.toNat : Int) ≠ 48)) = false
  by_cases e : (c.toNat : Int) = 48
  · rw [e]; rfl
  · have : isDig (c.toNat : Int) = false := by
      unfold isDig
      unfold flagVal at h
      rw [Bool.and_eq_false_iff, decide_eq_false_iff_not, decide_eq_false_iff_not]
      repeat' split at h
      all_goals first
        | omega
        | exact absurd rfl h
    rw [this]
    rfl
structure Plain (r : List UInt8) : Prop where
  dig : isDig (hdI r) = false
  flag : flagVal (hdI r) = 0
  n42 : hdI r ≠ 42
  n36 : hdI r ≠ 36
  n46 : hdI r ≠ 46
theorem plain_congr {r r' : List UInt8} (e : hdI r = hdI r') (h : Plain r') : Plain r := ⟨e ▸ h.dig, e ▸ h.flag, e ▸ h.n42, e ▸ h.n36, e ▸ h.n46⟩
theorem skip_none {b : UInt8} {r : List UInt8} (h : hdI r ≠ (b.toNat : Int)) : skipC b r = none := by
  cases r with
  | nil => rfl
  | cons c r =>
    have : c ≠ b := fun e => h (by rw [e]; rfl)
    simp [skipC, this]
theorem plain_stop {c : UInt8} (hc : Stop c) (r : List UInt8) : Plain (c :: r) :=
  ⟨hc.dig, hc.flag, hc.n48, fun e => hc.n36 (UInt8.toNat_inj.1 (by have : (c.toNat : Int) = 36 := e; show c.toNat = 36; omega)), fun e => hc.n46 (UInt8.toNat_inj.1 (by have : (c.toNat : Int) = 46 := e; show c.toNat = 46; omega))⟩
theorem plain_mods {c : UInt8} (hc : Stop c) (k : Nat) (hk : k < 12) (r : List UInt8) : Plain (mods.getD k [] ++ c :: r) := by
  rcases (by omega : k = 0 ∨ k = 1 ∨ k = 2 ∨ k = 3 ∨ k = 4 ∨ k = 5 ∨ k = 6 ∨ k = 7 ∨ k = 8 ∨ k = 9 ∨ k = 10 ∨ k = 11) with rfl | rfl | rfl | rfl | rfl | rfl | rfl | rfl | rfl | rfl | rfl | rfl
  · exact plain_stop hc r
  · exact plain_congr (r' := mods.getD 1 []) rfl ⟨by decide, by decide, by decide, by decide, by decide⟩
  · exact plain_congr (r' := mods.getD 2 []) rfl ⟨by decide, by decide, by decide, by decide, by decide⟩
  · exact plain_congr (r' := mods.getD 3 []) rfl ⟨by decide, by decide, by decide, by decide, by decide⟩
  · exact plain_congr (r' := mods.getD 4 []) rfl ⟨by decide, by decide, by decide, by decide, by decide⟩
  · exact plain_congr (r' := mods.getD 5 []) rfl ⟨by decide, by decide, by decide, by decide, by decide⟩
  · exact plain_congr (r' := mods.getD 6 []) rfl ⟨by decide, by decide, by decide, by decide, by decide⟩
  · exact plain_congr (r' := mods.getD 7 []) rfl ⟨by decide, by decide, by decide, by decide, by decide⟩
  · exact plain_congr (r' := mods.getD 8 []) rfl ⟨by decide, by decide, by decide, by decide, by decide⟩
  · exact plain_congr (r' := mods.getD 9 []) rfl ⟨by decide, by decide, by decide, by decide, by decide⟩
  · exact plain_congr (r' := mods.getD 10 []) rfl ⟨by decide, by decide, by decide, by decide, by decide⟩
  · exact plain_congr (r' := mods.getD 11 []) rfl ⟨by decide, by decide, by decide, by decide, by decide⟩
theorem best_mods : ∀ k : Fin 12, bestMod (mods.getD k.val []) 12 = k.val := by decide +kernel
theorem len_back {c : UInt8} (hc : Stop c) {n : Int} (h0 : 0 ≤ n) (h1 : n < 12) (r : List UInt8) : lenC (mods.getD n.toNat [] ++ c :: r) = (n, c :: r) := by
  have hb := best_mods ⟨n.toNat, by omega⟩
  unfold lenC
  rw [bestU hc]
  dsimp only at hb
  rw [hb]
  congr 1
  · omega
  · unfold modLen
    rw [List.drop_left' rfl]
end Go.Proofs.YtnhbgahfmcicnaaGreatDoor.PA
end
section
namespace Go.Proofs.YtnhbgahfmcicnaaGreatDoor.PA
set_option linter.unusedVariables false
set_option linter.unusedSimpArgs false
open Go.RowKit Go.Proofs.YtnhbgahfmcicnaaGreatDoorW.PrintWords Go.Proofs.YtnhbgahfmcicnaaGreatDoorW.PrintLast
structure Tail (r : List UInt8) : Prop where
  dig : isDig (hdI r) = false
  flag : flagVal (hdI r) = 0
  n42 : hdI r ≠ 42
  n36 : hdI r ≠ 36
theorem Plain.tail {r : List UInt8} (h : Plain r) : Tail r := ⟨h.dig, h.flag, h.n42, h.n36⟩
theorem Tail.pos {r : List UInt8} (h : Tail r) : posB r = false := by unfold posB; rw [h.dig]; rfl
theorem Tail.wid {r : List UInt8} (h : Tail r) : widB r = false := by unfold widB; rw [h.dig, decide_eq_false h.n42]; rfl
theorem tail_dot (r : List UInt8) : Tail (46 :: r) := ⟨rfl, rfl, by show (46 : Int) ≠ 42; decide, by show (46 : Int) ≠ 36; decide⟩
def starF (n : Int) (p : Bool) : Fld := (-1, true, if p then n else 0)
theorem star_field {n : Int} {p : Bool} (h1 : 1 ≤ n) (h2 : n ≤ 64) {r : List UInt8} (hr : Tail r) : fieldC (starB n p ++ r) = some (starF n p, r) := by
  unfold starB starF fieldC
  cases p with
  | true =>
    rw [if_pos rfl, List.cons_append, skipC_hit, List.append_assoc, List.singleton_append]
    dsimp only
    rw [(place_itoa h1 h2 r).2]
    rfl
  | false =>
    rw [if_neg (by simp), List.cons_append, List.nil_append, skipC_hit]
    dsimp only
    unfold starC
    rw [hr.pos]
    rfl
theorem dec_no42 {n : Int} (h : 1 ≤ n) (r : List UInt8) : skipC 42 (Lib.itoa n ++ r) = none ∧ isDig (hdI (Lib.itoa n ++ r)) = true ∧ flagVal (hdI (Lib.itoa n ++ r)) = 0 := by
  rw [itoa_pos (by omega)]
  obtain ⟨d, ds, e, h1, h2⟩ := dec_head n.toNat (by omega)
  rw [e]
  have h3 : 48 ≤ (d.toNat : Int) ∧ (d.toNat : Int) ≤ 57 := by
    unfold isDig at h1
    simpa using h1
  refine ⟨skip_none (show (d.toNat : Int) ≠ 42 by omega), h1, ?_⟩
  show flagVal (d.toNat : Int) = 0
  unfold flagVal
  rw [if_neg (by omega), if_neg (by omega), if_neg (by omega), if_neg (by omega), if_neg (by omega), if_neg (by omega)]
theorem num_field {n : Int} (h1 : 1 ≤ n) (h2 : n ≤ 10000) {r : List UInt8} (hr : Tail r) : fieldC (Lib.itoa n ++ r) = some ((n, false, 0), r) := by
  unfold fieldC
  rw [(dec_no42 h1 r).1]
  dsimp only
  rw [num_itoa (by omega) h2 hr.dig]
theorem no_field {r : List UInt8} (hr : Tail r) : fieldC r = some ((0, false, 0), r) := by
  unfold fieldC
  rw [skip_none (b := 42) hr.n42]
  dsimp only
  rw [numC_stop hr.dig]
def backF (n a : Int) (p : Bool) : Fld := if 0 < a then starF a p else (n, false, 0)
theorem width_back {a3 a4 : Int} {p : Bool} (h3 : a3 = -1 ∨ (a4 = 0 ∧ 1 ≤ a3 ∧ a3 ≤ 10000)) (h4 : 0 ≤ a4 ∧ a4 ≤ 64) {r : List UInt8} (hr : Tail r) :
    widthC (widthB a3 a4 p ++ r) = some (backF a3 a4 p, r) := by
  unfold widthB backF
  by_cases h : 0 < a4
  · rw [if_pos h, if_pos h]
    unfold widthC
    have : widB (starB a4 p ++ r) = true := by
      unfold starB
      cases p <;> rfl
    rw [if_pos this, star_field h h4.2 hr]
  · rw [if_neg h, if_neg h]
    by_cases h' : 0 < a3
    · rw [if_pos h']
      unfold widthC
      have hd := dec_no42 (n := a3) (by omega) r
      have : widB (Lib.itoa a3 ++ r) = true := by unfold widB; rw [hd.2.1, Bool.or_true]
      rw [if_pos this, num_field (by omega) (by omega) hr]
    · rw [if_neg h', List.nil_append]
      unfold widthC
      rw [if_neg (by rw [hr.wid]; simp), show a3 = -1 by omega]
      rfl
theorem width_tail {a3 a4 : Int} {p : Bool} {r : List UInt8} (hr : Tail r) : flagVal (hdI (widthB a3 a4 p ++ r)) = 0 := by
  unfold widthB
  by_cases h : 0 < a4
  · rw [if_pos h]
    unfold starB
    cases p <;> rfl
  · rw [if_neg h]
    by_cases h' : 0 < a3
    · rw [if_pos h']
      exact (dec_no42 (n := a3) (by omega) r).2.2
    · rw [if_neg h', List.nil_append]
      exact hr.flag
theorem prec_tail {a5 a6 : Int} {p : Bool} {r : List UInt8} (hr : Tail r) : Tail (precB a5 a6 p ++ r) := by
  unfold precB
  repeat' split
  · exact tail_dot _
  · exact tail_dot _
  · exact tail_dot _
  · exact hr
theorem prec_back {a5 a6 : Int} {p : Bool} (h5 : a5 = -1 ∨ (a6 = 0 ∧ 0 ≤ a5 ∧ a5 ≤ 10000)) (h6 : 0 ≤ a6 ∧ a6 ≤ 64) {r : List UInt8} (hr : Plain r) :
    precC (precB a5 a6 p ++ r) = some (backF a5 a6 p, r) := by
  unfold precB backF precC
  by_cases h : 0 < a6
  · rw [if_pos h, if_pos h, List.cons_append, skipC_hit]
    exact star_field h h6.2 hr.tail
  · rw [if_neg h, if_neg h]
    by_cases h' : 0 < a5
    · rw [if_pos h', List.cons_append, skipC_hit]
      exact num_field (by omega) (by omega) hr.tail
    · rw [if_neg h']
      by_cases h0 : a5 = 0
      · rw [if_pos h0, List.cons_append, List.nil_append, skipC_hit, h0]
        exact no_field hr.tail
      · rw [if_neg h0, List.nil_append, skip_none (b := 46) hr.n46, show a5 = -1 by omega]
        rfl
theorem place_none {a2 a3 a4 : Int} {r : List UInt8} (h2 : 0 ≤ a2 ∧ a2 ≤ 63) (hr : Tail r) :
    placeC (flagMarks a2 6 ++ (widthB a3 a4 false ++ r)) = (0, flagMarks a2 6 ++ (widthB a3 a4 false ++ r)) := by
  have hm := marks_all ⟨a2.toNat, by omega⟩
  rw [show ((a2.toNat : Nat) : Int) = a2 by omega] at hm
  cases hf : flagMarks a2 6 with
  | cons c ms =>
    rw [hf] at hm
    have hc : ¬ flagVal (c.toNat : Int) = 0 := by simpa using List.all_eq_true.1 hm.1 c List.mem_cons_self
    unfold placeC
    rw [List.cons_append, flag_pos hc]
    rfl
  | nil =>
    rw [List.nil_append]
    unfold widthB
    by_cases h : 0 < a4
    · rw [if_pos h]; rfl
    · rw [if_neg h]
      by_cases h' : 0 < a3
      · rw [if_pos h']
        unfold placeC
        rw [if_pos (pos_dec (by omega) r), itoa_pos (by omega), numC_rest 64 _ (dec_digits _) 0 r hr.dig, skip_none (b := 36) hr.n36]
      · rw [if_neg h', List.nil_append]
        unfold placeC
        rw [hr.pos]
        rfl
def bodyB (x : S35) (p : Bool) : List UInt8 :=
  (if p then Lib.itoa x.f1 ++ [36] else []) ++ (flagMarks x.f2 6 ++ (widthB x.f3 x.f4 p ++ (precB x.f5 x.f6 p ++ (mods.getD x.f7.toNat [] ++ [x.f8.toNat.toUInt8]))))
theorem shown_body (x : S35) (p : Bool) : shownB x.f1 x.f2 x.f3 x.f4 x.f5 x.f6 x.f7 x.f8 p = 37 :: bodyB x p := by
  unfold shownB headB bodyB
  cases p <;> simp
def nextN (x : S35) (nx : Int) : Prop :=
  (x.f4 ≠ 0 → x.f4 = nx + 1) ∧ (x.f6 ≠ 0 → x.f6 = nx + (if x.f4 = 0 then 0 else 1) + 1) ∧ x.f1 = nx + (if x.f4 = 0 then 0 else 1) + (if x.f6 = 0 then 0 else 1) + 1
def afterN (x : S35) (p : Bool) (nx : Int) : Int := if p then nx else x.f1
structure ConvOk (x : S35) : Prop where
  f0 : x.f0 = ⟨#[]⟩
  ok : (ruleC x.f8).ok = true
  i1 : 1 ≤ x.f1 ∧ x.f1 ≤ 64
  i2 : 0 ≤ x.f2 ∧ x.f2 ≤ 63
  bits : Go.bits .andNot .i64 x.f2 (ruleC x.f8).fl = 0
  len : allowsC (ruleC x.f8).ln x.f7 = true
  i3 : x.f3 = -1 ∨ (x.f4 = 0 ∧ 1 ≤ x.f3 ∧ x.f3 ≤ 10000)
  i4 : 0 ≤ x.f4 ∧ x.f4 ≤ 64
  i5 : x.f5 = -1 ∨ (x.f6 = 0 ∧ 0 ≤ x.f5 ∧ x.f5 ≤ 10000)
  i6 : 0 ≤ x.f6 ∧ x.f6 ≤ 64
  i7 : 0 ≤ x.f7 ∧ x.f7 < 12
  i8 : 0 ≤ x.f8 ∧ x.f8 < 256
  wd : (ruleC x.f8).wd = true ∨ (x.f3 = -1 ∧ x.f4 = 0)
  pr : (ruleC x.f8).pr = true ∨ (x.f5 = -1 ∧ x.f6 = 0)
theorem back_agrees {n a own : Int} {p : Bool} (ha : 0 ≤ a) (ho : decide (0 < own) = p) : agrees (backF n a p) own = true := by
  unfold agrees backF
  by_cases h : 0 < a
  · rw [if_pos h]
    unfold starF
    cases p <;> simp [h, ho]
  · rw [if_neg h]; rfl
theorem back_first {n a : Int} {p : Bool} (h : 0 < a → n = -1) : (backF n a p).1 = n := by
  unfold backF
  by_cases h' : 0 < a
  · rw [if_pos h', h h']; rfl
  · rw [if_neg h']
theorem back_ok {n a : Int} {p b : Bool} (ha : 0 ≤ a) (h : b = true ∨ (n = -1 ∧ a = 0)) : (b || (decide ((backF n a p).1 = -1) && !(backF n a p).2.1)) = true := by
  rcases h with rfl | ⟨rfl, rfl⟩
  · rfl
  · unfold backF
    rw [if_neg (by omega)]
    simp
theorem back_arg {n a nx : Int} {p : Bool} (ha : 0 ≤ a) (hn : 0 ≤ nx ∧ nx ≤ 100000) (h : p = false → a ≠ 0 → a = nx + 1) :
    starArg (modeOf p) nx (backF n a p) = (a, if p then nx else nx + (if a = 0 then 0 else 1)) := by
  unfold starArg backF argC modeOf
  by_cases h' : 0 < a
  · rw [if_pos h', if_neg (show ¬ a = 0 by omega)]
    unfold starF
    cases p with
    | true => simp
    | false =>
      have e := h rfl (by omega)
      have hw : wrap64 (nx + 1) = nx + 1 := wrap_small (by omega)
      simp [hw, e]
  · rw [if_neg h', if_pos (show a = 0 by omega), show a = 0 by omega]
    cases p <;> simp
theorem conv_back {x : S35} {p : Bool} {pl nx : Int} (h : ConvOk x) (hpl : pl = 0 ∨ pl = modeOf p) (hn : 0 ≤ nx ∧ nx ≤ 99000) (hx : p = false → nextN x nx) (rest : List UInt8) :
    convC pl nx (bodyB x p ++ rest) = some ⟨x, false, modeOf p, afterN x p nx, rest⟩ := by
  have hc8 : ((x.f8.toNat.toUInt8).toNat : Int) = x.f8 := by
    rw [UInt8.toNat_ofNat'] 
    have := h.i8
    omega
  have hs : Stop x.f8.toNat.toUInt8 := stop_of (by rw [hc8]; exact h.ok)
  have hpm := plain_mods hs x.f7.toNat (by have := h.i7; omega) rest
  have hpt := prec_tail (a5 := x.f5) (a6 := x.f6) (p := p) hpm.tail
  have e0 : bodyB x p ++ rest = (if p then Lib.itoa x.f1 ++ [36] else []) ++ (flagMarks x.f2 6 ++ (widthB x.f3 x.f4 p ++ (precB x.f5 x.f6 p ++ (mods.getD x.f7.toNat [] ++ x.f8.toNat.toUInt8 :: rest)))) := by
    unfold bodyB
    simp only [List.append_assoc, List.singleton_append]
  have e1 : placeC (bodyB x p ++ rest) = (if p then x.f1 else 0, flagMarks x.f2 6 ++ (widthB x.f3 x.f4 p ++ (precB x.f5 x.f6 p ++ (mods.getD x.f7.toNat [] ++ x.f8.toNat.toUInt8 :: rest)))) := by
    rw [e0]
    cases p with
    | true =>
      rw [if_pos rfl, List.append_assoc, List.singleton_append, (place_itoa h.i1.1 h.i1.2 _).1]
      rfl
    | false =>
      rw [if_neg (by simp), List.nil_append, place_none h.i2 hpt]
      rfl
  have e2 := flags_back h.i2.1 h.i2.2 (width_tail (a3 := x.f3) (a4 := x.f4) (p := p) hpt)
  have e3 := width_back (p := p) h.i3 h.i4 hpt
  have e4 := prec_back (p := p) h.i5 h.i6 hpm
  have e5 := len_back hs h.i7.1 h.i7.2 rest
  have hown : decide (0 < (if p = true then x.f1 else 0)) = p := by
    have := h.i1
    cases p
    · rfl
    · rw [if_pos rfl]; exact decide_eq_true (by omega)
  have w1 := back_arg (n := x.f3) (p := p) h.i4.1 (nx := nx) (by omega) (fun hp => (hx hp).1)
  have hbd : 0 ≤ (if p = true then nx else nx + (if x.f4 = 0 then 0 else 1)) ∧ (if p = true then nx else nx + (if x.f4 = 0 then 0 else 1)) ≤ 100000 := by
    by_cases h4 : x.f4 = 0
    · rw [if_pos h4]; split <;> omega
    · rw [if_neg h4]; split <;> omega
  have w2 := back_arg (n := x.f5) (p := p) h.i6.1 (nx := if p then nx else nx + (if x.f4 = 0 then 0 else 1)) hbd (fun hp h6 => by
    have := (hx hp).2.1 h6
    rw [hp]
    simpa using this)
  have w3 : argC (modeOf p) (if p then (if p then nx else nx + (if x.f4 = 0 then 0 else 1)) else (if p then nx else nx + (if x.f4 = 0 then 0 else 1)) + (if x.f6 = 0 then 0 else 1)) (if p = true then x.f1 else 0) = (x.f1, afterN x p nx) := by
    unfold argC modeOf afterN
    cases p with
    | true => simp
    | false =>
      have e := (hx rfl).2.2
      have hw : wrap64 (nx + (if x.f4 = 0 then 0 else 1) + (if x.f6 = 0 then 0 else 1) + 1) = nx + (if x.f4 = 0 then 0 else 1) + (if x.f6 = 0 then 0 else 1) + 1 := wrap_small (by repeat' split <;> omega)
      simp only [Bool.false_eq_true, if_false, if_true]
      rw [hw, ← e]
  unfold convC
  dsimp only
  rw [e1]
  dsimp only
  rw [e2]
  dsimp only
  rw [e3, Option.bind_some]
  dsimp only
  rw [e4, Option.bind_some]
  dsimp only
  rw [e5]
  dsimp only [hdI, List.tail_cons]
  unfold convE
  rw [hc8, if_pos h.ok, hown, if_pos hpl, if_pos ⟨back_agrees h.i4.1 hown, back_agrees h.i6.1 hown⟩]
  dsimp only
  rw [w1]
  dsimp only
  rw [w2]
  dsimp only
  rw [w3]
  dsimp only
  have hok : okC (ruleC x.f8) x.f2 x.f7 (backF x.f3 x.f4 p) (backF x.f5 x.f6 p) = true := by
    unfold okC
    rw [decide_eq_true h.bits, h.len, back_ok h.i4.1 h.wd, back_ok h.i6.1 h.pr]
    rfl
  have b3 : (backF x.f3 x.f4 p).1 = x.f3 := back_first fun h4 => by have := h.i3; omega
  have b5 : (backF x.f5 x.f6 p).1 = x.f5 := back_first fun h6 => by have := h.i5; omega
  rw [if_pos hok, b3, b5]
  have hlg : (decide (10000 < x.f3) || (decide (10000 < x.f5) || (((backF x.f3 x.f4 p).2.1 && decide (64 < x.f4)) || (((backF x.f5 x.f6 p).2.1 && decide (64 < x.f6)) || decide (64 < x.f1))))) = false := by
    have := h.i3; have := h.i4; have := h.i5; have := h.i6; have := h.i1
    rw [decide_eq_false (show ¬ 10000 < x.f3 by omega), decide_eq_false (show ¬ 10000 < x.f5 by omega), decide_eq_false (show ¬ 64 < x.f4 by omega), decide_eq_false (show ¬ 64 < x.f6 by omega), decide_eq_false (show ¬ 64 < x.f1 by omega)]
    simp
  rw [hlg]
  obtain ⟨f0, f1, f2, f3, f4, f5, f6, f7, f8⟩ := x
  have h0 : f0 = ⟨#[]⟩ := h.f0
  subst h0
  rfl
end Go.Proofs.YtnhbgahfmcicnaaGreatDoor.PA
end
section
namespace Go.Proofs.YtnhbgahfmcicnaaGreatDoor.PA
set_option linter.unusedVariables false
set_option linter.unusedSimpArgs false
open Go.RowKit Go.Proofs.YtnhbgahfmcicnaaGreatDoorW.PrintWords Go.Proofs.YtnhbgahfmcicnaaGreatDoorW.PrintLast
theorem bytes_nil {s : ByteArray} (h : s.data.toList = []) : s = ⟨#[]⟩ := by
  obtain ⟨d⟩ := s
  have : d = #[] := Array.toList_inj.1 h
  rw [this]
theorem rule_fl (c : Int) : (ruleC c).ok = true → ∃ m : Nat, m ∈ [55, 49, 25, 31, 63, 1, 0] ∧ (ruleC c).fl = (m : Int) := fun h => by
  obtain ⟨m, h1, h2, _⟩ := ((of_rule c).2.2.2 h).1
  exact ⟨m, h1, h2⟩
theorem conv_ok {x : S35} (hp : PieceOk x) (hf : fitsC x = true) (h0 : ¬ x.f8 = 0) (h37 : ¬ x.f8 = 37) : ConvOk x := by
  unfold fitsC at hf
  rw [if_neg h0, if_neg h37] at hf
  simp only [Bool.and_eq_true, decide_eq_true_eq] at hf
  obtain ⟨ho, hl, ha, hb, hfl, hln, hw, hpr, h4, h6, ht⟩ := hf
  unfold argOk at h4 h6
  unfold withinC at hw hpr
  unfold tailC at ht
  simp only [Bool.and_eq_true, Bool.or_eq_true, decide_eq_true_eq, Bool.not_eq_true', Bool.or_eq_false_iff, Bool.and_eq_false_iff, decide_eq_false_iff_not, ne_eq, Decidable.not_not] at h4 h6 hw hpr ht
  obtain ⟨m, hm, e⟩ := rule_fl _ ho
  have hm2 : m < 64 := by
    simp only [List.mem_cons, List.not_mem_nil, or_false] at hm
    omega
  have hln2 := hln
  unfold allowsC at hln2
  refine ⟨bytes_nil hl, ho, ⟨ha, hb⟩, andNot_small hp.i2 hm2 (by rw [← e]; exact hfl), hfl, hln, by omega, h4, by omega, h6, ?_, ⟨hp.i8.1, by have := hp.i8.2; omega⟩, ht.2.1, ht.2.2⟩
  repeat' split at hln2
  all_goals
    simp only [Bool.and_eq_true, Bool.or_eq_true, decide_eq_true_eq] at hln2
    omega
def textB (x : S35) (p : Bool) : List UInt8 := if x.f8 = 0 then x.f0.data.toList else if x.f8 = 37 then [37, 37] else 37 :: bodyB x p
theorem shown_text {x : S35} (p : Bool) (hp : PieceOk x) (hf : fitsC x = true) : shownOf x p = some (strOf (textB x p)) := by
  unfold shownOf spec_shown.f textB
  by_cases h0 : x.f8 = 0
  · rw [if_pos h0, if_pos h0]; rfl
  · rw [if_neg h0, if_neg h0]
    by_cases h37 : x.f8 = 37
    · rw [if_pos h37, if_pos h37]
    · rw [if_neg h37, if_neg h37]
      have hc := conv_ok hp hf h0 h37
      rw [if_pos ⟨hp.i1, hp.i3, hp.i4, hp.i5, hp.i6, hc.i7.1, hc.i7.2, hc.i8.1, hc.i8.2⟩, shown_body]
def textsB (l : List S35) (p : Bool) : List UInt8 := l.flatMap fun x => textB x p
theorem shownList_text : ∀ (l : List S35) (p : Bool), (∀ x ∈ l, PieceOk x ∧ fitsC x = true) → ∃ ps, shownList l p = some ps ∧ bytesOf ps = textsB l p
  | [], p, _ => ⟨[], rfl, rfl⟩
  | x :: l, p, h => by
    obtain ⟨ps, h1, h2⟩ := shownList_text l p fun y hy => h y (List.mem_cons_of_mem _ hy)
    obtain ⟨a, b⟩ := h x List.mem_cons_self
    refine ⟨strOf (textB x p) :: ps, ?_, ?_⟩
    · unfold shownList
      rw [shown_text p a b, h1]
      rfl
    · unfold bytesOf textsB at *
      rw [List.flatMap_cons, List.flatMap_cons, h2]
      rfl
def seqN : Int → List Int → Prop
  | _, [] => True
  | n, a :: r => a = n + 1 ∧ seqN (n + 1) r
theorem seqN_range : ∀ (n s : Nat), seqN (s : Int) ((List.range' s n).map fun i : Nat => (i : Int) + 1)
  | 0, s => trivial
  | n + 1, s => by
    rw [List.range'_succ, List.map_cons]
    refine ⟨rfl, ?_⟩
    have := seqN_range n (s + 1)
    rw [show ((s + 1 : Nat) : Int) = (s : Int) + 1 by omega] at this
    exact this
theorem seqN_one {l : List Int} (h : oneUp l = true) : seqN 0 l := by
  unfold oneUp at h
  rw [beq_iff_eq.1 h, List.range_eq_range']
  exact seqN_range _ 0
theorem seqN_next {x : S35} {n : Int} {r : List Int} (h1 : 1 ≤ x.f1) (h : seqN n (nonzero [x.f4, x.f6, x.f1] ++ r)) : nextN x n ∧ seqN x.f1 r := by
  unfold nextN
  have e1 : ¬ x.f1 = 0 := by omega
  unfold nonzero at h
  by_cases e4 : x.f4 = 0
  · by_cases e6 : x.f6 = 0
    · simp [e1, e4, e6, seqN] at h
      simp [e4, e6]
      obtain ⟨a, b⟩ := h
      rw [← a] at b
      exact ⟨a, b⟩
    · simp [e1, e4, e6, seqN] at h
      obtain ⟨a, b, c⟩ := h
      rw [if_pos e4, if_neg e6]
      refine ⟨⟨fun h => absurd e4 h, fun _ => by omega, by omega⟩, ?_⟩
      rw [show x.f1 = n + 1 + 1 by omega]
      exact c
  · by_cases e6 : x.f6 = 0
    · simp [e1, e4, e6, seqN] at h
      obtain ⟨a, b, c⟩ := h
      rw [if_neg e4, if_pos e6]
      refine ⟨⟨fun _ => a, fun h => absurd e6 h, by omega⟩, ?_⟩
      rw [show x.f1 = n + 1 + 1 by omega]
      exact c
    · simp [e1, e4, e6, seqN] at h
      obtain ⟨a, b, c, d⟩ := h
      rw [if_neg e4, if_neg e6]
      refine ⟨⟨fun _ => a, fun _ => by omega, by omega⟩, ?_⟩
      rw [show x.f1 = n + 1 + 1 + 1 by omega]
      exact d
def apart : List S35 → Prop
  | [] => True
  | [_] => True
  | x :: y :: l => ¬ (x.f8 = 0 ∧ y.f8 = 0) ∧ apart (y :: l)
theorem conv37 (pl nx : Int) (m : List UInt8) : convC pl nx (37 :: m) = none := by
  unfold convC
  have e1 : placeC (37 :: m) = (0, 37 :: m) := rfl
  have e2 : flagsC 0 (37 :: m) = (0, 37 :: m) := rfl
  have e3 : widthC (37 :: m) = some (noFld, 37 :: m) := rfl
  have e4 : precC (37 :: m) = some (noFld, 37 :: m) := by unfold precC; simp [skipC]
  have e5 : (lenC (37 :: m)).2 = 37 :: m := by
    unfold lenC
    have : bestMod (37 :: m) 12 = 0 := by simp [bestMod, mods, List.isPrefixOf]
    rw [this]
    rfl
  dsimp only
  rw [e1]
  dsimp only
  rw [e2]
  dsimp only
  rw [e3, Option.bind_some]
  dsimp only
  rw [e4, Option.bind_some]
  dsimp only
  rw [e5]
  have e6 : (ruleC (hdI (37 :: m))).ok = false := by
    show (ruleC 37).ok = false
    decide
  unfold convE
  rw [if_neg (by rw [e6]; simp)]
theorem piece_conv {full : Bool} {x : S35} {p : Bool} {pl nx : Int} (h : ConvOk x) (hpl : pl = 0 ∨ pl = modeOf p) (hn : 0 ≤ nx ∧ nx ≤ 99000) (hx : p = false → nextN x nx) (rest : List UInt8) :
    pieceC full pl nx ((37 :: bodyB x p) ++ rest) = .ok (x, modeOf p, afterN x p nx, rest) := by
  have hc := conv_back h hpl hn hx rest
  have hs : skipC 37 (bodyB x p ++ rest) = none := by
    cases hb : bodyB x p ++ rest with
    | nil => rfl
    | cons d m =>
      by_cases e : d = 37
      · rw [hb, e, conv37] at hc
        cases hc
      · simp [skipC, e]
  unfold pieceC
  rw [List.cons_append, skipC_hit]
  dsimp only
  rw [hs]
  dsimp only
  rw [hc]
  rfl
theorem text_ends {l : List S35} {p : Bool} (h : ∀ x ∈ l, fitsC x = true) (hh : ∀ y l', l = y :: l' → ¬ y.f8 = 0) : Ends (textsB l p) := by
  cases l with
  | nil => exact Or.inl rfl
  | cons y l =>
    have h0 := hh y l rfl
    unfold textsB
    rw [List.flatMap_cons]
    unfold textB
    rw [if_neg h0]
    by_cases h37 : y.f8 = 37
    · rw [if_pos h37]; exact Or.inr ⟨_, rfl⟩
    · rw [if_neg h37]; exact Or.inr ⟨_, rfl⟩
theorem pieces_back (p : Bool) : ∀ (l acc : List S35) (pl nx : Int), (∀ x ∈ l, PieceOk x ∧ fitsC x = true) → apart l → acc.length + l.length ≤ 500 → (pl = 0 ∨ pl = modeOf p) → 0 ≤ nx ∧ nx ≤ 99000 →
    (p = false → seqN nx (allC l)) → piecesC ((textsB l p).length + 1) acc pl nx (textsB l p) = .ok (acc ++ l)
  | [], acc, pl, nx, _, _, _, _, _, _ => by
    rw [List.append_nil]
    exact piecesC_end
  | x :: l, acc, pl, nx, hv, ha, hlen, hpl, hn, hseq => by
    obtain ⟨hok, hf⟩ := hv x List.mem_cons_self
    have hv' : ∀ y ∈ l, PieceOk y ∧ fitsC y = true := fun y hy => hv y (List.mem_cons_of_mem _ hy)
    have ha' : apart l := by
      cases l with
      | nil => trivial
      | cons y l => exact ha.2
    have hlen' : (acc ++ [x]).length + l.length ≤ 500 := by
      rw [List.length_append, List.length_singleton]
      rw [List.length_cons] at hlen
      omega
    have hfull : ¬ acc.length = 500 := by rw [List.length_cons] at hlen; omega
    have hcat : textsB (x :: l) p = textB x p ++ textsB l p := by unfold textsB; rw [List.flatMap_cons]
    have hall : allC (x :: l) = nonzero [x.f4, x.f6, x.f1] ++ allC l := allC_cons x l
    have step : ∀ (pl' nx' : Int), textB x p ≠ [] → pieceC (decide (acc.length = 500)) pl nx (textB x p ++ textsB l p) = .ok (x, pl', nx', textsB l p) → (pl' = 0 ∨ pl' = modeOf p) → 0 ≤ nx' ∧ nx' ≤ 99000 → (p = false → seqN nx' (allC l)) →
        piecesC ((textsB (x :: l) p).length + 1) acc pl nx (textsB (x :: l) p) = .ok (acc ++ x :: l) := by
      intro pl' nx' hne hp h1 h2 h3
      have ih := pieces_back p l (acc ++ [x]) pl' nx' hv' ha' hlen' h1 h2 h3
      rw [hcat, ← piecesC_step (by simp [hne]) hp hfull, ih, List.append_assoc, List.singleton_append]
    by_cases h0 : x.f8 = 0
    · unfold fitsC at hf
      rw [if_pos h0, Bool.and_eq_true] at hf
      obtain ⟨hpl2, htx⟩ := hf
      unfold plainC at hpl2
      simp only [Bool.and_eq_true, decide_eq_true_eq] at hpl2
      obtain ⟨p1, p2, p3, p4, p5, p6, p7⟩ := hpl2
      unfold txtOk at htx
      rw [indexAny_pos] at htx
      simp only [Bool.and_eq_true, decide_eq_true_eq, Bool.not_eq_true', Bool.or_eq_false_iff] at htx
      obtain ⟨t1, t2, t3⟩ := htx
      have hte : textB x p = x.f0.data.toList := by unfold textB; rw [if_pos h0]
      have hq : ∀ c ∈ x.f0.data.toList, isTxt c = true := by
        intro c hc
        have a : c ≠ 37 := fun e => by rw [e] at hc; rw [List.contains_iff_mem.2 hc] at t3; cases t3
        have b : c ≠ 0 := fun e => by rw [e] at hc; rw [List.contains_iff_mem.2 hc] at t2; cases t2
        simp [isTxt, a, b]
      have hends : Ends (textsB l p) := text_ends (fun y hy => (hv' y hy).2) fun y l' e => by
        subst e
        exact fun e => ha.1 ⟨h0, e⟩
      have hx : txtP x.f0.data.toList = x := by
        unfold txtP
        obtain ⟨f0, f1, f2, f3, f4, f5, f6, f7, f8⟩ := x
        simp only at p1 p2 p3 p4 p5 p6 p7 h0
        subst p1 p2 p3 p4 p5 p6 p7 h0
        rfl
      have hp := piece_txt (pl := pl) (nx := nx) hq t1 hends
      rw [hx, ← hte] at hp
      refine step pl nx (by rw [hte]; exact t1) (by rw [decide_eq_false hfull]; exact hp) hpl hn fun e => ?_
      have := hseq e
      rw [hall, p1, p4, p6] at this
      exact this
    · by_cases h37 : x.f8 = 37
      · unfold fitsC at hf
        rw [if_neg h0, if_pos h37, Bool.and_eq_true] at hf
        obtain ⟨hb, hpl2⟩ := hf
        unfold plainC at hpl2
        simp only [Bool.and_eq_true, decide_eq_true_eq] at hpl2 hb
        obtain ⟨p1, p2, p3, p4, p5, p6, p7⟩ := hpl2
        have hte : textB x p = [37, 37] := by unfold textB; rw [if_neg h0, if_pos h37]
        have hx : (⟨⟨#[]⟩, 0, 0, -1, 0, -1, 0, 0, 37⟩ : S35) = x := by
          have := bytes_nil hb
          obtain ⟨f0, f1, f2, f3, f4, f5, f6, f7, f8⟩ := x
          simp only at p1 p2 p3 p4 p5 p6 p7 h37 this
          subst p1 p2 p3 p4 p5 p6 p7 h37 this
          rfl
        refine step pl nx (by rw [hte]; simp) ?_ hpl hn fun e => ?_
        · rw [hte]
          unfold pieceC
          simp [skipC, hx]
        · have := hseq e
          rw [hall, p1, p4, p6] at this
          exact this
      · have hc := conv_ok hok hf h0 h37
        have hte : textB x p = 37 :: bodyB x p := by unfold textB; rw [if_neg h0, if_neg h37]
        have hs : p = false → nextN x nx ∧ seqN x.f1 (allC l) := fun e => seqN_next hc.i1.1 (by rw [← hall]; exact hseq e)
        refine step (modeOf p) (afterN x p nx) (by rw [hte]; simp) (by rw [hte]; exact piece_conv hc hpl hn (fun e => (hs e).1) _) (Or.inr rfl) ?_ fun e => ?_
        · unfold afterN
          have := hc.i1
          split <;> omega
        · unfold afterN
          rw [e, if_neg (by simp)]
          exact (hs e).2
end Go.Proofs.YtnhbgahfmcicnaaGreatDoor.PA
end
section
namespace Go.Proofs.YtnhbgahfmcicnaaGreatDoor.PA
set_option linter.unusedVariables false
set_option linter.unusedSimpArgs false
open Go.RowKit Go.Proofs.YtnhbgahfmcicnaaGreatDoorW.PrintWords Go.Proofs.YtnhbgahfmcicnaaGreatDoorW.PrintLast
structure ListOk (l : List S35) : Prop where
  len : l.length ≤ 500
  fit : ∀ x ∈ l, fitsC x = true
  apart : apart l
  whole : wholeC l = true
theorem goC_ok (l : List S35) : ∀ (d i : Nat), i + d = l.length → goC l d i = (0, 0) → (∀ j, i ≤ j → j < l.length → fitsC (l.getD j z35) = true ∧ (0 < j → ¬ ((l.getD j z35).f8 = 0 ∧ (l.getD (j - 1) z35).f8 = 0))) ∧ wholeC l = true := by
  intro d
  induction d with
  | zero =>
    intro i hi h
    unfold goC at h
    cases hw : wholeC l with
    | true => exact ⟨fun j h1 h2 => by omega, rfl⟩
    | false =>
      rw [hw] at h
      have := congrArg Prod.fst h
      exact absurd this (by simp)
  | succ d ih =>
    intro i hi h
    unfold goC at h
    by_cases hc : (fitsC (l.getD i z35) && !(decide (0 < i) && (decide ((l.getD i z35).f8 = 0) && decide ((l.getD (i - 1) z35).f8 = 0)))) = true
    · rw [if_pos hc] at h
      obtain ⟨h1, h2⟩ := ih (i + 1) (by omega) h
      refine ⟨fun j hj hl => ?_, h2⟩
      rcases (by omega : j = i ∨ i + 1 ≤ j) with rfl | hj2
      · simp only [Bool.and_eq_true, Bool.not_eq_true', Bool.and_eq_false_iff, decide_eq_false_iff_not] at hc
        refine ⟨hc.1, fun h0 hh => ?_⟩
        rcases hc.2 with h | h | h
        · exact h h0
        · exact h hh.1
        · exact h hh.2
      · exact h1 j hj2 hl
    · rw [if_neg hc] at h
      have := congrArg Prod.fst h
      exact absurd this (by simp)
theorem apart_of : ∀ (l : List S35), (∀ j, 0 < j → j < l.length → ¬ ((l.getD j z35).f8 = 0 ∧ (l.getD (j - 1) z35).f8 = 0)) → apart l
  | [], _ => trivial
  | [_], _ => trivial
  | x :: y :: l, h => by
    refine ⟨fun e => h 1 (by omega) (by simp) ⟨e.2, e.1⟩, apart_of (y :: l) fun j h0 hj hh => h (j + 1) (by omega) (by simp only [List.length_cons] at hj ⊢; omega) ?_⟩
    obtain ⟨k, rfl⟩ : ∃ k, j = k + 1 := ⟨j - 1, by omega⟩
    exact hh
theorem check_ok {l : List S35} (h : checkC l = (0, 0)) : ListOk l := by
  unfold checkC at h
  by_cases hl : 500 < l.length
  · rw [if_pos hl] at h
    have := congrArg Prod.fst h
    exact absurd this (by simp)
  · rw [if_neg hl] at h
    obtain ⟨h1, h2⟩ := goC_ok l l.length 0 (by omega) h
    refine ⟨by omega, fun x hx => ?_, apart_of l fun j h0 hj => (h1 j (Nat.zero_le _) hj).2 h0, h2⟩
    obtain ⟨j, hj, rfl⟩ := List.mem_iff_getElem.1 hx
    have := (h1 j (Nat.zero_le _) hj).1
    rw [List.getD_eq_getElem?_getD, List.getElem?_eq_getElem hj] at this
    exact this
theorem parse_text {l : List S35} (h : ListOk l) (hp : ∀ x ∈ l, PieceOk x) (hs : (textsB l (!oneUp (allC l))).length ≤ 2000) : parseC (textsB l (!oneUp (allC l))) = (l, 0, 0) := by
  unfold parseC
  rw [if_neg (by omega), pieces_back (!oneUp (allC l)) l [] 0 0 (fun x hx => ⟨hp x hx, h.fit x hx⟩) h.apart (by simpa using h.len) (Or.inl rfl) (by omega) (fun e => seqN_one (by simpa using e))]
  unfold outC
  dsimp only [List.nil_append]
  rw [if_pos h.whole]
theorem ordered_go (ns : List Int) (hl : ns.length ≤ 10000000) : ∀ (d i k : Nat), i + d = ns.length → d < k → (∀ j, j < i → ns[j]?.getD 0 = (j : Int) + 1) →
    spec_ordered.l0 k ns (ns.length : Int) (i : Int) = some (oneUp ns) := by
  intro d
  induction d with
  | zero =>
    intro i k hi hk hj
    obtain ⟨k, rfl⟩ : ∃ j, k = j + 1 := ⟨k - 1, by omega⟩
    unfold spec_ordered.l0
    rw [if_neg (by omega), oneUp_true fun j h => hj j (by omega)]
  | succ d ih =>
    intro i k hi hk hj
    obtain ⟨k, rfl⟩ : ∃ j, k = j + 1 := ⟨k - 1, by omega⟩
    have hlt : i < ns.length := by omega
    have hr : rd ns (i : Int) = ns[i]?.getD 0 := by
      unfold rd
      rw [Int.toNat_natCast, List.getD_eq_getElem?_getD]
    have hw : wrap64 ((i : Int) + 1) = ((i + 1 : Nat) : Int) := by unfold wrap64; omega
    unfold spec_ordered.l0
    rw [if_pos (by omega), if_pos (by omega), if_pos (by omega), hw, hr]
    by_cases e : ns[i]?.getD 0 = ((i + 1 : Nat) : Int)
    · rw [if_pos e]
      exact ih (i + 1) k (by omega) (by omega) fun j h => by
        rcases (by omega : j < i ∨ j = i) with h | rfl
        · exact hj j h
        · rw [e]; omega
    · rw [if_neg e, oneUp_false hlt (by omega)]
theorem ordered_f (ns : List Int) (hl : ns.length ≤ 10000000) {k : Nat} (hk : ns.length < k) : spec_ordered.f k ns = some (oneUp ns) :=
  ordered_go ns hl ns.length 0 k (by omega) hk fun j h => by omega
theorem star_le {n : Int} (h : In64 n) (p : Bool) : (starB n p).length ≤ 23 := by
  unfold starB
  have := Lib.itoa_length_le n h.1 h.2
  cases p
  · simp
  · simp
    omega
theorem body_le {x : S35} (h : PieceOk x) (p : Bool) : (bodyB x p).length ≤ 100 := by
  unfold bodyB widthB precB
  have a1 := Lib.itoa_length_le x.f1 h.i1.1 h.i1.2
  have a3 := Lib.itoa_length_le x.f3 h.i3.1 h.i3.2
  have a5 := Lib.itoa_length_le x.f5 h.i5.1 h.i5.2
  have a4 := star_le h.i4 p
  have a6 := star_le h.i6 p
  have a2 := flagMarks_length x.f2 6
  have am := mods_len x.f7.toNat
  simp only [List.length_append]
  have b1 : (if p = true then Lib.itoa x.f1 ++ [36] else []).length ≤ 22 := by
    split
    · rw [List.length_append, List.length_singleton]; omega
    · simp
  have b3 : (if 0 < x.f4 then starB x.f4 p else if 0 < x.f3 then Lib.itoa x.f3 else []).length ≤ 23 := by
    repeat' split
    · exact a4
    · omega
    · simp
  have b5 : (if 0 < x.f6 then 46 :: starB x.f6 p else if 0 < x.f5 then 46 :: Lib.itoa x.f5 else if x.f5 = 0 then [46] else []).length ≤ 24 := by
    repeat' split
    · rw [List.length_cons]; omega
    · rw [List.length_cons]; omega
    · simp
    · simp
  rw [List.length_singleton]
  omega
theorem textB_le {x : S35} (h : PieceOk x) (hs : x.f0.size ≤ 20000) (p : Bool) : (textB x p).length ≤ 20100 := by
  unfold textB
  have := body_le h p
  repeat' split
  · rw [Array.length_toList]
    exact Nat.le_trans hs (by omega)
  · simp
  · rw [List.length_cons]; omega
theorem textsB_le : ∀ {l : List S35} (p : Bool), (∀ x ∈ l, PieceOk x) → (∀ x ∈ l, x.f0.size ≤ 20000) → (textsB l p).length ≤ l.length * 20100
  | [], p, _, _ => Nat.zero_le _
  | x :: l, p, h, hs => by
    have ih := textsB_le (l := l) p (fun y hy => h y (List.mem_cons_of_mem _ hy)) (fun y hy => hs y (List.mem_cons_of_mem _ hy))
    have hx := textB_le (h x List.mem_cons_self) (hs x List.mem_cons_self) p
    have e : textsB (x :: l) p = textB x p ++ textsB l p := by unfold textsB; rw [List.flatMap_cons]
    rw [e, List.length_append, List.length_cons, Nat.succ_mul]
    omega
theorem print_f {l : List S35} (hc : checkC l = (0, 0)) (hp : ∀ x ∈ l, PieceOk x) (hs : ∀ x ∈ l, x.f0.size ≤ 20000) {k : Nat} (hk : 4 * l.length + 10 < k) :
    spec_Print.f k l = some (if 2000 < (textsB l (!oneUp (allC l))).length then ((⟨#[]⟩ : ByteArray), 2) else (strOf (textsB l (!oneUp (allC l))), 0)) := by
  have h := check_ok hc
  have hlen := h.len
  have hal := allC_length l
  obtain ⟨ps, e1, e2⟩ := shownList_text l (!oneUp (allC l)) fun x hx => ⟨hp x hx, h.fit x hx⟩
  unfold spec_Print.f
  rw [check_f l (by omega) (fun x hx => by have := hs x hx; omega) (by omega), Option.bind_some, hc, if_pos rfl, all_f l (by omega) (by omega), Option.bind_some, ordered_f _ (by omega) (by omega), Option.bind_some, e1, Option.bind_some, e2]
  have hsz : (textsB l (!oneUp (allC l))).length ≤ 140737488355328 := by
    have := textsB_le (!oneUp (allC l)) hp hs
    omega
  rw [if_pos ⟨by omega, hsz⟩]
  by_cases h2 : 2000 < (textsB l (!oneUp (allC l))).length
  · rw [if_pos h2, if_pos h2]
  · rw [if_neg h2, if_neg h2]
end Go.Proofs.YtnhbgahfmcicnaaGreatDoor.PA
end
