/- A part of the proof of the claim's statement. -/
import Derived.Test.YtnhbgahfmcicnaaGreatDoorPtPAx2
import Derived.Test.YtnhbgahfmcicnaaGreatDoorPtG1a
import Derived.Outline
section
namespace Go.Proofs.YtnhbgahfmcicnaaGreatDoor.PA
set_option linter.unusedVariables false
set_option linter.unusedSimpArgs false
open Go.RowKit Go.Shelf Go.Proofs.YtnhbgahfmcicnaaGreatDoorW.PrintWords Go.Proofs.YtnhbgahfmcicnaaGreatDoorW.PrintLast Go.Proofs.YtnhbgahfmcicnaaGreatDoorW.PrintMore
theorem bs0 {w W : World} (h : Below w.heap.size w W) (o : Nat) (v : Value) : Below w.heap.size w (W.setCell ⟨w.heap.size, o, none⟩ v) := h.setCell (Nat.le_refl _) v
theorem bs1 {w W : World} (h : Below w.heap.size w W) (o : Nat) (v : Value) : Below w.heap.size w (W.setCell ⟨w.heap.size + 1, o, none⟩ v) := h.setCell (Nat.le_succ _) v
def hasB (s : ByteArray) (b : Int) : Bool := (bytesOf s).contains b
theorem in_l0 (s : ByteArray) (b : Int) (hs : s.size ≤ 140737488351232) : ∀ (d k i : Nat), i + d = s.size → d < k →
    sorobanref21_in.l0 k s b (i : Int) = some (((bytesOf s).drop i).contains b) := by
  intro d
  induction d with
  | zero =>
    intro k i hi hk
    obtain ⟨k, rfl⟩ : ∃ m, k = m + 1 := ⟨k - 1, by omega⟩
    simp only [sorobanref21_in.l0]
    rw [if_neg (by omega), List.drop_eq_nil_of_le (by rw [bytesOf_length]; omega)]
    rfl
  | succ d ih =>
    intro k i hi hk
    obtain ⟨k, rfl⟩ : ∃ m, k = m + 1 := ⟨k - 1, by omega⟩
    simp only [sorobanref21_in.l0]
    rw [if_pos (by omega), if_pos (by omega)]
    have hlt : i < (bytesOf s).length := by rw [bytesOf_length]; omega
    rw [List.drop_eq_getElem_cons hlt]
    have hb : bt s (i : Int) = (bytesOf s)[i] := by
      rw [← rd_bytesOf]
      simp [YtnhbgahfmcicnaaGreatDoorW.PrintWords.rd, hlt]
    rw [hb]
    by_cases e : (bytesOf s)[i] = b
    · rw [if_pos e]
      simp [e]
    · rw [if_neg e]
      have hw : wrap64 ((i : Int) + 1) = ((i + 1 : Nat) : Int) := by unfold wrap64; omega
      rw [hw, ih k (i + 1) (by omega) (by omega)]
      have e' : ¬ b = (bytesOf s)[i] := fun h => e h.symm
      rw [List.contains_cons, show (b == (bytesOf s)[i]) = false from beq_eq_false_iff_ne.2 e', Bool.false_or]
theorem in_f (s : ByteArray) (b : Int) (hs : s.size ≤ 140737488351232) (k : Nat) (hk : s.size < k) : sorobanref21_in.f k s b = some (hasB s b) := by
  unfold sorobanref21_in.f hasB
  have := in_l0 s b hs s.size k 0 (by omega) (by omega)
  simpa using this
theorem in_calls (s : ByteArray) (b : Int) (hs : s.size ≤ 140737488351232) (W : World) : Calls Tryz.prog 52 #[.string s, .int .u8 b] W fun e w' => e = .returned (.bool (hasB s b)) ∧ Drawn0 W w' :=
  sorobanref21_in.calls (s.size + 1) s b _ W (in_f s b hs _ (Nat.lt_succ_self _))
def inDi (b : Int) : Bool := hasB ⟨#[100, 105, 117, 111, 120, 88, 98, 66]⟩ b
def inFl (b : Int) : Bool := hasB ⟨#[101, 69, 102, 70, 103, 71, 97, 65]⟩ b
def simpleF1 (a2 : Int) : Int := if Go.bits .and .i64 a2 2 != 0 then (if Go.bits .and .i64 a2 4 != 0 then wrap64 (a2 - 4) else a2) else a2
def simpleF2 (f a5 a8 : Int) : Int := if Go.bits .and .i64 f 16 != 0 then (if Go.bits .and .i64 f 1 != 0 then wrap64 (f - 16) else if inDi a8 then (if decide (0 ≤ a5) then wrap64 (f - 16) else f) else f) else f
def simpleLen (a7 a8 : Int) : Int := if a7 == 3 then (if inFl a8 then 0 else a7) else a7
def sorobanref21_Simple.f (a0_0 : ByteArray) (a0_1 : Int) (a0_2 : Int) (a0_3 : Int) (a0_4 : Int) (a0_5 : Int) (a0_6 : Int) (a0_7 : Int) (a0_8 : Int) : Option (ByteArray × Int × Int × Int × Int × Int × Int × Int × Int) :=
  some (a0_0, a0_1, simpleF2 (simpleF1 a0_2) a0_5 a0_8, a0_3, a0_4, a0_5, a0_6, simpleLen a0_7 a0_8, a0_8)
set_option maxRecDepth 100000 in
set_option maxHeartbeats 40000000 in
theorem sorobanref21_Simple.calls (a0_0 : ByteArray) (a0_1 : Int) (a0_2 : Int) (a0_3 : Int) (a0_4 : Int) (a0_5 : Int) (a0_6 : Int) (a0_7 : Int) (a0_8 : Int) (r1 : ByteArray) (r2 : Int) (r3 : Int) (r4 : Int) (r5 : Int) (r6 : Int) (r7 : Int) (r8 : Int) (r9 : Int) (w : World) (h : sorobanref21_Simple.f a0_0 a0_1 a0_2 a0_3 a0_4 a0_5 a0_6 a0_7 a0_8 = some (r1, r2, r3, r4, r5, r6, r7, r8, r9)) :
    Calls Tryz.prog 29 #[.agg #[.string a0_0, .int .i64 a0_1, .int .i64 a0_2, .int .i64 a0_3, .int .i64 a0_4, .int .i64 a0_5, .int .i64 a0_6, .int .i64 a0_7, .int .u8 a0_8]] w fun e w' => e = .returned (.agg #[.string r1, .int .i64 r2, .int .i64 r3, .int .i64 r4, .int .i64 r5, .int .i64 r6, .int .i64 r7, .int .i64 r8, .int .u8 r9]) ∧ Below w.heap.size w w' := by
  unfold sorobanref21_Simple.f at h
  simp only [Option.some.injEq, Prod.mk.injEq] at h
  obtain ⟨rfl, rfl, rfl, rfl, rfl, rfl, rfl, rfl, rfl⟩ := h
  have hd := fun (W : World) => in_calls ⟨#[100, 105, 117, 111, 120, 88, 98, 66]⟩ a0_8 (by decide) W
  have hf := fun (W : World) => in_calls ⟨#[101, 69, 102, 70, 103, 71, 97, 65]⟩ a0_8 (by decide) W
  obtain ⟨bd, hbd⟩ : ∃ b, hasB ⟨#[100, 105, 117, 111, 120, 88, 98, 66]⟩ a0_8 = b := ⟨_, rfl⟩
  obtain ⟨bf, hbf⟩ : ∃ b, hasB ⟨#[101, 69, 102, 70, 103, 71, 97, 65]⟩ a0_8 = b := ⟨_, rfl⟩
  rw [hbd] at hd
  rw [hbf] at hf
  have HD := Lib.hid hd
  have HF := Lib.hid hf
  obtain ⟨L, hL, hLs⟩ : ∃ L, simpleLen a0_7 a0_8 = L ∧ ((((a0_7 == 3) = false) ∧ L = a0_7) ∨ (((a0_7 == 3) = true) ∧ bf = false ∧ L = a0_7) ∨ (((a0_7 == 3) = true) ∧ bf = true ∧ L = 0)) := by
    refine ⟨_, rfl, ?_⟩
    unfold simpleLen inFl
    rw [hbf]
    cases (a0_7 == 3) <;> cases bf <;> simp
  rw [hL]
  obtain ⟨F1, h1, h1s⟩ : ∃ F1, simpleF1 a0_2 = F1 ∧ (((Go.bits .and .i64 a0_2 2 != 0) = false ∧ F1 = a0_2) ∨ ((Go.bits .and .i64 a0_2 2 != 0) = true ∧ (Go.bits .and .i64 a0_2 4 != 0) = false ∧ F1 = a0_2) ∨ ((Go.bits .and .i64 a0_2 2 != 0) = true ∧ (Go.bits .and .i64 a0_2 4 != 0) = true ∧ F1 = wrap64 (a0_2 - 4))) := by
    refine ⟨_, rfl, ?_⟩
    unfold simpleF1
    cases (Go.bits .and .i64 a0_2 2 != 0) <;> cases (Go.bits .and .i64 a0_2 4 != 0) <;> simp
  rw [h1]
  obtain ⟨F2, h2, h2s⟩ : ∃ F2, simpleF2 F1 a0_5 a0_8 = F2 ∧ (((Go.bits .and .i64 F1 16 != 0) = false ∧ F2 = F1) ∨ ((Go.bits .and .i64 F1 16 != 0) = true ∧ (Go.bits .and .i64 F1 1 != 0) = true ∧ F2 = wrap64 (F1 - 16)) ∨ ((Go.bits .and .i64 F1 16 != 0) = true ∧ (Go.bits .and .i64 F1 1 != 0) = false ∧ bd = false ∧ F2 = F1)
      ∨ ((Go.bits .and .i64 F1 16 != 0) = true ∧ (Go.bits .and .i64 F1 1 != 0) = false ∧ bd = true ∧ decide (0 ≤ a0_5) = true ∧ F2 = wrap64 (F1 - 16)) ∨ ((Go.bits .and .i64 F1 16 != 0) = true ∧ (Go.bits .and .i64 F1 1 != 0) = false ∧ bd = true ∧ decide (0 ≤ a0_5) = false ∧ F2 = F1)) := by
    refine ⟨_, rfl, ?_⟩
    unfold simpleF2 inDi
    rw [hbd]
    cases (Go.bits .and .i64 F1 16 != 0) <;> cases (Go.bits .and .i64 F1 1 != 0) <;> cases bd <;> cases (decide (0 ≤ a0_5)) <;> simp
  rw [h2]
  clear hL h1 h2 hbd hbf hd hf
  rcases h1s with ⟨p1, rfl⟩ | ⟨p1, p2, rfl⟩ | ⟨p1, p2, rfl⟩
  all_goals rcases h2s with ⟨q1, rfl⟩ | ⟨q1, q2, rfl⟩ | ⟨q1, q2, rfl, rfl⟩ | ⟨q1, q2, rfl, q3, rfl⟩ | ⟨q1, q2, rfl, q3, rfl⟩
  all_goals rcases hLs with ⟨l1, rfl⟩ | ⟨l1, rfl, rfl⟩ | ⟨l1, rfl, rfl⟩
  all_goals
    go_enter Tryz.func29, Tryz.ntmps29
    go_wp2_with (first
      | (go_at_call_of 52 (Value.string ⟨#[100, 105, 117, 111, 120, 88, 98, 66]⟩); refine (HD.out _).mono ?_; rintro e w' ⟨rfl, ⟨nd, rfl⟩⟩)
      | (go_at_call_of 52 (Value.string ⟨#[101, 69, 102, 70, 103, 71, 97, 65]⟩); refine (HF.out _).mono ?_; rintro e w' ⟨rfl, ⟨nd, rfl⟩⟩))
    refine bodyPost_ret (v := .agg #[.string a0_0, .int .i64 a0_1, .int .i64 _, .int .i64 a0_3, .int .i64 a0_4, .int .i64 a0_5, .int .i64 a0_6, .int .i64 _, .int .u8 a0_8]) ?_ rfl ⟨rfl, ?_⟩
    · simp [results, Tryz.results29, go_sem]
    · repeat (with_reducible first | exact Below.refl _ _ | apply below_drew1 | apply pw_below_drewN | apply bs0 | apply bs1 | apply below_alloc)
end Go.Proofs.YtnhbgahfmcicnaaGreatDoor.PA
end
