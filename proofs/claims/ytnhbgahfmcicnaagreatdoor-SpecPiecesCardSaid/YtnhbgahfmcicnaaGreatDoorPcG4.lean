/- A part of the proof of the claim's statement. -/
import Derived.Test.YtnhbgahfmcicnaaGreatDoorPcPAx2
import Derived.Test.YtnhbgahfmcicnaaGreatDoorPcM5
section
namespace Go.Proofs.YtnhbgahfmcicnaaGreatDoor.PA
set_option linter.unusedVariables false
set_option linter.unusedSimpArgs false
open Go.RowKit Go.Shelf Go.Proofs.YtnhbgahfmcicnaaGreatDoorW.PrintWords Go.Proofs.YtnhbgahfmcicnaaGreatDoorW.PrintLast Go.Proofs.YtnhbgahfmcicnaaGreatDoorW.PrintMore
theorem parseK (s : ByteArray) (L : List S35) (e a : Int) (h : parseC s.data.toList = (L, e, a)) (w : World) : Calls Tryz.prog 11 #[.string s] w fun en w' => ∃ v : Value, en = .returned (.tuple #[v, .int .i64 e, .int .i64 a]) ∧ Kd.R k35 35 w' w.heap.size (fun _ => True) v L ∧ Below w.heap.size w w' :=
  spec_Parse.calls s L e a w (congrArg some h)
theorem row_some {W : World} {base : Nat} {ok : Nat → Prop} {v : Value} {xs : List S35} (h : k35.R 35 W base ok v xs) (n : Nat) (hn : xs.length = n) (hx : 0 < n) : ∃ g c, v = .slice (some ⟨g, 0, none⟩) n c := by
  obtain ⟨A, c, rfl⟩ := Kd.R_slice h
  obtain ⟨_, inner, ho, _⟩ := h
  rcases ho.2 with ⟨hv, h0⟩ | ⟨g, cap', cur, hv, _⟩
  · injection hv with h1 h2 h3
    omega
  · injection hv with h1 h2 h3
    exact ⟨g, c, by rw [h1, hn]⟩
theorem row_at {W : World} {base g n cap : Nat} {ok : Nat → Prop} {xs : List S35} (h : k35.R 35 W base ok (.slice (some ⟨g, 0, none⟩) n cap) xs) (i : Nat) (hi : i < xs.length) (o j : Nat) (ho : i * 9 + j = o) (u : Value) (hu : (cells35 xs[i])[j]? = some u) : W.cell? ⟨g, o, none⟩ = some u := by
  subst ho
  exact (row_elem h i hi).1 j u hu
def sorobanlaw21_sanity.f (k : Nat)  : Option (Bool) := some true
set_option maxRecDepth 100000 in
set_option maxHeartbeats 40000000 in
theorem sorobanlaw21_sanity.calls (k : Nat)  (r : Bool) (w : World) (hLD : LD w) (h : sorobanlaw21_sanity.f k  = some r) :
    Calls Tryz.prog 13 #[] w fun e w' => e = .returned (.bool r) ∧ Below w.heap.size w w' := by
  obtain rfl := Option.some.inj h
  have HLD := Lib.hid hLD
  clear h hLD
  have hA : ∀ W : World, (binOp .neq 35 (.agg #[.string ⟨#[]⟩, .int .i64 1, .int .i64 0, .int .i64 5, .int .i64 0, .int .i64 2, .int .i64 0, .int .i64 3, .int .u8 102]) (.agg #[.string ⟨#[]⟩, .int .i64 1, .int .i64 0, .int .i64 5, .int .i64 0, .int .i64 2, .int .i64 0, .int .i64 3, .int .u8 102])).run Tryz.prog W = .ok (.bool false) W := fun _ => by kernel_rfl
  have hB : ∀ W : World, (binOp .neq 35 (.agg #[.string ⟨#[]⟩, .int .i64 3, .int .i64 0, .int .i64 (-1), .int .i64 1, .int .i64 (-1), .int .i64 2, .int .i64 8, .int .u8 103]) (.agg #[.string ⟨#[]⟩, .int .i64 3, .int .i64 0, .int .i64 (-1), .int .i64 1, .int .i64 (-1), .int .i64 2, .int .i64 8, .int .u8 103])).run Tryz.prog W = .ok (.bool false) W := fun _ => by kernel_rfl
  go_enter Tryz.func13, Tryz.ntmps13
  go_wp2_with fail
  refine (parseK _ exA 0 0 parseA _).mono ?_
  rintro e w1 ⟨v1, rfl, r1, b1⟩
  obtain ⟨g1, c1, rfl⟩ := row_some r1 3 rfl (by decide)
  go_wp2_with fail
  refine (parseK _ exB 0 0 parseB _).mono ?_
  rintro e w2 ⟨v2, rfl, r2, b2⟩
  obtain ⟨g2, c2, rfl⟩ := row_some r2 2 rfl (by decide)
  go_wp2_with fail
  refine (parseK _ exC 0 0 parseCC _).mono ?_
  rintro e w3 ⟨v3, rfl, r3, b3⟩
  obtain ⟨g3, c3, rfl⟩ := row_some r3 1 rfl (by decide)
  have q1 := Kd.R_below (Kd.R_below r1 b2) b3
  have q2 := Kd.R_below r2 b3
  have a0 := row_at q1 0 (by decide) 0 0 rfl (.string ⟨#[97]⟩) rfl
  have a9 := row_at q1 1 (by decide) 9 0 rfl (.string ⟨#[]⟩) rfl
  have a10 := row_at q1 1 (by decide) 10 1 rfl (.int .i64 1) rfl
  have a11 := row_at q1 1 (by decide) 11 2 rfl (.int .i64 0) rfl
  have a12 := row_at q1 1 (by decide) 12 3 rfl (.int .i64 5) rfl
  have a13 := row_at q1 1 (by decide) 13 4 rfl (.int .i64 0) rfl
  have a14 := row_at q1 1 (by decide) 14 5 rfl (.int .i64 2) rfl
  have a15 := row_at q1 1 (by decide) 15 6 rfl (.int .i64 0) rfl
  have a16 := row_at q1 1 (by decide) 16 7 rfl (.int .i64 3) rfl
  have a17 := row_at q1 1 (by decide) 17 8 rfl (.int .u8 102) rfl
  have a26 := row_at q1 2 (by decide) 26 8 rfl (.int .u8 37) rfl
  have d0 := row_at q2 0 (by decide) 0 0 rfl (.string ⟨#[]⟩) rfl
  have d1 := row_at q2 0 (by decide) 1 1 rfl (.int .i64 3) rfl
  have d2 := row_at q2 0 (by decide) 2 2 rfl (.int .i64 0) rfl
  have d3 := row_at q2 0 (by decide) 3 3 rfl (.int .i64 (-1)) rfl
  have d4 := row_at q2 0 (by decide) 4 4 rfl (.int .i64 1) rfl
  have d5 := row_at q2 0 (by decide) 5 5 rfl (.int .i64 (-1)) rfl
  have d6 := row_at q2 0 (by decide) 6 6 rfl (.int .i64 2) rfl
  have d7 := row_at q2 0 (by decide) 7 7 rfl (.int .i64 8) rfl
  have d8 := row_at q2 0 (by decide) 8 8 rfl (.int .u8 103) rfl
  have d10 := row_at q2 1 (by decide) 10 1 rfl (.int .i64 4) rfl
  have R3 := Lib.hid r3
  have bw1 := b1
  have bw2 := below_then bw1 bw1.size b2
  have bw3 := below_then bw2 bw2.size b3
  have BW3 := Lib.hid bw3
  clear r1 r2 r3 q1 q2 b1 b2 b3 bw1 bw2 bw3
  go_wp2_with fail
  refine (spec_Print.calls 20 (some ⟨g3, 0, none⟩) c3 exC printC 0 _ (Kd.R_reads' R3.out).2.2 (Kd.R_reads' R3.out).2.1 (HLD.out.below BW3.out) printCC).mono ?_
  rintro e w4 ⟨rfl, b4⟩
  unfold printC
  go_wp2_with fail
  refine (spec_Canonical.calls 20 (some ⟨g3, 0, none⟩) c3 exC exD 0 _ (Kd.R_reads' (Kd.R_below R3.out b4)).2.2 (Kd.R_reads' R3.out).2.1 canonCC).mono ?_
  rintro e w5 ⟨v5, rfl, r5, b5⟩
  obtain ⟨g5, c5, rfl⟩ := row_some r5 1 rfl (by decide)
  have bw5 := below_then (below_then BW3.out BW3.out.size b4) (Nat.le_trans BW3.out.size b4.size) b5
  have BW5 := Lib.hid bw5
  have R5 := Lib.hid r5
  clear r5 bw5 b4 b5
  go_wp2_with fail
  refine (spec_Print.calls 20 (some ⟨g5, 0, none⟩) c5 exD printD 0 _ (Kd.R_reads' R5.out).2.2 (Kd.R_reads' R5.out).2.1 (HLD.out.below BW5.out) printDD).mono ?_
  rintro e w6 ⟨rfl, b6⟩
  unfold printD
  go_wp2_with fail
  have bw6 := below_then BW5.out BW5.out.size b6
  have BW6 := Lib.hid bw6
  clear b6 bw6
  refine (spec_Escape.calls _ _ 0 _ (HLD.out.below BW6.out) escapeX).mono ?_
  rintro e w7 ⟨rfl, b7⟩
  have bw7 := below_then BW6.out BW6.out.size b7
  have BW7 := Lib.hid bw7
  clear b7 bw7
  go_wp2_with fail
  refine (parseK _ [] 6 4 parseD _).mono ?_
  rintro e w8 ⟨v8, rfl, r8, b8⟩
  obtain ⟨A8, c8, rfl⟩ := Kd.R_slice r8
  go_wp2_with fail
  refine (parseK _ [] 6 4 parseE _).mono ?_
  rintro e w9 ⟨v9, rfl, r9, b9⟩
  obtain ⟨A9, c9, rfl⟩ := Kd.R_slice r9
  go_wp2_with fail
  refine (parseK _ [] 2 0 parseF _).mono ?_
  rintro e w10 ⟨v10, rfl, r10, b10⟩
  obtain ⟨A10, c10, rfl⟩ := Kd.R_slice r10
  clear r8 r9 r10
  have bw8 := below_then BW7.out BW7.out.size b8
  have bw9 := below_then bw8 bw8.size b9
  have bw10 := below_then bw9 bw9.size b10
  have BW10 := Lib.hid bw10
  clear bw8 bw9 bw10 b8 b9 b10
  go_wp2_with fail
  go_ret
  exact ⟨rfl, BW10.out⟩
end Go.Proofs.YtnhbgahfmcicnaaGreatDoor.PA
end
