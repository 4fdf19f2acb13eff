/- A part of the proof of the claim's statement. -/
import Derived.Test.YtnhbgahfmcicnaaGreatDoorPtR0
import Derived.Test.YtnhbgahfmcicnaaGreatDoorPtM0
import Derived.Carry
import Derived.ChangeArms
import Derived.SizedLaws
section
namespace Go.Proofs.YtnhbgahfmcicnaaGreatDoor.RowX
open Go Go.ChangeShapes Go.WideShapes Go.ChangeAt Go.RowKit Go.Proofs.YtnhbgahfmcicnaaGreatDoorW.PrintWords
open Go.Proofs.YtnhbgahfmcicnaaGreatDoor.PA (S35 k35 k35_mk In64 PieceOk HandedL)
set_option linter.unusedVariables false
theorem in64_of {n : Int} (h : (Lit.int .i64 n).wf = true) : In64 n := by
  unfold Lit.wf at h
  simp only [Bool.and_eq_true, decide_eq_true_eq] at h
  exact ⟨h.1, h.2⟩
theorem inu8_of {n : Int} (h : (Lit.int .u8 n).wf = true) : 0 ≤ n ∧ n ≤ 255 := by
  unfold Lit.wf at h
  simp only [Bool.and_eq_true, decide_eq_true_eq] at h
  exact ⟨h.1, h.2⟩
def cellsP (x : S35) : List Value := [.string x.f0, .int .i64 x.f1, .int .i64 x.f2, .int .i64 x.f3, .int .i64 x.f4, .int .i64 x.f5, .int .i64 x.f6, .int .i64 x.f7, .int .u8 x.f8]
section
variable {H : Type} {enc : TypeId × Value → H} {w : World} {base : Nat} {sp : Nat → Bool} {held : Bool}
theorem nine {l : List Value} (h : l.length = 9) : ∃ c0 c1 c2 c3 c4 c5 c6 c7 c8, l = [c0, c1, c2, c3, c4, c5, c6, c7, c8] := by
  match l, h with
  | [c0, c1, c2, c3, c4, c5, c6, c7, c8], _ => exact ⟨c0, c1, c2, c3, c4, c5, c6, c7, c8, rfl⟩
theorem piece_of {fuel : Nat} {cs : List Value} {y : DataW H × List MemPlace} (h : DataW.trod enc Tryz.prog w base sp held fuel 35 cs = some y) :
    ∃ x : S35, cs = cellsP x ∧ PieceOk x ∧ ∃ r, y.1 = .agg (.lit (.string x.f0.data.toList) :: r) := by
  obtain ⟨xs, n, _, rfl, hl, hxl, hf⟩ := DataW.trod_struct Tryz.underlying35 h
  have h9 : Tryz.prog.cellsOf 35 = 9 := by kernel_rfl
  rw [h9] at hl
  obtain ⟨c0, c1, c2, c3, c4, c5, c6, c7, c8, rfl⟩ := nine hl
  have g3 : Tryz.prog.cellsOf 3 = 1 := by kernel_rfl
  have g5 : Tryz.prog.cellsOf 5 = 1 := by kernel_rfl
  have g9 : Tryz.prog.cellsOf 9 = 1 := by kernel_rfl
  have t0 : DataW.trod enc Tryz.prog w base sp held n 9 (([c0, c1, c2, c3, c4, c5, c6, c7, c8].drop 0).take (Tryz.prog.cellsOf 9)) = xs[0]? := hf 0 _ rfl
  rw [g9] at t0
  change DataW.trod enc Tryz.prog w base sp held n 9 [c0] = xs[0]? at t0
  have t1 : DataW.trod enc Tryz.prog w base sp held n 3 (([c0, c1, c2, c3, c4, c5, c6, c7, c8].drop 1).take (Tryz.prog.cellsOf 3)) = xs[1]? := hf 1 _ rfl
  rw [g3] at t1
  change DataW.trod enc Tryz.prog w base sp held n 3 [c1] = xs[1]? at t1
  have t2 : DataW.trod enc Tryz.prog w base sp held n 3 (([c0, c1, c2, c3, c4, c5, c6, c7, c8].drop 2).take (Tryz.prog.cellsOf 3)) = xs[2]? := hf 2 _ rfl
  rw [g3] at t2
  change DataW.trod enc Tryz.prog w base sp held n 3 [c2] = xs[2]? at t2
  have t3 : DataW.trod enc Tryz.prog w base sp held n 3 (([c0, c1, c2, c3, c4, c5, c6, c7, c8].drop 3).take (Tryz.prog.cellsOf 3)) = xs[3]? := hf 3 _ rfl
  rw [g3] at t3
  change DataW.trod enc Tryz.prog w base sp held n 3 [c3] = xs[3]? at t3
  have t4 : DataW.trod enc Tryz.prog w base sp held n 3 (([c0, c1, c2, c3, c4, c5, c6, c7, c8].drop 4).take (Tryz.prog.cellsOf 3)) = xs[4]? := hf 4 _ rfl
  rw [g3] at t4
  change DataW.trod enc Tryz.prog w base sp held n 3 [c4] = xs[4]? at t4
  have t5 : DataW.trod enc Tryz.prog w base sp held n 3 (([c0, c1, c2, c3, c4, c5, c6, c7, c8].drop 5).take (Tryz.prog.cellsOf 3)) = xs[5]? := hf 5 _ rfl
  rw [g3] at t5
  change DataW.trod enc Tryz.prog w base sp held n 3 [c5] = xs[5]? at t5
  have t6 : DataW.trod enc Tryz.prog w base sp held n 3 (([c0, c1, c2, c3, c4, c5, c6, c7, c8].drop 6).take (Tryz.prog.cellsOf 3)) = xs[6]? := hf 6 _ rfl
  rw [g3] at t6
  change DataW.trod enc Tryz.prog w base sp held n 3 [c6] = xs[6]? at t6
  have t7 : DataW.trod enc Tryz.prog w base sp held n 3 (([c0, c1, c2, c3, c4, c5, c6, c7, c8].drop 7).take (Tryz.prog.cellsOf 3)) = xs[7]? := hf 7 _ rfl
  rw [g3] at t7
  change DataW.trod enc Tryz.prog w base sp held n 3 [c7] = xs[7]? at t7
  have t8 : DataW.trod enc Tryz.prog w base sp held n 5 (([c0, c1, c2, c3, c4, c5, c6, c7, c8].drop 8).take (Tryz.prog.cellsOf 5)) = xs[8]? := hf 8 _ rfl
  rw [g5] at t8
  change DataW.trod enc Tryz.prog w base sp held n 5 [c8] = xs[8]? at t8
  have hlen : xs.length = 9 := hxl
  have geti : ∀ i, i < 9 → ∃ y, xs[i]? = some y := fun i hi => ⟨xs[i], List.getElem?_eq_getElem (by omega)⟩
  obtain ⟨y0, e0⟩ := geti 0 (by omega)
  obtain ⟨y1, e1⟩ := geti 1 (by omega)
  obtain ⟨y2, e2⟩ := geti 2 (by omega)
  obtain ⟨y3, e3⟩ := geti 3 (by omega)
  obtain ⟨y4, e4⟩ := geti 4 (by omega)
  obtain ⟨y5, e5⟩ := geti 5 (by omega)
  obtain ⟨y6, e6⟩ := geti 6 (by omega)
  obtain ⟨y7, e7⟩ := geti 7 (by omega)
  obtain ⟨y8, e8⟩ := geti 8 (by omega)
  rw [e0] at t0
  rw [e1] at t1
  rw [e2] at t2
  rw [e3] at t3
  rw [e4] at t4
  rw [e5] at t5
  rw [e6] at t6
  rw [e7] at t7
  rw [e8] at t8
  obtain ⟨s, p0, q0, _⟩ := DataW.trod_string Tryz.underlying9 t0
  obtain ⟨n1, p1, _, w1⟩ := DataW.trod_int Tryz.underlying3 t1
  obtain ⟨n2, p2, _, w2⟩ := DataW.trod_int Tryz.underlying3 t2
  obtain ⟨n3, p3, _, w3⟩ := DataW.trod_int Tryz.underlying3 t3
  obtain ⟨n4, p4, _, w4⟩ := DataW.trod_int Tryz.underlying3 t4
  obtain ⟨n5, p5, _, w5⟩ := DataW.trod_int Tryz.underlying3 t5
  obtain ⟨n6, p6, _, w6⟩ := DataW.trod_int Tryz.underlying3 t6
  obtain ⟨n7, p7, _, w7⟩ := DataW.trod_int Tryz.underlying3 t7
  obtain ⟨n8, p8, _, w8⟩ := DataW.trod_int Tryz.underlying5 t8
  simp only [List.cons.injEq, and_true] at p0 p1 p2 p3 p4 p5 p6 p7 p8
  subst p0 p1 p2 p3 p4 p5 p6 p7 p8
  refine ⟨⟨s, n1, n2, n3, n4, n5, n6, n7, n8⟩, rfl, ⟨in64_of w1, in64_of w2, in64_of w3, in64_of w4, in64_of w5, in64_of w6, in64_of w7, inu8_of w8⟩, ?_⟩
  cases xs with
  | nil => simp at e0
  | cons z zs =>
    simp only [List.getElem?_cons_zero, Option.some.injEq] at e0
    subst e0
    rw [q0]
    exact ⟨zs.map (·.1), rfl⟩
set_option maxRecDepth 100000 in
theorem open_pieces {v : Value} {d : DataW H} {ps : List MemPlace} {ts : List TypeId} {ds : List (DataW H)} {j : Nat} (hsz : (DataW.weightsEach Tryz.prog ts ds).all (· ≤ reachBytes) = true) (htj : ts[j]? = some 22) (hdj : ds[j]? = some d)
    {r : Reach} {b0 : Nat} (hval : Value.okWide Tryz.prog w r b0 22 v) (h : DataW.Trod enc Tryz.prog w base sp held 22 v d ps) :
    ∃ (A : Option Addr) (c : Nat) (l : List S35), v = .slice A l.length c ∧ l.length ≤ c ∧ Kd.C k35 w A l.length l ∧ HandedL l := by
  obtain ⟨A, len, c, rfl⟩ := okWide_slice Tryz.underlying22 hval
  obtain ⟨fuel, hf⟩ := h
  have h9 : Tryz.prog.cellsOf 35 = 9 := by kernel_rfl
  rcases DataW.trod_slice Tryz.underlying22 hf with ⟨hcs, _⟩ | ⟨a, len', cap, elems, rest, n, _, hcs, hd, hb, hl, hm, hlen, hel, _, _⟩
  · simp [Value.cells] at hcs
    obtain ⟨rfl, rfl, rfl⟩ := hcs
    exact ⟨none, 0, [], rfl, Nat.le_refl _, ⟨rfl, by simp, fun h => absurd h (by simp)⟩, by simp, fun x hx => by cases hx⟩
  · simp [Value.cells] at hcs
    obtain ⟨rfl, rfl, rfl⟩ := hcs
    have hd1 : d = .slice (elems.map (·.1)) (rest.map (·.1)) := (Prod.mk.inj hd).1
    have each : ∀ i, i < len → ∃ x : S35, (∀ k u, (cellsP x)[k]? = some u → w.cell? (a.add (i * 9 + k)) = some u) ∧ PieceOk x ∧ x.f0.size ≤ 140737488351232 := by
      intro i hi
      have e := hel i hi
      obtain ⟨y, hy⟩ : ∃ y, elems[i]? = some y := ⟨elems[i], List.getElem?_eq_getElem (by omega)⟩
      rw [hy, h9, Option.bind_eq_some_iff] at e
      obtain ⟨cs, hc, ht⟩ := e
      obtain ⟨x, rfl, hx, rr, hr⟩ := piece_of ht
      refine ⟨x, fun k u hk => ?_, hx, ?_⟩
      · obtain ⟨_, h2, h3⟩ := World.cells?_some hc
        have hk9 : k < 9 := by
          have := (List.getElem?_eq_some_iff.1 hk).1
          exact this
        have := h3 k hk9
        rw [hk] at this
        rw [← this]
        rw [Addr.add_add]
      · have hmem : x.f0.data.toList.length ∈ DataW.weights Tryz.prog 22 d := by
          rw [hd1]
          simp only [DataW.weights, Tryz.underlying22, List.mem_cons, List.mem_append]
          refine Or.inr (Or.inl ?_)
          have : ∀ (es : List (DataW H)) (i : Nat), es[i]? = some (.agg (.lit (.string x.f0.data.toList) :: rr)) → x.f0.data.toList.length ∈ DataW.weightsAll Tryz.prog 35 es := by
            intro es
            induction es with
            | nil => intro i h; simp at h
            | cons e es ih =>
              intro i h
              simp only [DataW.weightsAll, List.mem_append]
              cases i with
              | zero =>
                left
                simp only [List.getElem?_cons_zero, Option.some.injEq] at h
                subst h
                simp [DataW.weights, Tryz.underlying35, DataW.weightsEach]
              | succ i => exact Or.inr (ih i (by simpa using h))
          exact this _ i (by rw [List.getElem?_map, hy, ← hr]; rfl)
        have := List.all_eq_true.1 hsz _ (DataW.weights_mem_each htj hdj _ hmem)
        rw [Array.length_toList] at this
        have h2 := of_decide_eq_true this
        exact h2
    have hxs : ∃ xs : List S35, xs.length = len ∧ ∀ i x, xs[i]? = some x → (∀ k u, (cellsP x)[k]? = some u → w.cell? (a.add (i * 9 + k)) = some u) ∧ PieceOk x ∧ x.f0.size ≤ 140737488351232 := by
      refine ⟨(List.range len).map fun i => if h : i < len then (each i h).choose else PA.z35, by simp, fun i x hx => ?_⟩
      rw [List.getElem?_map, Option.map_eq_some_iff] at hx
      obtain ⟨i', hi', rfl⟩ := hx
      obtain ⟨hlt, e⟩ := List.getElem?_eq_some_iff.1 hi'
      rw [List.getElem_range] at e
      subst e
      rw [List.length_range] at hlt
      rw [dif_pos hlt]
      exact (each i hlt).choose_spec
    obtain ⟨xs, rfl, hx⟩ := hxs
    refine ⟨some a, c, xs, rfl, hl, ⟨rfl, ?_, fun _ => ⟨a, rfl, fun j x hj => ⟨cellsP x, rfl, k35_mk w x, (hx j x hj).1⟩⟩⟩, ?_, fun x hm => ?_⟩
    · exact Nat.le_trans hl hm
    · have z := sized_slice hsz htj (by rw [hdj, hd1]) Tryz.underlying22
      have hb80 : Tryz.prog.bytesOf 35 = 80 := by kernel_rfl
      rw [hb80, List.length_map, List.length_map] at z
      have z2 : (elems.length + rest.length) * 80 ≤ 140737488351232 := z
      omega
    · obtain ⟨i, hi⟩ := List.getElem?_of_mem hm
      exact ⟨(hx i x hi).2.2, (hx i x hi).2.1⟩
end
end Go.Proofs.YtnhbgahfmcicnaaGreatDoor.RowX
end
