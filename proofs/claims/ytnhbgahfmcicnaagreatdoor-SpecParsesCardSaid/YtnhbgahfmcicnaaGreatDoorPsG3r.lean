/- A part of the proof that Parse returns what the specification returns, for every string. -/
import Derived.Test.YtnhbgahfmcicnaaGreatDoorPsPAx3
import Derived.Test.YtnhbgahfmcicnaaGreatDoorPsN1
import Derived.BigGuard
import Derived.Test.YtnhbgahfmcicnaaGreatDoorPsG2j
import Derived.Deep.LoopGhost
import Derived.Deep.MidRow
import Derived.Test.YtnhbgahfmcicnaaGreatDoorPsM9
section
namespace Go.Proofs.YtnhbgahfmcicnaaGreatDoor.PA
set_option linter.unusedVariables false
set_option linter.unusedSimpArgs false
open Go.RowKit Go.Shelf Go.Proofs.YtnhbgahfmcicnaaGreatDoorW.PrintWords Go.Proofs.YtnhbgahfmcicnaaGreatDoorW.PrintLast Go.Proofs.YtnhbgahfmcicnaaGreatDoorW.PrintMore
theorem info35r : (Tryz.prog.info? 35).map (fun i => (i.zero, i.size, i.bytes)) = some (some (.agg #[.string ⟨#[]⟩, .int .i64 0, .int .i64 0, .int .i64 0, .int .i64 0, .int .i64 0, .int .i64 0, .int .i64 0, .int .u8 0]), 9, 80) := by kernel_rfl
structure Pq (w : World) (G R : Nat) (fmt : ByteArray) (v : Value) (acc : List S35) (a nx : Int) (wi pn : Bool) (W : World) : Prop where
 is : IsS65 w W G fmt a nx wi pn
 b : Below w.heap.size w W
 row : k35.R 35 W w.heap.size (fun k => k ≠ G ∧ k ≠ R) v acc
 r : W.heap[R]? = some (.cells #[.slice none 0 0, .int .i64 0, .int .i64 0] 27 (0, 0))
 hR : w.heap.size ≤ R
section
variable {w W W' : World} {G R X Y : Nat} {fmt : ByteArray} {v : Value} {acc : List S35} {a a' nx nx' : Int} {wi pn wi' pn' : Bool} {x x' : S35}
theorem Pq.gr (h : Pq w G R fmt v acc a nx wi pn W) : G ≠ R := IsS65.ne_blk h.is h.r (by decide)
theorem Pq.lt (h : Pq w G R fmt v acc a nx wi pn W) : G < W.heap.size := IsS65.lt h.is
theorem Pq.below (h : Pq w G R fmt v acc a nx wi pn W) (hb : Below W.heap.size W W') : Pq w G R fmt v acc a nx wi pn W' :=
 ⟨IsS65.below h.is hb, h.b.trans (hb.mono h.b.size), Kd.R_below h.row hb, (hb.block _ (blk_lt h.r)).trans h.r, h.hR⟩
theorem Pq.start (w : World) (fmt : ByteArray) : Pq w (w.heap.size + 1) w.heap.size fmt (.slice none 0 0) [] 0 0 false false ((w.alloc (.cells #[.slice none 0 0, .int .i64 0, .int .i64 0] 27)).alloc (.cells #[.string fmt, .int .i64 0, .int .i64 0, .bool false, .bool false] 65)) := by
 have z1 : (w.alloc (.cells #[.slice none 0 0, .int .i64 0, .int .i64 0] 27)).heap.size = w.heap.size + 1 := by simp
 have h1 := World.alloc_heap_new w (.cells #[.slice none 0 0, .int .i64 0, .int .i64 0] 27)
 have h2 := IsS65.new w (w.alloc (.cells #[.slice none 0 0, .int .i64 0, .int .i64 0] 27)) fmt 0 0 false false (below_alloc (Below.refl _ _) _)
 rw [z1] at h2
 have a2 : Below (w.heap.size + 1) (w.alloc (.cells #[.slice none 0 0, .int .i64 0, .int .i64 0] 27)) ((w.alloc (.cells #[.slice none 0 0, .int .i64 0, .int .i64 0] 27)).alloc (.cells #[.string fmt, .int .i64 0, .int .i64 0, .bool false, .bool false] 65)) := z1 ▸ below_alloc (Below.refl _ _) _
 exact ⟨h2, below_alloc (below_alloc (Below.refl _ _) _) _, Kd.R_nil _ _ _ _ _, (a2.block _ (by omega)).trans h1, Nat.le_refl _⟩
theorem Pq.g0 (h : Pq w G R fmt v acc a nx wi pn W) : W.cell? ⟨G, 0, none⟩ = some (.string fmt) := blk_cell h.is.1 0
theorem Pq.g1 (h : Pq w G R fmt v acc a nx wi pn W) : W.cell? ⟨G, 1, none⟩ = some (.int .i64 a) := blk_cell h.is.1 1
theorem Pq.fg (h : Pq w G R fmt v acc a nx wi pn W) (j : Nat) : W.frozen? ⟨G, j, none⟩ = false := blk_frozen h.is.1 j
theorem Pq.rr (h : Pq w G R fmt v acc a nx wi pn W) : W.cell? ⟨R, 0, none⟩ = some (.slice none 0 0) ∧ W.cell? ⟨R, 1, none⟩ = some (.int .i64 0) ∧ W.cell? ⟨R, 2, none⟩ = some (.int .i64 0) ∧ W.frozen? ⟨R, 0, none⟩ = false ∧ W.frozen? ⟨R, 1, none⟩ = false ∧ W.frozen? ⟨R, 2, none⟩ = false :=
 ⟨blk_cell h.r 0, blk_cell h.r 1, blk_cell h.r 2, blk_frozen h.r 0, blk_frozen h.r 1, blk_frozen h.r 2⟩
structure Pm (w : World) (G R X : Nat) (fmt : ByteArray) (v : Value) (acc : List S35) (a nx : Int) (wi pn : Bool) (x : S35) (W : World) : Prop where
 q : Pq w G R fmt v acc a nx wi pn W
 row : k35.R 35 W w.heap.size (fun k => (k ≠ G ∧ k ≠ R) ∧ k ≠ X) v acc
 x : W.heap[X]? = some (.cells (cells35 x) 35 (0, 0))
 hX : w.heap.size ≤ X
 rx : R ≠ X
theorem Pm.gX (h : Pm w G R X fmt v acc a nx wi pn x W) : G ≠ X := IsS65.ne_blk h.q.is h.x (by decide)
theorem Pm.start (h : Pq w G R fmt v acc a nx wi pn W) (x : S35) : Pm w G R W.heap.size fmt v acc a nx wi pn x (W.alloc (.cells (cells35 x) 35)) :=
 ⟨h.below (below_alloc (Below.refl _ _) _), Kd.R_alloc (Kd.R_elderB h.row W.heap.size (Nat.le_refl _)) _, World.alloc_heap_new W _, h.b.size, by have := blk_lt h.r; omega⟩
theorem Pm.below (h : Pm w G R X fmt v acc a nx wi pn x W) (hb : Below W.heap.size W W') : Pm w G R X fmt v acc a nx wi pn x W' :=
 ⟨h.q.below hb, Kd.R_below h.row hb, (hb.block _ (blk_lt h.x)).trans h.x, h.hX, h.rx⟩
theorem Pm.call (h : Pm w G R X fmt v acc a nx wi pn x W) (hi : IsS65 w W' G fmt a' nx' wi' pn') (hb : Below w.heap.size w W') (hk : KeepBut W W' G none) : Pm w G R X fmt v acc a' nx' wi' pn' x W' :=
 ⟨⟨hi, hb, Kd.R_keep h.q.row hk (fun _ e => e.1), hk.blk h.q.r h.q.gr.symm (by simp), h.q.hR⟩, Kd.R_keep h.row hk (fun _ e => e.1.1), hk.blk h.x h.gX.symm (by simp), h.hX, h.rx⟩
theorem Pm.setG (h : Pm w G R X fmt v acc a nx wi pn x W) (a' : Int) : Pm w G R X fmt v acc a' nx wi pn x (W.setCell ⟨G, 1, none⟩ (.int .i64 a')) :=
 h.call (IsS65.set_1 h.q.is _) (below_set h.q.b (IsS65.ge h.q.is)) (KeepBut.set_ (KeepBut.refl _ _ _) _ _)
theorem Pm.setX (h : Pm w G R X fmt v acc a nx wi pn x W) (j : Nat) (u : Value) (x' : S35) (hx : (cells35 x).setIfInBounds j u = cells35 x') : Pm w G R X fmt v acc a nx wi pn x' (W.setCell ⟨X, j, none⟩ u) := by
 have hr := Kd.R_far h.row (p := ⟨X, j, none⟩) (fun k hk => hk.2) u
 exact ⟨⟨IsS65.far h.q.is h.gX u, below_set h.q.b h.hX, Kd.R_mono hr (fun _ e => e.1), blk_far h.q.r h.rx u, h.q.hR⟩, hr, hx ▸ blk_set h.x j u, h.hX, h.rx⟩
theorem Pm.x0 (h : Pm w G R X fmt v acc a nx wi pn x W) : W.cell? ⟨X, 0, none⟩ = some (.string x.f0) := blk_cell h.x 0
theorem Pm.x1 (h : Pm w G R X fmt v acc a nx wi pn x W) : W.cell? ⟨X, 1, none⟩ = some (.int .i64 x.f1) := blk_cell h.x 1
theorem Pm.x2 (h : Pm w G R X fmt v acc a nx wi pn x W) : W.cell? ⟨X, 2, none⟩ = some (.int .i64 x.f2) := blk_cell h.x 2
theorem Pm.x3 (h : Pm w G R X fmt v acc a nx wi pn x W) : W.cell? ⟨X, 3, none⟩ = some (.int .i64 x.f3) := blk_cell h.x 3
theorem Pm.x4 (h : Pm w G R X fmt v acc a nx wi pn x W) : W.cell? ⟨X, 4, none⟩ = some (.int .i64 x.f4) := blk_cell h.x 4
theorem Pm.x5 (h : Pm w G R X fmt v acc a nx wi pn x W) : W.cell? ⟨X, 5, none⟩ = some (.int .i64 x.f5) := blk_cell h.x 5
theorem Pm.x6 (h : Pm w G R X fmt v acc a nx wi pn x W) : W.cell? ⟨X, 6, none⟩ = some (.int .i64 x.f6) := blk_cell h.x 6
theorem Pm.x7 (h : Pm w G R X fmt v acc a nx wi pn x W) : W.cell? ⟨X, 7, none⟩ = some (.int .i64 x.f7) := blk_cell h.x 7
theorem Pm.x8 (h : Pm w G R X fmt v acc a nx wi pn x W) : W.cell? ⟨X, 8, none⟩ = some (.int .u8 x.f8) := blk_cell h.x 8
theorem Pm.fx (h : Pm w G R X fmt v acc a nx wi pn x W) (j : Nat) : W.frozen? ⟨X, j, none⟩ = false := blk_frozen h.x j
end
structure Sq (fmt : ByteArray) (RES : Except (Int × List UInt8) (List S35)) (acc : List S35) (rest : List UInt8) (nx : Int) (wi pn : Bool) : Prop where
 suf : Suf fmt rest
 res : piecesR (rest.length + 1) acc nx wi pn rest = RES
 le : acc.length ≤ 500
 all : ∀ n ∈ allC acc, 1 ≤ n ∧ n ≤ 64
 n0 : 0 ≤ nx
 n1 : nx ≤ 3 * (acc.length : Int)
theorem Sq.step {fmt : ByteArray} {RES : Except (Int × List UInt8) (List S35)} {acc : List S35} {rest l' : List UInt8} {nx nx' : Int} {wi pn wi' pn' : Bool} {x : S35} (h : Sq fmt RES acc rest nx wi pn) (hr : ¬ rest = [])
  (hp : pieceR (decide (acc.length = 500)) nx wi pn rest = .ok (x, nx', wi', pn', l')) (hb : bigR x = false) (h5 : ¬ acc.length = 500) : Sq fmt RES (acc ++ [x]) l' nx' wi' pn' := by
 have hle := h.le
 have hn1 := h.n1
 obtain ⟨a1, a2, a3⟩ := pieceR_args h.n0 (by omega) hp hb
 have e : (acc ++ [x]).length = acc.length + 1 := by simp
 exact ⟨h.suf.of (pieceR_lt hr hp).2, (piecesR_step hr hp hb h5).trans h.res, by omega, allC_snoc h.all a1, a2, by rw [e]; omega⟩
theorem Sq.err {fmt : ByteArray} {RES : Except (Int × List UInt8) (List S35)} {acc : List S35} {rest t : List UInt8} {nx : Int} {wi pn : Bool} {c : Int} (h : Sq fmt RES acc rest nx wi pn) (hr : ¬ rest = [])
  (hp : pieceR (decide (acc.length = 500)) nx wi pn rest = .error (c, t)) : outC fmt.size RES = ([], c, offI fmt t) := by
 rw [← h.res, piecesR_err hr hp]
 rfl
theorem Sq.big {fmt : ByteArray} {RES : Except (Int × List UInt8) (List S35)} {acc : List S35} {rest l' : List UInt8} {nx nx' : Int} {wi pn wi' pn' : Bool} {x : S35} (h : Sq fmt RES acc rest nx wi pn) (hr : ¬ rest = [])
  (hp : pieceR (decide (acc.length = 500)) nx wi pn rest = .ok (x, nx', wi', pn', l')) (hb : bigR x = true ∨ acc.length = 500) : outC fmt.size RES = ([], 2, offI fmt rest) := by
 rw [← h.res, piecesR_big hr hp hb]
 rfl
theorem rconvS {w W : World} {G : Nat} {fmt : ByteArray} {l l' : List UInt8} {nx nx' : Int} {wi pn wi' pn' ok : Bool} {e0 : ByteArray} {e1 e2 e3 e4 e5 e6 e7 e8 : Int} (hI : IsS65 w W G fmt (offI fmt l) nx wi pn) (hB : Below w.heap.size w W) (hs : Suf fmt l) (h : rconvC nx wi pn l = ((⟨e0, e1, e2, e3, e4, e5, e6, e7, e8⟩, ok), nx', wi', pn', l')) :
  Calls Tryz.prog 35 #[.pointer (some ⟨G, 0, none⟩)] W fun e w' => e = .returned (.tuple #[.agg #[.string e0, .int .i64 e1, .int .i64 e2, .int .i64 e3, .int .i64 e4, .int .i64 e5, .int .i64 e6, .int .i64 e7, .int .u8 e8], .bool ok]) ∧ IsS65 w w' G fmt (offI fmt l') nx' wi' pn' ∧ Below w.heap.size w w' ∧ KeepBut W w' G none := by
 have := rconv_calls hI hB hs
 rw [h] at this
 exact this
theorem Pm.copy {w W : World} {G R X : Nat} {fmt : ByteArray} {v : Value} {acc : List S35} {a nx : Int} {wi pn : Bool} {x : S35} (h : Pm w G R X fmt v acc a nx wi pn x W) (y : S35) :
  Pm w G R X fmt v acc a nx wi pn y (((((((((W.setCell ⟨X, 0, none⟩ (.string y.f0)).setCell ⟨X, 1, none⟩ (.int .i64 y.f1)).setCell ⟨X, 2, none⟩ (.int .i64 y.f2)).setCell ⟨X, 3, none⟩ (.int .i64 y.f3)).setCell ⟨X, 4, none⟩ (.int .i64 y.f4)).setCell ⟨X, 5, none⟩ (.int .i64 y.f5)).setCell ⟨X, 6, none⟩ (.int .i64 y.f6)).setCell ⟨X, 7, none⟩ (.int .i64 y.f7)).setCell ⟨X, 8, none⟩ (.int .u8 y.f8)) :=
 ((((((((h.setX 0 _ ⟨y.f0, x.f1, x.f2, x.f3, x.f4, x.f5, x.f6, x.f7, x.f8⟩ rfl).setX 1 _ ⟨y.f0, y.f1, x.f2, x.f3, x.f4, x.f5, x.f6, x.f7, x.f8⟩ rfl).setX 2 _ ⟨y.f0, y.f1, y.f2, x.f3, x.f4, x.f5, x.f6, x.f7, x.f8⟩ rfl).setX 3 _ ⟨y.f0, y.f1, y.f2, y.f3, x.f4, x.f5, x.f6, x.f7, x.f8⟩ rfl).setX 4 _ ⟨y.f0, y.f1, y.f2, y.f3, y.f4, x.f5, x.f6, x.f7, x.f8⟩ rfl).setX 5 _ ⟨y.f0, y.f1, y.f2, y.f3, y.f4, y.f5, x.f6, x.f7, x.f8⟩ rfl).setX 6 _ ⟨y.f0, y.f1, y.f2, y.f3, y.f4, y.f5, y.f6, x.f7, x.f8⟩ rfl).setX 7 _ ⟨y.f0, y.f1, y.f2, y.f3, y.f4, y.f5, y.f6, y.f7, x.f8⟩ rfl).setX 8 _ y rfl
theorem range35 {W : World} {Y : Nat} {e0 : ByteArray} {e1 e2 e3 e4 e5 e6 e7 e8 : Int} (h : W.heap[Y]? = some (.cells #[.string e0, .int .i64 e1, .int .i64 e2, .int .i64 e3, .int .i64 e4, .int .i64 e5, .int .i64 e6, .int .i64 e7, .int .u8 e8] 35 (0, 0))) :
  W.rangeAt Y 0 [.string e0, .int .i64 e1, .int .i64 e2, .int .i64 e3, .int .i64 e4, .int .i64 e5, .int .i64 e6, .int .i64 e7, .int .u8 e8] := World.rangeAt_of_block h 0 9
theorem there35 {W : World} {X : Nat} {x : S35} (h : W.heap[X]? = some (.cells (cells35 x) 35 (0, 0))) : W.there X 0 9 := fun j hj => by
 rw [Nat.zero_add]
 have hs : (cells35 x).size = 9 := rfl
 obtain ⟨u, hu⟩ : ∃ u, (cells35 x)[j]? = some u := ⟨_, Array.getElem?_eq_getElem (by omega)⟩
 exact ⟨by rw [cell_of_row W X j _ _ _ h, hu]; rfl, blk_frozen h j⟩
theorem at_of {fmt : ByteArray} {c : UInt8} {l : List UInt8} {q : Nat} (hs : Suf fmt (c :: l)) (hq : fmt.size - (c :: l).length = q) : ∃ h : q < fmt.size, fmt[q]'h = c := by
 have hlen := hs.len
 have hlt : q < fmt.size := by simp only [List.length_cons] at hlen hq; omega
 refine ⟨hlt, ?_⟩
 have h1 := hs.at_
 rw [hq] at h1
 unfold bt at h1
 rw [Int.toNat_natCast, dif_pos hlt] at h1
 exact UInt8.toNat_inj.1 (by omega)
theorem ne37 {c : UInt8} (h : ¬ c = 37) : ¬ (c.toNat : Int) = 37 := fun e => h (UInt8.toNat_inj.1 (by show c.toNat = 37; omega))
theorem ne0 {c : UInt8} (h : ¬ c = 0) : ¬ (c.toNat : Int) = 0 := fun e => h (UInt8.toNat_inj.1 (by show c.toNat = 0; omega))
def RParsePost (w : World) (r : List S35 × Int × Int) (e : Ending) (w' : World) : Prop :=
 ∃ v0_ : Value, e = .returned (.agg #[v0_, .int .i64 r.2.1, .int .i64 r.2.2]) ∧ Kd.R k35 35 w' w.heap.size (fun _ => True) v0_ r.1 ∧ Below w.heap.size w w'
theorem RParsePost.no {w W : World} {R : Nat} {c o : Int} {r : List S35 × Int × Int} (hr : r = ([], c, o)) (hb : Below w.heap.size w W) (hR : w.heap.size ≤ R) :
  RParsePost w r (.returned (.agg #[.slice none 0 0, .int .i64 c, .int .i64 o])) (((W.setCell ⟨R, 0, none⟩ (.slice none 0 0)).setCell ⟨R, 1, none⟩ (.int .i64 c)).setCell ⟨R, 2, none⟩ (.int .i64 o)) := by
 subst hr
 exact ⟨_, rfl, Kd.R_nil _ _ _ _ _, below_set (below_set (below_set hb hR) hR) hR⟩
theorem RParsePost.yes {w W : World} {R G : Nat} {v : Value} {L : List S35} {r : List S35 × Int × Int} (hr : r = (L, 0, 0)) (hb : Below w.heap.size w W) (hR : w.heap.size ≤ R) (hrow : k35.R 35 W w.heap.size (fun k => k ≠ G ∧ k ≠ R) v L) :
  RParsePost w r (.returned (.agg #[v, .int .i64 0, .int .i64 0])) (((W.setCell ⟨R, 0, none⟩ v).setCell ⟨R, 1, none⟩ (.int .i64 0)).setCell ⟨R, 2, none⟩ (.int .i64 0)) := by
 subst hr
 refine ⟨_, rfl, ?_, below_set (below_set (below_set hb hR) hR) hR⟩
 exact Kd.R_mono (Kd.R_far (Kd.R_far (Kd.R_far hrow (p := ⟨R, 0, none⟩) (fun k hk => hk.2) _) (p := ⟨R, 1, none⟩) (fun k hk => hk.2) _) (p := ⟨R, 2, none⟩) (fun k hk => hk.2) _) (fun _ _ => trivial)
theorem max3_mx (ats : Array TypeId) (ty : TypeId) (k : IntKind) (a b c : Int) : Builtin.max_ ats ty #[.int k a, .int k b, .int k c] = pure (.int k (mx (mx a b) c)) := by
 rw [max_three, max2_int]
 show (Builtin.max2 (.int k (mx a b)) (.int k c) >>= fun s => pure s) = _
 rw [max2_int]
 rfl
attribute [local go_sem] max3_mx
set_option maxRecDepth 100000 in
set_option maxHeartbeats 40000000 in
theorem rparse_calls (a0 : ByteArray) (w : World) : Calls Tryz.prog 12 #[.string a0] w (RParsePost w (rparseC a0.data.toList)) := by
 have hdl : a0.data.toList.length = a0.size := data_length a0
 by_cases hz : 2000 < a0.size
 ·have HP := Lib.hid (show rparseC a0.data.toList = ([], 2, 0) from if_pos (by omega))
  have hzi : (2000 : Int) < (a0.size : Int) := by omega
  clear hdl
  go_enter Tryz.func12, Tryz.ntmps12
  go_wp2
  refine bodyPost_ret (v := .agg #[.slice none 0 0, .int .i64 2, .int .i64 0]) (by simp [results, Tryz.results12, go_sem]) rfl ?_
  rw [HP.out]
  exact ⟨_, rfl, Kd.R_nil _ _ _ _ _, below_alloc (Below.refl _ _) _⟩
 ·have hz2 : a0.size ≤ 2000 := by omega
  obtain ⟨RES, hres⟩ : ∃ x, piecesR (a0.data.toList.length + 1) [] 0 false false a0.data.toList = x := ⟨_, rfl⟩
  have hp : rparseC a0.data.toList = outC a0.size RES := by
   unfold rparseC
   rw [if_neg (by omega), hres, hdl]
  rw [hp]
  have HRES := Lib.hid hres
  have HDL := Lib.hid hdl
  have hzi : ¬ (2000 : Int) < (a0.size : Int) := by omega
  have hs0 : Suf a0 a0.data.toList := ⟨List.suffix_refl _, hz2⟩
  have HS0 := Lib.hid hs0
  have hpq := Pq.start w a0
  have HPQ := Lib.hid hpq
  clear hp hres hdl hs0 hpq
  go_enter Tryz.func12, Tryz.ntmps12
  go_upto_block 0 with fail
  obtain ⟨W1, hW1⟩ : ∃ x, ((w.alloc (.cells #[.slice none 0 0, .int .i64 0, .int .i64 0] 27)).alloc (.cells #[.string a0, .int .i64 0, .int .i64 0, .bool false, .bool false] 65)) = x := ⟨_, rfl⟩
  have hpq := HPQ.out
  rw [hW1] at hpq ⊢
  clear hW1 HPQ
  obtain ⟨G, hG⟩ : ∃ x, w.heap.size + 1 = x := ⟨_, rfl⟩
  obtain ⟨R, hR⟩ : ∃ x, w.heap.size = x := ⟨_, rfl⟩
  rw [hG] at hpq ⊢
  rw [show (Pq w G w.heap.size a0 (.slice none 0 0) [] 0 0 false false W1) = (Pq w G R a0 (.slice none 0 0) [] 0 0 false false W1) by rw [hR]] at hpq
  clear hG
  have hsq : Sq a0 RES [] a0.data.toList 0 false false := ⟨HS0.out, HRES.out, by simp, fun n hn => absurd hn (by simp [allC]), Int.le_refl _, by simp⟩
  have HSQ := Lib.hid hsq
  clear hsq
  go_wp2_with fail
  go_loopg [4] a0.size (fun k u wr => ∃ acc rest nx wi pn A c, rest.length = k ∧ u = .slice A acc.length c ∧ Pq w G R a0 (.slice A acc.length c) acc (offI a0 rest) nx wi pn wr ∧ Sq a0 RES acc rest nx wi pn)
  case atStart => exact ⟨[], a0.data.toList, 0, false, false, none, 0, HDL.out, rfl, by unfold offI; rw [HDL.out, Nat.sub_self]; exact hpq, HSQ.out⟩
  case round =>
   clear hpq HSQ HS0 HRES
   obtain ⟨acc, rest, nx, wi, pn, A, c, hk, rfl, pq, sq⟩ := hrel
   have HSQ := Lib.hid sq
   have HK := Lib.hid hk
   clear hk
   by_cases hr : rest = []
   ·subst hr
    have hg1 : wr.cell? ⟨G, 1, none⟩ = some (.int .i64 (a0.size : Int)) := pq.g1
    have hsz : ¬ (a0.size : Int) < (a0.size : Int) := by omega
    have hRES : RES = .ok acc := by rw [← sq.res]; exact piecesR_end _ _ _ _ _
    subst hRES
    obtain ⟨A', c', hv, hle, hC⟩ := Kd.R_reads pq.row
    injection hv with hv1 hv2 hv3
    subst hv1 hv3
    obtain ⟨bw, hbw⟩ : ∃ x, wholeC acc = x := ⟨_, rfl⟩
    have hacc : acc.length ≤ 1000000 := by have := sq.le; omega
    have hwf := whole_rf acc hacc sq.all (k := 70 * (5 * acc.length + 3) + 1) (by omega)
    rw [hbw] at hwf
    have HC := Lib.hid hC
    have HLE := Lib.hid hle
    have HWF := Lib.hid hwf
    have HBW := Lib.hid hbw
    have HPQ := Lib.hid pq
    clear hC hle hwf hbw pq sq HSQ HK HDL hR
    cases bw
    ·have HO := Lib.hid (show outC a0.size (.ok acc) = ([], 6, (a0.size : Int)) from if_neg (by rw [HBW.out]; decide))
     go_wp2_with (go_at_call 36; refine (sorobanref21_Whole.calls _ A c acc false _ HC.out HLE.out HWF.out).mono ?_; rintro e w6 ⟨rfl, hb6⟩; have pq6 := HPQ.out.below hb6; obtain ⟨hr0, hr1, hr2, hf0, hf1, hf2⟩ := pq6.rr)
     refine bodyPost_ret (v := .agg #[.slice none 0 0, .int .i64 6, .int .i64 (a0.size : Int)]) (by simp [results, Tryz.results12, go_sem, hr0, hr1, hr2]) rfl ?_
     exact RParsePost.no HO.out pq6.b pq6.hR
    ·have HO := Lib.hid (show outC a0.size (.ok acc) = (acc, 0, 0) from if_pos HBW.out)
     go_wp2_with (go_at_call 36; refine (sorobanref21_Whole.calls _ A c acc true _ HC.out HLE.out HWF.out).mono ?_; rintro e w6 ⟨rfl, hb6⟩; have pq6 := HPQ.out.below hb6; obtain ⟨hr0, hr1, hr2, hf0, hf1, hf2⟩ := pq6.rr)
     refine bodyPost_ret (v := .agg #[.slice A acc.length c, .int .i64 0, .int .i64 0]) (by simp [results, Tryz.results12, go_sem, hr0, hr1, hr2]) rfl ?_
     exact RParsePost.yes HO.out pq6.b pq6.hR pq6.row
   ·obtain ⟨c0, t0, rfl⟩ : ∃ c t, rest = c :: t := by
     cases rest with
     | nil => exact absurd rfl hr
     | cons c t => exact ⟨c, t, rfl⟩
    obtain ⟨q, hq⟩ : ∃ q, a0.size - (c0 :: t0).length = q := ⟨_, rfl⟩
    have hlen := sq.suf.len
    have hlt : q < a0.size := by simp only [List.length_cons] at hlen hq; omega
    have hlt2 : (q : Int) < (a0.size : Int) := by omega
    have hqb : (q : Int) ≤ 2000 := by omega
    have hq0 : (0 : Int) ≤ (q : Int) := Int.natCast_nonneg q
    have hcb : a0[q]'hlt = c0 := by
     have h1 := sq.suf.at_
     rw [hq] at h1
     unfold bt at h1
     rw [Int.toNat_natCast, dif_pos hlt] at h1
     exact UInt8.toNat_inj.1 (by omega)
    have HOQ := Lib.hid (show offI a0 (c0 :: t0) = (q : Int) from congrArg Int.ofNat hq)
    have HQ := Lib.hid hq
    have hg1 : wr.cell? ⟨G, 1, none⟩ = some (.int .i64 (q : Int)) := by rw [← HOQ.out]; exact pq.g1
    have hpm := Pm.start pq ⟨⟨#[]⟩, 0, 0, -1, 0, -1, 0, 0, 0⟩
    have HPM := Lib.hid hpm
    unfold cells35 at HPM
    dsimp only at HPM
    clear hq hlen pq sq hpm HDL hR hr
    go_upto_block 2 with fail
    have pm0 := HPM.out
    obtain ⟨X, hX⟩ : ∃ x, wr.heap.size = x := ⟨_, rfl⟩
    obtain ⟨W0, hW0⟩ : ∃ x, wr.alloc (.cells #[.string ⟨#[]⟩, .int .i64 0, .int .i64 0, .int .i64 (-1), .int .i64 0, .int .i64 (-1), .int .i64 0, .int .i64 0, .int .u8 0] 35) = x := ⟨_, rfl⟩
    rw [hX, hW0] at pm0 ⊢
    clear HPM hX hW0 hg1
    obtain ⟨full, hfull⟩ : ∃ x, decide (acc.length = 500) = x := ⟨_, rfl⟩
    have HFU := Lib.hid hfull
    clear hfull
    go_cut [7, 8] from 23 to 92 (fun s7 s8 wc => ∃ x nx' wi' pn' l', pieceR full nx wi pn (c0 :: t0) = .ok (x, nx', wi', pn', l') ∧ Pm w G R X a0 (.slice A acc.length c) acc (offI a0 l') nx' wi' pn' x wc)
    case first =>
     as_aux_lemma =>
      have HS := Lib.hid HSQ.out.suf
      by_cases c37 : c0 = 37
      ·have hk1 : skipC 37 (c0 :: t0) = some t0 := by rw [skipC_cons, if_pos c37]
       have e37 : ((c0.toNat : Int) != 37) = false := by rw [c37]; rfl
       have st1 := HS.out.tail
       have ho1 : offI a0 t0 = (q : Int) + 1 := by
        have h1 := HS.out.len
        have h2 := HQ.out
        unfold offI
        simp only [List.length_cons] at h1 h2 ⊢
        omega
       have HO1 := Lib.hid ho1
       have HK1 := Lib.hid hk1
       clear c37 hk1 ho1
       cases hk2 : skipC 37 t0 with
       | some t1 =>
        have ht0 := skipC_some hk2
        subst ht0
        have HK2 := Lib.hid hk2
        obtain ⟨hlt3, hcb2⟩ := at_of (q := q + 1) st1 (by have h1 := HS.out.len; have h2 := HQ.out; simp only [List.length_cons] at h1 h2 ⊢; omega)
        have hlt4 : (q : Int) + 1 < (a0.size : Int) := by omega
        have HO2 := Lib.hid (show offI a0 t1 = (q : Int) + 2 from by
         have h1 := HS.out.len
         have h2 := HQ.out
         unfold offI
         simp only [List.length_cons] at h1 h2 ⊢
         omega)
        have hx8 := pm0.x8
        have fx8 := pm0.fx 8
        have pm1 := pm0.setX 8 (.int .u8 37) ⟨⟨#[]⟩, 0, 0, -1, 0, -1, 0, 0, 37⟩ rfl
        have hg1 := pm1.q.g1
        have fg1 := pm1.q.fg 1
        clear hk2
        go_wp2_with fail
        go_meet
        case rel => exact ⟨_, _, _, _, _, by unfold pieceR; rw [HK1.out]; dsimp only; rw [HK2.out], by rw [HO2.out]; exact pm1.setG _⟩
       | none =>
        obtain ⟨⟨⟨⟨e0, e1, e2, e3, e4, e5, e6, e7, e8⟩, ok⟩, nx', wi', pn', l'⟩, hrc⟩ : ∃ x, rconvC nx wi pn t0 = x := ⟨_, rfl⟩
        have HRC := Lib.hid hrc
        have HK2 := Lib.hid hk2
        have hg1 := pm0.q.g1
        rw [show offI a0 (c0 :: t0) = (q : Int) from HOQ.out] at hg1
        have fg1 := pm0.q.fg 1
        have pm1 := pm0.setG ((q : Int) + 1)
        rw [show (q : Int) + 1 = offI a0 t0 from HO1.out.symm] at pm1
        have PM1 := Lib.hid pm1
        rw [show offI a0 t0 = (q : Int) + 1 from HO1.out] at PM1
        clear hrc hk2 pm1
        have hcase : (a0.size : Int) ≤ (q : Int) + 1 ∨ (∃ h : q + 1 < a0.size, ∃ c1, a0[q + 1]'h = c1 ∧ ((c1.toNat : Int) == 37) = false) := by
         cases t0 with
         | nil =>
          left
          have h2 := HQ.out
          simp only [List.length_cons, List.length_nil] at h2
          omega
         | cons c1 t1 =>
          right
          obtain ⟨hlt3, hcb2⟩ := at_of (q := q + 1) st1 (by have h1 := HS.out.len; have h2 := HQ.out; simp only [List.length_cons] at h1 h2 ⊢; omega)
          refine ⟨hlt3, c1, hcb2, ?_⟩
          have h3 := HK2.out
          rw [skipC_cons] at h3
          have : ¬ c1 = 37 := fun e => by rw [if_pos e] at h3; cases h3
          rw [beq_eq_false_iff_ne]
          exact ne37 this
        have HE1 := Lib.hid (show ok = false → pieceR full nx wi pn (c0 :: t0) = .error (6, c0 :: t0) from fun h => by
         unfold pieceR
         rw [HK1.out]
         dsimp only
         rw [HK2.out]
         dsimp only
         rw [HRC.out, h]
         rfl)
        have HE2 := Lib.hid (show ok = true → pieceR full nx wi pn (c0 :: t0) = .ok (⟨e0, e1, e2, e3, e4, e5, e6, e7, e8⟩, nx', wi', pn', l') from fun h => by
         unfold pieceR
         rw [HK1.out]
         dsimp only
         rw [HK2.out]
         dsimp only
         rw [HRC.out, h]
         rfl)
        cases ok
        ·have HO := Lib.hid (HSQ.out.err (by simp) (by rw [HFU.out]; exact HE1.out rfl))
         rcases hcase with hle | ⟨hlt3, c1, hcb2, e37b⟩
         ·have hle2 : ¬ (q : Int) + 1 < (a0.size : Int) := by omega
          clear HK1 HK2 HE2 HS
          go_wp2_with (go_at_call 35; refine (rconvS (by rw [HO1.out]; exact PM1.out.q.is) PM1.out.q.b st1 HRC.out).mono ?_; rintro e w4 ⟨rfl, i4, b4, k4⟩; have pm2 := (PM1.out.call i4 b4 k4).below (below_alloc (Below.refl _ _) (.cells #[.string e0, .int .i64 e1, .int .i64 e2, .int .i64 e3, .int .i64 e4, .int .i64 e5, .int .i64 e6, .int .i64 e7, .int .u8 e8] 35)); obtain ⟨hr0, hr1, hr2, hf0, hf1, hf2⟩ := pm2.q.rr)
          refine bodyPost_ret (v := .agg #[.slice none 0 0, .int .i64 6, .int .i64 (q : Int)]) (by simp [results, Tryz.results12, go_sem, hr0, hr1, hr2]) rfl ?_
          exact RParsePost.no (by rw [HO.out, HOQ.out]) pm2.q.b pm2.q.hR
         ·have hlt4 : (q : Int) + 1 < (a0.size : Int) := by omega
          clear HK1 HK2 HE2 HS
          go_wp2_with (go_at_call 35; refine (rconvS (by rw [HO1.out]; exact PM1.out.q.is) PM1.out.q.b st1 HRC.out).mono ?_; rintro e w4 ⟨rfl, i4, b4, k4⟩; have pm2 := (PM1.out.call i4 b4 k4).below (below_alloc (Below.refl _ _) (.cells #[.string e0, .int .i64 e1, .int .i64 e2, .int .i64 e3, .int .i64 e4, .int .i64 e5, .int .i64 e6, .int .i64 e7, .int .u8 e8] 35)); obtain ⟨hr0, hr1, hr2, hf0, hf1, hf2⟩ := pm2.q.rr)
          refine bodyPost_ret (v := .agg #[.slice none 0 0, .int .i64 6, .int .i64 (q : Int)]) (by simp [results, Tryz.results12, go_sem, hr0, hr1, hr2]) rfl ?_
          exact RParsePost.no (by rw [HO.out, HOQ.out]) pm2.q.b pm2.q.hR
        ·rcases hcase with hle | ⟨hlt3, c1, hcb2, e37b⟩
         ·have hle2 : ¬ (q : Int) + 1 < (a0.size : Int) := by omega
          clear HK1 HK2 HE1 HS
          go_upto_region 12 with (go_at_call 35; refine (rconvS (by rw [HO1.out]; exact PM1.out.q.is) PM1.out.q.b st1 HRC.out).mono ?_; rintro e w4 ⟨rfl, i4, b4, k4⟩)
          have pm2 := (PM1.out.call i4 b4 k4).below (below_alloc (Below.refl _ _) (.cells #[.string e0, .int .i64 e1, .int .i64 e2, .int .i64 e3, .int .i64 e4, .int .i64 e5, .int .i64 e6, .int .i64 e7, .int .u8 e8] 35))
          have hy := World.alloc_heap_new w4 (.cells #[.string e0, .int .i64 e1, .int .i64 e2, .int .i64 e3, .int .i64 e4, .int .i64 e5, .int .i64 e6, .int .i64 e7, .int .u8 e8] 35)
          obtain ⟨W5, hW5⟩ : ∃ W, w4.alloc (.cells #[.string e0, .int .i64 e1, .int .i64 e2, .int .i64 e3, .int .i64 e4, .int .i64 e5, .int .i64 e6, .int .i64 e7, .int .u8 e8] 35) = W := ⟨_, rfl⟩
          obtain ⟨Y, hY⟩ : ∃ Y, w4.heap.size = Y := ⟨_, rfl⟩
          rw [hW5] at pm2 hy ⊢
          rw [hY] at hy ⊢
          clear hW5 hY i4 b4 k4 hcb
          go_step
          refine wpList_load_mid rfl 35 (.tmp 7) rfl Y 0 rfl [.string e0, .int .i64 e1, .int .i64 e2, .int .i64 e3, .int .i64 e4, .int .i64 e5, .int .i64 e6, .int .i64 e7, .int .u8 e8] _ (range35 hy) Tryz.underlying35 rfl (by kernel_rfl) ?_
          simp only [Act.put, List.setIfInBounds_toArray, List.set_cons_zero, List.set_cons_succ]
          refine wpList_store_mid rfl 35 (.tmp 6) (.tmp 35) rfl X 0 #[.string e0, .int .i64 e1, .int .i64 e2, .int .i64 e3, .int .i64 e4, .int .i64 e5, .int .i64 e6, .int .i64 e7, .int .u8 e8] rfl rfl (there35 pm2.x) (by kernel_rfl) (by simp [Value.oneCell']) ?_
          obtain ⟨W6, hW6⟩ : ∃ W, W5.setCells X 0 (#[.string e0, .int .i64 e1, .int .i64 e2, .int .i64 e3, .int .i64 e4, .int .i64 e5, .int .i64 e6, .int .i64 e7, .int .u8 e8] : Array Value).toList = W := ⟨_, rfl⟩
          have pm3 : Pm w G R X a0 (.slice A acc.length c) acc (offI a0 l') nx' wi' pn' ⟨e0, e1, e2, e3, e4, e5, e6, e7, e8⟩ W6 := by rw [← hW6]; exact pm2.copy ⟨e0, e1, e2, e3, e4, e5, e6, e7, e8⟩
          rw [hW6]
          clear hW6 hy pm2
          go_wp2_with fail
          go_meet
          case rel => exact ⟨_, _, _, _, _, by first | exact HE2.out rfl | exact HE2.out trivial, pm3⟩
         ·have hlt4 : (q : Int) + 1 < (a0.size : Int) := by omega
          clear HK1 HK2 HE1 HS
          go_upto_region 12 with (go_at_call 35; refine (rconvS (by rw [HO1.out]; exact PM1.out.q.is) PM1.out.q.b st1 HRC.out).mono ?_; rintro e w4 ⟨rfl, i4, b4, k4⟩)
          have pm2 := (PM1.out.call i4 b4 k4).below (below_alloc (Below.refl _ _) (.cells #[.string e0, .int .i64 e1, .int .i64 e2, .int .i64 e3, .int .i64 e4, .int .i64 e5, .int .i64 e6, .int .i64 e7, .int .u8 e8] 35))
          have hy := World.alloc_heap_new w4 (.cells #[.string e0, .int .i64 e1, .int .i64 e2, .int .i64 e3, .int .i64 e4, .int .i64 e5, .int .i64 e6, .int .i64 e7, .int .u8 e8] 35)
          obtain ⟨W5, hW5⟩ : ∃ W, w4.alloc (.cells #[.string e0, .int .i64 e1, .int .i64 e2, .int .i64 e3, .int .i64 e4, .int .i64 e5, .int .i64 e6, .int .i64 e7, .int .u8 e8] 35) = W := ⟨_, rfl⟩
          obtain ⟨Y, hY⟩ : ∃ Y, w4.heap.size = Y := ⟨_, rfl⟩
          rw [hW5] at pm2 hy ⊢
          rw [hY] at hy ⊢
          clear hW5 hY i4 b4 k4 hcb hcb2 e37b
          go_step
          refine wpList_load_mid rfl 35 (.tmp 7) rfl Y 0 rfl [.string e0, .int .i64 e1, .int .i64 e2, .int .i64 e3, .int .i64 e4, .int .i64 e5, .int .i64 e6, .int .i64 e7, .int .u8 e8] _ (range35 hy) Tryz.underlying35 rfl (by kernel_rfl) ?_
          simp only [Act.put, List.setIfInBounds_toArray, List.set_cons_zero, List.set_cons_succ]
          refine wpList_store_mid rfl 35 (.tmp 6) (.tmp 35) rfl X 0 #[.string e0, .int .i64 e1, .int .i64 e2, .int .i64 e3, .int .i64 e4, .int .i64 e5, .int .i64 e6, .int .i64 e7, .int .u8 e8] rfl rfl (there35 pm2.x) (by kernel_rfl) (by simp [Value.oneCell']) ?_
          obtain ⟨W6, hW6⟩ : ∃ W, W5.setCells X 0 (#[.string e0, .int .i64 e1, .int .i64 e2, .int .i64 e3, .int .i64 e4, .int .i64 e5, .int .i64 e6, .int .i64 e7, .int .u8 e8] : Array Value).toList = W := ⟨_, rfl⟩
          have pm3 : Pm w G R X a0 (.slice A acc.length c) acc (offI a0 l') nx' wi' pn' ⟨e0, e1, e2, e3, e4, e5, e6, e7, e8⟩ W6 := by rw [← hW6]; exact pm2.copy ⟨e0, e1, e2, e3, e4, e5, e6, e7, e8⟩
          rw [hW6]
          clear hW6 hy pm2
          go_wp2_with fail
          go_meet
          case rel => exact ⟨_, _, _, _, _, by first | exact HE2.out rfl | exact HE2.out trivial, pm3⟩
      ·have hk1 : skipC 37 (c0 :: t0) = none := by rw [skipC_cons, if_neg c37]
       have e37 : ((c0.toNat : Int) != 37) = true := by rw [bne_iff_ne]; exact ne37 c37
       have hpr : pieceR full nx wi pn (c0 :: t0) = if full then .error (2, c0 :: t0) else if hdI ((c0 :: t0).dropWhile isTxt) = 0 ∧ (c0 :: t0).dropWhile isTxt ≠ [] then .error (6, (c0 :: t0).dropWhile isTxt)
         else .ok (⟨⟨((c0 :: t0).takeWhile isTxt).toArray⟩, 0, 0, -1, 0, -1, 0, 0, 0⟩, nx, wi, pn, (c0 :: t0).dropWhile isTxt) := by unfold pieceR; rw [hk1]
       have HPR := Lib.hid hpr
       clear hk1 hpr c37
       cases full
       ·have hn5 : ¬ acc.length = 500 := of_decide_eq_false HFU.out
        have hn5i : ((acc.length : Int) == 500) = false := by rw [beq_eq_false_iff_ne]; omega
        clear hn5
        go_wp2_with fail
        go_loopg [46] (c0 :: t0).length (fun k u wx => ∃ l, l.length = k ∧ Pm w G R X a0 (.slice A acc.length c) acc (offI a0 l) nx wi pn ⟨⟨#[]⟩, 0, 0, -1, 0, -1, 0, 0, 0⟩ wx ∧ Hid (l <:+ c0 :: t0) ∧ Hid (l.dropWhile isTxt = (c0 :: t0).dropWhile isTxt))
        case atStart => exact ⟨_, rfl, pm0, Lib.hid (List.suffix_refl _), Lib.hid rfl⟩
        case round =>
         obtain ⟨l, hk, pm, hsf, hdw⟩ := hrel
         have sl : Suf a0 l := HS.out.of hsf.out
         have KL := Lib.hid hk
         clear hk pm0
         obtain ⟨p, hp⟩ : ∃ p, a0.size - l.length = p := ⟨_, rfl⟩
         have hll := sl.len
         have hpb : (p : Int) ≤ (a0.size : Int) := by omega
         have hp0 : (0 : Int) ≤ (p : Int) := Int.natCast_nonneg p
         have hqp : (q : Int) ≤ (p : Int) := by
          have h1 := hsf.out.length_le
          have h2 := HQ.out
          omega
         have HP0 := Lib.hid hp
         have HOP := Lib.hid (show offI a0 l = (p : Int) from congrArg Int.ofNat hp)
         have hg1 : wr.cell? ⟨G, 1, none⟩ = some (.int .i64 (p : Int)) := by rw [← HOP.out]; exact pm.q.g1
         have fg1 := pm.q.fg 1
         have hx0 := pm.x0
         have fx0 := pm.fx 0
         have HTX := Lib.hid (show l = (c0 :: t0).dropWhile isTxt → a0.extract q p = ⟨((c0 :: t0).takeWhile isTxt).toArray⟩ from fun h => by
          have h1 := len_while (c0 :: t0)
          rw [← h] at h1
          have h2 := text_at HS.out ((c0 :: t0).takeWhile isTxt).length
          rw [HQ.out] at h2
          have h3 : q + ((c0 :: t0).takeWhile isTxt).length = p := by have := HQ.out; have := HS.out.len; omega
          rw [h3, (List.prefix_iff_eq_take.1 (List.takeWhile_prefix isTxt)).symm] at h2
          exact h2)
         cases l with
         | nil =>
          have hge : ¬ (p : Int) < (a0.size : Int) := by simp only [List.length_nil] at hp; omega
          have hd : [] = (c0 :: t0).dropWhile isTxt := hdw.out
          have HR := Lib.hid (show pieceR false nx wi pn (c0 :: t0) = .ok (⟨a0.extract q p, 0, 0, -1, 0, -1, 0, 0, 0⟩, nx, wi, pn, []) from by
           rw [HPR.out, HTX.out hd, ← hd]
           rfl)
          have pm2 := pm.setX 0 (.string (a0.extract q p)) ⟨a0.extract q p, 0, 0, -1, 0, -1, 0, 0, 0⟩ rfl
          clear hp hll hd HPR HTX pm
          go_wp2_with fail
          go_meet
          case rel => exact ⟨_, _, _, _, _, HR.out, pm2⟩
         | cons d l1 =>
          obtain ⟨hlt3, hcb3⟩ := at_of sl hp
          have hlt4 : (p : Int) < (a0.size : Int) := by omega
          by_cases d37 : d = 37
          ·have hd : d :: l1 = (c0 :: t0).dropWhile isTxt := by rw [← hdw.out, List.dropWhile_cons_of_neg (by rw [d37]; decide)]
           have e38 : ((d.toNat : Int) != 37) = false := by rw [d37]; rfl
           have HR := Lib.hid (show pieceR false nx wi pn (c0 :: t0) = .ok (⟨a0.extract q p, 0, 0, -1, 0, -1, 0, 0, 0⟩, nx, wi, pn, d :: l1) from by
            rw [HPR.out, HTX.out hd, ← hd]
            rw [if_neg (by decide), if_neg (by
             rintro ⟨h1, _⟩
             rw [d37] at h1
             exact absurd (show (37 : Int) = 0 from h1) (by decide))])
           have pm2 := pm.setX 0 (.string (a0.extract q p)) ⟨a0.extract q p, 0, 0, -1, 0, -1, 0, 0, 0⟩ rfl
           clear hp hll hd HPR HTX pm d37
           go_wp2_with fail
           go_meet
           case rel => exact ⟨_, _, _, _, _, HR.out, pm2⟩
          ·have e38 : ((d.toNat : Int) != 37) = true := by rw [bne_iff_ne]; exact ne37 d37
           by_cases d0 : d = 0
           ·have e0 : ((d.toNat : Int) == 0) = true := by rw [d0]; rfl
            have hd : d :: l1 = (c0 :: t0).dropWhile isTxt := by rw [← hdw.out, List.dropWhile_cons_of_neg (by rw [d0]; decide)]
            have HR := Lib.hid (show pieceR false nx wi pn (c0 :: t0) = .error (6, d :: l1) from by
             rw [HPR.out, ← hd]
             rw [if_neg (by decide), if_pos ⟨by rw [d0]; rfl, by simp⟩])
            have HO := Lib.hid (HSQ.out.err (by simp) (by rw [HFU.out]; exact HR.out))
            obtain ⟨hr0, hr1, hr2, hf0, hf1, hf2⟩ := pm.q.rr
            clear hp hll hd HPR HTX d0 d37 HR
            go_wp2_with fail
            refine bodyPost_ret (v := .agg #[.slice none 0 0, .int .i64 6, .int .i64 (p : Int)]) (by simp [results, Tryz.results12, go_sem, hr0, hr1, hr2]) rfl ?_
            exact RParsePost.no (by rw [HO.out, HOP.out]) pm.q.b pm.q.hR
           ·have e0 : ((d.toNat : Int) == 0) = false := by rw [beq_eq_false_iff_ne]; exact ne0 d0
            have htx : isTxt d = true := by unfold isTxt; simp [d37, d0]
            have HDW2 := Lib.hid (show l1.dropWhile isTxt = (c0 :: t0).dropWhile isTxt from by rw [← hdw.out, List.dropWhile_cons_of_pos htx])
            have HSF2 := Lib.hid ((List.suffix_cons d l1).trans hsf.out)
            have HO2 := Lib.hid (show offI a0 l1 = (p : Int) + 1 from by
             unfold offI
             simp only [List.length_cons] at hp hll ⊢
             omega)
            have pm2 := pm.setG ((p : Int) + 1)
            have hpz : (p : Int) ≤ 2000 := by omega
            clear hp hll HPR HTX pm d37 d0 htx
            go_wp2_with fail
            go_roundg l1.length
            case measure => have := KL.out; simp only [List.length_cons] at this; omega
            case rel => exact ⟨l1, rfl, by rw [HO2.out]; exact pm2, HSF2, HDW2⟩
       ·have hn5 : acc.length = 500 := of_decide_eq_true HFU.out
        have hn5i : (acc.length : Int) = 500 := by omega
        have HO := Lib.hid (HSQ.out.err (by simp) (by rw [HFU.out]; exact HPR.out))
        obtain ⟨hr0, hr1, hr2, hf0, hf1, hf2⟩ := pm0.q.rr
        have HN5 := Lib.hid hn5
        clear hn5
        go_wp2_with fail
        refine bodyPost_ret (v := .agg #[.slice none 0 0, .int .i64 2, .int .i64 (q : Int)]) (by simp [results, Tryz.results12, go_sem, hr0, hr1, hr2]) rfl ?_
        exact RParsePost.no (by rw [HO.out, HOQ.out]) pm0.q.b pm0.q.hR
    case rest =>
     clear pm0 hcb
     obtain ⟨x, nx', wi', pn', l', hp, pm⟩ := hcut
     have HP := Lib.hid hp
     have hx1 := pm.x1
     have hx3 := pm.x3
     have hx4 := pm.x4
     have hx5 := pm.x5
     have hx6 := pm.x6
     obtain ⟨hr0, hr1, hr2, hf0, hf1, hf2⟩ := pm.q.rr
     clear hp
     by_cases b3 : 10000 < x.f3
     ·have HO := Lib.hid (HSQ.out.big (by simp) (by rw [HFU.out]; exact HP.out) (Or.inl (by unfold bigR; rw [decide_eq_true b3]; rfl)))
      go_wp2_with fail
      refine bodyPost_ret (v := .agg #[.slice none 0 0, .int .i64 2, .int .i64 (q : Int)]) (by simp [results, Tryz.results12, go_sem, hr0, hr1, hr2]) rfl ?_
      exact RParsePost.no (by rw [HO.out, HOQ.out]) pm.q.b pm.q.hR
     by_cases b5 : 10000 < x.f5
     ·have HO := Lib.hid (HSQ.out.big (by simp) (by rw [HFU.out]; exact HP.out) (Or.inl (by unfold bigR; rw [decide_eq_true b5]; simp)))
      go_wp2_with fail
      refine bodyPost_ret (v := .agg #[.slice none 0 0, .int .i64 2, .int .i64 (q : Int)]) (by simp [results, Tryz.results12, go_sem, hr0, hr1, hr2]) rfl ?_
      exact RParsePost.no (by rw [HO.out, HOQ.out]) pm.q.b pm.q.hR
     by_cases bm : 64 < mx (mx x.f1 x.f4) x.f6
     ·have HO := Lib.hid (HSQ.out.big (by simp) (by rw [HFU.out]; exact HP.out) (Or.inl (by
       unfold bigR
       have : 64 < x.f1 ∨ 64 < x.f4 ∨ 64 < x.f6 := by unfold mx at bm; omega
       rcases this with h | h | h <;> rw [decide_eq_true h] <;> simp)))
      go_wp2_with fail
      refine bodyPost_ret (v := .agg #[.slice none 0 0, .int .i64 2, .int .i64 (q : Int)]) (by simp [results, Tryz.results12, go_sem, hr0, hr1, hr2]) rfl ?_
      exact RParsePost.no (by rw [HO.out, HOQ.out]) pm.q.b pm.q.hR
     cases full
     ·have hn5 : ¬ acc.length = 500 := of_decide_eq_false HFU.out
      have hn5i : ¬ (acc.length : Int) = 500 := by omega
      have HBG := Lib.hid (show bigR x = false from by
       unfold bigR
       have h1 : ¬ 64 < x.f1 := by unfold mx at bm; omega
       have h4 : ¬ 64 < x.f4 := by unfold mx at bm; omega
       have h6 : ¬ 64 < x.f6 := by unfold mx at bm; omega
       rw [decide_eq_false b3, decide_eq_false b5, decide_eq_false h1, decide_eq_false h4, decide_eq_false h6]
       rfl)
      go_upto_region 26 with fail
      clear hx1 hx3 hx4 hx5 hx6 hr0 hr1 hr2 hf0 hf1 hf2
      have hsq2 := HSQ.out.step (by simp) (by rw [HFU.out]; exact HP.out) HBG.out hn5
      have hlt3 := (pieceR_lt (by simp) HP.out).1
      have hx0 := pm.x0
      have hx1 := pm.x1
      have hx2 := pm.x2
      have hx3 := pm.x3
      have hx4 := pm.x4
      have hx5 := pm.x5
      have hx6 := pm.x6
      have hx7 := pm.x7
      have hx8 := pm.x8
      have SQ2 := Lib.hid hsq2
      have LT3 := Lib.hid hlt3
      have PQ := Lib.hid pm.q
      have HFR := Lib.hid (show ∀ k, wc.heap.size ≤ k → k ≠ G ∧ k ≠ R from fun k hk => by have h1 := pm.q.lt; have h2 := blk_lt pm.q.r; omega)
      have HL5 := Lib.hid (show (acc.length + 1) * 80 ≤ 140737488355328 from by have := HSQ.out.le; omega)
      clear hsq2 hlt3 pm HP HBG b3 b5 bm hn5 hn5i
      go_wp2_with (at_builtin; refine Kd.R_append k35 (w0 := w) (W := wc) w.heap.size rfl (.tmp 118) (.tmp 120) 22 35 (.agg #[.string ⟨#[]⟩, .int .i64 0, .int .i64 0, .int .i64 0, .int .i64 0, .int .i64 0, .int .i64 0, .int .i64 0, .int .u8 0]) 80 rfl Tryz.underlying22 info35r rfl (by decide) (by decide) (.slice A acc.length c) acc x [.string x.f0, .int .i64 x.f1, .int .i64 x.f2, .int .i64 x.f3, .int .i64 x.f4, .int .i64 x.f5, .int .i64 x.f6, .int .i64 x.f7, .int .u8 x.f8] (fun k => k ≠ G ∧ k ≠ R) (fun _ => False) rfl rfl (k35_mkM _ _ _ x) (fun _ h => h.elim) HFR.out PQ.out.row PQ.out.b PQ.out.b.size HL5.out ?_; intro v1 w1 ho1 hb1 hg1 hat1; obtain ⟨A1, c1, rfl⟩ := Kd.R_slice ho1)
      go_roundg l'.length
      case measure =>
       have h1 := LT3.out
       have h2 := HK.out
       omega
      case rel =>
       have e1 : (acc ++ [x]).length = acc.length + 1 := by simp
       refine ⟨acc ++ [x], l', nx', wi', pn', A1, c1, rfl, by rw [e1], ⟨IsS65.grown PQ.out.is hg1 (fun e => (PQ.out.row.1 G e.symm).1 rfl), hb1, ho1, (hg1.block R (blk_lt PQ.out.r) (fun e => (PQ.out.row.1 R e.symm).2 rfl)).trans PQ.out.r, PQ.out.hR⟩, SQ2.out⟩
     ·have hn5 : acc.length = 500 := of_decide_eq_true HFU.out
      have HO := Lib.hid (HSQ.out.big (by simp) (by rw [HFU.out]; exact HP.out) (Or.inr hn5))
      have hn5i : (acc.length : Int) = 500 := by omega
      have HN5 := Lib.hid hn5
      clear hn5
      go_wp2_with fail
      refine bodyPost_ret (v := .agg #[.slice none 0 0, .int .i64 2, .int .i64 (q : Int)]) (by simp [results, Tryz.results12, go_sem, hr0, hr1, hr2]) rfl ?_
      exact RParsePost.no (by rw [HO.out, HOQ.out]) pm.q.b pm.q.hR
def sorobanref21_Parse.f (k : Nat) (a0 : ByteArray) : Option ((List (S35)) × Int × Int) := some (rparseC a0.data.toList)
theorem sorobanref21_Parse.calls (k : Nat) (a0 : ByteArray) (r1 : List (S35)) (r2 : Int) (r3 : Int) (w : World) (h : sorobanref21_Parse.f k a0 = some (r1, r2, r3)) :
  Calls Tryz.prog 12 #[.string a0] w fun e w' => ∃ v0_ : Value, e = .returned (.agg #[v0_, .int .i64 r2, .int .i64 r3]) ∧ Kd.R k35 35 w' w.heap.size (fun _ => True) v0_ r1 ∧ Below w.heap.size w w' := by
 have h' := Option.some.inj h
 have := rparse_calls a0 w
 rw [h'] at this
 exact this
end Go.Proofs.YtnhbgahfmcicnaaGreatDoor.PA
end
