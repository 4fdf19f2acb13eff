/- A part of the proof of SpecEscapesCardSaid: the law answers true at every text, with no condition. -/
import Derived.Test.YtnhbgahfmcicnaaGreatDoorEsG3p4
import Derived.Deep.RegionHeld3
import Derived.StillTailTactics
section
namespace Go.Proofs.YtnhbgahfmcicnaaGreatDoor.PA
set_option linter.unusedVariables false
set_option linter.unusedSimpArgs false
open Go.RowKit Go.Shelf Go.Proofs.YtnhbgahfmcicnaaGreatDoorW.PrintWords Go.Proofs.YtnhbgahfmcicnaaGreatDoorW.PrintLast Go.Proofs.YtnhbgahfmcicnaaGreatDoorW.PrintMore
structure Pv (w0 w : World) (g R : Nat) (v : SlV) (s : RdT) (W : World) : Prop where
  n : Near w0 w g R v s W
  r : W.heap[R]? = some (.cells (cells35 z35) 35 (0, 0))
section
variable {w0 w : World} {g R : Nat} {v : SlV} {s s' : RdT} {W W' : World}
theorem Near.call (h : Near w0 w g R v s W) (hi : isT w0 W' g s' v) (hb : Below w0.heap.size w0 W') (hk : KeepBut W W' g none) : Near w0 w g R v s' W' :=
  ⟨hi, hb, h.k.trans hk (.inl rfl), h.ne, h.hR, h.hw⟩
theorem Near.alloc (h : Near w0 w g R v s W) (o : Obj) : Near w0 w g R v s (W.alloc o) := ⟨IsS59.alloc h.is o, below_alloc h.b o, keep_alloc h.k o, h.ne, h.hR, h.hw⟩
theorem Near.drew (h : Near w0 w g R v s W) : Near w0 w g R v s W.drew := ⟨h.is, below_drew h.b, h.k, h.ne, h.hR, h.hw⟩
theorem Near.drewN (h : Near w0 w g R v s W) (n : Nat) : Near w0 w g R v s (W.drewN n) := ⟨IsS59.drewN h.is n, pw_below_drewN h.b n, keep_drewN h.k n, h.ne, h.hR, h.hw⟩
theorem Pv.call (h : Pv w0 w g R v s W) (hi : isT w0 W' g s' v) (hb : Below w0.heap.size w0 W') (hk : KeepBut W W' g none) : Pv w0 w g R v s' W' :=
  ⟨h.n.call hi hb hk, hk.blk h.r h.n.ne.symm (by simp)⟩
theorem Pv.below (h : Pv w0 w g R v s W) (hb : Below W.heap.size W W') : Pv w0 w g R v s W' :=
  h.call (IsS59.below h.n.is hb) (h.n.b.trans (hb.mono (Nat.le_trans h.n.hw h.n.k.1))) (KeepBut.of_below hb _ _)
theorem Pv.alloc (h : Pv w0 w g R v s W) (o : Obj) : Pv w0 w g R v s (W.alloc o) := h.below (below_alloc (Below.refl _ _) o)
theorem Pv.drewN (h : Pv w0 w g R v s W) (n : Nat) : Pv w0 w g R v s (W.drewN n) := h.below (pw_below_drewN (Below.refl _ _) n)
theorem Pv.drew (h : Pv w0 w g R v s W) : Pv w0 w g R v s W.drew := h.below (below_drew (Below.refl _ _))
theorem Pv.r0 (h : Pv w0 w g R v s W) : W.cell? ⟨R, 0, none⟩ = some (.string ⟨#[]⟩) := blk_cell h.r 0
theorem Pv.r1 (h : Pv w0 w g R v s W) : W.cell? ⟨R, 1, none⟩ = some (.int .i64 0) := blk_cell h.r 1
theorem Pv.r2 (h : Pv w0 w g R v s W) : W.cell? ⟨R, 2, none⟩ = some (.int .i64 0) := blk_cell h.r 2
theorem Pv.r3 (h : Pv w0 w g R v s W) : W.cell? ⟨R, 3, none⟩ = some (.int .i64 0) := blk_cell h.r 3
theorem Pv.r4 (h : Pv w0 w g R v s W) : W.cell? ⟨R, 4, none⟩ = some (.int .i64 0) := blk_cell h.r 4
theorem Pv.r5 (h : Pv w0 w g R v s W) : W.cell? ⟨R, 5, none⟩ = some (.int .i64 0) := blk_cell h.r 5
theorem Pv.r6 (h : Pv w0 w g R v s W) : W.cell? ⟨R, 6, none⟩ = some (.int .i64 0) := blk_cell h.r 6
theorem Pv.r7 (h : Pv w0 w g R v s W) : W.cell? ⟨R, 7, none⟩ = some (.int .i64 0) := blk_cell h.r 7
theorem Pv.r8 (h : Pv w0 w g R v s W) : W.cell? ⟨R, 8, none⟩ = some (.int .u8 0) := blk_cell h.r 8
theorem Pv.fr (h : Pv w0 w g R v s W) (j : Nat) : W.frozen? ⟨R, j, none⟩ = false := blk_frozen h.r j
theorem Pv.start (hI : isT w0 w g s v) (hB : Below w0.heap.size w0 w) (b : Int) : Pv w0 w g w.heap.size v (s.1, s.2.1, b, s.2.2.2) ((w.setCell ⟨g, 2, none⟩ (.int .i64 b)).alloc (.cells (cells35 z35) 35)) :=
  ⟨⟨IsS59.alloc (IsS59.set_2 hI b) _, below_alloc (below_set hB (IsS59.ge hI)) _, keep_alloc (KeepBut.set_ (KeepBut.refl w g none) 2 _) _, by have := IsS59.lt hI; omega, Nat.le_refl _, hB.size⟩,
    by have := World.alloc_heap_new (w.setCell ⟨g, 2, none⟩ (.int .i64 b)) (.cells (cells35 z35) 35); simpa using this⟩
theorem Pv.adv {fmt : ByteArray} {l t : List UInt8} {b nx pl : Int} {lg : Bool} (h : Pv w0 w g R v (st fmt l b nx pl lg) W) (x : Int) (hx : ((fmt.size - t.length : Nat) : Int) = x) : Pv w0 w g R v (st fmt t b nx pl lg) (W.setCell ⟨g, 0, none⟩ (.int .i64 x)) := by
  subst hx
  exact h.call (IsS59.set_0 h.n.is _) (below_set h.n.b (IsS59.ge h.n.is)) (KeepBut.set_ (KeepBut.refl _ _ _) _ _)
theorem isT_c0 (h : isT w0 W g s v) : W.cell? ⟨g, 0, none⟩ = some (.int .i64 s.1) ∧ W.frozen? ⟨g, 0, none⟩ = false := by
  obtain ⟨A6, c6, HG, hg, HS⟩ := h
  exact ⟨cellS59_0 HG, blk_frozen HG 0⟩
theorem isT_c1 (h : isT w0 W g s v) : W.cell? ⟨g, 1, none⟩ = some (.string s.2.1) := by
  obtain ⟨A6, c6, HG, hg, HS⟩ := h
  exact cellS59_1 HG
theorem isT_c2 (h : isT w0 W g s v) : W.cell? ⟨g, 2, none⟩ = some (.int .i64 s.2.2.1) ∧ W.frozen? ⟨g, 2, none⟩ = false := by
  obtain ⟨A6, c6, HG, hg, HS⟩ := h
  exact ⟨cellS59_2 HG, blk_frozen HG 2⟩
theorem isT_c5 (h : isT w0 W g s v) : W.cell? ⟨g, 5, none⟩ = some (.bool s.2.2.2.2.2) := by
  obtain ⟨A6, c6, HG, hg, HS⟩ := h
  exact cellS59_5 HG
end
def offI (fmt : ByteArray) (l : List UInt8) : Int := ((fmt.size - l.length : Nat) : Int)
def PiecePost (w0 w : World) (g : Nat) (v : SlV) (fmt : ByteArray) (l : List UInt8) (p : Except (Int × List UInt8) (S35 × Int × Int × List UInt8)) (e : Ending) (w' : World) : Prop :=
  match p with
  | .ok r => ∃ lg, RdPost w0 w g v (agg35 r.1) (st fmt r.2.2.2 (offI fmt l) r.2.2.1 r.2.1 lg) e w'
  | .error r => e = failE r.1 (offI fmt r.2) ∧ Below w0.heap.size w0 w'
theorem PiecePost.no {w0 w : World} {g : Nat} {v : SlV} {fmt : ByteArray} {l t : List UInt8} {p : Except (Int × List UInt8) (S35 × Int × Int × List UInt8)} {c o : Int} {w' : World} (h : p = .error (c, t)) (ho : offI fmt t = o) (hb : Below w0.heap.size w0 w') : PiecePost w0 w g v fmt l p (.panicked [{ v := .iface 53 (.agg #[.int .i64 c, .int .i64 o]), recovered := false }]) w' := by
  subst h
  subst ho
  exact ⟨rfl, hb⟩
theorem PiecePost.yes {w0 w : World} {g R : Nat} {v : SlV} {fmt : ByteArray} {l t : List UInt8} {p : Except (Int × List UInt8) (S35 × Int × Int × List UInt8)} {x : S35} {pl nx b : Int} {lg : Bool} {w' : World} (h : p = .ok (x, pl, nx, t)) (hb : offI fmt l = b) (hn : Near w0 w g R v (st fmt t b nx pl lg) w') : PiecePost w0 w g v fmt l p (.returned (agg35 x)) w' := by
  subst h
  subst hb
  exact ⟨lg, rfl, hn.is, hn.b, hn.k⟩
section
variable {w0 w : World} {g : Nat} {v : SlV} {fmt : ByteArray} {l : List UInt8} {b nx pl : Int} {lg : Bool}
theorem convS_no (hI : isT w0 w g (st fmt l b nx pl lg) v) (hB : Below w0.heap.size w0 w) (hs : Suf fmt l) (h : convC pl nx l = none) :
    Calls Tryz.prog 56 #[.pointer (some ⟨g, 0, none⟩)] w fun e w' => e = .panicked [{ v := .iface 53 (.agg #[.int .i64 6, .int .i64 b]), recovered := false }] ∧ Below w0.heap.size w0 w' := by
  have := conv_calls hI hB hs
  rw [h] at this
  exact this
theorem convS_yes (hI : isT w0 w g (st fmt l b nx pl lg) v) (hB : Below w0.heap.size w0 w) (hs : Suf fmt l) {r : ConvT} (h : convC pl nx l = some r) :
    Calls Tryz.prog 56 #[.pointer (some ⟨g, 0, none⟩)] w (RdPost w0 w g v (.agg #[.string r.x.f0, .int .i64 r.x.f1, .int .i64 r.x.f2, .int .i64 r.x.f3, .int .i64 r.x.f4, .int .i64 r.x.f5, .int .i64 r.x.f6, .int .i64 r.x.f7, .int .u8 r.x.f8]) (st fmt r.l b r.nx r.pl r.lg)) := by
  have := conv_calls hI hB hs
  rw [h] at this
  exact this
theorem roomS_no (hI : isT w0 w g (st fmt l b nx pl lg) v) (h : v.length = 500) :
    Calls Tryz.prog 32 #[.pointer (some ⟨g, 0, none⟩)] w fun e w' => e = .panicked [{ v := .iface 53 (.agg #[.int .i64 2, .int .i64 b]), recovered := false }] ∧ w' = w := by
  have := room_calls g _ _ _ _ _ _ v w0 w hI
  rw [if_pos h] at this
  exact this
theorem roomS_yes (hI : isT w0 w g (st fmt l b nx pl lg) v) (h : ¬ v.length = 500) :
    Calls Tryz.prog 32 #[.pointer (some ⟨g, 0, none⟩)] w fun e w' => e = .returned (.tuple #[]) ∧ w' = w := by
  have := room_calls g _ _ _ _ _ _ v w0 w hI
  rw [if_neg h] at this
  exact this
end
theorem indexAny_txt : ∀ l : List UInt8, Lib.indexAny l [37, 0] = if l.dropWhile isTxt = [] then -1 else ((l.takeWhile isTxt).length : Int)
  | [] => rfl
  | c :: l => by
    have ih := indexAny_txt l
    unfold Lib.indexAny
    by_cases h : isTxt c = true
    · have hc : List.contains [37, 0] c = false := by
        unfold isTxt at h
        simp only [Bool.and_eq_true, bne_iff_ne, ne_eq] at h
        simp [h.1, h.2]
      rw [hc, List.dropWhile_cons_of_pos h, List.takeWhile_cons_of_pos h, ih]
      by_cases e : l.dropWhile isTxt = []
      · simp [e]
      · simp only [if_neg e, Bool.false_eq_true, if_false, List.length_cons]
        rw [if_neg (by simp)]
        omega
    · have hc : List.contains [37, 0] c = true := by
        unfold isTxt at h
        simp only [Bool.and_eq_true, bne_iff_ne, ne_eq, not_and, Decidable.not_not] at h
        by_cases e : c = 37
        · simp [e]
        · simp [h e]
      rw [hc, List.dropWhile_cons_of_neg h, List.takeWhile_cons_of_neg h]
      simp
theorem drop_take_while (l : List UInt8) : l.drop (l.takeWhile isTxt).length = l.dropWhile isTxt := by
  induction l with
  | nil => rfl
  | cons c l ih =>
    by_cases h : isTxt c = true
    · rw [List.takeWhile_cons_of_pos h, List.dropWhile_cons_of_pos h]
      exact ih
    · rw [List.takeWhile_cons_of_neg h, List.dropWhile_cons_of_neg h]
      rfl
theorem len_while (l : List UInt8) : (l.takeWhile isTxt).length + (l.dropWhile isTxt).length = l.length := by
  have h := congrArg List.length (List.takeWhile_append_dropWhile (p := isTxt) (l := l))
  rwa [List.length_append] at h
theorem text_at {fmt : ByteArray} {l : List UInt8} (h : Suf fmt l) (k : Nat) : fmt.extract (fmt.size - l.length) (fmt.size - l.length + k) = ⟨(l.take k).toArray⟩ := by
  apply ByteArray.ext
  apply Array.ext'
  rw [Lib.extract_data, drop_suf h, Nat.add_sub_cancel_left]
theorem rest_at {fmt : ByteArray} {l : List UInt8} (h : Suf fmt l) : (fmt.extract (fmt.size - l.length) fmt.size).data.toList = l := by
  have hl := h.len
  rw [Lib.extract_data, drop_suf h, show fmt.size - (fmt.size - l.length) = l.length from by omega, List.take_length]
end Go.Proofs.YtnhbgahfmcicnaaGreatDoor.PA
end
