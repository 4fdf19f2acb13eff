/- A part of the proof of SpecEscapesCardSaid: the law answers true at every text, with no condition. -/
import Derived.Test.YtnhbgahfmcicnaaGreatDoorEsPAx10
import Derived.Test.YtnhbgahfmcicnaaGreatDoorEsPAx9
import Derived.Test.YtnhbgahfmcicnaaGreatDoorEsG3p1
import Derived.Test.YtnhbgahfmcicnaaGreatDoorEsG2b
section
namespace Go.Proofs.YtnhbgahfmcicnaaGreatDoor.PA
set_option linter.unusedVariables false
set_option linter.unusedSimpArgs false
open Go.RowKit Go.Shelf Go.Proofs.YtnhbgahfmcicnaaGreatDoorW.PrintWords Go.Proofs.YtnhbgahfmcicnaaGreatDoorW.PrintLast Go.Proofs.YtnhbgahfmcicnaaGreatDoorW.PrintMore
abbrev RdT := Int × ByteArray × Int × Int × Int × Bool
def isT (w0 w : World) (g : Nat) (s : RdT) (v : SlV) : Prop := IsS59 w0 w g s.1 s.2.1 s.2.2.1 s.2.2.2.1 s.2.2.2.2.1 s.2.2.2.2.2 v
def peekT (s : RdT) (v : SlV) : Option (Int × RdT) := spec_reader_peek.f s.1 s.2.1 s.2.2.1 s.2.2.2.1 s.2.2.2.2.1 s.2.2.2.2.2 v
def skipT (s : RdT) (v : SlV) (b : Int) : Option (Bool × RdT) := spec_reader_skip.f s.1 s.2.1 s.2.2.1 s.2.2.2.1 s.2.2.2.2.1 s.2.2.2.2.2 v b
def numberT (k : Nat) (s : RdT) (v : SlV) (m : Int) : Option (Int × RdT) := spec_reader_number.f k s.1 s.2.1 s.2.2.1 s.2.2.2.1 s.2.2.2.2.1 s.2.2.2.2.2 v m
def lengthT (s : RdT) (v : SlV) : Option (Int × RdT) := spec_reader_length.f s.1 s.2.1 s.2.2.1 s.2.2.2.1 s.2.2.2.2.1 s.2.2.2.2.2 v
def placeT (k : Nat) (s : RdT) (v : SlV) : Option (Int × RdT) := spec_reader_place.f k s.1 s.2.1 s.2.2.1 s.2.2.2.1 s.2.2.2.2.1 s.2.2.2.2.2 v
def flagsT (k : Nat) (s : RdT) (v : SlV) : Option (Int × RdT) := spec_reader_flags.f k s.1 s.2.1 s.2.2.1 s.2.2.2.1 s.2.2.2.2.1 s.2.2.2.2.2 v
def argumentT (s : RdT) (v : SlV) (n : Int) : Option (Int × RdT) := spec_reader_argument.f s.1 s.2.1 s.2.2.1 s.2.2.2.1 s.2.2.2.2.1 s.2.2.2.2.2 v n
def RdPost (w0 w : World) (g : Nat) (v : SlV) (val : Value) (s : RdT) (e : Ending) (w' : World) : Prop := e = .returned val ∧ isT w0 w' g s v ∧ Below w0.heap.size w0 w' ∧ KeepBut w w' g none
theorem peekT_calls {g : Nat} {s : RdT} {v : SlV} {r : Int} {s' : RdT} {w0 w : World} (hI : isT w0 w g s v) (hB : Below w0.heap.size w0 w) (h : peekT s v = some (r, s')) :
    Calls Tryz.prog 55 #[.pointer (some ⟨g, 0, none⟩)] w (RdPost w0 w g v (.int .u8 r) s') := spec_reader_peek.calls g _ _ _ _ _ _ v r _ _ _ _ _ _ w0 w hI hB h
theorem skipT_calls {g : Nat} {s : RdT} {v : SlV} {b : Int} {r : Bool} {s' : RdT} {w0 w : World} (hI : isT w0 w g s v) (hB : Below w0.heap.size w0 w) (h : skipT s v b = some (r, s')) :
    Calls Tryz.prog 53 #[.pointer (some ⟨g, 0, none⟩), .int .u8 b] w (RdPost w0 w g v (.bool r) s') := spec_reader_skip.calls g _ _ _ _ _ _ v b r _ _ _ _ _ _ w0 w hI hB h
theorem numberT_calls {k : Nat} {g : Nat} {s : RdT} {v : SlV} {m : Int} {r : Int} {s' : RdT} {w0 w : World} (hI : isT w0 w g s v) (hB : Below w0.heap.size w0 w) (h : numberT k s v m = some (r, s')) :
    Calls Tryz.prog 115 #[.pointer (some ⟨g, 0, none⟩), .int .i64 m] w (RdPost w0 w g v (.int .i64 r) s') := spec_reader_number.calls k g _ _ _ _ _ _ v m r _ _ _ _ _ _ w0 w hI hB h
theorem lengthT_calls {g : Nat} {s : RdT} {v : SlV} {r : Int} {s' : RdT} {w0 w : World} (hI : isT w0 w g s v) (hB : Below w0.heap.size w0 w) (h : lengthT s v = some (r, s')) :
    Calls Tryz.prog 92 #[.pointer (some ⟨g, 0, none⟩)] w (RdPost w0 w g v (.int .i64 r) s') := spec_reader_length.calls g _ _ _ _ _ _ v r _ _ _ _ _ _ w0 w hI hB h
theorem placeT_calls {k : Nat} {g : Nat} {s : RdT} {v : SlV} {r : Int} {s' : RdT} {w0 w : World} (hI : isT w0 w g s v) (hB : Below w0.heap.size w0 w) (h : placeT k s v = some (r, s')) :
    Calls Tryz.prog 88 #[.pointer (some ⟨g, 0, none⟩)] w (RdPost w0 w g v (.int .i64 r) s') := spec_reader_place.calls k g _ _ _ _ _ _ v r _ _ _ _ _ _ w0 w hI hB h
theorem flagsT_calls {k : Nat} {g : Nat} {s : RdT} {v : SlV} {r : Int} {s' : RdT} {w0 w : World} (hI : isT w0 w g s v) (hB : Below w0.heap.size w0 w) (h : flagsT k s v = some (r, s')) :
    Calls Tryz.prog 89 #[.pointer (some ⟨g, 0, none⟩)] w (RdPost w0 w g v (.int .i64 r) s') := spec_reader_flags.calls k g _ _ _ _ _ _ v r _ _ _ _ _ _ w0 w hI hB h
theorem argumentT_calls {g : Nat} {s : RdT} {v : SlV} {n : Int} {r : Int} {s' : RdT} {w0 w : World} (hI : isT w0 w g s v) (hB : Below w0.heap.size w0 w) (h : argumentT s v n = some (r, s')) :
    Calls Tryz.prog 95 #[.pointer (some ⟨g, 0, none⟩), .int .i64 n] w (RdPost w0 w g v (.int .i64 r) s') := spec_reader_argument.calls g _ _ _ _ _ _ v n r _ _ _ _ _ _ w0 w hI hB h
def ExPost {α : Type} (w0 w : World) (g : Nat) (v : SlV) (val : α → Value) (r : Except (Int × Int) (α × RdT)) (e : Ending) (w' : World) : Prop :=
  match r with
  | .ok (a, s) => RdPost w0 w g v (val a) s e w'
  | .error (c, o) => e = failE c o ∧ Below w0.heap.size w0 w'
def starT (k : Nat) (s : RdT) (v : SlV) : Option (Except (Int × Int) (Int × RdT)) :=
  (peekT s v).bind fun p => (spec_isDigit.f p.1).bind fun d => if d = true ∧ p.1 ≠ 48 then
    (numberT k p.2 v 64).bind fun q => (skipT q.2 v 36).bind fun u => if u.1 = true then some (.ok (q.1, u.2)) else some (.error (6, u.2.2.2.1))
  else some (.ok (0, (s.1, p.2.2)))
set_option maxRecDepth 100000 in
set_option maxHeartbeats 1000000 in
theorem starT_calls {k : Nat} {g : Nat} {s : RdT} {v : SlV} {r : Except (Int × Int) (Int × RdT)} {w0 w : World} (hI : isT w0 w g s v) (hB : Below w0.heap.size w0 w) (h : starT k s v = some r) :
    Calls Tryz.prog 116 #[.pointer (some ⟨g, 0, none⟩)] w (ExPost w0 w g v (fun n => .int .i64 n) r) := by
  unfold starT at h
  obtain ⟨⟨b, s1⟩, hp, h⟩ := Option.bind_eq_some_iff.mp h
  obtain ⟨d, hd, h⟩ := Option.bind_eq_some_iff.mp h
  have HI := Lib.hid hI
  have HB := Lib.hid hB
  have HP := Lib.hid hp
  have HD := Lib.hid hd
  obtain ⟨A6, c6, HG, hg, _⟩ := hI
  have hc0 := cellS59_0 HG
  clear hp hd hB HG
  by_cases c : d = true ∧ b ≠ 48
  · rw [if_pos c] at h
    obtain ⟨⟨q, s2⟩, hq, h⟩ := Option.bind_eq_some_iff.mp h
    obtain ⟨⟨u, s3⟩, hu, h⟩ := Option.bind_eq_some_iff.mp h
    have HQ := Lib.hid hq
    have HU := Lib.hid hu
    have H := Lib.hid h
    clear hq hu h
    obtain ⟨rfl, cb⟩ := c
    have cb2 : (b != 48) = true := by simpa using cb
    cases u
    · have H2 := Option.some.inj ((if_neg (by simp)).symm.trans H.out)
      subst H2
      unfold ExPost
      have hfail : ∀ W, isT w0 W g s3 v → Calls Tryz.prog 93 #[.pointer (some ⟨g, 0, none⟩), .bool false] W fun e w' => e = .panicked [{ v := .iface 53 (.agg #[.int .i64 6, .int .i64 s3.2.2.1]), recovered := false }] ∧ w' = W := fun W hW => need_no g _ _ _ _ _ _ v w0 W hW
      have HF := Lib.hid hfail
      clear hfail
      simp only [failE]
      go_enter Tryz.func116, Tryz.ntmps116
      go_wp2_with (first
        | (go_at_call 55; refine (peekT_calls HI.out HB.out HP.out).mono ?_; rintro e w1 ⟨rfl, i1, b1, k1⟩)
        | (go_at_call 90; refine (spec_isDigit.calls b true _ HD.out).mono ?_; rintro e w2 ⟨rfl, ⟨nd, rfl⟩⟩)
        | (go_at_call 115; refine (numberT_calls (IsS59.drewN i1 nd) (pw_below_drewN b1 nd) HQ.out).mono ?_; rintro e w3 ⟨rfl, i3, b3, k3⟩)
        | (go_at_call 53; refine (skipT_calls i3 b3 HU.out).mono ?_; rintro e w4 ⟨rfl, i4, b4, k4⟩)
        | (go_at_call 93; refine (HF.out _ i4).mono ?_; rintro e w5 ⟨rfl, rfl⟩))
      exact ⟨rfl, rfl, b4⟩
    · have H2 := Option.some.inj ((if_pos rfl).symm.trans H.out)
      subst H2
      unfold ExPost RdPost
      go_enter Tryz.func116, Tryz.ntmps116
      go_wp2_with (first
        | (go_at_call 55; refine (peekT_calls HI.out HB.out HP.out).mono ?_; rintro e w1 ⟨rfl, i1, b1, k1⟩)
        | (go_at_call 90; refine (spec_isDigit.calls b true _ HD.out).mono ?_; rintro e w2 ⟨rfl, ⟨nd, rfl⟩⟩)
        | (go_at_call 115; refine (numberT_calls (IsS59.drewN i1 nd) (pw_below_drewN b1 nd) HQ.out).mono ?_; rintro e w3 ⟨rfl, i3, b3, k3⟩)
        | (go_at_call 53; refine (skipT_calls i3 b3 HU.out).mono ?_; rintro e w4 ⟨rfl, i4, b4, k4⟩)
        | (go_at_call 93; refine (need_yes g _).mono ?_; rintro e w5 ⟨rfl, rfl⟩))
      go_ret
      exact ⟨rfl, i4, b4, ((keep_drewN k1 nd).trans k3 (.inl rfl)).trans k4 (.inl rfl)⟩
  · rw [if_neg c] at h
    obtain rfl := Option.some.inj h
    unfold ExPost RdPost
    cases d
    · go_enter Tryz.func116, Tryz.ntmps116
      go_wp2_with (first
        | (go_at_call 55; refine (peekT_calls HI.out HB.out HP.out).mono ?_; rintro e w1 ⟨rfl, i1, b1, k1⟩; obtain ⟨A7, c7, HG1, _, _⟩ := id i1; have hz0 := cellS59_0 HG1; have hf0 := blk_frozen HG1 0; clear HG1)
        | (go_at_call 90; refine (spec_isDigit.calls b false _ HD.out).mono ?_; rintro e w2 ⟨rfl, ⟨nd, rfl⟩⟩))
      go_ret
      exact ⟨rfl, IsS59.set_0 (IsS59.drewN i1 nd) _, below_set (pw_below_drewN b1 nd) hg, KeepBut.set_ (keep_drewN k1 nd) _ _⟩
    · have hb : b = 48 := Decidable.byContradiction fun e => c ⟨rfl, e⟩
      have hb2 : (b != 48) = false := by simp [hb]
      have HB2 := Lib.hid hb
      clear hb c h
      go_enter Tryz.func116, Tryz.ntmps116
      go_wp2_with (first
        | (go_at_call 55; refine (peekT_calls HI.out HB.out HP.out).mono ?_; rintro e w1 ⟨rfl, i1, b1, k1⟩; obtain ⟨A7, c7, HG1, _, _⟩ := id i1; have hz0 := cellS59_0 HG1; have hf0 := blk_frozen HG1 0; clear HG1)
        | (go_at_call 90; refine (spec_isDigit.calls b true _ HD.out).mono ?_; rintro e w2 ⟨rfl, ⟨nd, rfl⟩⟩))
      go_ret
      exact ⟨rfl, IsS59.set_0 (IsS59.drewN i1 nd) _, below_set (pw_below_drewN b1 nd) hg, KeepBut.set_ (keep_drewN k1 nd) _ _⟩
theorem keep_far {w W : World} {g R : Nat} (h : KeepBut w W g none) (hR : w.heap.size ≤ R) (j : Nat) (u : Value) : KeepBut w (W.setCell ⟨R, j, none⟩ u) g none := by
  refine ⟨Nat.le_trans h.1 (by simp), fun i hi hg hr => ?_⟩
  rw [Below.heap_setCell W _ _ _ (by show i ≠ R; omega)]
  exact h.2 i hi hg hr
def fieldVal (f : Int × Bool × Int) : Value := .agg #[.int .i64 f.1, .bool f.2.1, .int .i64 f.2.2]
def fieldT (k : Nat) (s : RdT) (v : SlV) : Option (Except (Int × Int) ((Int × Bool × Int) × RdT)) :=
  (skipT s v 42).bind fun u => if u.1 = true then (starT k u.2 v).bind fun x => match x with
    | .ok (n, s') => some (.ok ((-1, true, n), s'))
    | .error e => some (.error e)
  else (numberT k u.2 v 10000).bind fun q => some (.ok ((q.1, false, 0), (q.2.1, q.2.2.1, q.2.2.2.1, q.2.2.2.2.1, q.2.2.2.2.2.1, q.2.2.2.2.2.2 || decide (q.1 > 10000))))
set_option maxRecDepth 100000 in
set_option maxHeartbeats 1000000 in
theorem fieldT_calls {k : Nat} {g : Nat} {s : RdT} {v : SlV} {r : Except (Int × Int) ((Int × Bool × Int) × RdT)} {w0 w : World} (hI : isT w0 w g s v) (hB : Below w0.heap.size w0 w) (h : fieldT k s v = some r) :
    Calls Tryz.prog 91 #[.pointer (some ⟨g, 0, none⟩)] w (ExPost w0 w g v fieldVal r) := by
  unfold fieldT at h
  obtain ⟨⟨u, s1⟩, hu, h⟩ := Option.bind_eq_some_iff.mp h
  have HI := Lib.hid (IsS59.alloc hI (.cells #[.int .i64 0, .bool false, .int .i64 0] 123))
  have HB := Lib.hid (below_alloc hB (.cells #[.int .i64 0, .bool false, .int .i64 0] 123))
  have HU := Lib.hid hu
  have hglt : g < w.heap.size := IsS59.lt hI
  have hwb := hB.size
  clear hI hB hu
  cases u
  · replace h := (if_neg (by simp)).symm.trans h
    obtain ⟨⟨q, s2⟩, hq, h⟩ := Option.bind_eq_some_iff.mp h
    obtain rfl := Option.some.inj h
    have HQ := Lib.hid hq
    clear hq h
    unfold ExPost RdPost fieldVal
    have hgR : ¬ g = w.heap.size := by omega
    have hRg : ¬ w.heap.size = g := by omega
    have hR0 := World.alloc_heap_new w (.cells #[.int .i64 0, .bool false, .int .i64 0] 123)
    have hR0lt : w.heap.size < (w.alloc (.cells #[.int .i64 0, .bool false, .int .i64 0] 123)).heap.size := by simp
    obtain ⟨lg, hlg⟩ : ∃ lg, s2.2.2.2.2.2 = lg := ⟨_, rfl⟩
    have HLG := Lib.hid hlg
    cases lg <;>
    · go_enter Tryz.func91, Tryz.ntmps91
      go_wp2_with (first
        | (go_at_call 53; refine (skipT_calls HI.out HB.out HU.out).mono ?_; rintro e w1 ⟨rfl, i1, b1, k1⟩)
        | (go_at_call 115; refine (numberT_calls i1 b1 HQ.out).mono ?_; rintro e w2 ⟨rfl, i2, b2, k2⟩; obtain ⟨A7, c7, HG1, _, _⟩ := IsS59.alloc i2 (.cells #[.int .i64 q, .bool false, .int .i64 0] 123); have hz5 := cellS59_5 HG1; have hf5 := blk_frozen HG1 5; rw [HLG.out] at hz5; clear HG1; have hR2 := (k2.2 w.heap.size (Nat.lt_of_lt_of_le hR0lt k1.1) hRg (by simp)).trans ((k1.2 w.heap.size hR0lt hRg (by simp)).trans hR0); have hR2lt := (Array.getElem?_eq_some_iff.1 hR2).1; have hR3 := (Below.heap_alloc w2 (.cells #[.int .i64 q, .bool false, .int .i64 0] 123) w.heap.size hR2lt).trans hR2; have hr0 := (blk_cell hR3 0).trans rfl; have hr1 := (blk_cell hR3 1).trans rfl; have hr2 := (blk_cell hR3 2).trans rfl; have ff0 := blk_frozen hR3 0; have ff1 := blk_frozen hR3 1; have ff2 := blk_frozen hR3 2; clear hR2))
      have hlt2 := IsS59.lt i2
      have k3 : KeepBut w (w2.alloc (.cells #[.int .i64 q, .bool false, .int .i64 0] 123)) g none := keep_alloc ((keep_alloc (KeepBut.refl w g none) _).trans k1 (.inl rfl) |>.trans k2 (.inl rfl)) _
      refine bodyPost_ret (v := .agg #[.int .i64 q, .bool false, .int .i64 0]) (by simp [results, Tryz.results91, go_sem, hr0, hr1, hr2, hgR, hRg]) rfl ⟨rfl, ?_, ?_, ?_⟩
      · have e := fun (x : Bool) => (show isT w0 _ g (s2.1, s2.2.1, s2.2.2.1, s2.2.2.2.1, s2.2.2.2.2.1, x) v from ((((IsS59.alloc i2 (.cells #[.int .i64 q, .bool false, .int .i64 0] 123)).set_5 x).far (p := ⟨w.heap.size, 0, none⟩) hgR (.int .i64 q)).far (p := ⟨w.heap.size, 1, none⟩) hgR (.bool false)).far (p := ⟨w.heap.size, 2, none⟩) hgR (.int .i64 0))
        first
          | (rw [show (s2.2.2.2.2.2 || decide (q > 10000)) = true from by rw [HLG.out]; rfl]; with_reducible exact e true)
          | (rw [show (s2.2.2.2.2.2 || decide (q > 10000)) = decide (10000 < q) from by rw [HLG.out]; rfl]; with_reducible exact e (decide (10000 < q)))
      · exact below_set (below_set (below_set (below_set (below_alloc b2 _) (IsS59.ge i2)) hwb) hwb) hwb
      · exact keep_far (keep_far (keep_far (KeepBut.set_ k3 5 _) (Nat.le_refl _) 0 _) (Nat.le_refl _) 1 _) (Nat.le_refl _) 2 _
  · replace h := (if_pos rfl).symm.trans h
    obtain ⟨x, hx, h⟩ := Option.bind_eq_some_iff.mp h
    have HX := Lib.hid hx
    clear hx
    have hgR : ¬ g = w.heap.size := by omega
    have hRg : ¬ w.heap.size = g := by omega
    have hR0 := World.alloc_heap_new w (.cells #[.int .i64 0, .bool false, .int .i64 0] 123)
    have hR0lt : w.heap.size < (w.alloc (.cells #[.int .i64 0, .bool false, .int .i64 0] 123)).heap.size := by simp
    rcases x with ⟨c, o⟩ | ⟨n, s2⟩
    · obtain rfl := Option.some.inj h
      have hS : ∀ W, isT w0 W g s1 v → Below w0.heap.size w0 W → Calls Tryz.prog 116 #[.pointer (some ⟨g, 0, none⟩)] W fun e w' => e = .panicked [{ v := .iface 53 (.agg #[.int .i64 c, .int .i64 o]), recovered := false }] ∧ Below w0.heap.size w0 w' := fun W hW hb => starT_calls hW hb HX.out
      have HS := Lib.hid hS
      clear h hS
      unfold ExPost
      simp only [failE]
      go_enter Tryz.func91, Tryz.ntmps91
      go_wp2_with (first
        | (go_at_call 53; refine (skipT_calls HI.out HB.out HU.out).mono ?_; rintro e w1 ⟨rfl, i1, b1, k1⟩)
        | (go_at_call 116; refine (HS.out _ i1 b1).mono ?_; rintro e w2 ⟨rfl, b2⟩))
      exact ⟨rfl, rfl, b2⟩
    · obtain rfl := Option.some.inj h
      have hS : ∀ W, isT w0 W g s1 v → Below w0.heap.size w0 W → Calls Tryz.prog 116 #[.pointer (some ⟨g, 0, none⟩)] W (RdPost w0 W g v (.int .i64 n) s2) := fun W hW hb => starT_calls hW hb HX.out
      have HS := Lib.hid hS
      clear h hS
      unfold ExPost RdPost fieldVal
      go_enter Tryz.func91, Tryz.ntmps91
      go_wp2_with (first
        | (go_at_call 53; refine (skipT_calls HI.out HB.out HU.out).mono ?_; rintro e w1 ⟨rfl, i1, b1, k1⟩)
        | (go_at_call 116; refine (HS.out _ i1 b1).mono ?_; rintro e w2 ⟨rfl, i2, b2, k2⟩; have hR2 := (k2.2 w.heap.size (Nat.lt_of_lt_of_le hR0lt k1.1) hRg (by simp)).trans ((k1.2 w.heap.size hR0lt hRg (by simp)).trans hR0); have hr0 := (blk_cell hR2 0).trans rfl; have hr1 := (blk_cell hR2 1).trans rfl; have hr2 := (blk_cell hR2 2).trans rfl; have ff0 := blk_frozen hR2 0; have ff1 := blk_frozen hR2 1; have ff2 := blk_frozen hR2 2; clear hR2))
      have k3 : KeepBut w w2 g none := (keep_alloc (KeepBut.refl w g none) _).trans k1 (.inl rfl) |>.trans k2 (.inl rfl)
      refine bodyPost_ret (v := .agg #[.int .i64 (-1), .bool true, .int .i64 n]) (by simp [results, Tryz.results91, go_sem, hr0, hr1, hr2, hgR, hRg]) rfl ⟨rfl, ?_, ?_, ?_⟩
      · have e : isT w0 _ g s2 v := (((show IsS59 w0 w2 g _ _ _ _ _ _ v from i2).far (p := ⟨w.heap.size, 0, none⟩) hgR (.int .i64 (-1))).far (p := ⟨w.heap.size, 1, none⟩) hgR (.bool true)).far (p := ⟨w.heap.size, 2, none⟩) hgR (.int .i64 n)
        with_reducible exact e
      · exact below_set (below_set (below_set b2 hwb) hwb) hwb
      · exact keep_far (keep_far (keep_far k3 (Nat.le_refl _) 0 _) (Nat.le_refl _) 1 _) (Nat.le_refl _) 2 _
end Go.Proofs.YtnhbgahfmcicnaaGreatDoor.PA
end
