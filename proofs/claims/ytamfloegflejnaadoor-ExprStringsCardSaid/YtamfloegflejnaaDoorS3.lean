/-
  The scanner's expr: at a number, at a word that has no parts, at a word that has some; a number that has one nought ahead.
-/
import Derived.Test.YtamfloegflejnaaDoorS2
import Derived.Deep.Onto
import Derived.Test.YtamfloegflejnaaDoorPExprNumbersx1
set_option linter.unusedVariables false
set_option linter.unusedSimpArgs false
namespace Go.Proofs.YtamfloegflejnaaDoor
open Go.RowKit Go.Proofs.YtamfloegflejnaaDoorW.PrintWords Go.Proofs.YtamfloegflejnaaDoorW.PrintLast Go.Proofs.YtamfloegflejnaaDoorW.PrintMore PExprNumbers

/-- What a scanner's method does to the world: the scanner's block g holds (s, a, bad) behind it, all else that was there stands. -/
def After (w0 w w' : World) (g : Nat) (s : ByteArray) (a : Int) (bad : Bool) : Prop := IsS48 w0 w' g s a bad ∧ Below w0.heap.size w0 w' ∧ KeepBut w w' g none

/-- The result cell of a node still lies there as it was laid. -/
theorem zero_kept {w w1 : World} {g : Nat} (h : KeepBut (w.alloc zero30) w1 g none) (hg : g < w.heap.size) : w1.heap[w.heap.size]? = some zero30 := by
  rw [h.2 w.heap.size (by simp) (by omega) (by simp)]
  exact heap_alloc_new w _

theorem after_six {w0 w w1 : World} {g : Nat} {s : ByteArray} {a : Int} {bad : Bool} (hI : IsS48 w0 w1 g s a bad) (hB : Below w0.heap.size w0 w1) (hK : KeepBut (w.alloc zero30) w1 g none) (hg : g < w.heap.size) (hBs : w0.heap.size ≤ w.heap.size) (v0 v1 v2 v3 v4 v5 : Value) :
    After w0 w ((((((w1.setCell ⟨w.heap.size, 0, none⟩ v0).setCell ⟨w.heap.size, 1, none⟩ v1).setCell ⟨w.heap.size, 2, none⟩ v2).setCell ⟨w.heap.size, 3, none⟩ v3).setCell ⟨w.heap.size, 4, none⟩ v4).setCell ⟨w.heap.size, 5, none⟩ v5) g s a bad := by
  have hne : g ≠ w.heap.size := by omega
  refine ⟨(((((hI.far hne _).far hne _).far hne _).far hne _).far hne _).far hne _, below_set (below_set (below_set (below_set (below_set (below_set hB hBs) hBs) hBs) hBs) hBs) hBs, ?_⟩
  have hk := (keep_alloc (KeepBut.refl w g none) zero30).trans hK (.inl rfl)
  have hle := Nat.le_refl w.heap.size
  exact keep_far (keep_far (keep_far (keep_far (keep_far (keep_far hk hle _) hle _) hle _) hle _) hle _) hle _

theorem After.drewN {w0 w w' : World} {g : Nat} {s : ByteArray} {a : Int} {bad : Bool} (h : After w0 w w' g s a bad) (n : Nat) : After w0 w (w'.drewN n) g s a bad :=
  ⟨h.1.drewN n, pw_below_drewN h.2.1 n, keep_drewN h.2.2 n⟩

theorem After.trans {w0 w w1 w2 : World} {g : Nat} {s s2 : ByteArray} {a a2 : Int} {bad bad2 : Bool} (h : After w0 w w1 g s a bad) (k : After w0 w1 w2 g s2 a2 bad2) : After w0 w w2 g s2 a2 bad2 :=
  ⟨k.1, k.2.1, h.2.2.trans k.2.2 (.inl rfl)⟩

set_option maxHeartbeats 1000000 in
set_option maxRecDepth 100000 in
theorem expr_num (k g : Nat) (s : ByteArray) (a0 a a' c depth n n4 c4 n5 c5 kd : Int) (o tx : ByteArray) (bad' : Bool) (w0 w : World) (hI : IsS48 w0 w g s a0 false) (hB : Below w0.heap.size w0 w)
    (hbl : expr_scanner_blanks.f k s a0 false = some (s, a, false)) (ha : 0 ≤ a) (hc : Hid (pk s a = c)) (hcc : (c == 34) = false) (hcd : c = 45 ∨ (c == 45) = false ∧ 48 ≤ c ∧ c ≤ 57)
    (hnum : Hid (∀ w1, IsS48 w0 w1 g s a false → Below w0.heap.size w0 w1 → Calls Tryd.prog 23 #[.pointer (some ⟨g, 0, none⟩)] w1 fun e w' => e = .returned (.agg #[.string o, .int .i64 n, .string tx, .int .i64 0, .slice none 0 0, .slice none 0 0]) ∧ After w0 w1 w' g s a' bad')) :
    Calls Tryd.prog 11 #[.pointer (some ⟨g, 0, none⟩), .int .i64 depth] w fun e w' => e = .returned (.agg #[.string o, .int .i64 n, .string tx, .int .i64 0, .slice none 0 0, .slice none 0 0]) ∧ After w0 w w' g s a' bad' := by
  rcases hcd with rfl | ⟨hcd, hc1, hc2⟩
  all_goals
    have HI := Lib.hid (hI.alloc zero30)
    have HB := Lib.hid (Below.alloc hB hB.size zero30)
    have hgw : Hid (g < w.heap.size) := hI.lt
    have hBs : Hid (w0.heap.size ≤ w.heap.size) := hB.size
    have HBL := Lib.hid hbl
    clear hI hB hbl
    go_enter Tryd.func11, Tryd.ntmps11
    go_wp2_with fail
    refine (expr_scanner_blanks.calls k g s a0 false _ _ _ w0 _ HI.out HB.out HBL.out).mono ?_
    rintro e w1 ⟨rfl, hi1, hb1, hk1⟩
    have HI1 := Lib.hid hi1; have HB1 := Lib.hid hb1; have HK1 := Lib.hid hk1
    clear hi1 hb1 hk1
    go_wp2_with fail
    refine (peek_d g s a _ false w0 _ hc (by omega) HI1.out HB1.out).mono ?_
    rintro e w2 ⟨rfl, hi1, hb1, hk1⟩
    have HI2 := Lib.hid hi1; have HB2 := Lib.hid hb1; have HK2 := Lib.hid (HK1.out.trans hk1 (.inl rfl))
    have b2 := cellS48_2 hi1.1
    have hz := zero_kept HK2.out hgw.out
    have q0 : w2.cell? ⟨w.heap.size, 0, none⟩ = some (.string ⟨#[]⟩) := (blk_cell hz 0).trans rfl
    have q1 : w2.cell? ⟨w.heap.size, 1, none⟩ = some (.int .i64 0) := (blk_cell hz 1).trans rfl
    have q2 : w2.cell? ⟨w.heap.size, 2, none⟩ = some (.string ⟨#[]⟩) := (blk_cell hz 2).trans rfl
    have q3 : w2.cell? ⟨w.heap.size, 3, none⟩ = some (.int .i64 0) := (blk_cell hz 3).trans rfl
    have q4 : w2.cell? ⟨w.heap.size, 4, none⟩ = some (.slice none 0 0) := (blk_cell hz 4).trans rfl
    have q5 : w2.cell? ⟨w.heap.size, 5, none⟩ = some (.slice none 0 0) := (blk_cell hz 5).trans rfl
    have z0 := blk_frozen hz 0
    have z1 := blk_frozen hz 1
    have z2 := blk_frozen hz 2
    have z3 := blk_frozen hz 3
    have z4 := blk_frozen hz 4
    have z5 := blk_frozen hz 5
    clear hz
    clear hi1 hb1 hk1
    go_wp2_with fail
    refine (hnum.out _ HI2.out HB2.out).mono ?_
    rintro e w3 ⟨rfl, hi3, hb3, hk3⟩
    have HI3 := Lib.hid hi3; have HB3 := Lib.hid hb3; have HK3 := Lib.hid (HK2.out.trans hk3 (.inl rfl))
    clear hi3 hb3 hk3 q0 q1 q2 q3 q4 q5 z0 z1 z2 z3 z4 z5 b2
    have hz := zero_kept HK3.out hgw.out
    have q0 : w3.cell? ⟨w.heap.size, 0, none⟩ = some (.string ⟨#[]⟩) := (blk_cell hz 0).trans rfl
    have q1 : w3.cell? ⟨w.heap.size, 1, none⟩ = some (.int .i64 0) := (blk_cell hz 1).trans rfl
    have q2 : w3.cell? ⟨w.heap.size, 2, none⟩ = some (.string ⟨#[]⟩) := (blk_cell hz 2).trans rfl
    have q3 : w3.cell? ⟨w.heap.size, 3, none⟩ = some (.int .i64 0) := (blk_cell hz 3).trans rfl
    have q4 : w3.cell? ⟨w.heap.size, 4, none⟩ = some (.slice none 0 0) := (blk_cell hz 4).trans rfl
    have q5 : w3.cell? ⟨w.heap.size, 5, none⟩ = some (.slice none 0 0) := (blk_cell hz 5).trans rfl
    have z0 := blk_frozen hz 0
    have z1 := blk_frozen hz 1
    have z2 := blk_frozen hz 2
    have z3 := blk_frozen hz 3
    have z4 := blk_frozen hz 4
    have z5 := blk_frozen hz 5
    clear hz
    go_wp2_with fail
    refine bodyPost_ret (v := .agg #[.string o, .int .i64 n, .string tx, .int .i64 0, .slice none 0 0, .slice none 0 0]) (by simp [results, Tryd.results11, go_sem, q0, q1, q2, q3, q4, q5]) rfl ⟨rfl, after_six HI3.out HB3.out HK3.out hgw.out hBs.out _ _ _ _ _ _⟩

set_option maxHeartbeats 1000000 in
set_option maxRecDepth 100000 in
theorem expr_it (k g : Nat) (s : ByteArray) (a0 a a' depth : Int) (w0 w : World) (hI : IsS48 w0 w g s a0 false) (hB : Below w0.heap.size w0 w)
    (hbl : expr_scanner_blanks.f k s a0 false = some (s, a, false)) (ha : 0 ≤ a) (hc : Hid (pk s a = 105))
    (HRUN : Hid (expr_scanner_run.f k s a false = some (⟨#[105, 116]⟩, s, a', false))) (HSH : Hid (expr_shape.f k ⟨#[105, 116]⟩ = some (⟨#[]⟩, true))) :
    Calls Tryd.prog 11 #[.pointer (some ⟨g, 0, none⟩), .int .i64 depth] w fun e w' => e = .returned (.agg #[.string ⟨#[105, 116]⟩, .int .i64 0, .string ⟨#[]⟩, .int .i64 0, .slice none 0 0, .slice none 0 0]) ∧ After w0 w w' g s a' false := by
  have HI := Lib.hid (hI.alloc zero30)
  have HB := Lib.hid (Below.alloc hB hB.size zero30)
  have hgw : Hid (g < w.heap.size) := hI.lt
  have hBs : Hid (w0.heap.size ≤ w.heap.size) := hB.size
  have HBL := Lib.hid hbl
  clear hI hB hbl
  go_enter Tryd.func11, Tryd.ntmps11
  go_wp2_with fail
  refine (expr_scanner_blanks.calls k g s a0 false _ _ _ w0 _ HI.out HB.out HBL.out).mono ?_
  rintro e w1 ⟨rfl, hi1, hb1, hk1⟩
  have HI1 := Lib.hid hi1; have HB1 := Lib.hid hb1; have HK1 := Lib.hid hk1
  clear hi1 hb1 hk1
  go_wp2_with fail
  refine (peek_d g s a _ false w0 _ hc (by omega) HI1.out HB1.out).mono ?_
  rintro e w2 ⟨rfl, hi1, hb1, hk1⟩
  have HI2 := Lib.hid hi1; have HB2 := Lib.hid hb1; have HK2 := Lib.hid (HK1.out.trans hk1 (.inl rfl))
  have b2 := cellS48_2 hi1.1
  have hz := zero_kept HK2.out hgw.out
  have q0 : w2.cell? ⟨w.heap.size, 0, none⟩ = some (.string ⟨#[]⟩) := (blk_cell hz 0).trans rfl
  have q1 : w2.cell? ⟨w.heap.size, 1, none⟩ = some (.int .i64 0) := (blk_cell hz 1).trans rfl
  have q2 : w2.cell? ⟨w.heap.size, 2, none⟩ = some (.string ⟨#[]⟩) := (blk_cell hz 2).trans rfl
  have q3 : w2.cell? ⟨w.heap.size, 3, none⟩ = some (.int .i64 0) := (blk_cell hz 3).trans rfl
  have q4 : w2.cell? ⟨w.heap.size, 4, none⟩ = some (.slice none 0 0) := (blk_cell hz 4).trans rfl
  have q5 : w2.cell? ⟨w.heap.size, 5, none⟩ = some (.slice none 0 0) := (blk_cell hz 5).trans rfl
  have z0 := blk_frozen hz 0
  have z1 := blk_frozen hz 1
  have z2 := blk_frozen hz 2
  have z3 := blk_frozen hz 3
  have z4 := blk_frozen hz 4
  have z5 := blk_frozen hz 5
  clear hz
  clear hi1 hb1 hk1
  go_wp2_with fail
  refine (expr_scanner_run.calls k g s a false _ _ _ _ w0 _ HI2.out HB2.out HRUN.out).mono ?_
  rintro e w3 ⟨rfl, hi3, hb3, hk3⟩
  have HI3 := Lib.hid hi3; have HB3 := Lib.hid hb3; have HK3 := Lib.hid (HK2.out.trans hk3 (.inl rfl))
  clear hi3 hb3 hk3 q0 q1 q2 q3 q4 q5 z0 z1 z2 z3 z4 z5 b2
  go_wp2_with fail
  refine (expr_shape.calls k _ _ _ _ HSH.out).mono ?_
  rintro e w4 ⟨rfl, ⟨nd, rfl⟩⟩
  have hz := zero_kept HK3.out hgw.out
  have q0 : w3.cell? ⟨w.heap.size, 0, none⟩ = some (.string ⟨#[]⟩) := (blk_cell hz 0).trans rfl
  have q1 : w3.cell? ⟨w.heap.size, 1, none⟩ = some (.int .i64 0) := (blk_cell hz 1).trans rfl
  have q2 : w3.cell? ⟨w.heap.size, 2, none⟩ = some (.string ⟨#[]⟩) := (blk_cell hz 2).trans rfl
  have q3 : w3.cell? ⟨w.heap.size, 3, none⟩ = some (.int .i64 0) := (blk_cell hz 3).trans rfl
  have q4 : w3.cell? ⟨w.heap.size, 4, none⟩ = some (.slice none 0 0) := (blk_cell hz 4).trans rfl
  have q5 : w3.cell? ⟨w.heap.size, 5, none⟩ = some (.slice none 0 0) := (blk_cell hz 5).trans rfl
  have z0 := blk_frozen hz 0
  have z1 := blk_frozen hz 1
  have z2 := blk_frozen hz 2
  have z3 := blk_frozen hz 3
  have z4 := blk_frozen hz 4
  have z5 := blk_frozen hz 5
  clear hz
  go_wp2_with fail
  refine bodyPost_ret (v := .agg #[.string ⟨#[105, 116]⟩, .int .i64 0, .string ⟨#[]⟩, .int .i64 0, .slice none 0 0, .slice none 0 0]) (by simp [results, Tryd.results11, go_sem, q0, q1, q2, q3, q4, q5]) rfl ⟨rfl, after_six (HI3.out.drewN nd) (pw_below_drewN HB3.out nd) (keep_drewN HK3.out nd) hgw.out hBs.out _ _ _ _ _ _⟩

set_option maxHeartbeats 1000000 in
set_option maxRecDepth 100000 in
theorem expr_add (k g : Nat) (s : ByteArray) (a0 a a' a'' : Int) (bad'' : Bool) (n : Nat) (xs : List Value) (w0 w : World) (hI : IsS48 w0 w g s a0 false) (hB : Below w0.heap.size w0 w)
    (hbl : expr_scanner_blanks.f k s a0 false = some (s, a, false)) (ha : 0 ≤ a) (hc : Hid (pk s a = 97))
    (HRUN : Hid (expr_scanner_run.f k s a false = some (⟨#[97, 100, 100]⟩, s, a', false))) (HSH : Hid (expr_shape.f k ⟨#[97, 100, 100]⟩ = some (⟨#[101, 101]⟩, true)))
    (hcall : Hid (∀ w1, IsS48 w0 w1 g s a' false → Below w0.heap.size w0 w1 → Calls Tryd.prog 26 #[.pointer (some ⟨g, 0, none⟩), .string ⟨#[97, 100, 100]⟩, .string ⟨#[101, 101]⟩, .int .i64 24] w1 fun e w' => ∃ A c, e = .returned (.agg #[.string ⟨#[97, 100, 100]⟩, .int .i64 0, .string ⟨#[]⟩, .int .i64 0, .slice none 0 0, .slice A n c]) ∧ After w0 w1 w' g s a'' bad'' ∧ w'.ownsRow w1.heap.size 30 6 (.slice A n c) n xs)) :
    Calls Tryd.prog 11 #[.pointer (some ⟨g, 0, none⟩), .int .i64 24] w fun e w' => ∃ A c, e = .returned (.agg #[.string ⟨#[97, 100, 100]⟩, .int .i64 0, .string ⟨#[]⟩, .int .i64 0, .slice none 0 0, .slice A n c]) ∧ After w0 w w' g s a'' bad'' ∧ w'.ownsRow w.heap.size 30 6 (.slice A n c) n xs := by
  have HI := Lib.hid (hI.alloc zero30)
  have HB := Lib.hid (Below.alloc hB hB.size zero30)
  have hgw : Hid (g < w.heap.size) := hI.lt
  have hBs : Hid (w0.heap.size ≤ w.heap.size) := hB.size
  have HBL := Lib.hid hbl
  clear hI hB hbl
  go_enter Tryd.func11, Tryd.ntmps11
  go_wp2_with fail
  refine (expr_scanner_blanks.calls k g s a0 false _ _ _ w0 _ HI.out HB.out HBL.out).mono ?_
  rintro e w1 ⟨rfl, hi1, hb1, hk1⟩
  have HI1 := Lib.hid hi1; have HB1 := Lib.hid hb1; have HK1 := Lib.hid hk1
  clear hi1 hb1 hk1
  go_wp2_with fail
  refine (peek_d g s a _ false w0 _ hc (by omega) HI1.out HB1.out).mono ?_
  rintro e w2 ⟨rfl, hi1, hb1, hk1⟩
  have HI2 := Lib.hid hi1; have HB2 := Lib.hid hb1; have HK2 := Lib.hid (HK1.out.trans hk1 (.inl rfl))
  have b2 := cellS48_2 hi1.1
  have hz := zero_kept HK2.out hgw.out
  have q0 : w2.cell? ⟨w.heap.size, 0, none⟩ = some (.string ⟨#[]⟩) := (blk_cell hz 0).trans rfl
  have q1 : w2.cell? ⟨w.heap.size, 1, none⟩ = some (.int .i64 0) := (blk_cell hz 1).trans rfl
  have q2 : w2.cell? ⟨w.heap.size, 2, none⟩ = some (.string ⟨#[]⟩) := (blk_cell hz 2).trans rfl
  have q3 : w2.cell? ⟨w.heap.size, 3, none⟩ = some (.int .i64 0) := (blk_cell hz 3).trans rfl
  have q4 : w2.cell? ⟨w.heap.size, 4, none⟩ = some (.slice none 0 0) := (blk_cell hz 4).trans rfl
  have q5 : w2.cell? ⟨w.heap.size, 5, none⟩ = some (.slice none 0 0) := (blk_cell hz 5).trans rfl
  have z0 := blk_frozen hz 0
  have z1 := blk_frozen hz 1
  have z2 := blk_frozen hz 2
  have z3 := blk_frozen hz 3
  have z4 := blk_frozen hz 4
  have z5 := blk_frozen hz 5
  clear hz
  clear hi1 hb1 hk1
  go_wp2_with fail
  refine (expr_scanner_run.calls k g s a false _ _ _ _ w0 _ HI2.out HB2.out HRUN.out).mono ?_
  rintro e w3 ⟨rfl, hi3, hb3, hk3⟩
  have HI3 := Lib.hid hi3; have HB3 := Lib.hid hb3; have HK3 := Lib.hid (HK2.out.trans hk3 (.inl rfl))
  clear hi3 hb3 hk3 q0 q1 q2 q3 q4 q5 z0 z1 z2 z3 z4 z5 b2
  go_wp2_with fail
  refine (expr_shape.calls k _ _ _ _ HSH.out).mono ?_
  rintro e w4 ⟨rfl, ⟨nd, rfl⟩⟩
  have hz := zero_kept HK3.out hgw.out
  have q0 : w3.cell? ⟨w.heap.size, 0, none⟩ = some (.string ⟨#[]⟩) := (blk_cell hz 0).trans rfl
  have q1 : w3.cell? ⟨w.heap.size, 1, none⟩ = some (.int .i64 0) := (blk_cell hz 1).trans rfl
  have q2 : w3.cell? ⟨w.heap.size, 2, none⟩ = some (.string ⟨#[]⟩) := (blk_cell hz 2).trans rfl
  have q3 : w3.cell? ⟨w.heap.size, 3, none⟩ = some (.int .i64 0) := (blk_cell hz 3).trans rfl
  have q4 : w3.cell? ⟨w.heap.size, 4, none⟩ = some (.slice none 0 0) := (blk_cell hz 4).trans rfl
  have q5 : w3.cell? ⟨w.heap.size, 5, none⟩ = some (.slice none 0 0) := (blk_cell hz 5).trans rfl
  have z0 := blk_frozen hz 0
  have z1 := blk_frozen hz 1
  have z2 := blk_frozen hz 2
  have z3 := blk_frozen hz 3
  have z4 := blk_frozen hz 4
  have z5 := blk_frozen hz 5
  clear hz
  go_wp2_with fail
  clear q0 q1 q2 q3 q4 q5 z0 z1 z2 z3 z4 z5
  refine (hcall.out _ (HI3.out.drewN nd) (pw_below_drewN HB3.out nd)).mono ?_
  rintro e w4 ⟨A, cc, rfl, hA, hO⟩
  have HI4 := Lib.hid hA.1; have HB4 := Lib.hid hA.2.1; have HK4 := Lib.hid ((keep_drewN HK3.out nd).trans hA.2.2 (.inl rfl))
  have hsz : w.heap.size < w3.heap.size := by have := HK3.out.1; simp at this; omega
  have HO := Lib.hid (hO.mono (base' := w.heap.size + 1) hsz)
  clear hA hO hsz
  have hz := zero_kept HK4.out hgw.out
  have q0 : w4.cell? ⟨w.heap.size, 0, none⟩ = some (.string ⟨#[]⟩) := (blk_cell hz 0).trans rfl
  have q1 : w4.cell? ⟨w.heap.size, 1, none⟩ = some (.int .i64 0) := (blk_cell hz 1).trans rfl
  have q2 : w4.cell? ⟨w.heap.size, 2, none⟩ = some (.string ⟨#[]⟩) := (blk_cell hz 2).trans rfl
  have q3 : w4.cell? ⟨w.heap.size, 3, none⟩ = some (.int .i64 0) := (blk_cell hz 3).trans rfl
  have q4 : w4.cell? ⟨w.heap.size, 4, none⟩ = some (.slice none 0 0) := (blk_cell hz 4).trans rfl
  have q5 : w4.cell? ⟨w.heap.size, 5, none⟩ = some (.slice none 0 0) := (blk_cell hz 5).trans rfl
  have z0 := blk_frozen hz 0
  have z1 := blk_frozen hz 1
  have z2 := blk_frozen hz 2
  have z3 := blk_frozen hz 3
  have z4 := blk_frozen hz 4
  have z5 := blk_frozen hz 5
  clear hz
  go_wp2_with fail
  refine bodyPost_ret (v := .agg #[.string ⟨#[97, 100, 100]⟩, .int .i64 0, .string ⟨#[]⟩, .int .i64 0, .slice none 0 0, .slice A n cc]) (by simp [results, Tryd.results11, go_sem, q0, q1, q2, q3, q4, q5]) rfl ⟨A, cc, rfl, after_six HI4.out HB4.out HK4.out hgw.out hBs.out _ _ _ _ _ _, ?_⟩
  have hl : w.heap.size < w.heap.size + 1 := Nat.lt_succ_self _
  exact (ownsRow_setCell_below (ownsRow_setCell_below (ownsRow_setCell_below (ownsRow_setCell_below (ownsRow_setCell_below (ownsRow_setCell_below HO.out hl _) hl _) hl _) hl _) hl _) hl _).mono (Nat.le_succ _)

set_option maxHeartbeats 1000000 in
set_option maxRecDepth 100000 in
theorem number_zero (g : Nat) (s : ByteArray) (a d : Nat) (w0 w : World) (hI : IsS48 w0 w g s a false) (hB : Below w0.heap.size w0 w)
    (D0 : Hid (pk s ((a : Nat) : Int) = 48)) (D1 : Hid (pk s ((a : Nat) + 1 : Int) = 48 + (d : Int))) (hd : d ≤ 9) (ha : a ≤ 140737488351232) :
    Calls Tryd.prog 23 #[.pointer (some ⟨g, 0, none⟩)] w fun e w' => e = .returned (.agg #[.string ⟨#[]⟩, .int .i64 0, .string ⟨#[]⟩, .int .i64 0, .slice none 0 0, .slice none 0 0]) ∧ After w0 w w' g s (a + 1) true := by
  have HI := Lib.hid (hI.alloc zero30)
  have HB := Lib.hid (Below.alloc hB hB.size zero30)
  have hgw : Hid (g < w.heap.size) := hI.lt
  have hBs : Hid (w0.heap.size ≤ w.heap.size) := hB.size
  clear hI hB
  go_enter Tryd.func23, Tryd.ntmps23
  go_wp2_with fail
  refine wp_scope_k 0 (fun _ _ _ => False) rfl (fun _ _ _ h => h.elim) ?_
  intro K hK
  clear hK
  go_wp2_with fail
  refine (peek_d g s a _ false w0 _ D0 (by omega) HI.out HB.out).mono ?_
  rintro e w1 ⟨rfl, hi1, hb1, hk1⟩
  have HI1 := Lib.hid hi1; have HB1 := Lib.hid hb1; have HK1 := Lib.hid hk1
  clear hi1 hb1 hk1
  go_wp2_with fail
  refine (peek_d g s a _ false w0 _ D0 (by omega) HI1.out HB1.out).mono ?_
  rintro e w2 ⟨rfl, hi1, hb1, hk1⟩
  have HI2 := Lib.hid hi1; have HB2 := Lib.hid hb1; have HK2 := Lib.hid hk1
  clear hi1 hb1 hk1
  go_wp2_with fail
  refine (peek_d g s a _ false w0 _ D0 (by omega) HI2.out HB2.out).mono ?_
  rintro e w3 ⟨rfl, hi1, hb1, hk1⟩
  have HI3 := Lib.hid hi1; have HB3 := Lib.hid hb1; have HK3 := Lib.hid (((HK1.out.trans HK2.out (.inl rfl)).trans hk1 (.inl rfl)).set_ 1 (.int .i64 (↑a + 1)))
  have c1 := cellS48_1 hi1.1
  have f1 := blk_frozen hi1.1 1
  clear hi1 hb1 hk1
  go_wp2_with fail
  go_step3
  go_step
  go_step
  go_wp2_with fail
  refine (peek_d g s _ _ false w0 _ D1 (by omega) (HI3.out.set_1 (↑a + 1)) (below_set HB3.out (IsS48.ge HI3.out))).mono ?_
  rintro e w4 ⟨rfl, hi1, hb1, hk1⟩
  have HI4 := Lib.hid (hi1.set_2 true); have HB4 := Lib.hid (below_set (j := 2) (v := .bool true) hb1 (IsS48.ge hi1)); have HK4 := Lib.hid ((HK3.out.trans hk1 (.inl rfl)).set_ 2 (.bool true))
  have HK4b := Lib.hid (HK3.out.trans hk1 (.inl rfl))
  have b2 := cellS48_2 hi1.1
  have f2 := blk_frozen hi1.1 2
  clear hi1 hb1 hk1 c1 f1
  have hz := zero_kept HK4b.out hgw.out
  have q0 : w4.cell? ⟨w.heap.size, 0, none⟩ = some (.string ⟨#[]⟩) := (blk_cell hz 0).trans rfl
  have q1 : w4.cell? ⟨w.heap.size, 1, none⟩ = some (.int .i64 0) := (blk_cell hz 1).trans rfl
  have q2 : w4.cell? ⟨w.heap.size, 2, none⟩ = some (.string ⟨#[]⟩) := (blk_cell hz 2).trans rfl
  have q3 : w4.cell? ⟨w.heap.size, 3, none⟩ = some (.int .i64 0) := (blk_cell hz 3).trans rfl
  have q4 : w4.cell? ⟨w.heap.size, 4, none⟩ = some (.slice none 0 0) := (blk_cell hz 4).trans rfl
  have q5 : w4.cell? ⟨w.heap.size, 5, none⟩ = some (.slice none 0 0) := (blk_cell hz 5).trans rfl
  have z0 := blk_frozen hz 0
  have z1 := blk_frozen hz 1
  have z2 := blk_frozen hz 2
  have z3 := blk_frozen hz 3
  have z4 := blk_frozen hz 4
  have z5 := blk_frozen hz 5
  clear hz
  have hgn : g ≠ w.heap.size := by have := hgw.out; omega
  go_wp2_with fail
  simp only [Exit.jump]
  refine bodyPost_ret (v := .agg #[.string ⟨#[]⟩, .int .i64 0, .string ⟨#[]⟩, .int .i64 0, .slice none 0 0, .slice none 0 0]) (by simp [results, Tryd.results23, go_sem, q0, q1, q2, q3, q4, q5]) rfl ⟨rfl, after_six HI4.out HB4.out HK4.out hgw.out hBs.out _ _ _ _ _ _⟩

end Go.Proofs.YtamfloegflejnaaDoor
