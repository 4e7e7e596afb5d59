/-
  expr.Parse: what it tells of a text that its scanner's expr takes whole, and of one in which it finds a fault.
-/
import Derived.Test.YtamfloegflejnaaDoorS4
set_option linter.unusedVariables false
set_option linter.unusedSimpArgs false
namespace Go.Proofs.YtamfloegflejnaaDoor
open Go.RowKit Go.Proofs.YtamfloegflejnaaDoorW.PrintWords Go.Proofs.YtamfloegflejnaaDoorW.PrintLast Go.Proofs.YtamfloegflejnaaDoorW.PrintMore PExprNumbers

/-- What the scanner's expr does with the text s from its begin on. -/
def ExprDoes (w : World) (s : ByteArray) (a : Int) (bad : Bool) (o : ByteArray) (i : Int) (tx : ByteArray) (n : Nat) (xs : List Value) : Prop :=
  ∀ W g, IsS48 w W g s 0 false → Below w.heap.size w W → Calls Tryd.prog 11 #[.pointer (some ⟨g, 0, none⟩), .int .i64 24] W fun e W' => ∃ A c, e = .returned (.agg #[.string o, .int .i64 i, .string tx, .int .i64 0, .slice none 0 0, .slice A n c]) ∧ After w W W' g s a bad ∧ W'.ownsRow W.heap.size 30 6 (.slice A n c) n xs

theorem scan_new (w : World) (s : ByteArray) : IsS48 w ((w.alloc zero30).alloc (.cells #[.string s, .int .i64 0, .bool false] 48)) (w.heap.size + 1) s 0 false := by
  have := heap_alloc_new (w.alloc zero30) (.cells #[.string s, .int .i64 0, .bool false] 48)
  exact ⟨by simpa using this, by omega⟩
theorem scan_below (w : World) (s : ByteArray) : Below w.heap.size w ((w.alloc zero30).alloc (.cells #[.string s, .int .i64 0, .bool false] 48)) :=
  Below.alloc (Below.alloc (Below.refl _ _) (Nat.le_refl _) _) (by simp) _
theorem scan_zero (w : World) (s : ByteArray) : ((w.alloc zero30).alloc (.cells #[.string s, .int .i64 0, .bool false] 48)).heap[w.heap.size]? = some zero30 :=
  (Below.heap_alloc _ _ _ (by simp)).trans (heap_alloc_new w _)
theorem six_below {w W : World} (h : Below w.heap.size w W) (v0 v1 v2 v3 v4 v5 : Value) : Below w.heap.size w ((((((W.setCell ⟨w.heap.size, 0, none⟩ v0).setCell ⟨w.heap.size, 1, none⟩ v1).setCell ⟨w.heap.size, 2, none⟩ v2).setCell ⟨w.heap.size, 3, none⟩ v3).setCell ⟨w.heap.size, 4, none⟩ v4).setCell ⟨w.heap.size, 5, none⟩ v5) := by
  have hle := Nat.le_refl w.heap.size
  exact below_set (below_set (below_set (below_set (below_set (below_set h hle) hle) hle) hle) hle) hle

theorem six_heap {w W : World} (h : W.heap[w.heap.size]? = some zero30) (v0 v1 v2 v3 v4 v5 : Value) : ((((((W.setCell ⟨w.heap.size, 0, none⟩ v0).setCell ⟨w.heap.size, 1, none⟩ v1).setCell ⟨w.heap.size, 2, none⟩ v2).setCell ⟨w.heap.size, 3, none⟩ v3).setCell ⟨w.heap.size, 4, none⟩ v4).setCell ⟨w.heap.size, 5, none⟩ v5).heap[w.heap.size]? = some (.cells #[v0, v1, v2, v3, v4, v5] 30 (0, 0)) := by
  simp [World.setCell, Array.getElem?_modify, h, zero30]
theorem six_own {w W : World} {v : Value} {n : Nat} {xs : List Value} (h : W.ownsRow (w.heap.size + 1) 30 6 v n xs) (v0 v1 v2 v3 v4 v5 : Value) : ((((((W.setCell ⟨w.heap.size, 0, none⟩ v0).setCell ⟨w.heap.size, 1, none⟩ v1).setCell ⟨w.heap.size, 2, none⟩ v2).setCell ⟨w.heap.size, 3, none⟩ v3).setCell ⟨w.heap.size, 4, none⟩ v4).setCell ⟨w.heap.size, 5, none⟩ v5).ownsRow (w.heap.size + 1) 30 6 v n xs := by
  have hl : w.heap.size < w.heap.size + 1 := by omega
  exact ownsRow_setCell_below (ownsRow_setCell_below (ownsRow_setCell_below (ownsRow_setCell_below (ownsRow_setCell_below (ownsRow_setCell_below h hl _) hl _) hl _) hl _) hl _) hl _
theorem six_scan {w W : World} {s : ByteArray} {a : Int} {bad : Bool} (h : IsS48 w W (w.heap.size + 1) s a bad) (v0 v1 v2 v3 v4 v5 : Value) : IsS48 w ((((((W.setCell ⟨w.heap.size, 0, none⟩ v0).setCell ⟨w.heap.size, 1, none⟩ v1).setCell ⟨w.heap.size, 2, none⟩ v2).setCell ⟨w.heap.size, 3, none⟩ v3).setCell ⟨w.heap.size, 4, none⟩ v4).setCell ⟨w.heap.size, 5, none⟩ v5) (w.heap.size + 1) s a bad := by
  have hne : w.heap.size + 1 ≠ w.heap.size := by omega
  exact (((((h.far hne _).far hne _).far hne _).far hne _).far hne _).far hne _
theorem kids_kept {w W W' : World} {v : Value} {n : Nat} {xs : List Value} (h : W.ownsRow (w.heap.size + 1) 30 6 v n xs) (hs : ∃ s a bad, W.heap[w.heap.size + 1]? = some (.cells #[.string s, .int .i64 a, .bool bad] 48 (0, 0))) (k : KeepBut W W' (w.heap.size + 1) none) : W'.ownsRow (w.heap.size + 1) 30 6 v n xs := by
  obtain ⟨s, a, bad, hs⟩ := hs
  refine k.own h ?_ ?_
  · rcases h.2 with ⟨rfl, _⟩ | ⟨g, cap, cur, rfl, _, hg, _⟩
    · simp [Value.ownBlock]
    · simp only [Value.ownBlock, ne_eq, Option.some.injEq]
      rintro rfl
      rw [hs] at hg
      simp at hg
  · cases hv : v.ownBlock with
    | none => exact .inl rfl
    | some b => exact .inr (by simp)
set_option maxHeartbeats 1000000 in
set_option maxRecDepth 100000 in
theorem parse_ok (k : Nat) (s : ByteArray) (a : Int) (o : ByteArray) (i : Int) (tx : ByteArray) (n : Nat) (xs : List Value) (w : World) (hs : s.size ≤ 4096) (hs63 : s.size ≤ maxLen)
    (hx : Hid (ExprDoes w s a false o i tx n xs)) (HBL : Hid (expr_scanner_blanks.f k s a false = some (s, (s.size : Int), false))) :
    Calls Tryd.prog 6 #[.string s] w fun e w' => ∃ A c, e = .returned (.tuple #[.agg #[.string o, .int .i64 i, .string tx, .int .i64 0, .slice none 0 0, .slice A n c], .int .i64 0, .int .i64 0]) ∧ Below w.heap.size w w' ∧ w'.ownsRow w.heap.size 30 6 (.slice A n c) n xs := by
  unfold maxLen at hs63
  have hsz : ((s.size : Int) > 4096) = False := by simp; omega
  have hI := Lib.hid (scan_new w s)
  have hB := Lib.hid (scan_below w s)
  have hZ := Lib.hid (scan_zero w s)
  go_enter Tryd.func6, Tryd.ntmps6
  go_wp2_with fail
  refine (hx.out _ _ hI.out hB.out).mono ?_
  rintro e w1 ⟨A, c, rfl, hA, hO⟩
  have HI1 := Lib.hid hA.1; have HB1 := Lib.hid hA.2.1
  have HZ1 := Lib.hid (hA.2.2.blk hZ.out (by omega) (by simp))
  have HO1 := Lib.hid (hO.mono (base' := w.heap.size + 1) (by simp))
  clear hA hO
  have q0 : w1.cell? ⟨w.heap.size, 0, none⟩ = some (.string ⟨#[]⟩) := (blk_cell HZ1.out 0).trans rfl
  have q1 : w1.cell? ⟨w.heap.size, 1, none⟩ = some (.int .i64 0) := (blk_cell HZ1.out 1).trans rfl
  have q2 : w1.cell? ⟨w.heap.size, 2, none⟩ = some (.string ⟨#[]⟩) := (blk_cell HZ1.out 2).trans rfl
  have q3 : w1.cell? ⟨w.heap.size, 3, none⟩ = some (.int .i64 0) := (blk_cell HZ1.out 3).trans rfl
  have q4 : w1.cell? ⟨w.heap.size, 4, none⟩ = some (.slice none 0 0) := (blk_cell HZ1.out 4).trans rfl
  have q5 : w1.cell? ⟨w.heap.size, 5, none⟩ = some (.slice none 0 0) := (blk_cell HZ1.out 5).trans rfl
  have z0 : w1.frozen? ⟨w.heap.size, 0, none⟩ = false := blk_frozen HZ1.out 0
  have z1 : w1.frozen? ⟨w.heap.size, 1, none⟩ = false := blk_frozen HZ1.out 1
  have z2 : w1.frozen? ⟨w.heap.size, 2, none⟩ = false := blk_frozen HZ1.out 2
  have z3 : w1.frozen? ⟨w.heap.size, 3, none⟩ = false := blk_frozen HZ1.out 3
  have z4 : w1.frozen? ⟨w.heap.size, 4, none⟩ = false := blk_frozen HZ1.out 4
  have z5 : w1.frozen? ⟨w.heap.size, 5, none⟩ = false := blk_frozen HZ1.out 5
  have b2 := cellS48_2 HI1.out.1
  have hgn : w.heap.size + 1 ≠ w.heap.size := by omega
  go_wp2_with fail
  have HI2 := Lib.hid (six_scan HI1.out (.string o) (.int .i64 i) (.string tx) (.int .i64 0) (.slice none 0 0) (.slice A n c))
  have HB2 := Lib.hid (six_below HB1.out (.string o) (.int .i64 i) (.string tx) (.int .i64 0) (.slice none 0 0) (.slice A n c))
  have HZ2 := Lib.hid (six_heap HZ1.out (.string o) (.int .i64 i) (.string tx) (.int .i64 0) (.slice none 0 0) (.slice A n c))
  have HO2 := Lib.hid (six_own HO1.out (.string o) (.int .i64 i) (.string tx) (.int .i64 0) (.slice none 0 0) (.slice A n c))
  generalize ((((((w1.setCell ⟨w.heap.size, 0, none⟩ (.string o)).setCell ⟨w.heap.size, 1, none⟩ (.int .i64 i)).setCell ⟨w.heap.size, 2, none⟩ (.string tx)).setCell ⟨w.heap.size, 3, none⟩ (.int .i64 0)).setCell ⟨w.heap.size, 4, none⟩ (.slice none 0 0)).setCell ⟨w.heap.size, 5, none⟩ (.slice A n c)) = w2 at HI2 HB2 HZ2 HO2 ⊢
  clear q0 q1 q2 q3 q4 q5 z0 z1 z2 z3 z4 z5 b2
  refine (expr_scanner_blanks.calls k _ s a false _ _ _ w _ HI2.out HB2.out HBL.out).mono ?_
  rintro e w3 ⟨rfl, hi, hb, hk⟩
  have HI3 := Lib.hid hi; have HB3 := Lib.hid hb
  have HZ3 := Lib.hid (hk.blk HZ2.out (by omega) (by simp))
  have HO3 := Lib.hid (kids_kept HO2.out ⟨_, _, _, HI2.out.1⟩ hk)
  have b1 := cellS48_1 hi.1
  have b2 := cellS48_2 hi.1
  clear hi hb hk
  have q0 : w3.cell? ⟨w.heap.size, 0, none⟩ = some (.string o) := (blk_cell HZ3.out 0).trans rfl
  have q1 : w3.cell? ⟨w.heap.size, 1, none⟩ = some (.int .i64 i) := (blk_cell HZ3.out 1).trans rfl
  have q2 : w3.cell? ⟨w.heap.size, 2, none⟩ = some (.string tx) := (blk_cell HZ3.out 2).trans rfl
  have q3 : w3.cell? ⟨w.heap.size, 3, none⟩ = some (.int .i64 0) := (blk_cell HZ3.out 3).trans rfl
  have q4 : w3.cell? ⟨w.heap.size, 4, none⟩ = some (.slice none 0 0) := (blk_cell HZ3.out 4).trans rfl
  have q5 : w3.cell? ⟨w.heap.size, 5, none⟩ = some (.slice A n c) := (blk_cell HZ3.out 5).trans rfl
  have z0 : w3.frozen? ⟨w.heap.size, 0, none⟩ = false := blk_frozen HZ3.out 0
  have z1 : w3.frozen? ⟨w.heap.size, 1, none⟩ = false := blk_frozen HZ3.out 1
  have z2 : w3.frozen? ⟨w.heap.size, 2, none⟩ = false := blk_frozen HZ3.out 2
  have z3 : w3.frozen? ⟨w.heap.size, 3, none⟩ = false := blk_frozen HZ3.out 3
  have z4 : w3.frozen? ⟨w.heap.size, 4, none⟩ = false := blk_frozen HZ3.out 4
  have z5 : w3.frozen? ⟨w.heap.size, 5, none⟩ = false := blk_frozen HZ3.out 5
  go_wp2_with fail
  refine bodyPost_ret (v := .tuple #[.agg #[.string o, .int .i64 i, .string tx, .int .i64 0, .slice none 0 0, .slice A n c], .int .i64 0, .int .i64 0]) (by simp [results, Tryd.results6, go_sem, q0, q1, q2, q3, q4, q5]) rfl ⟨A, c, rfl, six_below HB3.out _ _ _ _ _ _, (six_own HO3.out _ _ _ _ _ _).mono (by omega)⟩

set_option maxHeartbeats 1000000 in
set_option maxRecDepth 100000 in
theorem parse_bad (s : ByteArray) (a : Int) (o : ByteArray) (i : Int) (tx : ByteArray) (n : Nat) (xs : List Value) (w : World) (hs : s.size ≤ 4096) (hs63 : s.size ≤ maxLen)
    (hx : Hid (ExprDoes w s a true o i tx n xs)) :
    Calls Tryd.prog 6 #[.string s] w fun e w' => e = .returned (.tuple #[.agg #[.string ⟨#[]⟩, .int .i64 0, .string ⟨#[]⟩, .int .i64 0, .slice none 0 0, .slice none 0 0], .int .i64 a, .int .i64 40]) ∧ Below w.heap.size w w' := by
  unfold maxLen at hs63
  have hsz : ((s.size : Int) > 4096) = False := by simp; omega
  have hI := Lib.hid (scan_new w s)
  have hB := Lib.hid (scan_below w s)
  have hZ := Lib.hid (scan_zero w s)
  go_enter Tryd.func6, Tryd.ntmps6
  go_wp2_with fail
  refine (hx.out _ _ hI.out hB.out).mono ?_
  rintro e w1 ⟨A, c, rfl, hA, hO⟩
  have HI1 := Lib.hid hA.1; have HB1 := Lib.hid hA.2.1
  have HZ1 := Lib.hid (hA.2.2.blk hZ.out (by omega) (by simp))
  have HO1 := Lib.hid (hO.mono (base' := w.heap.size + 1) (by simp))
  clear hA hO
  have q0 : w1.cell? ⟨w.heap.size, 0, none⟩ = some (.string ⟨#[]⟩) := (blk_cell HZ1.out 0).trans rfl
  have q1 : w1.cell? ⟨w.heap.size, 1, none⟩ = some (.int .i64 0) := (blk_cell HZ1.out 1).trans rfl
  have q2 : w1.cell? ⟨w.heap.size, 2, none⟩ = some (.string ⟨#[]⟩) := (blk_cell HZ1.out 2).trans rfl
  have q3 : w1.cell? ⟨w.heap.size, 3, none⟩ = some (.int .i64 0) := (blk_cell HZ1.out 3).trans rfl
  have q4 : w1.cell? ⟨w.heap.size, 4, none⟩ = some (.slice none 0 0) := (blk_cell HZ1.out 4).trans rfl
  have q5 : w1.cell? ⟨w.heap.size, 5, none⟩ = some (.slice none 0 0) := (blk_cell HZ1.out 5).trans rfl
  have z0 : w1.frozen? ⟨w.heap.size, 0, none⟩ = false := blk_frozen HZ1.out 0
  have z1 : w1.frozen? ⟨w.heap.size, 1, none⟩ = false := blk_frozen HZ1.out 1
  have z2 : w1.frozen? ⟨w.heap.size, 2, none⟩ = false := blk_frozen HZ1.out 2
  have z3 : w1.frozen? ⟨w.heap.size, 3, none⟩ = false := blk_frozen HZ1.out 3
  have z4 : w1.frozen? ⟨w.heap.size, 4, none⟩ = false := blk_frozen HZ1.out 4
  have z5 : w1.frozen? ⟨w.heap.size, 5, none⟩ = false := blk_frozen HZ1.out 5
  have b2 := cellS48_2 HI1.out.1
  have b1 := cellS48_1 HI1.out.1
  have hgn : w.heap.size + 1 ≠ w.heap.size := by omega
  go_wp2_with fail
  have HI2 := Lib.hid (six_scan HI1.out (.string o) (.int .i64 i) (.string tx) (.int .i64 0) (.slice none 0 0) (.slice A n c))
  have HB2 := Lib.hid (six_below HB1.out (.string o) (.int .i64 i) (.string tx) (.int .i64 0) (.slice none 0 0) (.slice A n c))
  have HZ2 := Lib.hid (six_heap HZ1.out (.string o) (.int .i64 i) (.string tx) (.int .i64 0) (.slice none 0 0) (.slice A n c))
  generalize ((((((w1.setCell ⟨w.heap.size, 0, none⟩ (.string o)).setCell ⟨w.heap.size, 1, none⟩ (.int .i64 i)).setCell ⟨w.heap.size, 2, none⟩ (.string tx)).setCell ⟨w.heap.size, 3, none⟩ (.int .i64 0)).setCell ⟨w.heap.size, 4, none⟩ (.slice none 0 0)).setCell ⟨w.heap.size, 5, none⟩ (.slice A n c)) = w2 at HI2 HB2 HZ2 ⊢
  clear q0 q1 q2 q3 q4 q5 z0 z1 z2 z3 z4 z5 b2 b1
  have b1 := cellS48_1 HI2.out.1
  have b2 := cellS48_2 HI2.out.1
  have q0 : w2.cell? ⟨w.heap.size, 0, none⟩ = some (.string o) := (blk_cell HZ2.out 0).trans rfl
  have q1 : w2.cell? ⟨w.heap.size, 1, none⟩ = some (.int .i64 i) := (blk_cell HZ2.out 1).trans rfl
  have q2 : w2.cell? ⟨w.heap.size, 2, none⟩ = some (.string tx) := (blk_cell HZ2.out 2).trans rfl
  have q3 : w2.cell? ⟨w.heap.size, 3, none⟩ = some (.int .i64 0) := (blk_cell HZ2.out 3).trans rfl
  have q4 : w2.cell? ⟨w.heap.size, 4, none⟩ = some (.slice none 0 0) := (blk_cell HZ2.out 4).trans rfl
  have q5 : w2.cell? ⟨w.heap.size, 5, none⟩ = some (.slice A n c) := (blk_cell HZ2.out 5).trans rfl
  have z0 : w2.frozen? ⟨w.heap.size, 0, none⟩ = false := blk_frozen HZ2.out 0
  have z1 : w2.frozen? ⟨w.heap.size, 1, none⟩ = false := blk_frozen HZ2.out 1
  have z2 : w2.frozen? ⟨w.heap.size, 2, none⟩ = false := blk_frozen HZ2.out 2
  have z3 : w2.frozen? ⟨w.heap.size, 3, none⟩ = false := blk_frozen HZ2.out 3
  have z4 : w2.frozen? ⟨w.heap.size, 4, none⟩ = false := blk_frozen HZ2.out 4
  have z5 : w2.frozen? ⟨w.heap.size, 5, none⟩ = false := blk_frozen HZ2.out 5
  go_region
  all_goals
    go_wp2
    refine bodyPost_ret (v := .tuple #[.agg #[.string ⟨#[]⟩, .int .i64 0, .string ⟨#[]⟩, .int .i64 0, .slice none 0 0, .slice none 0 0], .int .i64 a, .int .i64 40]) (by simp [results, Tryd.results6, go_sem, q0, q1, q2, q3, q4, q5]) rfl ⟨rfl, ?_⟩
    first | exact Below.drew (six_below HB2.out _ _ _ _ _ _) | exact six_below (Below.drew HB2.out) _ _ _ _ _ _

end Go.Proofs.YtamfloegflejnaaDoor
