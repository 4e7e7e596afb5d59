/-
  The scanner's call of a word with two expressions: what lies in memory from step to step.
-/
import Derived.Test.YtamfloegflejnaaDoorS3
import Derived.Deep.AppendLies
import Derived.Deep.RegionHeld3
import Derived.LoopN
set_option linter.unusedVariables false
set_option linter.unusedSimpArgs false
namespace Go.Proofs.YtamfloegflejnaaDoor
open Go.RowKit Go.Proofs.YtamfloegflejnaaDoorW.PrintWords Go.Proofs.YtamfloegflejnaaDoorW.PrintLast Go.Proofs.YtamfloegflejnaaDoorW.PrintMore PExprNumbers

/-- The node that is being read, its kids not yet told. -/
def addNode (v : Value) : Obj := .cells #[.string ⟨#[97, 100, 100]⟩, .int .i64 0, .string ⟨#[]⟩, .int .i64 0, .slice none 0 0, v] 30

/-- What holds while the call of 'add' goes on: w: the world at its begin; W: now. -/
structure St (w0 w W : World) (g : Nat) (s : ByteArray) (a : Int) (bad : Bool) (v : Value) (n : Nat) (xs : List Value) : Prop where
  sc : IsS48 w0 W g s a bad
  below : Below w0.heap.size w0 W
  keep : KeepBut w W g none
  res : W.heap[w.heap.size]? = some zero30
  node : W.heap[w.heap.size + 1]? = some (addNode v)
  kids : W.ownsRow (w.heap.size + 2) 30 6 v n xs
  base : w.heap.size + 2 ≤ W.heap.size
  gw : g < w.heap.size
  w0w : w0.heap.size ≤ w.heap.size

theorem St.start {w0 w : World} {g : Nat} {s : ByteArray} {a : Int} {bad : Bool} (hI : IsS48 w0 w g s a bad) (hB : Below w0.heap.size w0 w) :
    St w0 w ((w.alloc zero30).alloc (addNode (.slice none 0 0))) g s a bad (.slice none 0 0) 0 [] where
  sc := (hI.alloc _).alloc _
  below := Below.alloc (Below.alloc hB hB.size _) (by simp; have := hB.size; omega) _
  keep := keep_alloc (keep_alloc (KeepBut.refl w g none) _) _
  res := (Below.heap_alloc _ _ _ (by simp)).trans (heap_alloc_new w _)
  node := by have := heap_alloc_new (w.alloc zero30) (addNode (.slice none 0 0)); simpa using this
  kids := World.ownsRow_nil _ _ _ _
  base := by simp
  gw := hI.lt
  w0w := hB.size

theorem info30 : (Tryd.prog.info? 30).map (fun i => (i.zero, i.size, i.bytes)) = some (some (.agg #[.string ⟨#[]⟩, .int .i64 0, .string ⟨#[]⟩, .int .i64 0, .slice none 0 0, .slice none 0 0]), 6, 96) := by kernel_rfl

theorem St.after {w0 w W W' : World} {g : Nat} {s : ByteArray} {a a' : Int} {bad bad' : Bool} {v : Value} {n : Nat} {xs : List Value} (h : St w0 w W g s a bad v n xs) (k : After w0 W W' g s a' bad') : St w0 w W' g s a' bad' v n xs where
  sc := k.1
  below := k.2.1
  keep := h.keep.trans k.2.2 (.inl rfl)
  res := k.2.2.blk h.res (by have := h.gw; omega) (by simp)
  node := k.2.2.blk h.node (by have := h.gw; omega) (by simp)
  kids := k.2.2.own h.kids (by intro e; have := (h.kids.lt _ e).1; have := h.gw; omega) (by
    cases hv : v.ownBlock with
    | none => exact .inl rfl
    | some b => exact .inr (by simp))
  base := by have := k.2.2.1; have := h.base; omega
  gw := h.gw
  w0w := h.w0w

/-- A kid is appended: behind the one-element slice's block, the append and the store. -/
theorem St.put {w0 w W W1 : World} {g : Nat} {s : ByteArray} {a : Int} {bad : Bool} {v : Value} {n : Nat} {xs news : List Value} {o : Obj} {b c : Nat} (h : St w0 w W g s a bad v n xs)
    (hown : W1.ownsRow (w.heap.size + 2) 30 6 (.slice (some ⟨b, 0, none⟩) (n + 1) c) (n + 1) (xs ++ news)) (hg : (W.alloc o).grownBy W1 v.ownBlock) :
    St w0 w (W1.setCell ⟨w.heap.size + 1, 5, none⟩ (.slice (some ⟨b, 0, none⟩) (n + 1) c)) g s a bad (.slice (some ⟨b, 0, none⟩) (n + 1) c) (n + 1) (xs ++ news) := by
  have hrow : ∀ k, v.ownBlock = some k → w.heap.size + 2 ≤ k := fun k e => (h.kids.lt k e).1
  have hold : ∀ k, k < w.heap.size + 2 → W1.heap[k]? = W.heap[k]? := fun k hk => by
    have hb := h.base
    rw [hg.block k (by simp; omega) (fun e => by have := hrow k e.symm; omega)]
    exact Below.heap_alloc W o k (by omega)
  have hgw := h.gw
  have hb1 : w.heap.size + 2 ≤ b := (hown.lt b rfl).1
  have hsz : W.heap.size ≤ W1.heap.size := by have := hg.size; simp at this; omega
  have hset : ∀ k, k ≠ w.heap.size + 1 → (W1.setCell ⟨w.heap.size + 1, 5, none⟩ (.slice (some ⟨b, 0, none⟩) (n + 1) c)).heap[k]? = W1.heap[k]? := fun k hk => Below.heap_setCell _ _ _ _ hk
  refine ⟨⟨?_, h.sc.2⟩, ?_, ⟨?_, ?_⟩, ?_, ?_, ?_, ?_, h.gw, h.w0w⟩
  · rw [hset g (by omega), hold g (by omega)]; exact h.sc.1
  · refine below_set ?_ (by have := h.w0w; show _ ≤ w.heap.size + 1; omega)
    refine (below_alloc h.below o).grown hg (by have := h.below.size; simp; omega) (fun k e => ?_)
    have := hrow k e; have := h.w0w; omega
  · have := h.base; simp [World.setCell]; omega
  · intro i hi hne _
    rw [hset i (by omega), hold i (by omega)]
    exact h.keep.2 i hi hne (by simp)
  · rw [hset _ (by omega), hold _ (by omega)]; exact h.res
  · have := (hold (w.heap.size + 1) (by omega)).trans h.node
    simp [World.setCell, Array.getElem?_modify, this, addNode]
  · exact ownsRow_setCell_other hown (by simp [Value.ownBlock]; omega) _
  · have := h.base; simp [World.setCell]; omega

theorem wrap23 : wrap64 23 = 23 := by unfold wrap64; decide
theorem St.drew {w0 w W : World} {g : Nat} {s : ByteArray} {a : Int} {bad : Bool} {v : Value} {n : Nat} {xs : List Value} (h : St w0 w W g s a bad v n xs) : St w0 w W.drew g s a bad v n xs :=
  ⟨h.sc, Below.drew h.below, h.keep, h.res, h.node, h.kids, h.base, h.gw, h.w0w⟩
theorem St.n5 {w0 w W : World} {g : Nat} {s : ByteArray} {a : Int} {bad : Bool} {v : Value} {n : Nat} {xs : List Value} (h : St w0 w W g s a bad v n xs) : W.cell? ⟨w.heap.size + 1, 5, none⟩ = some v := (blk_cell h.node 5).trans rfl
theorem St.f5 {w0 w W : World} {g : Nat} {s : ByteArray} {a : Int} {bad : Bool} {v : Value} {n : Nat} {xs : List Value} (h : St w0 w W g s a bad v n xs) : W.frozen? ⟨w.heap.size + 1, 5, none⟩ = false := blk_frozen h.node 5

theorem St.finish {w0 w W : World} {g : Nat} {s : ByteArray} {a : Int} {bad : Bool} {v : Value} {n : Nat} {xs : List Value} (h : St w0 w W g s a bad v n xs) (v0 v1 v2 v3 v4 v5 : Value) :
    After w0 w ((((((W.setCell ⟨w.heap.size, 0, none⟩ v0).setCell ⟨w.heap.size, 1, none⟩ v1).setCell ⟨w.heap.size, 2, none⟩ v2).setCell ⟨w.heap.size, 3, none⟩ v3).setCell ⟨w.heap.size, 4, none⟩ v4).setCell ⟨w.heap.size, 5, none⟩ v5) g s a bad ∧
      ((((((W.setCell ⟨w.heap.size, 0, none⟩ v0).setCell ⟨w.heap.size, 1, none⟩ v1).setCell ⟨w.heap.size, 2, none⟩ v2).setCell ⟨w.heap.size, 3, none⟩ v3).setCell ⟨w.heap.size, 4, none⟩ v4).setCell ⟨w.heap.size, 5, none⟩ v5).ownsRow w.heap.size 30 6 v n xs := by
  have hne : g ≠ w.heap.size := by have := h.gw; omega
  have hBs := h.w0w
  have hle := Nat.le_refl w.heap.size
  have hl : w.heap.size < w.heap.size + 2 := by omega
  refine ⟨⟨(((((h.sc.far hne _).far hne _).far hne _).far hne _).far hne _).far hne _, below_set (below_set (below_set (below_set (below_set (below_set h.below hBs) hBs) hBs) hBs) hBs) hBs, keep_far (keep_far (keep_far (keep_far (keep_far (keep_far h.keep hle _) hle _) hle _) hle _) hle _) hle _⟩, ?_⟩
  exact (ownsRow_setCell_below (ownsRow_setCell_below (ownsRow_setCell_below (ownsRow_setCell_below (ownsRow_setCell_below (ownsRow_setCell_below h.kids hl _) hl _) hl _) hl _) hl _) hl _).mono (by omega)
set_option maxHeartbeats 1000000 in
set_option maxRecDepth 100000 in
theorem call_ok (k g : Nat) (s : ByteArray) (a0 a1 a2 a3 a4 a5 n1 n2 : Int) (o1 t1 o2 t2 : ByteArray) (w0 w : World) (hI : IsS48 w0 w g s a0 false) (hB : Below w0.heap.size w0 w)
    (H1 : Hid (expr_scanner_sign.f k s a0 false 40 = some (s, a1, false)))
    (K1 : Hid (∀ W, IsS48 w0 W g s a1 false → Below w0.heap.size w0 W → Calls Tryd.prog 11 #[.pointer (some ⟨g, 0, none⟩), .int .i64 23] W fun e W' => e = .returned (.agg #[.string o1, .int .i64 n1, .string t1, .int .i64 0, .slice none 0 0, .slice none 0 0]) ∧ After w0 W W' g s a2 false))
    (H2 : Hid (expr_scanner_sign.f k s a2 false 44 = some (s, a3, false)))
    (K2 : Hid (∀ W, IsS48 w0 W g s a3 false → Below w0.heap.size w0 W → Calls Tryd.prog 11 #[.pointer (some ⟨g, 0, none⟩), .int .i64 23] W fun e W' => e = .returned (.agg #[.string o2, .int .i64 n2, .string t2, .int .i64 0, .slice none 0 0, .slice none 0 0]) ∧ After w0 W W' g s a4 false))
    (H3 : Hid (expr_scanner_sign.f k s a4 false 41 = some (s, a5, false))) :
    Calls Tryd.prog 26 #[.pointer (some ⟨g, 0, none⟩), .string ⟨#[97, 100, 100]⟩, .string ⟨#[101, 101]⟩, .int .i64 24] w fun e w' => ∃ A c, e = .returned (.agg #[.string ⟨#[97, 100, 100]⟩, .int .i64 0, .string ⟨#[]⟩, .int .i64 0, .slice none 0 0, .slice A 2 c]) ∧ After w0 w w' g s a5 false ∧ w'.ownsRow w.heap.size 30 6 (.slice A 2 c) 2 ([.string o1, .int .i64 n1, .string t1, .int .i64 0, .slice none 0 0, .slice none 0 0] ++ [.string o2, .int .i64 n2, .string t2, .int .i64 0, .slice none 0 0, .slice none 0 0]) := by
  obtain ⟨i0, hi0, hz0, hz1, hz2⟩ := info_parts info30
  have S0 := Lib.hid (St.start hI hB)
  have b2 := cellS48_2 hI.1
  have hlt := hI.lt
  clear hI hB
  go_enter Tryd.func26, Tryd.ntmps26
  go_wp2_with fail
  refine wp_loop_rounds 3 ?_
  rw [rounds_succ]
  go_wp2_with fail
  refine (expr_scanner_sign.calls k g s a0 false 40 _ _ _ w0 _ S0.out.sc S0.out.below H1.out).mono ?_
  rintro e w1 ⟨rfl, hi, hb, hk⟩
  have S1 := Lib.hid (S0.out.after ⟨hi, hb, hk⟩)
  clear b2
  have b2 := cellS48_2 hi.1
  have hn5 : w1.cell? ⟨w.heap.size + 1, 5, none⟩ = some (.slice none 0 0) := (blk_cell S1.out.node 5).trans rfl
  have fn5 : w1.frozen? ⟨w.heap.size + 1, 5, none⟩ = false := blk_frozen S1.out.node 5
  clear hi hb hk
  go_wp2_with fail
  refine start_ (n := 10) (S := fun w' => w'.cell? ⟨w.heap.size + 1, 5, none⟩ = some (.slice none 0 0)) (ds := [9]) #[false, false, false, false, false, false, false, false, false, false] (by kernel_rfl) rfl rfl S1.out.drew.n5 (fun hHeld => ?_)
  have Sd := Lib.hid S1.out.drew
  generalize w1.drew = wd at Sd hHeld ⊢
  refine pure_ (i := 0) (N := some 37) (v := ?_) (a' := ?_) #[true, false, false, false, false, false, false, false, false, false] rfl rfl (by kernel_rfl) (fun _ _ _ h => h) (Or.inl ⟨by rfl, ?_⟩) ?_ ?_
  rotate_left
  · intro w'
    go_simp
    with_reducible rfl
  rotate_left
  · simp only [Act.put, List.setIfInBounds_toArray, List.set_cons_zero, List.set_cons_succ, i64_w, i32_w, wrap23]
    rfl
  refine take_ (i := 1) (N := some 38) (v := ?_) (a' := ?_) #[true, true, false, false, false, false, false, false, false, false] rfl rfl (by kernel_rfl) (fun _ _ _ h => h) (Or.inl ⟨by rfl, ?_⟩) (by assumption) ?_ ?_
  rotate_left
  · intro w' hSw
    try dsimp only at hSw
    go_simp
    with_reducible rfl
  rotate_left
  · simp only [Act.put, List.setIfInBounds_toArray, List.set_cons_zero, List.set_cons_succ, i64_w, i32_w, wrap23]
    rfl
  refine pure_ (i := 2) (N := some 39) (v := ?_) (a' := ?_) #[true, true, true, false, false, false, false, false, false, false] rfl rfl (by kernel_rfl) (fun _ _ _ h => h) (Or.inl ⟨by rfl, ?_⟩) ?_ ?_
  rotate_left
  · intro w'
    go_simp
    with_reducible rfl
  rotate_left
  · simp only [Act.put, List.setIfInBounds_toArray, List.set_cons_zero, List.set_cons_succ, i64_w, i32_w, wrap23]
    rfl
  refine pure_ (i := 3) (N := some 40) (v := ?_) (a' := ?_) #[true, true, true, true, false, false, false, false, false, false] rfl rfl (by kernel_rfl) (fun _ _ _ h => h) (Or.inl ⟨by rfl, ?_⟩) ?_ ?_
  rotate_left
  · intro w'
    go_simp
    with_reducible rfl
  rotate_left
  · simp only [Act.put, List.setIfInBounds_toArray, List.set_cons_zero, List.set_cons_succ, i64_w, i32_w, wrap23]
    rfl
  refine pure_ (i := 4) (N := some 41) (v := ?_) (a' := ?_) #[true, true, true, true, true, false, false, false, false, false] rfl rfl (by kernel_rfl) (fun _ _ _ h => h) (Or.inl ⟨by rfl, ?_⟩) ?_ ?_
  rotate_left
  · intro w'
    go_simp
    with_reducible rfl
  rotate_left
  · simp only [Act.put, List.setIfInBounds_toArray, List.set_cons_zero, List.set_cons_succ, i64_w, i32_w, wrap23]
    rfl
  refine one_ (i := 5) (N := some 42) #[true, true, true, true, true, true, false, false, false, false] rfl rfl (by kernel_rfl) (by decide) (fun K hK => ?_)
  refine goes_ Tryd.func11 (by kernel_rfl) rfl #[.pointer (some ⟨g, 0, none⟩), .int .i64 23] (by rfl) rfl rfl (by (try simp only [List.map_toArray, List.map_cons, List.map_nil]); first | done | rfl) ?_
  refine (K1.out _ Sd.out.sc Sd.out.below).mono ?_
  rintro e wc ⟨rfl, hA⟩
  refine ⟨_, rfl, ?_⟩
  have Sc := Lib.hid (Sd.out.after hA)
  clear hA Sd
  refine hK.out _ _ Sc.out.n5 (fun hHeld => ?_)
  clear hK K
  refine norm_ (a' := ?_) ?_ ?_
  rotate_left
  · show Act.put _ (some 42) _ = _
    simp only [Act.put, List.setIfInBounds_toArray, List.set_cons_zero, List.set_cons_succ, i64_w, i32_w, wrap23]
    rfl
  refine one_ (i := 6) (N := some 43) #[true, true, true, true, true, true, true, false, false, false] rfl rfl (by kernel_rfl) (by decide) (fun K hK => ?_)
  refine value_ (w1 := ?_) (v := ?_) (by rfl) rfl ?_ ?_
  rotate_left 2
  · go_simp
    constructor
    · rfl
    · rfl
  refine hK.out _ _ ((blk_cell (blk_alloc Sc.out.node _) 5).trans rfl) (fun hHeld => ?_)
  clear hK K
  refine norm_ (a' := ?_) ?_ ?_
  rotate_left
  · show Act.put _ (some 43) _ = _
    simp only [Act.put, List.setIfInBounds_toArray, List.set_cons_zero, List.set_cons_succ, i64_w, i32_w, wrap23]
    rfl
  refine one_ (i := 7) (N := some 44) #[true, true, true, true, true, true, true, true, false, false] rfl rfl (by kernel_rfl) (by decide) (fun K hK => ?_)
  refine step_append_lies _ rfl (.tmp 38) (.tmp 43) 28 rfl (w.heap.size + 2) 30 i0 _ 6 _ Tryd.underlying28 hi0 hz0 hz1 hz2 rfl (by decide) _ 0 _ rfl (Sc.out.kids.alloc _) _ 1 1 [.string o1, .int .i64 n1, .string t1, .int .i64 0, .slice none 0 0, .slice none 0 0] rfl rfl (World.news_of_block (heap_alloc_new wc _)) ?_ (by decide) (by decide) (by decide) ?_ _ rfl ?_
  · intro u hu; simp at hu; rcases hu with rfl | rfl | rfl | rfl | rfl | rfl <;> rfl
  · have := Sc.out.base; simp; omega
  intro bS2 cS2 wa hown hgrow hat _
  have S2 := Lib.hid (Sc.out.put hown hgrow)
  refine hK.out _ _ (((blk_cell (blk_grown (blk_alloc Sc.out.node _) hgrow (by intro e; have := (Sc.out.kids.lt _ e.symm).1; omega)) 5).trans rfl)) (fun hHeld => ?_)
  have hf5 : wa.frozen? ⟨w.heap.size + 1, 5, none⟩ = false := blk_frozen (blk_grown (blk_alloc Sc.out.node _) hgrow (by intro e; have := (Sc.out.kids.lt _ e.symm).1; omega)) 5
  clear hK K hown hgrow hat Sc
  refine norm_ (a' := ?_) ?_ ?_
  rotate_left
  · show Act.put _ (some 44) _ = _
    simp only [Act.put, List.setIfInBounds_toArray, List.set_cons_zero, List.set_cons_succ, i64_w, i32_w, wrap23]
    rfl
  refine pure_ (i := 8) (N := some 45) (v := ?_) (a' := ?_) #[true, true, true, true, true, true, true, true, true, false] rfl rfl (by kernel_rfl) (fun _ _ _ h => h) (Or.inl ⟨by rfl, ?_⟩) ?_ ?_
  rotate_left
  · intro w'
    go_simp
    with_reducible rfl
  rotate_left
  · simp only [Act.put, List.setIfInBounds_toArray, List.set_cons_zero, List.set_cons_succ, i64_w, i32_w, wrap23]
    rfl
  refine last_ (i := 9) (N := none) #[true, true, true, true, true, true, true, true, true, true] rfl rfl (by kernel_rfl) (by decide) (fun K hK => ?_)
  refine skip_ (w1 := ?_) (by rfl) rfl ?_ ?_
  rotate_left
  · go_simp
    rfl
  refine hK.out _ _ ?_
  clear hK K hHeld hf5
  refine done_ (by kernel_rfl) ?_
  generalize wa.setCell ⟨w.heap.size + 1, 5, none⟩ (.slice (some ⟨bS2, 0, none⟩) (0 + 1) cS2) = W2 at S2 ⊢
  clear b2 hn5 fn5
  have b2 := cellS48_2 S2.out.sc.1
  go_wp2_with fail
  rw [rounds_succ]
  go_wp2_with fail
  refine (expr_scanner_sign.calls k g s a2 false 44 _ _ _ w0 _ S2.out.sc S2.out.below H2.out).mono ?_
  rintro e w3 ⟨rfl, hi, hb, hk⟩
  have S3 := Lib.hid (S2.out.after ⟨hi, hb, hk⟩)
  clear b2
  have b2 := cellS48_2 hi.1
  have hn5 : w3.cell? ⟨w.heap.size + 1, 5, none⟩ = some (.slice (some ⟨bS2, 0, none⟩) (0 + 1) cS2) := S3.out.n5
  clear hi hb hk
  go_wp2_with fail
  refine start_ (n := 10) (S := fun w' => w'.cell? ⟨w.heap.size + 1, 5, none⟩ = some (.slice (some ⟨bS2, 0, none⟩) (0 + 1) cS2)) (ds := [9]) #[false, false, false, false, false, false, false, false, false, false] (by kernel_rfl) rfl rfl S3.out.drew.n5 (fun hHeld => ?_)
  have Sd := Lib.hid S3.out.drew
  generalize w3.drew = wd at Sd hHeld ⊢
  refine pure_ (i := 0) (N := some 37) (v := ?_) (a' := ?_) #[true, false, false, false, false, false, false, false, false, false] rfl rfl (by kernel_rfl) (fun _ _ _ h => h) (Or.inl ⟨by rfl, ?_⟩) ?_ ?_
  rotate_left
  · intro w'
    go_simp
    with_reducible rfl
  rotate_left
  · simp only [Act.put, List.setIfInBounds_toArray, List.set_cons_zero, List.set_cons_succ, i64_w, i32_w, wrap23]
    rfl
  refine take_ (i := 1) (N := some 38) (v := ?_) (a' := ?_) #[true, true, false, false, false, false, false, false, false, false] rfl rfl (by kernel_rfl) (fun _ _ _ h => h) (Or.inl ⟨by rfl, ?_⟩) (by assumption) ?_ ?_
  rotate_left
  · intro w' hSw
    try dsimp only at hSw
    go_simp
    with_reducible rfl
  rotate_left
  · simp only [Act.put, List.setIfInBounds_toArray, List.set_cons_zero, List.set_cons_succ, i64_w, i32_w, wrap23]
    rfl
  refine pure_ (i := 2) (N := some 39) (v := ?_) (a' := ?_) #[true, true, true, false, false, false, false, false, false, false] rfl rfl (by kernel_rfl) (fun _ _ _ h => h) (Or.inl ⟨by rfl, ?_⟩) ?_ ?_
  rotate_left
  · intro w'
    go_simp
    with_reducible rfl
  rotate_left
  · simp only [Act.put, List.setIfInBounds_toArray, List.set_cons_zero, List.set_cons_succ, i64_w, i32_w, wrap23]
    rfl
  refine pure_ (i := 3) (N := some 40) (v := ?_) (a' := ?_) #[true, true, true, true, false, false, false, false, false, false] rfl rfl (by kernel_rfl) (fun _ _ _ h => h) (Or.inl ⟨by rfl, ?_⟩) ?_ ?_
  rotate_left
  · intro w'
    go_simp
    with_reducible rfl
  rotate_left
  · simp only [Act.put, List.setIfInBounds_toArray, List.set_cons_zero, List.set_cons_succ, i64_w, i32_w, wrap23]
    rfl
  refine pure_ (i := 4) (N := some 41) (v := ?_) (a' := ?_) #[true, true, true, true, true, false, false, false, false, false] rfl rfl (by kernel_rfl) (fun _ _ _ h => h) (Or.inl ⟨by rfl, ?_⟩) ?_ ?_
  rotate_left
  · intro w'
    go_simp
    with_reducible rfl
  rotate_left
  · simp only [Act.put, List.setIfInBounds_toArray, List.set_cons_zero, List.set_cons_succ, i64_w, i32_w, wrap23]
    rfl
  refine one_ (i := 5) (N := some 42) #[true, true, true, true, true, true, false, false, false, false] rfl rfl (by kernel_rfl) (by decide) (fun K hK => ?_)
  refine goes_ Tryd.func11 (by kernel_rfl) rfl #[.pointer (some ⟨g, 0, none⟩), .int .i64 23] (by rfl) rfl rfl (by (try simp only [List.map_toArray, List.map_cons, List.map_nil]); first | done | rfl) ?_
  refine (K2.out _ Sd.out.sc Sd.out.below).mono ?_
  rintro e wc ⟨rfl, hA⟩
  refine ⟨_, rfl, ?_⟩
  have Sc := Lib.hid (Sd.out.after hA)
  clear hA Sd
  refine hK.out _ _ Sc.out.n5 (fun hHeld => ?_)
  clear hK K
  refine norm_ (a' := ?_) ?_ ?_
  rotate_left
  · show Act.put _ (some 42) _ = _
    simp only [Act.put, List.setIfInBounds_toArray, List.set_cons_zero, List.set_cons_succ, i64_w, i32_w, wrap23]
    rfl
  refine one_ (i := 6) (N := some 43) #[true, true, true, true, true, true, true, false, false, false] rfl rfl (by kernel_rfl) (by decide) (fun K hK => ?_)
  refine value_ (w1 := ?_) (v := ?_) (by rfl) rfl ?_ ?_
  rotate_left 2
  · go_simp
    constructor
    · rfl
    · rfl
  refine hK.out _ _ ((blk_cell (blk_alloc Sc.out.node _) 5).trans rfl) (fun hHeld => ?_)
  clear hK K
  refine norm_ (a' := ?_) ?_ ?_
  rotate_left
  · show Act.put _ (some 43) _ = _
    simp only [Act.put, List.setIfInBounds_toArray, List.set_cons_zero, List.set_cons_succ, i64_w, i32_w, wrap23]
    rfl
  refine one_ (i := 7) (N := some 44) #[true, true, true, true, true, true, true, true, false, false] rfl rfl (by kernel_rfl) (by decide) (fun K hK => ?_)
  refine step_append_lies _ rfl (.tmp 38) (.tmp 43) 28 rfl (w.heap.size + 2) 30 i0 _ 6 _ Tryd.underlying28 hi0 hz0 hz1 hz2 rfl (by decide) _ 1 _ rfl (Sc.out.kids.alloc _) _ 1 1 [.string o2, .int .i64 n2, .string t2, .int .i64 0, .slice none 0 0, .slice none 0 0] rfl rfl (World.news_of_block (heap_alloc_new wc _)) ?_ (by decide) (by decide) (by decide) ?_ _ rfl ?_
  · intro u hu; simp at hu; rcases hu with rfl | rfl | rfl | rfl | rfl | rfl <;> rfl
  · have := Sc.out.base; simp; omega
  intro bS4 cS4 wa hown hgrow hat _
  have S4 := Lib.hid (Sc.out.put hown hgrow)
  refine hK.out _ _ (((blk_cell (blk_grown (blk_alloc Sc.out.node _) hgrow (by intro e; have := (Sc.out.kids.lt _ e.symm).1; omega)) 5).trans rfl)) (fun hHeld => ?_)
  have hf5 : wa.frozen? ⟨w.heap.size + 1, 5, none⟩ = false := blk_frozen (blk_grown (blk_alloc Sc.out.node _) hgrow (by intro e; have := (Sc.out.kids.lt _ e.symm).1; omega)) 5
  clear hK K hown hgrow hat Sc
  refine norm_ (a' := ?_) ?_ ?_
  rotate_left
  · show Act.put _ (some 44) _ = _
    simp only [Act.put, List.setIfInBounds_toArray, List.set_cons_zero, List.set_cons_succ, i64_w, i32_w, wrap23]
    rfl
  refine pure_ (i := 8) (N := some 45) (v := ?_) (a' := ?_) #[true, true, true, true, true, true, true, true, true, false] rfl rfl (by kernel_rfl) (fun _ _ _ h => h) (Or.inl ⟨by rfl, ?_⟩) ?_ ?_
  rotate_left
  · intro w'
    go_simp
    with_reducible rfl
  rotate_left
  · simp only [Act.put, List.setIfInBounds_toArray, List.set_cons_zero, List.set_cons_succ, i64_w, i32_w, wrap23]
    rfl
  refine last_ (i := 9) (N := none) #[true, true, true, true, true, true, true, true, true, true] rfl rfl (by kernel_rfl) (by decide) (fun K hK => ?_)
  refine skip_ (w1 := ?_) (by rfl) rfl ?_ ?_
  rotate_left
  · go_simp
    rfl
  refine hK.out _ _ ?_
  clear hK K hHeld hf5
  refine done_ (by kernel_rfl) ?_
  generalize wa.setCell ⟨w.heap.size + 1, 5, none⟩ (.slice (some ⟨bS4, 0, none⟩) (1 + 1) cS4) = W4 at S4 ⊢
  clear b2 hn5
  have b2 := cellS48_2 S4.out.sc.1
  go_wp2_with fail
  rw [rounds_succ]
  go_wp2_with fail
  refine (expr_scanner_sign.calls k g s a4 false 41 _ _ _ w0 _ S4.out.sc S4.out.below H3.out).mono ?_
  rintro e w5 ⟨rfl, hi, hb, hk⟩
  have S5 := Lib.hid (S4.out.after ⟨hi, hb, hk⟩)
  clear b2 hi hb hk
  have m0 : w5.cell? ⟨w.heap.size + 1, 0, none⟩ = some (.string ⟨#[97, 100, 100]⟩) := (blk_cell S5.out.node 0).trans rfl
  have m1 : w5.cell? ⟨w.heap.size + 1, 1, none⟩ = some (.int .i64 0) := (blk_cell S5.out.node 1).trans rfl
  have m2 : w5.cell? ⟨w.heap.size + 1, 2, none⟩ = some (.string ⟨#[]⟩) := (blk_cell S5.out.node 2).trans rfl
  have m3 : w5.cell? ⟨w.heap.size + 1, 3, none⟩ = some (.int .i64 0) := (blk_cell S5.out.node 3).trans rfl
  have m4 : w5.cell? ⟨w.heap.size + 1, 4, none⟩ = some (.slice none 0 0) := (blk_cell S5.out.node 4).trans rfl
  have m5 : w5.cell? ⟨w.heap.size + 1, 5, none⟩ = some (.slice (some ⟨bS4, 0, none⟩) (1 + 1) cS4) := (blk_cell S5.out.node 5).trans rfl
  have q0 : w5.cell? ⟨w.heap.size, 0, none⟩ = some (.string ⟨#[]⟩) := (blk_cell S5.out.res 0).trans rfl
  have q1 : w5.cell? ⟨w.heap.size, 1, none⟩ = some (.int .i64 0) := (blk_cell S5.out.res 1).trans rfl
  have q2 : w5.cell? ⟨w.heap.size, 2, none⟩ = some (.string ⟨#[]⟩) := (blk_cell S5.out.res 2).trans rfl
  have q3 : w5.cell? ⟨w.heap.size, 3, none⟩ = some (.int .i64 0) := (blk_cell S5.out.res 3).trans rfl
  have q4 : w5.cell? ⟨w.heap.size, 4, none⟩ = some (.slice none 0 0) := (blk_cell S5.out.res 4).trans rfl
  have q5 : w5.cell? ⟨w.heap.size, 5, none⟩ = some (.slice none 0 0) := (blk_cell S5.out.res 5).trans rfl
  have z0 : w5.frozen? ⟨w.heap.size, 0, none⟩ = false := blk_frozen S5.out.res 0
  have z1 : w5.frozen? ⟨w.heap.size, 1, none⟩ = false := blk_frozen S5.out.res 1
  have z2 : w5.frozen? ⟨w.heap.size, 2, none⟩ = false := blk_frozen S5.out.res 2
  have z3 : w5.frozen? ⟨w.heap.size, 3, none⟩ = false := blk_frozen S5.out.res 3
  have z4 : w5.frozen? ⟨w.heap.size, 4, none⟩ = false := blk_frozen S5.out.res 4
  have z5 : w5.frozen? ⟨w.heap.size, 5, none⟩ = false := blk_frozen S5.out.res 5
  go_wp2_with fail
  refine bodyPost_ret (v := .agg #[.string ⟨#[97, 100, 100]⟩, .int .i64 0, .string ⟨#[]⟩, .int .i64 0, .slice none 0 0, .slice (some ⟨bS4, 0, none⟩) 2 cS4]) (by simp [results, Tryd.results26, go_sem, q0, q1, q2, q3, q4, q5]) rfl ⟨_, _, rfl, S5.out.finish _ _ _ _ _ _⟩

set_option maxHeartbeats 1000000 in
set_option maxRecDepth 100000 in
theorem call_bad (k g : Nat) (s : ByteArray) (a0 a1 a2 a3 n1 : Int) (o1 t1 : ByteArray) (w0 w : World) (hI : IsS48 w0 w g s a0 false) (hB : Below w0.heap.size w0 w)
    (H1 : Hid (expr_scanner_sign.f k s a0 false 40 = some (s, a1, false)))
    (K1 : Hid (∀ W, IsS48 w0 W g s a1 false → Below w0.heap.size w0 W → Calls Tryd.prog 11 #[.pointer (some ⟨g, 0, none⟩), .int .i64 23] W fun e W' => e = .returned (.agg #[.string o1, .int .i64 n1, .string t1, .int .i64 0, .slice none 0 0, .slice none 0 0]) ∧ After w0 W W' g s a2 false))
    (H2 : Hid (expr_scanner_sign.f k s a2 false 44 = some (s, a3, true)))
    (H3 : Hid (expr_scanner_sign.f k s a3 true 41 = some (s, a3, true))) :
    Calls Tryd.prog 26 #[.pointer (some ⟨g, 0, none⟩), .string ⟨#[97, 100, 100]⟩, .string ⟨#[101, 101]⟩, .int .i64 24] w fun e w' => ∃ A c, e = .returned (.agg #[.string ⟨#[97, 100, 100]⟩, .int .i64 0, .string ⟨#[]⟩, .int .i64 0, .slice none 0 0, .slice A 1 c]) ∧ After w0 w w' g s a3 true ∧ w'.ownsRow w.heap.size 30 6 (.slice A 1 c) 1 [.string o1, .int .i64 n1, .string t1, .int .i64 0, .slice none 0 0, .slice none 0 0] := by
  obtain ⟨i0, hi0, hz0, hz1, hz2⟩ := info_parts info30
  have S0 := Lib.hid (St.start hI hB)
  have b2 := cellS48_2 hI.1
  have hlt := hI.lt
  clear hI hB
  go_enter Tryd.func26, Tryd.ntmps26
  go_wp2_with fail
  refine wp_loop_rounds 3 ?_
  rw [rounds_succ]
  go_wp2_with fail
  refine (expr_scanner_sign.calls k g s a0 false 40 _ _ _ w0 _ S0.out.sc S0.out.below H1.out).mono ?_
  rintro e w1 ⟨rfl, hi, hb, hk⟩
  have S1 := Lib.hid (S0.out.after ⟨hi, hb, hk⟩)
  clear b2
  have b2 := cellS48_2 hi.1
  have hn5 : w1.cell? ⟨w.heap.size + 1, 5, none⟩ = some (.slice none 0 0) := (blk_cell S1.out.node 5).trans rfl
  have fn5 : w1.frozen? ⟨w.heap.size + 1, 5, none⟩ = false := blk_frozen S1.out.node 5
  clear hi hb hk
  go_wp2_with fail
  refine start_ (n := 10) (S := fun w' => w'.cell? ⟨w.heap.size + 1, 5, none⟩ = some (.slice none 0 0)) (ds := [9]) #[false, false, false, false, false, false, false, false, false, false] (by kernel_rfl) rfl rfl S1.out.drew.n5 (fun hHeld => ?_)
  have Sd := Lib.hid S1.out.drew
  generalize w1.drew = wd at Sd hHeld ⊢
  refine pure_ (i := 0) (N := some 37) (v := ?_) (a' := ?_) #[true, false, false, false, false, false, false, false, false, false] rfl rfl (by kernel_rfl) (fun _ _ _ h => h) (Or.inl ⟨by rfl, ?_⟩) ?_ ?_
  rotate_left
  · intro w'
    go_simp
    with_reducible rfl
  rotate_left
  · simp only [Act.put, List.setIfInBounds_toArray, List.set_cons_zero, List.set_cons_succ, i64_w, i32_w, wrap23]
    rfl
  refine take_ (i := 1) (N := some 38) (v := ?_) (a' := ?_) #[true, true, false, false, false, false, false, false, false, false] rfl rfl (by kernel_rfl) (fun _ _ _ h => h) (Or.inl ⟨by rfl, ?_⟩) (by assumption) ?_ ?_
  rotate_left
  · intro w' hSw
    try dsimp only at hSw
    go_simp
    with_reducible rfl
  rotate_left
  · simp only [Act.put, List.setIfInBounds_toArray, List.set_cons_zero, List.set_cons_succ, i64_w, i32_w, wrap23]
    rfl
  refine pure_ (i := 2) (N := some 39) (v := ?_) (a' := ?_) #[true, true, true, false, false, false, false, false, false, false] rfl rfl (by kernel_rfl) (fun _ _ _ h => h) (Or.inl ⟨by rfl, ?_⟩) ?_ ?_
  rotate_left
  · intro w'
    go_simp
    with_reducible rfl
  rotate_left
  · simp only [Act.put, List.setIfInBounds_toArray, List.set_cons_zero, List.set_cons_succ, i64_w, i32_w, wrap23]
    rfl
  refine pure_ (i := 3) (N := some 40) (v := ?_) (a' := ?_) #[true, true, true, true, false, false, false, false, false, false] rfl rfl (by kernel_rfl) (fun _ _ _ h => h) (Or.inl ⟨by rfl, ?_⟩) ?_ ?_
  rotate_left
  · intro w'
    go_simp
    with_reducible rfl
  rotate_left
  · simp only [Act.put, List.setIfInBounds_toArray, List.set_cons_zero, List.set_cons_succ, i64_w, i32_w, wrap23]
    rfl
  refine pure_ (i := 4) (N := some 41) (v := ?_) (a' := ?_) #[true, true, true, true, true, false, false, false, false, false] rfl rfl (by kernel_rfl) (fun _ _ _ h => h) (Or.inl ⟨by rfl, ?_⟩) ?_ ?_
  rotate_left
  · intro w'
    go_simp
    with_reducible rfl
  rotate_left
  · simp only [Act.put, List.setIfInBounds_toArray, List.set_cons_zero, List.set_cons_succ, i64_w, i32_w, wrap23]
    rfl
  refine one_ (i := 5) (N := some 42) #[true, true, true, true, true, true, false, false, false, false] rfl rfl (by kernel_rfl) (by decide) (fun K hK => ?_)
  refine goes_ Tryd.func11 (by kernel_rfl) rfl #[.pointer (some ⟨g, 0, none⟩), .int .i64 23] (by rfl) rfl rfl (by (try simp only [List.map_toArray, List.map_cons, List.map_nil]); first | done | rfl) ?_
  refine (K1.out _ Sd.out.sc Sd.out.below).mono ?_
  rintro e wc ⟨rfl, hA⟩
  refine ⟨_, rfl, ?_⟩
  have Sc := Lib.hid (Sd.out.after hA)
  clear hA Sd
  refine hK.out _ _ Sc.out.n5 (fun hHeld => ?_)
  clear hK K
  refine norm_ (a' := ?_) ?_ ?_
  rotate_left
  · show Act.put _ (some 42) _ = _
    simp only [Act.put, List.setIfInBounds_toArray, List.set_cons_zero, List.set_cons_succ, i64_w, i32_w, wrap23]
    rfl
  refine one_ (i := 6) (N := some 43) #[true, true, true, true, true, true, true, false, false, false] rfl rfl (by kernel_rfl) (by decide) (fun K hK => ?_)
  refine value_ (w1 := ?_) (v := ?_) (by rfl) rfl ?_ ?_
  rotate_left 2
  · go_simp
    constructor
    · rfl
    · rfl
  refine hK.out _ _ ((blk_cell (blk_alloc Sc.out.node _) 5).trans rfl) (fun hHeld => ?_)
  clear hK K
  refine norm_ (a' := ?_) ?_ ?_
  rotate_left
  · show Act.put _ (some 43) _ = _
    simp only [Act.put, List.setIfInBounds_toArray, List.set_cons_zero, List.set_cons_succ, i64_w, i32_w, wrap23]
    rfl
  refine one_ (i := 7) (N := some 44) #[true, true, true, true, true, true, true, true, false, false] rfl rfl (by kernel_rfl) (by decide) (fun K hK => ?_)
  refine step_append_lies _ rfl (.tmp 38) (.tmp 43) 28 rfl (w.heap.size + 2) 30 i0 _ 6 _ Tryd.underlying28 hi0 hz0 hz1 hz2 rfl (by decide) _ 0 _ rfl (Sc.out.kids.alloc _) _ 1 1 [.string o1, .int .i64 n1, .string t1, .int .i64 0, .slice none 0 0, .slice none 0 0] rfl rfl (World.news_of_block (heap_alloc_new wc _)) ?_ (by decide) (by decide) (by decide) ?_ _ rfl ?_
  · intro u hu; simp at hu; rcases hu with rfl | rfl | rfl | rfl | rfl | rfl <;> rfl
  · have := Sc.out.base; simp; omega
  intro bS2 cS2 wa hown hgrow hat _
  have S2 := Lib.hid (Sc.out.put hown hgrow)
  refine hK.out _ _ (((blk_cell (blk_grown (blk_alloc Sc.out.node _) hgrow (by intro e; have := (Sc.out.kids.lt _ e.symm).1; omega)) 5).trans rfl)) (fun hHeld => ?_)
  have hf5 : wa.frozen? ⟨w.heap.size + 1, 5, none⟩ = false := blk_frozen (blk_grown (blk_alloc Sc.out.node _) hgrow (by intro e; have := (Sc.out.kids.lt _ e.symm).1; omega)) 5
  clear hK K hown hgrow hat Sc
  refine norm_ (a' := ?_) ?_ ?_
  rotate_left
  · show Act.put _ (some 44) _ = _
    simp only [Act.put, List.setIfInBounds_toArray, List.set_cons_zero, List.set_cons_succ, i64_w, i32_w, wrap23]
    rfl
  refine pure_ (i := 8) (N := some 45) (v := ?_) (a' := ?_) #[true, true, true, true, true, true, true, true, true, false] rfl rfl (by kernel_rfl) (fun _ _ _ h => h) (Or.inl ⟨by rfl, ?_⟩) ?_ ?_
  rotate_left
  · intro w'
    go_simp
    with_reducible rfl
  rotate_left
  · simp only [Act.put, List.setIfInBounds_toArray, List.set_cons_zero, List.set_cons_succ, i64_w, i32_w, wrap23]
    rfl
  refine last_ (i := 9) (N := none) #[true, true, true, true, true, true, true, true, true, true] rfl rfl (by kernel_rfl) (by decide) (fun K hK => ?_)
  refine skip_ (w1 := ?_) (by rfl) rfl ?_ ?_
  rotate_left
  · go_simp
    rfl
  refine hK.out _ _ ?_
  clear hK K hHeld hf5
  refine done_ (by kernel_rfl) ?_
  generalize wa.setCell ⟨w.heap.size + 1, 5, none⟩ (.slice (some ⟨bS2, 0, none⟩) (0 + 1) cS2) = W2 at S2 ⊢
  clear b2 hn5 fn5
  have b2 := cellS48_2 S2.out.sc.1
  go_wp2_with fail
  rw [rounds_succ]
  go_wp2_with fail
  refine (expr_scanner_sign.calls k g s a2 false 44 _ _ _ w0 _ S2.out.sc S2.out.below H2.out).mono ?_
  rintro e w3 ⟨rfl, hi, hb, hk⟩
  have S3 := Lib.hid (S2.out.after ⟨hi, hb, hk⟩)
  clear b2
  have b2 := cellS48_2 hi.1
  clear hi hb hk
  go_wp2_with fail
  refine (expr_scanner_sign.calls k g s a3 true 41 _ _ _ w0 _ S3.out.sc S3.out.below H3.out).mono ?_
  rintro e w5 ⟨rfl, hi, hb, hk⟩
  have S5 := Lib.hid (S3.out.after ⟨hi, hb, hk⟩)
  clear b2 hi hb hk
  have m0 : w5.cell? ⟨w.heap.size + 1, 0, none⟩ = some (.string ⟨#[97, 100, 100]⟩) := (blk_cell S5.out.node 0).trans rfl
  have m1 : w5.cell? ⟨w.heap.size + 1, 1, none⟩ = some (.int .i64 0) := (blk_cell S5.out.node 1).trans rfl
  have m2 : w5.cell? ⟨w.heap.size + 1, 2, none⟩ = some (.string ⟨#[]⟩) := (blk_cell S5.out.node 2).trans rfl
  have m3 : w5.cell? ⟨w.heap.size + 1, 3, none⟩ = some (.int .i64 0) := (blk_cell S5.out.node 3).trans rfl
  have m4 : w5.cell? ⟨w.heap.size + 1, 4, none⟩ = some (.slice none 0 0) := (blk_cell S5.out.node 4).trans rfl
  have m5 : w5.cell? ⟨w.heap.size + 1, 5, none⟩ = some (.slice (some ⟨bS2, 0, none⟩) (0 + 1) cS2) := (blk_cell S5.out.node 5).trans rfl
  have q0 : w5.cell? ⟨w.heap.size, 0, none⟩ = some (.string ⟨#[]⟩) := (blk_cell S5.out.res 0).trans rfl
  have q1 : w5.cell? ⟨w.heap.size, 1, none⟩ = some (.int .i64 0) := (blk_cell S5.out.res 1).trans rfl
  have q2 : w5.cell? ⟨w.heap.size, 2, none⟩ = some (.string ⟨#[]⟩) := (blk_cell S5.out.res 2).trans rfl
  have q3 : w5.cell? ⟨w.heap.size, 3, none⟩ = some (.int .i64 0) := (blk_cell S5.out.res 3).trans rfl
  have q4 : w5.cell? ⟨w.heap.size, 4, none⟩ = some (.slice none 0 0) := (blk_cell S5.out.res 4).trans rfl
  have q5 : w5.cell? ⟨w.heap.size, 5, none⟩ = some (.slice none 0 0) := (blk_cell S5.out.res 5).trans rfl
  have z0 : w5.frozen? ⟨w.heap.size, 0, none⟩ = false := blk_frozen S5.out.res 0
  have z1 : w5.frozen? ⟨w.heap.size, 1, none⟩ = false := blk_frozen S5.out.res 1
  have z2 : w5.frozen? ⟨w.heap.size, 2, none⟩ = false := blk_frozen S5.out.res 2
  have z3 : w5.frozen? ⟨w.heap.size, 3, none⟩ = false := blk_frozen S5.out.res 3
  have z4 : w5.frozen? ⟨w.heap.size, 4, none⟩ = false := blk_frozen S5.out.res 4
  have z5 : w5.frozen? ⟨w.heap.size, 5, none⟩ = false := blk_frozen S5.out.res 5
  go_wp2_with fail
  refine bodyPost_ret (v := .agg #[.string ⟨#[97, 100, 100]⟩, .int .i64 0, .string ⟨#[]⟩, .int .i64 0, .slice none 0 0, .slice (some ⟨bS2, 0, none⟩) 1 cS2]) (by simp [results, Tryd.results26, go_sem, q0, q1, q2, q3, q4, q5]) rfl ⟨_, _, rfl, S5.out.finish _ _ _ _ _ _⟩

end Go.Proofs.YtamfloegflejnaaDoor
