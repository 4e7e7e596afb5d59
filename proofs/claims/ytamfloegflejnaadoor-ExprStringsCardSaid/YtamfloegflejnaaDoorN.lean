/-
  expr's writer: what its node and its call write of a number, of a word that has no parts and of a word with two kids.
-/
import Derived.Test.YtamfloegflejnaaDoorB
import Derived.Test.YtamfloegflejnaaDoorShelf
import Derived.Test.YtamfloegflejnaaDoorPExprNumbersx1
import Derived.Lib.ItoaLen
import Derived.LoopN
set_option linter.unusedVariables false
set_option linter.unusedSimpArgs false
namespace Go.Proofs.YtamfloegflejnaaDoor
open Go.RowKit Go.Proofs.YtamfloegflejnaaDoorW.PrintWords Go.Proofs.YtamfloegflejnaaDoorW.PrintLast Go.Proofs.YtamfloegflejnaaDoorW.PrintMore PExprNumbers

/-- What a call of the writer's methods does to the world: the writer's block holds bs, everything below B stands, and every block that is not the writer's and no row of bytes. -/
structure Wrote (B b : Nat) (w w' : World) (bs : List Value) (bad : Bool) : Prop where
  wr : IsWr B b bs bad w'
  below : Below B w w'
  oth : Lib.OthersKept 5 (some b) w w'

theorem Wrote.trans {B b : Nat} {w w1 w2 : World} {bs bs' : List Value} {bad bad' : Bool} (h : Wrote B b w w1 bs bad) (k : Wrote B b w1 w2 bs' bad') : Wrote B b w w2 bs' bad' :=
  ⟨k.wr, h.below.trans k.below, h.oth.trans k.oth⟩

theorem WrAt.under {B b : Nat} {p : Value} {bs : List Value} {bad : Bool} {w w' : World} (h : WrAt B b p bs bad w) (hb : Below w.heap.size w w') : WrAt B b p bs bad w' := by
  have hlt := h.lt
  obtain ⟨hB, v, hk, hown, hne⟩ := h
  refine ⟨hB, v, by rw [hb.block b hlt]; exact hk, ?_, hne⟩
  obtain ⟨hl, hr⟩ := hown
  refine ⟨hl, ?_⟩
  rcases hr with hr | ⟨g, cap, cur, hv, hg, hh, r⟩
  · exact .inl hr
  · refine .inr ⟨g, cap, cur, hv, hg, ?_, r⟩
    have : g < w.heap.size := by
      rcases Nat.lt_or_ge g w.heap.size with h' | h'
      · exact h'
      · simp [Array.getElem?_eq_none h'] at hh
    rw [hb.block g this]; exact hh

theorem IsWr.under {B b : Nat} {bs : List Value} {bad : Bool} {w w' : World} (h : IsWr B b bs bad w) (hb : Below w.heap.size w w') : IsWr B b bs bad w' := by
  rcases h with h | h
  · exact .inl (h.under hb)
  · exact .inr (h.under hb)

theorem OthersKept.under {e : TypeId} {b : Option Nat} {w w' : World} (hb : Below w.heap.size w w') : Lib.OthersKept e b w w' := fun k o hk _ _ => by
  rw [hb.block k ?_]
  · exact hk
  · rcases Nat.lt_or_ge k w.heap.size with h' | h'
    · exact h'
    · simp [Array.getElem?_eq_none h'] at hk

/-- What leaves all that was there as it was leaves the writer, too. -/
theorem Wrote.quiet {B b : Nat} {w w' : World} {bs : List Value} {bad : Bool} (h : IsWr B b bs bad w) (hB : B ≤ w.heap.size) (hb : Below w.heap.size w w') : Wrote B b w w' bs bad :=
  ⟨h.under hb, hb.mono hB, OthersKept.under hb⟩

theorem Wrote.of {B b : Nat} {w w' : World} {bs : List Value} {bad : Bool} (h : WrAt B b (.pointer (some ⟨b, 0, none⟩)) bs bad w' ∧ Below B w w' ∧ Lib.OthersKept 5 (some b) w w') : Wrote B b w w' bs bad :=
  ⟨.inr h.1, h.2.1, h.2.2⟩

theorem Wrote.mark {B b : Nat} {w w' : World} {bs : List Value} {bad : Bool} (h : Wrote B b w w' bs bad) (c : Bool) : Wrote B b w (w'.setCell ⟨b, 2, none⟩ (.bool c)) bs c := by
  have hB : B ≤ b := by obtain ⟨p, hp⟩ := h.wr.ex; exact hp.1
  refine ⟨?_, h.below.setCell (p := ⟨b, 2, none⟩) hB _, h.oth.setCell ⟨b, 2, none⟩ rfl _⟩
  rcases h.wr with h | h
  · exact .inl (h.marked c)
  · exact .inr (h.marked c)

theorem Wrote.drew {B b : Nat} {w w' : World} {bs : List Value} {bad : Bool} (h : Wrote B b w w' bs bad) : Wrote B b w w'.drew bs bad := ⟨h.wr, Below.drew h.below, h.oth⟩
theorem Wrote.drewN {B b : Nat} {w w' : World} {bs : List Value} {bad : Bool} (h : Wrote B b w w' bs bad) (n : Nat) : Wrote B b w (w'.drewN n) bs bad := ⟨h.wr, pw_below_drewN h.below n, h.oth⟩
theorem Wrote.alloc {B b : Nat} {w w' : World} {bs : List Value} {bad : Bool} (h : Wrote B b w w' bs bad) (hB : B ≤ w'.heap.size) (o : Obj) : Wrote B b w (w'.alloc o) bs bad :=
  h.trans (Wrote.quiet h.wr hB (Below.alloc (Below.refl _ _) (Nat.le_refl _) o))

theorem Wrote.bad2 {B b : Nat} {w w' : World} {bs : List Value} {bad : Bool} (h : Wrote B b w w' bs bad) : w'.cell? ⟨b, 2, none⟩ = some (.bool bad) := by
  obtain ⟨p, _, v, hk, _⟩ := h.wr.ex
  rw [Lib.cell_of_heap hk]; rfl
theorem Wrote.free2 {B b : Nat} {w w' : World} {bs : List Value} {bad : Bool} (h : Wrote B b w w' bs bad) : w'.frozen? ⟨b, 2, none⟩ = false := by
  obtain ⟨p, _, v, hk, _⟩ := h.wr.ex
  exact Lib.frozen_of_heap hk 2
theorem Wrote.size {B b : Nat} {w w' : World} {bs : List Value} {bad : Bool} (h : Wrote B b w w' bs bad) : w.heap.size ≤ w'.heap.size := h.below.size
/-- A node's block stands. -/
theorem Wrote.node {B b : Nat} {w w' : World} {bs : List Value} {bad : Bool} (h : Wrote B b w w' bs bad) {k : Nat} {cs : Array Value} (hk : w.heap[k]? = some (.cells cs 30 (0, 0))) (hne : k ≠ b) : w'.heap[k]? = some (.cells cs 30 (0, 0)) :=
  h.oth k _ hk (by simpa using hne) (by intro c fz e; simp at e)

theorem str_bytes (l : List UInt8) : Lib.strCells ⟨l.toArray⟩ = Lib.byteCells l := rfl
theorem IsWr.lt {B b : Nat} {bs : List Value} {bad : Bool} {w : World} (h : IsWr B b bs bad w) : b < w.heap.size := by obtain ⟨p, hp⟩ := h.ex; exact hp.lt
theorem IsWr.refl {B b : Nat} {bs : List Value} {bad : Bool} {w : World} (h : IsWr B b bs bad w) : Wrote B b w w bs bad := ⟨h, Below.refl _ _, Lib.OthersKept.refl _ _ _⟩

/-- strconv.Itoa of this number gives its numeral, in every world of which T holds. -/
def ItoaAt (T : World → Prop) (n : Int) : Prop := ∀ W, T W → Calls Tryd.prog 16 #[.int .i64 n] W fun e W' => e = .returned (.string ⟨(Lib.itoa n).toArray⟩) ∧ Below W.heap.size W W'

theorem below_grow (w : World) (k : Nat) (os : Array Obj) : Below w.heap.size w (Go.Sort.grow (w.drewN k) os) :=
  ⟨rfl, rfl, rfl, by simp [Go.Sort.grow], fun i hi => Go.Sort.heap_grow_old (w.drewN k) os hi⟩

def Tab (w : World) : Prop := Lib.TabIs Tryd.prog w "internal/strconv.uint64pow10" .u64 Lib.pow10Tab
theorem itoa_tab (n : Int) (h0 : -9223372036854775808 ≤ n) (h1 : n ≤ 9223372036854775807) : ItoaAt Tab n := fun W hW =>
  (Tryd.strconv_Itoa n h0 h1 W hW).mono fun e W' ⟨he, k, os, hw⟩ => ⟨he, by rw [hw]; exact below_grow W k os⟩
theorem itoa_one : ItoaAt (fun _ => True) 1 := fun W _ =>
  (Tryd.strconv_Itoa_small 1 (by decide) W).mono fun e W' ⟨he, hw⟩ => ⟨by rw [he]; rfl, by rw [hw]; exact Below.refl _ _⟩
set_option maxHeartbeats 1000000 in
set_option maxRecDepth 100000 in
theorem bare_int (o : ByteArray) (i : Int) (w : World) : Calls Tryd.prog 14 #[.agg #[.string o, .int .i64 i, .string ⟨#[]⟩, .int .i64 0, .slice none 0 0, .slice none 0 0], .bool true, .bool false, .bool false, .bool false] w fun e w' => e = .returned (.bool true) ∧ w' = w.alloc (.cells #[.string o, .int .i64 i, .string ⟨#[]⟩, .int .i64 0, .slice none 0 0, .slice none 0 0] 30) := by
  go_enter Tryd.func14, Tryd.ntmps14
  go_wp2
  go_ret
  exact ⟨rfl, rfl⟩

set_option maxHeartbeats 1000000 in
set_option maxRecDepth 100000 in
theorem bare_text (o tx : ByteArray) (w : World) : Calls Tryd.prog 14 #[.agg #[.string o, .int .i64 0, .string tx, .int .i64 0, .slice none 0 0, .slice none 0 0], .bool false, .bool true, .bool false, .bool false] w fun e w' => e = .returned (.bool true) ∧ w' = w.alloc (.cells #[.string o, .int .i64 0, .string tx, .int .i64 0, .slice none 0 0, .slice none 0 0] 30) := by
  go_enter Tryd.func14, Tryd.ntmps14
  go_wp2
  go_ret
  exact ⟨rfl, rfl⟩

set_option maxHeartbeats 1000000 in
set_option maxRecDepth 100000 in
theorem bare_kids (o : ByteArray) (A : Option Addr) (n c : Nat) (w : World) : Calls Tryd.prog 14 #[.agg #[.string o, .int .i64 0, .string ⟨#[]⟩, .int .i64 0, .slice none 0 0, .slice A n c], .bool false, .bool false, .bool false, .bool true] w fun e w' => e = .returned (.bool true) ∧ w' = w.alloc (.cells #[.string o, .int .i64 0, .string ⟨#[]⟩, .int .i64 0, .slice none 0 0, .slice A n c] 30) := by
  go_enter Tryd.func14, Tryd.ntmps14
  go_wp2
  go_ret
  exact ⟨rfl, rfl⟩

set_option maxHeartbeats 1000000 in
set_option maxRecDepth 100000 in
theorem node_int (k B b : Nat) (bs : List Value) (n depth : Int) (T : World → Prop) (w : World) (h : IsWr B b bs false w) (hlen : bs.length ≤ 4096) (hBw : B ≤ w.heap.size) (hd : (depth == 0) = false)
    (HSH : Hid (expr_shape.f k ⟨#[105, 110, 116]⟩ = some (⟨#[]⟩, false))) (hit : Hid (ItoaAt T n)) (hn : Hid ((Lib.itoa n).length ≤ 21)) (hT : Hid (∀ W, Below B w W → T W)) :
    Calls Tryd.prog 8 #[.pointer (some ⟨b, 0, none⟩), .agg #[.string ⟨#[105, 110, 116]⟩, .int .i64 n, .string ⟨#[]⟩, .int .i64 0, .slice none 0 0, .slice none 0 0], .int .i64 depth] w fun e w' => e = .returned (.tuple #[]) ∧ Wrote B b w w' (bs ++ Lib.byteCells (Lib.itoa n)) false := by
  obtain ⟨NB, hNB⟩ : ∃ NB : Obj, NB = .cells #[.string ⟨#[105, 110, 116]⟩, .int .i64 n, .string ⟨#[]⟩, .int .i64 0, .slice none 0 0, .slice none 0 0] 30 := ⟨_, rfl⟩
  have hbb := h.lt
  have W0 := Lib.hid ((h.refl).alloc hBw NB)
  have hbx : Hid ((w.alloc NB).heap[w.heap.size]? = some NB) := heap_alloc_new w NB
  have b2 := h.refl.bad2
  have hlen2 : ((bs.length : Int) > 4096) = False := by simp; omega
  clear h
  subst hNB
  go_enter Tryd.func8, Tryd.ntmps8
  go_wp2_with fail
  refine (expr_shape.calls k _ _ _ _ HSH.out).mono ?_
  rintro e w1 ⟨rfl, ⟨nd, rfl⟩⟩
  have W1 := Lib.hid (W0.out.drewN nd)
  go_wp2_with fail
  refine (len_any B b bs false _ W1.out.wr).mono ?_
  rintro e w1 ⟨rfl, rfl⟩
  go_wp2_with fail
  refine (bare_int _ n _).mono ?_
  rintro e w1 ⟨rfl, hw1⟩
  have W2 := Lib.hid (hw1 ▸ W1.out.alloc (by simp; omega) _ : Wrote B b w w1 bs false)
  have hbx1 : Hid (w1.heap[w.heap.size]? = some (.cells #[.string ⟨#[105, 110, 116]⟩, .int .i64 n, .string ⟨#[]⟩, .int .i64 0, .slice none 0 0, .slice none 0 0] 30 (0, 0))) := by
    unfold Hid
    rw [hw1, Below.heap_alloc _ _ _ (by simp)]
    exact hbx.out
  clear hw1 b2
  have b2 := W2.out.bad2
  have f2 := W2.out.free2
  go_wp2_with fail
  have W3 := Lib.hid (W2.out.mark false)
  have hbx3 : Hid ((w1.setCell ⟨b, 2, none⟩ (.bool false)).heap[w.heap.size]? = some (.cells #[.string ⟨#[105, 110, 116]⟩, .int .i64 n, .string ⟨#[]⟩, .int .i64 0, .slice none 0 0, .slice none 0 0] 30 (0, 0))) := by
    unfold Hid
    rw [Below.heap_setCell _ _ _ _ (by show w.heap.size ≠ b; omega)]
    exact hbx1.out
  clear b2 f2
  generalize w1.setCell ⟨b, 2, none⟩ (.bool false) = w2 at W3 hbx3 ⊢
  refine start_ (n := 7) (S := fun w' => w'.cell? ⟨w.heap.size, 1, none⟩ = some (.int .i64 n)) (ds := []) #[false, false, false, false, false, false, false] (by kernel_rfl) rfl rfl ((blk_cell (w := w2.drew) hbx3.out 1).trans rfl) (fun hHeld => ?_)
  have W4 := Lib.hid W3.out.drew
  have hbx4 : Hid (w2.drew.heap[w.heap.size]? = some (.cells #[.string ⟨#[105, 110, 116]⟩, .int .i64 n, .string ⟨#[]⟩, .int .i64 0, .slice none 0 0, .slice none 0 0] 30 (0, 0))) := hbx3.out
  generalize w2.drew = w4 at W4 hbx4 hHeld ⊢
  refine pure_ (i := 0) (N := some 50) (v := ?_) (a' := ?_) #[true, false, false, false, false, false, false] rfl rfl (by kernel_rfl) (fun _ _ _ h => h) (Or.inl ⟨by rfl, ?_⟩) ?_ ?_
  rotate_left
  · intro w'
    go_simp
    with_reducible rfl
  rotate_left
  · simp only [Act.put, List.setIfInBounds_toArray, List.set_cons_zero, List.set_cons_succ, i64_w, i32_w]
    rfl
  refine pure_ (i := 1) (N := some 51) (v := ?_) (a' := ?_) #[true, true, false, false, false, false, false] rfl rfl (by kernel_rfl) (fun _ _ _ h => h) (Or.inl ⟨by rfl, ?_⟩) ?_ ?_
  rotate_left
  · intro w'
    go_simp
    with_reducible rfl
  rotate_left
  · simp only [Act.put, List.setIfInBounds_toArray, List.set_cons_zero, List.set_cons_succ, i64_w, i32_w]
    rfl
  refine pure_ (i := 2) (N := some 52) (v := ?_) (a' := ?_) #[true, true, true, false, false, false, false] rfl rfl (by kernel_rfl) (fun _ _ _ h => h) (Or.inl ⟨by rfl, ?_⟩) ?_ ?_
  rotate_left
  · intro w'
    go_simp
    with_reducible rfl
  rotate_left
  · simp only [Act.put, List.setIfInBounds_toArray, List.set_cons_zero, List.set_cons_succ, i64_w, i32_w]
    rfl
  refine pure_ (i := 3) (N := some 53) (v := ?_) (a' := ?_) #[true, true, true, true, false, false, false] rfl rfl (by kernel_rfl) (fun _ _ _ h => h) (Or.inl ⟨by rfl, ?_⟩) ?_ ?_
  rotate_left
  · intro w'
    go_simp
    with_reducible rfl
  rotate_left
  · simp only [Act.put, List.setIfInBounds_toArray, List.set_cons_zero, List.set_cons_succ, i64_w, i32_w]
    rfl
  refine take_ (i := 4) (N := some 54) (v := ?_) (a' := ?_) #[true, true, true, true, true, false, false] rfl rfl (by kernel_rfl) (fun _ _ _ h => h) (Or.inl ⟨by rfl, ?_⟩) (by assumption) ?_ ?_
  rotate_left
  · intro w' hSw
    try dsimp only at hSw
    go_simp
    with_reducible rfl
  rotate_left
  · simp only [Act.put, List.setIfInBounds_toArray, List.set_cons_zero, List.set_cons_succ, i64_w, i32_w]
    rfl
  refine one_ (i := 5) (N := some 55) #[true, true, true, true, true, true, false] rfl rfl (by kernel_rfl) (by decide) (fun K hK => ?_)
  refine goes_ Tryd.func16 (by kernel_rfl) rfl #[.int .i64 n] (by rfl) rfl rfl (by (try simp only [List.map_toArray, List.map_cons, List.map_nil]); first | done | rfl) ?_
  refine (hit.out w4 (hT.out _ W4.out.below)).mono ?_
  rintro e w5 ⟨rfl, hb5⟩
  refine ⟨_, rfl, ?_⟩
  have W5 := Lib.hid (W4.out.trans (Wrote.quiet W4.out.wr (by have := W4.out.size; omega) hb5))
  have hbx5 := W5.out.size
  have c5 : w5.cell? ⟨w.heap.size, 1, none⟩ = some (.int .i64 n) := by
    rw [hb5.cell (p := ⟨w.heap.size, 1, none⟩) (blk_lt hbx4.out)]; exact (blk_cell hbx4.out 1).trans rfl
  refine hK.out _ _ c5 (fun hHeld => ?_)
  clear hK K
  refine norm_ (a' := ?_) ?_ ?_
  rotate_left
  · show Act.put _ (some 55) _ = _
    simp only [Act.put, List.setIfInBounds_toArray, List.set_cons_zero, List.set_cons_succ, i64_w, i32_w]
    rfl
  refine one_ (i := 6) (N := some 56) #[true, true, true, true, true, true, true] rfl rfl (by kernel_rfl) (by decide) (fun K hK => ?_)
  refine goes_ Tryd.func15 (by kernel_rfl) rfl #[.pointer (some ⟨b, 0, none⟩), .string ⟨(Lib.itoa n).toArray⟩] (by rfl) rfl rfl (by (try simp only [List.map_toArray, List.map_cons, List.map_nil]); first | done | rfl) ?_
  refine (writeString_any B b bs false _ w5 W5.out.wr ?_ (by have := W5.out.size; omega)).mono ?_
  · have := hn.out; simp [ByteArray.size]; omega
  rintro e w6 ⟨rfl, hw6⟩
  refine ⟨_, rfl, ?_⟩
  have W6 := Lib.hid (Wrote.of hw6)
  have hbx6 : Hid (w6.heap[w.heap.size]? = some (.cells #[.string ⟨#[105, 110, 116]⟩, .int .i64 n, .string ⟨#[]⟩, .int .i64 0, .slice none 0 0, .slice none 0 0] 30 (0, 0))) :=
    W6.out.node ((hb5.block _ (blk_lt hbx4.out)).trans hbx4.out) (by omega)
  refine hK.out _ _ ((blk_cell hbx6.out 1).trans rfl) (fun hHeld => ?_)
  clear hK K hw6
  refine norm_ (a' := ?_) ?_ ?_
  rotate_left
  · show Act.put _ (some 56) _ = _
    simp only [Act.put, List.setIfInBounds_toArray, List.set_cons_zero, List.set_cons_succ, i64_w, i32_w]
    rfl
  refine done_ (by kernel_rfl) ?_
  go_wp2_with fail
  first | go_end0 | ((try simp only [Exit.inBlock, Exit.then]); refine bodyPost_ret (results_none rfl _ _ _) rfl ?_)
  exact ⟨rfl, W5.out.trans W6.out⟩

set_option maxHeartbeats 1000000 in
set_option maxRecDepth 100000 in
theorem wcall_it (B b : Nat) (bs : List Value) (depth : Int) (w : World) (h : IsWr B b bs false w) (hlen : bs.length ≤ 8192) (hBw : B ≤ w.heap.size) :
    Calls Tryd.prog 20 #[.pointer (some ⟨b, 0, none⟩), .agg #[.string ⟨#[105, 116]⟩, .int .i64 0, .string ⟨#[]⟩, .int .i64 0, .slice none 0 0, .slice none 0 0], .string ⟨#[]⟩, .int .i64 depth] w fun e w' => e = .returned (.tuple #[]) ∧ Wrote B b w w' (bs ++ Lib.byteCells [105, 116]) false := by
  obtain ⟨NB, hNB⟩ : ∃ NB : Obj, NB = .cells #[.string ⟨#[105, 116]⟩, .int .i64 0, .string ⟨#[]⟩, .int .i64 0, .slice none 0 0, .slice none 0 0] 30 := ⟨_, rfl⟩
  have hbb := h.lt
  have W0 := Lib.hid ((h.refl).alloc hBw NB)
  have hbx : Hid ((w.alloc NB).heap[w.heap.size]? = some NB) := heap_alloc_new w NB
  clear h
  subst hNB
  go_enter Tryd.func20, Tryd.ntmps20
  go_wp2_with fail
  refine (bare_kids _ none 0 0 _).mono ?_
  rintro e w1 ⟨rfl, hw1⟩
  have W2 := Lib.hid (hw1 ▸ W0.out.alloc (by simp; omega) _ : Wrote B b w w1 bs false)
  have hbx1 : Hid (w1.heap[w.heap.size]? = some (.cells #[.string ⟨#[105, 116]⟩, .int .i64 0, .string ⟨#[]⟩, .int .i64 0, .slice none 0 0, .slice none 0 0] 30 (0, 0))) := by
    unfold Hid
    rw [hw1, Below.heap_alloc _ _ _ (by simp)]
    exact hbx.out
  clear hw1
  go_wp2_with fail
  refine start_ (n := 6) (S := fun w' => w'.cell? ⟨w.heap.size, 0, none⟩ = some (.string ⟨#[105, 116]⟩)) (ds := []) #[false, false, false, false, false, false] (by kernel_rfl) rfl rfl ((blk_cell (w := w1.drew) hbx1.out 0).trans rfl) (fun hHeld => ?_)
  have W4 := Lib.hid W2.out.drew
  have hbx4 : Hid (w1.drew.heap[w.heap.size]? = some (.cells #[.string ⟨#[105, 116]⟩, .int .i64 0, .string ⟨#[]⟩, .int .i64 0, .slice none 0 0, .slice none 0 0] 30 (0, 0))) := hbx1.out
  generalize w1.drew = w4 at W4 hbx4 hHeld ⊢
  refine pure_ (i := 0) (N := some 32) (v := ?_) (a' := ?_) #[true, false, false, false, false, false] rfl rfl (by kernel_rfl) (fun _ _ _ h => h) (Or.inl ⟨by rfl, ?_⟩) ?_ ?_
  rotate_left
  · intro w'
    go_simp
    with_reducible rfl
  rotate_left
  · simp only [Act.put, List.setIfInBounds_toArray, List.set_cons_zero, List.set_cons_succ, i64_w, i32_w]
    rfl
  refine pure_ (i := 1) (N := some 33) (v := ?_) (a' := ?_) #[true, true, false, false, false, false] rfl rfl (by kernel_rfl) (fun _ _ _ h => h) (Or.inl ⟨by rfl, ?_⟩) ?_ ?_
  rotate_left
  · intro w'
    go_simp
    with_reducible rfl
  rotate_left
  · simp only [Act.put, List.setIfInBounds_toArray, List.set_cons_zero, List.set_cons_succ, i64_w, i32_w]
    rfl
  refine pure_ (i := 2) (N := some 34) (v := ?_) (a' := ?_) #[true, true, true, false, false, false] rfl rfl (by kernel_rfl) (fun _ _ _ h => h) (Or.inl ⟨by rfl, ?_⟩) ?_ ?_
  rotate_left
  · intro w'
    go_simp
    with_reducible rfl
  rotate_left
  · simp only [Act.put, List.setIfInBounds_toArray, List.set_cons_zero, List.set_cons_succ, i64_w, i32_w]
    rfl
  refine pure_ (i := 3) (N := some 35) (v := ?_) (a' := ?_) #[true, true, true, true, false, false] rfl rfl (by kernel_rfl) (fun _ _ _ h => h) (Or.inl ⟨by rfl, ?_⟩) ?_ ?_
  rotate_left
  · intro w'
    go_simp
    with_reducible rfl
  rotate_left
  · simp only [Act.put, List.setIfInBounds_toArray, List.set_cons_zero, List.set_cons_succ, i64_w, i32_w]
    rfl
  refine take_ (i := 4) (N := some 36) (v := ?_) (a' := ?_) #[true, true, true, true, true, false] rfl rfl (by kernel_rfl) (fun _ _ _ h => h) (Or.inl ⟨by rfl, ?_⟩) (by assumption) ?_ ?_
  rotate_left
  · intro w' hSw
    try dsimp only at hSw
    go_simp
    with_reducible rfl
  rotate_left
  · simp only [Act.put, List.setIfInBounds_toArray, List.set_cons_zero, List.set_cons_succ, i64_w, i32_w]
    rfl
  refine one_ (i := 5) (N := some 37) #[true, true, true, true, true, true] rfl rfl (by kernel_rfl) (by decide) (fun K hK => ?_)
  refine goes_ Tryd.func15 (by kernel_rfl) rfl #[.pointer (some ⟨b, 0, none⟩), .string ⟨#[105, 116]⟩] (by rfl) rfl rfl (by (try simp only [List.map_toArray, List.map_cons, List.map_nil]); first | done | rfl) ?_
  refine (writeString_any B b bs false _ w4 W4.out.wr (by show _ + 2 ≤ _; omega) (by have := W4.out.size; omega)).mono ?_
  rintro e w6 ⟨rfl, hw6⟩
  refine ⟨_, rfl, ?_⟩
  have W6 := Lib.hid (W4.out.trans (Wrote.of hw6))
  have hbx6 : Hid (w6.heap[w.heap.size]? = some (.cells #[.string ⟨#[105, 116]⟩, .int .i64 0, .string ⟨#[]⟩, .int .i64 0, .slice none 0 0, .slice none 0 0] 30 (0, 0))) := (Wrote.of hw6).node hbx4.out (by omega)
  refine hK.out _ _ ((blk_cell hbx6.out 0).trans rfl) (fun hHeld => ?_)
  clear hK K
  clear hw6
  refine norm_ (a' := ?_) ?_ ?_
  rotate_left
  · show Act.put _ (some 37) _ = _
    simp only [Act.put, List.setIfInBounds_toArray, List.set_cons_zero, List.set_cons_succ, i64_w, i32_w]
    rfl
  refine done_ (by kernel_rfl) ?_
  have m5 : w6.cell? ⟨w.heap.size, 5, none⟩ = some (.slice none 0 0) := (blk_cell hbx6.out 5).trans rfl
  go_wp2_with fail
  refine wp_loop_rounds 1 ?_
  rw [rounds_succ]
  go_wp2_with fail
  first | go_end0 | ((try simp only [Exit.inBlock, Exit.then]); refine bodyPost_ret (results_none rfl _ _ _) rfl ?_)
  exact ⟨rfl, W6.out⟩

set_option maxHeartbeats 1000000 in
set_option maxRecDepth 100000 in
theorem node_it (k B b : Nat) (bs bs' : List Value) (depth : Int) (w : World) (h : IsWr B b bs false w) (hlen : bs.length ≤ 4096) (hBw : B ≤ w.heap.size) (hd : (depth == 0) = false)
    (HSH : Hid (expr_shape.f k ⟨#[105, 116]⟩ = some (⟨#[]⟩, true)))
    (hcall : Hid (∀ W, IsWr B b bs false W → Below B w W → B ≤ W.heap.size → Calls Tryd.prog 20 #[.pointer (some ⟨b, 0, none⟩), .agg #[.string ⟨#[105, 116]⟩, .int .i64 0, .string ⟨#[]⟩, .int .i64 0, .slice none 0 0, .slice none 0 0], .string ⟨#[]⟩, .int .i64 depth] W fun e W' => e = .returned (.tuple #[]) ∧ Wrote B b W W' bs' false)) :
    Calls Tryd.prog 8 #[.pointer (some ⟨b, 0, none⟩), .agg #[.string ⟨#[105, 116]⟩, .int .i64 0, .string ⟨#[]⟩, .int .i64 0, .slice none 0 0, .slice none 0 0], .int .i64 depth] w fun e w' => e = .returned (.tuple #[]) ∧ Wrote B b w w' bs' false := by
  obtain ⟨NB, hNB⟩ : ∃ NB : Obj, NB = .cells #[.string ⟨#[105, 116]⟩, .int .i64 0, .string ⟨#[]⟩, .int .i64 0, .slice none 0 0, .slice none 0 0] 30 := ⟨_, rfl⟩
  have hbb := h.lt
  have W0 := Lib.hid ((h.refl).alloc hBw NB)
  have hbx : Hid ((w.alloc NB).heap[w.heap.size]? = some NB) := heap_alloc_new w NB
  have b2 := h.refl.bad2
  have hlen2 : ((bs.length : Int) > 4096) = False := by simp; omega
  clear h
  subst hNB
  go_enter Tryd.func8, Tryd.ntmps8
  go_wp2_with fail
  refine (expr_shape.calls k _ _ _ _ HSH.out).mono ?_
  rintro e w1 ⟨rfl, ⟨nd, rfl⟩⟩
  have W1 := Lib.hid (W0.out.drewN nd)
  go_wp2_with fail
  refine (len_any B b bs false _ W1.out.wr).mono ?_
  rintro e w1 ⟨rfl, rfl⟩
  go_wp2_with fail
  refine (hcall.out _ W1.out.wr W1.out.below (by have := W1.out.size; omega)).mono ?_
  rintro e w2 ⟨rfl, hw2⟩
  go_wp2_with fail
  first | go_end0 | ((try simp only [Exit.inBlock, Exit.then]); refine bodyPost_ret (results_none rfl _ _ _) rfl ?_)
  exact ⟨rfl, W1.out.trans hw2⟩

set_option maxHeartbeats 1000000 in
set_option maxRecDepth 100000 in
theorem node_add (k B b : Nat) (bs bs' : List Value) (depth : Int) (A : Option Addr) (n c : Nat) (w : World) (h : IsWr B b bs false w) (hlen : bs.length ≤ 4096) (hBw : B ≤ w.heap.size) (hd : (depth == 0) = false)
    (HSH : Hid (expr_shape.f k ⟨#[97, 100, 100]⟩ = some (⟨#[101, 101]⟩, true)))
    (hcall : Hid (∀ W, IsWr B b bs false W → Below B w W → B ≤ W.heap.size → Calls Tryd.prog 20 #[.pointer (some ⟨b, 0, none⟩), .agg #[.string ⟨#[97, 100, 100]⟩, .int .i64 0, .string ⟨#[]⟩, .int .i64 0, .slice none 0 0, .slice A n c], .string ⟨#[101, 101]⟩, .int .i64 depth] W fun e W' => e = .returned (.tuple #[]) ∧ Wrote B b W W' bs' false)) :
    Calls Tryd.prog 8 #[.pointer (some ⟨b, 0, none⟩), .agg #[.string ⟨#[97, 100, 100]⟩, .int .i64 0, .string ⟨#[]⟩, .int .i64 0, .slice none 0 0, .slice A n c], .int .i64 depth] w fun e w' => e = .returned (.tuple #[]) ∧ Wrote B b w w' bs' false := by
  obtain ⟨NB, hNB⟩ : ∃ NB : Obj, NB = .cells #[.string ⟨#[97, 100, 100]⟩, .int .i64 0, .string ⟨#[]⟩, .int .i64 0, .slice none 0 0, .slice A n c] 30 := ⟨_, rfl⟩
  have hbb := h.lt
  have W0 := Lib.hid ((h.refl).alloc hBw NB)
  have hbx : Hid ((w.alloc NB).heap[w.heap.size]? = some NB) := heap_alloc_new w NB
  have b2 := h.refl.bad2
  have hlen2 : ((bs.length : Int) > 4096) = False := by simp; omega
  clear h
  subst hNB
  go_enter Tryd.func8, Tryd.ntmps8
  go_wp2_with fail
  refine (expr_shape.calls k _ _ _ _ HSH.out).mono ?_
  rintro e w1 ⟨rfl, ⟨nd, rfl⟩⟩
  have W1 := Lib.hid (W0.out.drewN nd)
  go_wp2_with fail
  refine (len_any B b bs false _ W1.out.wr).mono ?_
  rintro e w1 ⟨rfl, rfl⟩
  go_wp2_with fail
  refine (hcall.out _ W1.out.wr W1.out.below (by have := W1.out.size; omega)).mono ?_
  rintro e w2 ⟨rfl, hw2⟩
  go_wp2_with fail
  first | go_end0 | ((try simp only [Exit.inBlock, Exit.then]); refine bodyPost_ret (results_none rfl _ _ _) rfl ?_)
  exact ⟨rfl, W1.out.trans hw2⟩

attribute [local go_sem] max2_int min2_int max_two min_two
set_option maxHeartbeats 1000000 in
set_option maxRecDepth 100000 in
theorem wcall_add (B b G c : Nat) (bs k1 k2 : List Value) (n1 n2 : Int) (o1 t1 o2 t2 : ByteArray) (w : World) (h : IsWr B b bs false w) (hlens : bs.length + k1.length + k2.length ≤ 4096) (hBw : B ≤ w.heap.size) (hGB : G < B)
    (g10 : w.cell? ⟨G, 0, none⟩ = some (.string o1)) (g11 : w.cell? ⟨G, 1, none⟩ = some (.int .i64 n1)) (g12 : w.cell? ⟨G, 2, none⟩ = some (.string t1)) (g13 : w.cell? ⟨G, 3, none⟩ = some (.int .i64 0)) (g14 : w.cell? ⟨G, 4, none⟩ = some (.slice none 0 0)) (g15 : w.cell? ⟨G, 5, none⟩ = some (.slice none 0 0))
    (g20 : w.cell? ⟨G, 6, none⟩ = some (.string o2)) (g21 : w.cell? ⟨G, 7, none⟩ = some (.int .i64 n2)) (g22 : w.cell? ⟨G, 8, none⟩ = some (.string t2)) (g23 : w.cell? ⟨G, 9, none⟩ = some (.int .i64 0)) (g24 : w.cell? ⟨G, 10, none⟩ = some (.slice none 0 0)) (g25 : w.cell? ⟨G, 11, none⟩ = some (.slice none 0 0))
    (K1 : Hid (∀ W, IsWr B b ((bs ++ Lib.byteCells [97, 100, 100]) ++ [.int .u8 40]) false W → Below B w W → B ≤ W.heap.size → Calls Tryd.prog 8 #[.pointer (some ⟨b, 0, none⟩), .agg #[.string o1, .int .i64 n1, .string t1, .int .i64 0, .slice none 0 0, .slice none 0 0], .int .i64 23] W fun e W' => e = .returned (.tuple #[]) ∧ Wrote B b W W' (((bs ++ Lib.byteCells [97, 100, 100]) ++ [.int .u8 40]) ++ k1) false))
    (K2 : Hid (∀ W, IsWr B b ((((bs ++ Lib.byteCells [97, 100, 100]) ++ [.int .u8 40]) ++ k1) ++ [.int .u8 44]) false W → Below B w W → B ≤ W.heap.size → Calls Tryd.prog 8 #[.pointer (some ⟨b, 0, none⟩), .agg #[.string o2, .int .i64 n2, .string t2, .int .i64 0, .slice none 0 0, .slice none 0 0], .int .i64 23] W fun e W' => e = .returned (.tuple #[]) ∧ Wrote B b W W' (((((bs ++ Lib.byteCells [97, 100, 100]) ++ [.int .u8 40]) ++ k1) ++ [.int .u8 44]) ++ k2) false)) :
    Calls Tryd.prog 20 #[.pointer (some ⟨b, 0, none⟩), .agg #[.string ⟨#[97, 100, 100]⟩, .int .i64 0, .string ⟨#[]⟩, .int .i64 0, .slice none 0 0, .slice (some ⟨G, 0, none⟩) 2 c], .string ⟨#[101, 101]⟩, .int .i64 24] w fun e w' => e = .returned (.tuple #[]) ∧ Wrote B b w w' ((((((bs ++ Lib.byteCells [97, 100, 100]) ++ [.int .u8 40]) ++ k1) ++ [.int .u8 44]) ++ k2) ++ [.int .u8 41]) false := by
  have hlen : bs.length ≤ 8192 := by omega
  obtain ⟨NB, hNB⟩ : ∃ NB : Obj, NB = .cells #[.string ⟨#[97, 100, 100]⟩, .int .i64 0, .string ⟨#[]⟩, .int .i64 0, .slice none 0 0, .slice (some ⟨G, 0, none⟩) 2 c] 30 := ⟨_, rfl⟩
  have hbb := h.lt
  have W0 := Lib.hid ((h.refl).alloc hBw NB)
  have hbx : Hid ((w.alloc NB).heap[w.heap.size]? = some NB) := heap_alloc_new w NB
  clear h
  subst hNB
  go_enter Tryd.func20, Tryd.ntmps20
  go_wp2_with fail
  refine (bare_kids _ _ 2 c _).mono ?_
  rintro e w1 ⟨rfl, hw1⟩
  have W2 := Lib.hid (hw1 ▸ W0.out.alloc (by simp; omega) _ : Wrote B b w w1 bs false)
  have hbx1 : Hid (w1.heap[w.heap.size]? = some (.cells #[.string ⟨#[97, 100, 100]⟩, .int .i64 0, .string ⟨#[]⟩, .int .i64 0, .slice none 0 0, .slice (some ⟨G, 0, none⟩) 2 c] 30 (0, 0))) := by
    unfold Hid
    rw [hw1, Below.heap_alloc _ _ _ (by simp)]
    exact hbx.out
  clear hw1
  go_wp2_with fail
  refine start_ (n := 6) (S := fun w' => w'.cell? ⟨w.heap.size, 0, none⟩ = some (.string ⟨#[97, 100, 100]⟩)) (ds := []) #[false, false, false, false, false, false] (by kernel_rfl) rfl rfl ((blk_cell (w := w1.drew) hbx1.out 0).trans rfl) (fun hHeld => ?_)
  have W4 := Lib.hid W2.out.drew
  have hbx4 : Hid (w1.drew.heap[w.heap.size]? = some (.cells #[.string ⟨#[97, 100, 100]⟩, .int .i64 0, .string ⟨#[]⟩, .int .i64 0, .slice none 0 0, .slice (some ⟨G, 0, none⟩) 2 c] 30 (0, 0))) := hbx1.out
  generalize w1.drew = w4 at W4 hbx4 hHeld ⊢
  refine pure_ (i := 0) (N := some 32) (v := ?_) (a' := ?_) #[true, false, false, false, false, false] rfl rfl (by kernel_rfl) (fun _ _ _ h => h) (Or.inl ⟨by rfl, ?_⟩) ?_ ?_
  rotate_left
  · intro w'
    go_simp
    with_reducible rfl
  rotate_left
  · simp only [Act.put, List.setIfInBounds_toArray, List.set_cons_zero, List.set_cons_succ, i64_w, i32_w]
    rfl
  refine pure_ (i := 1) (N := some 33) (v := ?_) (a' := ?_) #[true, true, false, false, false, false] rfl rfl (by kernel_rfl) (fun _ _ _ h => h) (Or.inl ⟨by rfl, ?_⟩) ?_ ?_
  rotate_left
  · intro w'
    go_simp
    with_reducible rfl
  rotate_left
  · simp only [Act.put, List.setIfInBounds_toArray, List.set_cons_zero, List.set_cons_succ, i64_w, i32_w]
    rfl
  refine pure_ (i := 2) (N := some 34) (v := ?_) (a' := ?_) #[true, true, true, false, false, false] rfl rfl (by kernel_rfl) (fun _ _ _ h => h) (Or.inl ⟨by rfl, ?_⟩) ?_ ?_
  rotate_left
  · intro w'
    go_simp
    with_reducible rfl
  rotate_left
  · simp only [Act.put, List.setIfInBounds_toArray, List.set_cons_zero, List.set_cons_succ, i64_w, i32_w]
    rfl
  refine pure_ (i := 3) (N := some 35) (v := ?_) (a' := ?_) #[true, true, true, true, false, false] rfl rfl (by kernel_rfl) (fun _ _ _ h => h) (Or.inl ⟨by rfl, ?_⟩) ?_ ?_
  rotate_left
  · intro w'
    go_simp
    with_reducible rfl
  rotate_left
  · simp only [Act.put, List.setIfInBounds_toArray, List.set_cons_zero, List.set_cons_succ, i64_w, i32_w]
    rfl
  refine take_ (i := 4) (N := some 36) (v := ?_) (a' := ?_) #[true, true, true, true, true, false] rfl rfl (by kernel_rfl) (fun _ _ _ h => h) (Or.inl ⟨by rfl, ?_⟩) (by assumption) ?_ ?_
  rotate_left
  · intro w' hSw
    try dsimp only at hSw
    go_simp
    with_reducible rfl
  rotate_left
  · simp only [Act.put, List.setIfInBounds_toArray, List.set_cons_zero, List.set_cons_succ, i64_w, i32_w]
    rfl
  refine one_ (i := 5) (N := some 37) #[true, true, true, true, true, true] rfl rfl (by kernel_rfl) (by decide) (fun K hK => ?_)
  refine goes_ Tryd.func15 (by kernel_rfl) rfl #[.pointer (some ⟨b, 0, none⟩), .string ⟨#[97, 100, 100]⟩] (by rfl) rfl rfl (by (try simp only [List.map_toArray, List.map_cons, List.map_nil]); first | done | rfl) ?_
  refine (writeString_any B b bs false _ w4 W4.out.wr (by show _ + 3 ≤ _; omega) (by have := W4.out.size; omega)).mono ?_
  rintro e w6 ⟨rfl, hw6⟩
  refine ⟨_, rfl, ?_⟩
  have W6 := Lib.hid (W4.out.trans (Wrote.of hw6))
  have hbx6 : Hid (w6.heap[w.heap.size]? = some (.cells #[.string ⟨#[97, 100, 100]⟩, .int .i64 0, .string ⟨#[]⟩, .int .i64 0, .slice none 0 0, .slice (some ⟨G, 0, none⟩) 2 c] 30 (0, 0))) := (Wrote.of hw6).node hbx4.out (by omega)
  refine hK.out _ _ ((blk_cell hbx6.out 0).trans rfl) (fun hHeld => ?_)
  clear hK K
  clear hw6
  refine norm_ (a' := ?_) ?_ ?_
  rotate_left
  · show Act.put _ (some 37) _ = _
    simp only [Act.put, List.setIfInBounds_toArray, List.set_cons_zero, List.set_cons_succ, i64_w, i32_w]
    rfl
  refine done_ (by kernel_rfl) ?_
  have m5 : w6.cell? ⟨w.heap.size, 5, none⟩ = some (.slice (some ⟨G, 0, none⟩) 2 c) := (blk_cell hbx6.out 5).trans rfl
  go_wp2_with fail
  refine wp_loop_rounds 3 ?_
  rw [rounds_succ]
  have Z6 := Lib.hid (IsWr.refl W6.out.wr)
  have r0 := ((W6.out.below.trans Z6.out.below).cell (p := ⟨G, 0, none⟩) hGB).trans g10
  have r1 := ((W6.out.below.trans Z6.out.below).cell (p := ⟨G, 1, none⟩) hGB).trans g11
  have r2 := ((W6.out.below.trans Z6.out.below).cell (p := ⟨G, 2, none⟩) hGB).trans g12
  have r3 := ((W6.out.below.trans Z6.out.below).cell (p := ⟨G, 3, none⟩) hGB).trans g13
  have r4 := ((W6.out.below.trans Z6.out.below).cell (p := ⟨G, 4, none⟩) hGB).trans g14
  have r5 := ((W6.out.below.trans Z6.out.below).cell (p := ⟨G, 5, none⟩) hGB).trans g15
  go_wp2_with fail
  have V1 := Lib.hid (Z6.out.alloc (by have := W6.out.size; have := Z6.out.size; omega) (.cells #[.string o1, .int .i64 n1, .string t1, .int .i64 0, .slice none 0 0, .slice none 0 0] 30))
  have hv1 : Hid ((w6.alloc (.cells #[.string o1, .int .i64 n1, .string t1, .int .i64 0, .slice none 0 0, .slice none 0 0] 30)).heap[w6.heap.size]? = some (.cells #[.string o1, .int .i64 n1, .string t1, .int .i64 0, .slice none 0 0, .slice none 0 0] 30 (0, 0))) := heap_alloc_new _ _
  have hvb1 : Hid (w6.heap.size ≠ b) := by have := Z6.out.wr.lt; show _ ≠ _; omega
  clear r0 r1 r2 r3 r4 r5
  refine start_ (n := 7) (S := fun w' => True) (ds := []) #[false, false, false, false, false, false, false] (by kernel_rfl) rfl rfl trivial (fun hHeld => ?_)
  have V1b := Lib.hid V1.out.drew
  have hv1b : Hid ((w6.alloc (.cells #[.string o1, .int .i64 n1, .string t1, .int .i64 0, .slice none 0 0, .slice none 0 0] 30)).drew.heap[w6.heap.size]? = some (.cells #[.string o1, .int .i64 n1, .string t1, .int .i64 0, .slice none 0 0, .slice none 0 0] 30 (0, 0))) := hv1.out
  generalize (w6.alloc (.cells #[.string o1, .int .i64 n1, .string t1, .int .i64 0, .slice none 0 0, .slice none 0 0] 30)).drew = x1 at V1b hv1b hHeld ⊢
  refine pure_ (i := 0) (N := some 46) (v := ?_) (a' := ?_) #[true, false, false, false, false, false, false] rfl rfl (by kernel_rfl) (fun _ _ _ h => h) (Or.inl ⟨by rfl, ?_⟩) ?_ ?_
  rotate_left
  · intro w'
    go_simp
    with_reducible rfl
  rotate_left
  · simp only [Act.put, List.setIfInBounds_toArray, List.set_cons_zero, List.set_cons_succ, i64_w, i32_w]
    rfl
  refine pure_ (i := 1) (N := some 47) (v := ?_) (a' := ?_) #[true, true, false, false, false, false, false] rfl rfl (by kernel_rfl) (fun _ _ _ h => h) (Or.inl ⟨by rfl, ?_⟩) ?_ ?_
  rotate_left
  · intro w'
    go_simp
    with_reducible rfl
  rotate_left
  · simp only [Act.put, List.setIfInBounds_toArray, List.set_cons_zero, List.set_cons_succ, i64_w, i32_w]
    rfl
  refine pure_ (i := 2) (N := some 48) (v := ?_) (a' := ?_) #[true, true, true, false, false, false, false] rfl rfl (by kernel_rfl) (fun _ _ _ h => h) (Or.inl ⟨by rfl, ?_⟩) ?_ ?_
  rotate_left
  · intro w'
    go_simp
    with_reducible rfl
  rotate_left
  · simp only [Act.put, List.setIfInBounds_toArray, List.set_cons_zero, List.set_cons_succ, i64_w, i32_w]
    rfl
  refine pure_ (i := 3) (N := some 49) (v := ?_) (a' := ?_) #[true, true, true, true, false, false, false] rfl rfl (by kernel_rfl) (fun _ _ _ h => h) (Or.inl ⟨by rfl, ?_⟩) ?_ ?_
  rotate_left
  · intro w'
    go_simp
    with_reducible rfl
  rotate_left
  · simp only [Act.put, List.setIfInBounds_toArray, List.set_cons_zero, List.set_cons_succ, i64_w, i32_w]
    rfl
  refine pure_ (i := 4) (N := some 50) (v := ?_) (a' := ?_) #[true, true, true, true, true, false, false] rfl rfl (by kernel_rfl) (fun _ _ _ h => h) (Or.inl ⟨by rfl, ?_⟩) ?_ ?_
  rotate_left
  · intro w'
    go_simp
    with_reducible rfl
  rotate_left
  · simp only [Act.put, List.setIfInBounds_toArray, List.set_cons_zero, List.set_cons_succ, i64_w, i32_w]
    rfl
  refine pure_ (i := 5) (N := some 51) (v := ?_) (a' := ?_) #[true, true, true, true, true, true, false] rfl rfl (by kernel_rfl) (fun _ _ _ h => h) (Or.inl ⟨by rfl, ?_⟩) ?_ ?_
  rotate_left
  · intro w'
    go_simp
    with_reducible rfl
  rotate_left
  · simp only [Act.put, List.setIfInBounds_toArray, List.set_cons_zero, List.set_cons_succ, i64_w, i32_w]
    rfl
  refine one_ (i := 6) (N := some 52) #[true, true, true, true, true, true, true] rfl rfl (by kernel_rfl) (by decide) (fun K hK => ?_)
  refine goes_ Tryd.func29 (by kernel_rfl) rfl #[.pointer (some ⟨b, 0, none⟩), .int .u8 40] (by rfl) rfl rfl (by (try simp only [List.map_toArray, List.map_cons, List.map_nil]); first | done | rfl) ?_
  refine (writeByte_any B b (bs ++ Lib.byteCells [97, 100, 100]) false 40 x1 V1b.out.wr ?_ (by have := W6.out.size; have := V1b.out.size; omega)).mono ?_
  · have := hlens; simp [Lib.byteCells]; omega
  rintro e y1 ⟨rfl, hy⟩
  refine ⟨_, rfl, ?_⟩
  have Y1 := Lib.hid (V1b.out.trans (Wrote.of hy))
  have hy1 : Hid (y1.heap[w6.heap.size]? = some (.cells #[.string o1, .int .i64 n1, .string t1, .int .i64 0, .slice none 0 0, .slice none 0 0] 30 (0, 0))) := (Wrote.of hy).node hv1b.out hvb1.out
  refine hK.out _ _ trivial (fun hHeld => ?_)
  clear hK K
  clear hy
  refine norm_ (a' := ?_) ?_ ?_
  rotate_left
  · show Act.put _ (some 52) _ = _
    simp only [Act.put, List.setIfInBounds_toArray, List.set_cons_zero, List.set_cons_succ, i64_w, i32_w]
    rfl
  refine done_ (by kernel_rfl) ?_
  have r0 : y1.cell? ⟨w6.heap.size, 0, none⟩ = some (.string o1) := (blk_cell hy1.out 0).trans rfl
  have r1 : y1.cell? ⟨w6.heap.size, 1, none⟩ = some (.int .i64 n1) := (blk_cell hy1.out 1).trans rfl
  have r2 : y1.cell? ⟨w6.heap.size, 2, none⟩ = some (.string t1) := (blk_cell hy1.out 2).trans rfl
  have r3 : y1.cell? ⟨w6.heap.size, 3, none⟩ = some (.int .i64 0) := (blk_cell hy1.out 3).trans rfl
  have r4 : y1.cell? ⟨w6.heap.size, 4, none⟩ = some (.slice none 0 0) := (blk_cell hy1.out 4).trans rfl
  have r5 : y1.cell? ⟨w6.heap.size, 5, none⟩ = some (.slice none 0 0) := (blk_cell hy1.out 5).trans rfl
  go_wp2_with fail
  refine (K1.out _ Y1.out.wr (W6.out.below.trans Y1.out.below) (by have := W6.out.size; have := Y1.out.size; omega)).mono ?_
  rintro e u1 ⟨rfl, hu⟩
  have U1 := Lib.hid (Y1.out.trans hu)
  clear r0 r1 r2 r3 r4 r5 hu
  go_wp2_with fail
  rw [rounds_succ]
  have r0 := ((W6.out.below.trans U1.out.below).cell (p := ⟨G, 6, none⟩) hGB).trans g20
  have r1 := ((W6.out.below.trans U1.out.below).cell (p := ⟨G, 7, none⟩) hGB).trans g21
  have r2 := ((W6.out.below.trans U1.out.below).cell (p := ⟨G, 8, none⟩) hGB).trans g22
  have r3 := ((W6.out.below.trans U1.out.below).cell (p := ⟨G, 9, none⟩) hGB).trans g23
  have r4 := ((W6.out.below.trans U1.out.below).cell (p := ⟨G, 10, none⟩) hGB).trans g24
  have r5 := ((W6.out.below.trans U1.out.below).cell (p := ⟨G, 11, none⟩) hGB).trans g25
  go_wp2_with fail
  have V2 := Lib.hid (U1.out.alloc (by have := W6.out.size; have := U1.out.size; omega) (.cells #[.string o2, .int .i64 n2, .string t2, .int .i64 0, .slice none 0 0, .slice none 0 0] 30))
  have hv2 : Hid ((u1.alloc (.cells #[.string o2, .int .i64 n2, .string t2, .int .i64 0, .slice none 0 0, .slice none 0 0] 30)).heap[u1.heap.size]? = some (.cells #[.string o2, .int .i64 n2, .string t2, .int .i64 0, .slice none 0 0, .slice none 0 0] 30 (0, 0))) := heap_alloc_new _ _
  have hvb2 : Hid (u1.heap.size ≠ b) := by have := U1.out.wr.lt; show _ ≠ _; omega
  clear r0 r1 r2 r3 r4 r5
  refine start_ (n := 7) (S := fun w' => True) (ds := []) #[false, false, false, false, false, false, false] (by kernel_rfl) rfl rfl trivial (fun hHeld => ?_)
  have V2b := Lib.hid V2.out.drew
  have hv2b : Hid ((u1.alloc (.cells #[.string o2, .int .i64 n2, .string t2, .int .i64 0, .slice none 0 0, .slice none 0 0] 30)).drew.heap[u1.heap.size]? = some (.cells #[.string o2, .int .i64 n2, .string t2, .int .i64 0, .slice none 0 0, .slice none 0 0] 30 (0, 0))) := hv2.out
  generalize (u1.alloc (.cells #[.string o2, .int .i64 n2, .string t2, .int .i64 0, .slice none 0 0, .slice none 0 0] 30)).drew = x2 at V2b hv2b hHeld ⊢
  refine pure_ (i := 0) (N := some 46) (v := ?_) (a' := ?_) #[true, false, false, false, false, false, false] rfl rfl (by kernel_rfl) (fun _ _ _ h => h) (Or.inl ⟨by rfl, ?_⟩) ?_ ?_
  rotate_left
  · intro w'
    go_simp
    with_reducible rfl
  rotate_left
  · simp only [Act.put, List.setIfInBounds_toArray, List.set_cons_zero, List.set_cons_succ, i64_w, i32_w]
    rfl
  refine pure_ (i := 1) (N := some 47) (v := ?_) (a' := ?_) #[true, true, false, false, false, false, false] rfl rfl (by kernel_rfl) (fun _ _ _ h => h) (Or.inl ⟨by rfl, ?_⟩) ?_ ?_
  rotate_left
  · intro w'
    go_simp
    with_reducible rfl
  rotate_left
  · simp only [Act.put, List.setIfInBounds_toArray, List.set_cons_zero, List.set_cons_succ, i64_w, i32_w]
    rfl
  refine pure_ (i := 2) (N := some 48) (v := ?_) (a' := ?_) #[true, true, true, false, false, false, false] rfl rfl (by kernel_rfl) (fun _ _ _ h => h) (Or.inl ⟨by rfl, ?_⟩) ?_ ?_
  rotate_left
  · intro w'
    go_simp
    with_reducible rfl
  rotate_left
  · simp only [Act.put, List.setIfInBounds_toArray, List.set_cons_zero, List.set_cons_succ, i64_w, i32_w]
    rfl
  refine pure_ (i := 3) (N := some 49) (v := ?_) (a' := ?_) #[true, true, true, true, false, false, false] rfl rfl (by kernel_rfl) (fun _ _ _ h => h) (Or.inl ⟨by rfl, ?_⟩) ?_ ?_
  rotate_left
  · intro w'
    go_simp
    with_reducible rfl
  rotate_left
  · simp only [Act.put, List.setIfInBounds_toArray, List.set_cons_zero, List.set_cons_succ, i64_w, i32_w]
    rfl
  refine pure_ (i := 4) (N := some 50) (v := ?_) (a' := ?_) #[true, true, true, true, true, false, false] rfl rfl (by kernel_rfl) (fun _ _ _ h => h) (Or.inl ⟨by rfl, ?_⟩) ?_ ?_
  rotate_left
  · intro w'
    go_simp
    with_reducible rfl
  rotate_left
  · simp only [Act.put, List.setIfInBounds_toArray, List.set_cons_zero, List.set_cons_succ, i64_w, i32_w]
    rfl
  refine pure_ (i := 5) (N := some 51) (v := ?_) (a' := ?_) #[true, true, true, true, true, true, false] rfl rfl (by kernel_rfl) (fun _ _ _ h => h) (Or.inl ⟨by rfl, ?_⟩) ?_ ?_
  rotate_left
  · intro w'
    go_simp
    with_reducible rfl
  rotate_left
  · simp only [Act.put, List.setIfInBounds_toArray, List.set_cons_zero, List.set_cons_succ, i64_w, i32_w]
    rfl
  refine one_ (i := 6) (N := some 52) #[true, true, true, true, true, true, true] rfl rfl (by kernel_rfl) (by decide) (fun K hK => ?_)
  refine goes_ Tryd.func29 (by kernel_rfl) rfl #[.pointer (some ⟨b, 0, none⟩), .int .u8 44] (by rfl) rfl rfl (by (try simp only [List.map_toArray, List.map_cons, List.map_nil]); first | done | rfl) ?_
  refine (writeByte_any B b (((bs ++ Lib.byteCells [97, 100, 100]) ++ [.int .u8 40]) ++ k1) false 44 x2 V2b.out.wr ?_ (by have := W6.out.size; have := V2b.out.size; omega)).mono ?_
  · have := hlens; simp [Lib.byteCells]; omega
  rintro e y2 ⟨rfl, hy⟩
  refine ⟨_, rfl, ?_⟩
  have Y2 := Lib.hid (V2b.out.trans (Wrote.of hy))
  have hy2 : Hid (y2.heap[u1.heap.size]? = some (.cells #[.string o2, .int .i64 n2, .string t2, .int .i64 0, .slice none 0 0, .slice none 0 0] 30 (0, 0))) := (Wrote.of hy).node hv2b.out hvb2.out
  refine hK.out _ _ trivial (fun hHeld => ?_)
  clear hK K
  clear hy
  refine norm_ (a' := ?_) ?_ ?_
  rotate_left
  · show Act.put _ (some 52) _ = _
    simp only [Act.put, List.setIfInBounds_toArray, List.set_cons_zero, List.set_cons_succ, i64_w, i32_w]
    rfl
  refine done_ (by kernel_rfl) ?_
  have r0 : y2.cell? ⟨u1.heap.size, 0, none⟩ = some (.string o2) := (blk_cell hy2.out 0).trans rfl
  have r1 : y2.cell? ⟨u1.heap.size, 1, none⟩ = some (.int .i64 n2) := (blk_cell hy2.out 1).trans rfl
  have r2 : y2.cell? ⟨u1.heap.size, 2, none⟩ = some (.string t2) := (blk_cell hy2.out 2).trans rfl
  have r3 : y2.cell? ⟨u1.heap.size, 3, none⟩ = some (.int .i64 0) := (blk_cell hy2.out 3).trans rfl
  have r4 : y2.cell? ⟨u1.heap.size, 4, none⟩ = some (.slice none 0 0) := (blk_cell hy2.out 4).trans rfl
  have r5 : y2.cell? ⟨u1.heap.size, 5, none⟩ = some (.slice none 0 0) := (blk_cell hy2.out 5).trans rfl
  go_wp2_with fail
  refine (K2.out _ Y2.out.wr (W6.out.below.trans Y2.out.below) (by have := W6.out.size; have := Y2.out.size; omega)).mono ?_
  rintro e u2 ⟨rfl, hu⟩
  have U2 := Lib.hid (Y2.out.trans hu)
  clear r0 r1 r2 r3 r4 r5 hu
  go_wp2_with fail
  rw [rounds_succ]
  have hbxu := U2.out.node hbx6.out (by omega)
  clear m5
  have m5 : u2.cell? ⟨w.heap.size, 5, none⟩ = some (.slice (some ⟨G, 0, none⟩) 2 c) := (blk_cell hbxu 5).trans rfl
  clear hbxu
  go_wp2_with fail
  refine (writeByte_any B b _ false 41 u2 U2.out.wr ?_ (by have := W6.out.size; have := U2.out.size; omega)).mono ?_
  · simp [Lib.byteCells]; omega
  rintro e z ⟨rfl, hz⟩
  have Z := Lib.hid (U2.out.trans (Wrote.of hz))
  clear hz
  go_wp2_with fail
  first | go_end0 | ((try simp only [Exit.inBlock, Exit.then]); refine bodyPost_ret (results_none rfl _ _ _) rfl ?_)
  exact ⟨rfl, W6.out.trans Z.out⟩

set_option maxHeartbeats 1000000 in
set_option maxRecDepth 100000 in
theorem show_ok (o : ByteArray) (i : Int) (tx : ByteArray) (A : Option Addr) (n c : Nat) (l : List UInt8) (w : World) (hl0 : l ≠ []) (hl : l.length ≤ 4096)
    (hnode : Hid (∀ W b, IsWr w.heap.size b [] false W → Below w.heap.size w W → w.heap.size ≤ W.heap.size → Calls Tryd.prog 8 #[.pointer (some ⟨b, 0, none⟩), .agg #[.string o, .int .i64 i, .string tx, .int .i64 0, .slice none 0 0, .slice A n c], .int .i64 24] W fun e W' => e = .returned (.tuple #[]) ∧ Wrote w.heap.size b W W' (Lib.byteCells l) false)) :
    Calls Tryd.prog 5 #[.agg #[.string o, .int .i64 i, .string tx, .int .i64 0, .slice none 0 0, .slice A n c]] w fun e w' => e = .returned (.tuple #[.string ⟨l.toArray⟩, .int .i64 0]) ∧ Below w.heap.size w w' := by
  have hI : Hid (IsWr w.heap.size (w.heap.size + 1) [] false ((w.alloc (.cells #[.string o, .int .i64 i, .string tx, .int .i64 0, .slice none 0 0, .slice A n c] 30)).alloc (.cells #[.pointer none, .slice none 0 0, .bool false] 42))) := by
    have := heap_alloc_new (w.alloc (.cells #[.string o, .int .i64 i, .string tx, .int .i64 0, .slice none 0 0, .slice A n c] 30)) (.cells #[.pointer none, .slice none 0 0, .bool false] 42)
    exact .inl ⟨by omega, _, by simpa using this, World.ownsRow_nil _ _ _ _, by simp [Value.ownBlock]⟩
  have hB : Hid (Below w.heap.size w ((w.alloc (.cells #[.string o, .int .i64 i, .string tx, .int .i64 0, .slice none 0 0, .slice A n c] 30)).alloc (.cells #[.pointer none, .slice none 0 0, .bool false] 42))) :=
    Below.alloc (Below.alloc (Below.refl _ _) (Nat.le_refl _) _) (by simp) _
  go_enter Tryd.func5, Tryd.ntmps5
  go_wp2_with fail
  refine (hnode.out _ _ hI.out hB.out (by simp; omega)).mono ?_
  rintro e w1 ⟨rfl, hw1⟩
  have W1 := Lib.hid hw1
  have b2 := hw1.bad2
  clear hw1
  have hlen2 : (((Lib.byteCells l).length : Int) > 4096) = False := by simp [Lib.byteCells]; omega
  go_wp2_with fail
  refine (len_any w.heap.size _ _ false _ W1.out.wr).mono ?_
  rintro e w2 ⟨rfl, rfl⟩
  go_wp2_with fail
  refine (string_any w.heap.size _ l false _ W1.out.wr hl0).mono ?_
  rintro e w2 ⟨rfl, hb2⟩
  have W2 := Lib.hid ((hB.out.trans W1.out.below).trans hb2)
  clear hb2
  go_wp2_with fail
  go_ret2
  exact ⟨rfl, W2.out⟩

set_option maxHeartbeats 1000000 in
set_option maxRecDepth 100000 in
theorem show_bad (o : ByteArray) (i : Int) (tx : ByteArray) (A : Option Addr) (n c : Nat) (l : List UInt8) (w : World)
    (hnode : Hid (∀ W b, IsWr w.heap.size b [] false W → Below w.heap.size w W → w.heap.size ≤ W.heap.size → Calls Tryd.prog 8 #[.pointer (some ⟨b, 0, none⟩), .agg #[.string o, .int .i64 i, .string tx, .int .i64 0, .slice none 0 0, .slice A n c], .int .i64 24] W fun e W' => e = .returned (.tuple #[]) ∧ Wrote w.heap.size b W W' (Lib.byteCells l) true)) :
    Calls Tryd.prog 5 #[.agg #[.string o, .int .i64 i, .string tx, .int .i64 0, .slice none 0 0, .slice A n c]] w fun e w' => e = .returned (.tuple #[.string ⟨#[]⟩, .int .i64 110]) ∧ Below w.heap.size w w' := by
  have hI : Hid (IsWr w.heap.size (w.heap.size + 1) [] false ((w.alloc (.cells #[.string o, .int .i64 i, .string tx, .int .i64 0, .slice none 0 0, .slice A n c] 30)).alloc (.cells #[.pointer none, .slice none 0 0, .bool false] 42))) := by
    have := heap_alloc_new (w.alloc (.cells #[.string o, .int .i64 i, .string tx, .int .i64 0, .slice none 0 0, .slice A n c] 30)) (.cells #[.pointer none, .slice none 0 0, .bool false] 42)
    exact .inl ⟨by omega, _, by simpa using this, World.ownsRow_nil _ _ _ _, by simp [Value.ownBlock]⟩
  have hB : Hid (Below w.heap.size w ((w.alloc (.cells #[.string o, .int .i64 i, .string tx, .int .i64 0, .slice none 0 0, .slice A n c] 30)).alloc (.cells #[.pointer none, .slice none 0 0, .bool false] 42))) :=
    Below.alloc (Below.alloc (Below.refl _ _) (Nat.le_refl _) _) (by simp) _
  go_enter Tryd.func5, Tryd.ntmps5
  go_wp2_with fail
  refine (hnode.out _ _ hI.out hB.out (by simp; omega)).mono ?_
  rintro e w1 ⟨rfl, hw1⟩
  have W1 := Lib.hid hw1
  have b2 := hw1.bad2
  clear hw1
  go_wp2_with fail
  go_ret2
  exact ⟨rfl, hB.out.trans W1.out.below⟩

end Go.Proofs.YtamfloegflejnaaDoor
