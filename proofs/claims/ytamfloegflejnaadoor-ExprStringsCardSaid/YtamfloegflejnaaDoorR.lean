/-
  A text as a node: written in quotes, and read back.
-/
import Derived.Test.YtamfloegflejnaaDoorQ
import Derived.Test.YtamfloegflejnaaDoorS7
import Derived.Test.YtamfloegflejnaaDoorA
import Derived.Test.YtamfloegflejnaaDoorL
set_option linter.unusedVariables false
set_option linter.unusedSimpArgs false
namespace Go.Proofs.YtamfloegflejnaaDoor
open Go.RowKit Go.Proofs.YtamfloegflejnaaDoorW.PrintWords Go.Proofs.YtamfloegflejnaaDoorW.PrintLast Go.Proofs.YtamfloegflejnaaDoorW.PrintMore PExprNumbers
theorem sh_text : expr_shape.f 20 ⟨#[116, 101, 120, 116, 95, 111, 102]⟩ = some (⟨#[]⟩, false) := by decide +kernel
set_option maxHeartbeats 1000000 in
set_option maxRecDepth 100000 in
theorem node_text (B b : Nat) (bs : List Value) (depth : Int) (l : List UInt8) (w : World) (h : IsWr B b bs false w) (hlen : bs.length ≤ 4096) (hBw : B ≤ w.heap.size) (hd : (depth == 0) = false) (hl : l.length ≤ 256) :
    Calls Tryd.prog 8 #[.pointer (some ⟨b, 0, none⟩), .agg #[.string ⟨#[116, 101, 120, 116, 95, 111, 102]⟩, .int .i64 0, .string ⟨l.toArray⟩, .int .i64 0, .slice none 0 0, .slice none 0 0], .int .i64 depth] w fun e w' => e = .returned (.tuple #[]) ∧ Wrote B b w w' (bs ++ Lib.byteCells (quoted l)) false := by
  obtain ⟨NB, hNB⟩ : ∃ NB : Obj, NB = .cells #[.string ⟨#[116, 101, 120, 116, 95, 111, 102]⟩, .int .i64 0, .string ⟨l.toArray⟩, .int .i64 0, .slice none 0 0, .slice none 0 0] 30 := ⟨_, rfl⟩
  have hbb := h.lt
  have W0 := Lib.hid ((h.refl).alloc hBw NB)
  have hbx : Hid ((w.alloc NB).heap[w.heap.size]? = some NB) := heap_alloc_new w NB
  have b2 := h.refl.bad2
  have hlen2 : ((bs.length : Int) > 4096) = False := by simp; omega
  have hsz : ((⟨l.toArray⟩ : ByteArray)).size = l.length := rfl
  have hlz : decide ((256 : Int) < (l.length : Int)) = false := by rw [decide_eq_false_iff_not]; omega
  clear h
  subst hNB
  go_enter Tryd.func8, Tryd.ntmps8
  go_wp2_with fail
  refine (expr_shape.calls 20 _ _ _ _ sh_text).mono ?_
  rintro e w1 ⟨rfl, ⟨nd, rfl⟩⟩
  have W1 := Lib.hid (W0.out.drewN nd)
  go_wp2_with fail
  refine (len_any B b bs false _ W1.out.wr).mono ?_
  rintro e w1 ⟨rfl, rfl⟩
  go_wp2_with fail
  refine (bare_text _ _ _).mono ?_
  rintro e w1 ⟨rfl, hw1⟩
  have W2 := Lib.hid (hw1 ▸ W1.out.alloc (by simp; omega) _ : Wrote B b w w1 bs false)
  have hbx1 : Hid (w1.heap[w.heap.size]? = some (.cells #[.string ⟨#[116, 101, 120, 116, 95, 111, 102]⟩, .int .i64 0, .string ⟨l.toArray⟩, .int .i64 0, .slice none 0 0, .slice none 0 0] 30 (0, 0))) := by
    unfold Hid
    rw [hw1, Below.heap_alloc _ _ _ (by simp)]
    exact hbx.out
  clear hw1 b2
  have b2 := W2.out.bad2
  have f2 := W2.out.free2
  have t2 : w1.cell? ⟨w.heap.size, 2, none⟩ = some (.string ⟨l.toArray⟩) := (blk_cell hbx1.out 2).trans rfl
  have W3 := Lib.hid (W2.out.mark false)
  have hbx3 : Hid ((w1.setCell ⟨b, 2, none⟩ (.bool false)).heap[w.heap.size]? = some (.cells #[.string ⟨#[116, 101, 120, 116, 95, 111, 102]⟩, .int .i64 0, .string ⟨l.toArray⟩, .int .i64 0, .slice none 0 0, .slice none 0 0] 30 (0, 0))) := by
    unfold Hid
    rw [Below.heap_setCell _ _ _ _ (by show w.heap.size ≠ b; omega)]
    exact hbx1.out
  have W3b := W3.out.bad2
  have t3 : (w1.setCell ⟨b, 2, none⟩ (.bool false)).cell? ⟨w.heap.size, 2, none⟩ = some (.string ⟨l.toArray⟩) := (blk_cell hbx3.out 2).trans rfl
  go_wp2_with fail
  refine (quote_ok B b bs l _ W3.out.wr (by omega) hl (by have := W3.out.size; omega)).mono ?_
  rintro e w4 ⟨rfl, h4⟩
  have W4 := Lib.hid (W3.out.trans h4)
  clear h4
  go_wp2_with fail
  first | go_end0 | ((try simp only [Exit.inBlock, Exit.then]); refine bodyPost_ret (results_none rfl _ _ _) rfl ?_)
  exact ⟨rfl, W4.out⟩

set_option maxHeartbeats 1000000 in
set_option maxRecDepth 100000 in
theorem node_long (B b : Nat) (bs : List Value) (depth : Int) (l : List UInt8) (w : World) (h : IsWr B b bs false w) (hlen : bs.length ≤ 4096) (hBw : B ≤ w.heap.size) (hd : (depth == 0) = false) (hl : 256 < l.length) :
    Calls Tryd.prog 8 #[.pointer (some ⟨b, 0, none⟩), .agg #[.string ⟨#[116, 101, 120, 116, 95, 111, 102]⟩, .int .i64 0, .string ⟨l.toArray⟩, .int .i64 0, .slice none 0 0, .slice none 0 0], .int .i64 depth] w fun e w' => e = .returned (.tuple #[]) ∧ Wrote B b w w' (bs) true := by
  obtain ⟨NB, hNB⟩ : ∃ NB : Obj, NB = .cells #[.string ⟨#[116, 101, 120, 116, 95, 111, 102]⟩, .int .i64 0, .string ⟨l.toArray⟩, .int .i64 0, .slice none 0 0, .slice none 0 0] 30 := ⟨_, rfl⟩
  have hbb := h.lt
  have W0 := Lib.hid ((h.refl).alloc hBw NB)
  have hbx : Hid ((w.alloc NB).heap[w.heap.size]? = some NB) := heap_alloc_new w NB
  have b2 := h.refl.bad2
  have hlen2 : ((bs.length : Int) > 4096) = False := by simp; omega
  have hsz : ((⟨l.toArray⟩ : ByteArray)).size = l.length := rfl
  have hlz : decide ((256 : Int) < (l.length : Int)) = true := by rw [decide_eq_true_iff]; omega
  clear h
  subst hNB
  go_enter Tryd.func8, Tryd.ntmps8
  go_wp2_with fail
  refine (expr_shape.calls 20 _ _ _ _ sh_text).mono ?_
  rintro e w1 ⟨rfl, ⟨nd, rfl⟩⟩
  have W1 := Lib.hid (W0.out.drewN nd)
  go_wp2_with fail
  refine (len_any B b bs false _ W1.out.wr).mono ?_
  rintro e w1 ⟨rfl, rfl⟩
  go_wp2_with fail
  refine (bare_text _ _ _).mono ?_
  rintro e w1 ⟨rfl, hw1⟩
  have W2 := Lib.hid (hw1 ▸ W1.out.alloc (by simp; omega) _ : Wrote B b w w1 bs false)
  have hbx1 : Hid (w1.heap[w.heap.size]? = some (.cells #[.string ⟨#[116, 101, 120, 116, 95, 111, 102]⟩, .int .i64 0, .string ⟨l.toArray⟩, .int .i64 0, .slice none 0 0, .slice none 0 0] 30 (0, 0))) := by
    unfold Hid
    rw [hw1, Below.heap_alloc _ _ _ (by simp)]
    exact hbx.out
  clear hw1 b2
  have b2 := W2.out.bad2
  have f2 := W2.out.free2
  have t2 : w1.cell? ⟨w.heap.size, 2, none⟩ = some (.string ⟨l.toArray⟩) := (blk_cell hbx1.out 2).trans rfl
  have W3 := Lib.hid (W2.out.mark true)
  have hbx3 : Hid ((w1.setCell ⟨b, 2, none⟩ (.bool true)).heap[w.heap.size]? = some (.cells #[.string ⟨#[116, 101, 120, 116, 95, 111, 102]⟩, .int .i64 0, .string ⟨l.toArray⟩, .int .i64 0, .slice none 0 0, .slice none 0 0] 30 (0, 0))) := by
    unfold Hid
    rw [Below.heap_setCell _ _ _ _ (by show w.heap.size ≠ b; omega)]
    exact hbx1.out
  have W3b := W3.out.bad2
  go_wp2_with fail
  first | go_end0 | ((try simp only [Exit.inBlock, Exit.then]); refine bodyPost_ret (results_none rfl _ _ _) rfl ?_)
  exact ⟨rfl, W3.out⟩

set_option maxHeartbeats 1000000 in
set_option maxRecDepth 100000 in
theorem expr_str (g : Nat) (s : ByteArray) (l : List UInt8) (depth : Int) (w0 w : World) (hI : IsS48 w0 w g s 0 false) (hB : Below w0.heap.size w0 w) (hT : Hid (TextAt s l)) (hl : l.length ≤ 256) (hs : s.size ≤ 4096) :
    Calls Tryd.prog 11 #[.pointer (some ⟨g, 0, none⟩), .int .i64 depth] w fun e w' => e = .returned (.agg #[.string ⟨#[116, 101, 120, 116, 95, 111, 102]⟩, .int .i64 0, .string ⟨l.toArray⟩, .int .i64 0, .slice none 0 0, .slice none 0 0]) ∧ After w0 w w' g s (s.size : Int) false := by
  have HI := Lib.hid (hI.alloc zero30)
  have HB := Lib.hid (Below.alloc hB hB.size zero30)
  have hgw : Hid (g < w.heap.size) := hI.lt
  have hBs : Hid (w0.heap.size ≤ w.heap.size) := hB.size
  have D : Hid (pk s ((0 : Nat) : Int) = 34) := hT.out.first
  have HBL := Lib.hid (blanks_stay s 0 (by rw [D.out]; decide))
  clear hI hB
  go_enter Tryd.func11, Tryd.ntmps11
  go_wp2_with fail
  refine (expr_scanner_blanks.calls 20 g s ((0 : Nat) : Int) false _ _ _ w0 _ HI.out HB.out HBL.out).mono ?_
  rintro e w1 ⟨rfl, hi1, hb1, hk1⟩
  have HI1 := Lib.hid hi1; have HB1 := Lib.hid hb1; have HK1 := Lib.hid hk1
  clear hi1 hb1 hk1
  go_wp2_with fail
  refine (peek_d g s ((0 : Nat) : Int) _ false w0 _ D (by omega) HI1.out HB1.out).mono ?_
  rintro e w2 ⟨rfl, hi1, hb1, hk1⟩
  have HI2 := Lib.hid hi1; have HB2 := Lib.hid hb1; have HK2 := Lib.hid (HK1.out.trans hk1 (.inl rfl))
  have b2 := cellS48_2 hi1.1
  have c1 := cellS48_1 hi1.1
  have f1 := blk_frozen hi1.1 1
  clear hi1 hb1 hk1
  go_wp2_with fail
  have HI3 := Lib.hid (HI2.out.set_1 1)
  have HB3 := Lib.hid (below_set (j := 1) (v := .int .i64 1) HB2.out (IsS48.ge HI2.out))
  have HK3 := Lib.hid (KeepBut.set_ HK2.out 1 (.int .i64 1))
  clear b2 c1 f1
  generalize w2.setCell ⟨g, 1, none⟩ (.int .i64 1) = w3 at HI3 HB3 HK3 ⊢
  refine (str_ok g s l w0 w3 HI3.out HB3.out hT hl hs).mono ?_
  rintro e w4 ⟨rfl, hi1, hb1, hk1⟩
  have HI4 := Lib.hid hi1; have HB4 := Lib.hid hb1; have HK4 := Lib.hid (HK3.out.trans hk1 (.inl rfl))
  have HZw4 := Lib.hid (zero_kept HK4.out hgw.out)
  have hz := HZw4.out
  have q0 : w4.cell? ⟨w.heap.size, 0, none⟩ = some (.string ⟨#[]⟩) := (blk_cell hz 0).trans rfl
  have q1 : w4.cell? ⟨w.heap.size, 1, none⟩ = some (.int .i64 0) := (blk_cell hz 1).trans rfl
  have q2 : w4.cell? ⟨w.heap.size, 2, none⟩ = some (.string ⟨#[]⟩) := (blk_cell hz 2).trans rfl
  have q3 : w4.cell? ⟨w.heap.size, 3, none⟩ = some (.int .i64 0) := (blk_cell hz 3).trans rfl
  have q4 : w4.cell? ⟨w.heap.size, 4, none⟩ = some (.slice none 0 0) := (blk_cell hz 4).trans rfl
  have q5 : w4.cell? ⟨w.heap.size, 5, none⟩ = some (.slice none 0 0) := (blk_cell hz 5).trans rfl
  have z0 := blk_frozen hz 0
  have z1 := blk_frozen hz 1
  have z2 := blk_frozen hz 2
  have z3 := blk_frozen hz 3
  have z4 := blk_frozen hz 4
  have z5 := blk_frozen hz 5
  clear hz
  clear hi1 hb1 hk1
  go_wp2_with fail
  refine bodyPost_ret (v := .agg #[.string ⟨#[116, 101, 120, 116, 95, 111, 102]⟩, .int .i64 0, .string ⟨l.toArray⟩, .int .i64 0, .slice none 0 0, .slice none 0 0]) (by simp [results, Tryd.results11, go_sem, q0, q1, q2, q3, q4, q5]) rfl ⟨rfl, after_six HI4.out HB4.out HK4.out hgw.out hBs.out _ _ _ _ _ _⟩

theorem parse_text (l : List UInt8) (hl : l.length ≤ 256) (w : World) :
    Calls Tryd.prog 6 #[.string ⟨(quoted l).toArray⟩] w fun e w' => ∃ A c, e = .returned (.tuple #[.agg #[.string ⟨#[116, 101, 120, 116, 95, 111, 102]⟩, .int .i64 0, .string ⟨l.toArray⟩, .int .i64 0, .slice none 0 0, .slice A 0 c], .int .i64 0, .int .i64 0]) ∧ Below w.heap.size w w' := by
  have hT := textAt l
  have hsz := hT.size
  have hel := (enc_length l).2
  generalize (⟨(quoted l).toArray⟩ : ByteArray) = s at hT hsz ⊢
  refine (parse_ok 20 s (s.size : Int) ⟨#[116, 101, 120, 116, 95, 111, 102]⟩ 0 ⟨l.toArray⟩ 0 [] w (by omega) (by unfold maxLen; omega) (Lib.hid fun W g hI hB => ?_) (Lib.hid (blanks_stay s s.size ?_))).mono fun e w' ⟨A, c, he, hb, _⟩ => ⟨A, c, he, hb⟩
  · exact (expr_str g s l 24 w W hI hB (Lib.hid hT) hl (by omega)).mono fun e w' ⟨he, ha⟩ => ⟨none, 0, he, ha, World.ownsRow_nil ..⟩
  · unfold pk
    rw [if_neg (by omega)]
    decide

theorem show_text (l : List UInt8) (hl : l.length ≤ 256) (w : World) :
    Calls Tryd.prog 5 #[.agg #[.string ⟨#[116, 101, 120, 116, 95, 111, 102]⟩, .int .i64 0, .string ⟨l.toArray⟩, .int .i64 0, .slice none 0 0, .slice none 0 0]] w fun e w' => e = .returned (.tuple #[.string ⟨(quoted l).toArray⟩, .int .i64 0]) ∧ Below w.heap.size w w' := by
  have hel := (enc_length l).2
  refine show_ok _ _ _ _ _ _ (quoted l) w (by simp [quoted]) (by rw [quoted_length]; omega) (Lib.hid fun W b hW hBW hs => ?_)
  exact node_text w.heap.size b [] 24 l W hW (by decide) hs rfl hl

theorem show_long (l : List UInt8) (hl : 256 < l.length) (w : World) :
    Calls Tryd.prog 5 #[.agg #[.string ⟨#[116, 101, 120, 116, 95, 111, 102]⟩, .int .i64 0, .string ⟨l.toArray⟩, .int .i64 0, .slice none 0 0, .slice none 0 0]] w fun e w' => e = .returned (.tuple #[.string ⟨#[]⟩, .int .i64 110]) ∧ Below w.heap.size w w' := by
  refine show_bad _ _ _ _ _ _ [] w (Lib.hid fun W b hW hBW hs => ?_)
  exact node_long w.heap.size b [] 24 l W hW (by decide) hs rfl hl


end Go.Proofs.YtamfloegflejnaaDoor
