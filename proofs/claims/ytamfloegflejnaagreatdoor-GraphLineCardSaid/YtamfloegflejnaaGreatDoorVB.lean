/-
 The ref Read of a line: whether it is a node's.
 The ref Read of a line, word by word.
 The ref Read of a line, each.
 The ref Read of a line, window.
-/
import Derived.Test.YtamfloegflejnaaGreatDoorVA
import Derived.Test.YtamfloegflejnaaGreatDoorUA
import Derived.Test.YtamfloegflejnaaGreatDoorH1
set_option linter.unusedVariables false
set_option linter.unusedSimpArgs false
set_option maxHeartbeats 1000000
set_option maxRecDepth 100000
namespace Go.Proofs.YtamfloegflejnaaGreatDoor
open Lib (hid)
open Go.RowKit Go.Proofs.YtamfloegflejnaaGreatDoorW.PrintWords Go.Proofs.YtamfloegflejnaaGreatDoorW.PrintLast Go.Proofs.YtamfloegflejnaaGreatDoorW.PrintMore PGraphLines
/-- What one reads: a place up to a blank, what is left, and whether it is one. -/
def oneR (r : ByteArray) : List Int × ByteArray × Bool := ((numsR (hdS r) 32 3).1, tlS r, okS r && (numsR (hdS r) 32 3).2)
def eachR (r : ByteArray) : Bool := okS r && ((if (hdS r).data.toList = [45] then true else (numsR (hdS r) 44 3).2 && risesB (numsR (hdS r) 44 3).1 1 4) && textB (tlS r))
def winR (r : ByteArray) : Bool := (numsR r 32 7).2 && (((numsR r 32 7).1.length : Int) == 4)
/-- So many numbers, each up to a blank, and what is left. -/
def threeR : Nat -> ByteArray -> Option ByteArray
 | 0, r => some r
 | n + 1, r => if (okS r && (numsR (hdS r) 32 7).2) = true then threeR n (tlS r) else none
def grpR (r : ByteArray) : Bool := match threeR 3 r with
 | none => false
 | some r => okS r && ((howL r == [97, 99, 99] || howL r == [100, 105, 115]) && textB (tlS r))
/-- Is it a node's line? -/
def readR (s : ByteArray) : Bool :=
 if okS s = false then false
 else if howL s = [115, 111, 117, 114, 99, 101] then typeB (tlS s)
 else if howL s = [115, 105, 110, 107] then (numsR (tlS s) 32 3).2 && (((numsR (tlS s) 32 3).1.length : Int) == 1)
 else if howL s = [102, 108, 97, 116, 116, 101, 110] then (numsR (tlS s) 44 3).2 && risesB (numsR (tlS s) 44 3).1 1 4
 else if (oneR (tlS s)).2.2 = false then false
 else if howL s = [101, 97, 99, 104] then eachR (oneR (tlS s)).2.1
 else if howL s = [119, 105, 110, 100, 111, 119] then winR (oneR (tlS s)).2.1
 else if howL s = [103, 114, 111, 117, 112] then grpR (oneR (tlS s)).2.1
 else false
def RPost (s : ByteArray) (w : World) (e : Ending) (w' : World) : Prop := (∃ (op : Int) (A1 : Option Addr) (n1 k1 : Nat) (A2 : Option Addr) (n2 k2 : Nat) (tx : ByteArray) (kd : Int) (A5 : Option Addr) (n5 k5 : Nat) (a b c d e0 e1 e2 : Int) (e3 : Bool), e = .returned (.tuple #[.agg #[.int .i64 op, .slice A1 n1 k1, .slice A2 n2 k2, .string tx, .int .i64 kd, .slice A5 n5 k5, .int .i64 a, .int .i64 b, .int .i64 c, .int .i64 d, .int .i64 e0, .int .i64 e1, .int .i64 e2, .bool e3], .bool (readR s)])) ∧ Below w.heap.size w w'
/-- The result's block lies at its place. -/
def Fin43 (w W : World) : Prop := (∃ c0 c1 c2 c3 c4 c5 c6 c7 c8 c9 c10 c11 c12 c13 : Value, W.heap[w.heap.size]? = some (.cells #[c0, c1, c2, c3, c4, c5, c6, c7, c8, c9, c10, c11, c12, c13] 43 (0, 0))) ∧ Below w.heap.size w W
theorem Fin43.on {w W W' : World} (h : Fin43 w W) (hb : Below W.heap.size W W') : Fin43 w W' := by
 obtain ⟨⟨c0, c1, c2, c3, c4, c5, c6, c7, c8, c9, c10, c11, c12, c13, h0⟩, h1⟩ := h
 exact ⟨⟨c0, c1, c2, c3, c4, c5, c6, c7, c8, c9, c10, c11, c12, c13, blk_below h0 hb⟩, h1.trans (hb.mono h1.size)⟩
/-- The result's block, laid. -/
structure FinT (w W : World) : Prop where
 b : ∃ (op : Int) (A1 : Option Addr) (n1 k1 : Nat) (A2 : Option Addr) (n2 k2 : Nat) (tx : ByteArray) (kd : Int) (A5 : Option Addr) (n5 k5 : Nat) (a b c d e0 e1 e2 : Int) (e3 : Bool), W.heap[w.heap.size]? = some (.cells #[.int .i64 op, .slice A1 n1 k1, .slice A2 n2 k2, .string tx, .int .i64 kd, .slice A5 n5 k5, .int .i64 a, .int .i64 b, .int .i64 c, .int .i64 d, .int .i64 e0, .int .i64 e1, .int .i64 e2, .bool e3] 43 (0, 0))
 below : Below w.heap.size w W
theorem FinT.alloc {w W : World} (h : FinT w W) (o : Obj) : FinT w (W.alloc o) := by
 obtain ⟨⟨op, A1, n1, k1, A2, n2, k2, tx, kd, A5, n5, k5, a, b, c, d, e0, e1, e2, e3, h0⟩, h1⟩ := h
 exact ⟨⟨op, A1, n1, k1, A2, n2, k2, tx, kd, A5, n5, k5, a, b, c, d, e0, e1, e2, e3, blk_alloc h0 o⟩, below_alloc h1 o⟩
theorem fin14 {w W : World} {op : Int} {A1 : Option Addr} {n1 k1 : Nat} {A2 : Option Addr} {n2 k2 : Nat} {tx : ByteArray} {kd : Int} {A5 : Option Addr} {n5 k5 : Nat} {a b c d e0 e1 e2 : Int} {e3 : Bool} (h : Fin43 w W) : FinT w ((((((((((((((W.setCell ⟨w.heap.size, 0, none⟩ (.int .i64 op)).setCell ⟨w.heap.size, 1, none⟩ (.slice A1 n1 k1)).setCell ⟨w.heap.size, 2, none⟩ (.slice A2 n2 k2)).setCell ⟨w.heap.size, 3, none⟩ (.string tx)).setCell ⟨w.heap.size, 4, none⟩ (.int .i64 kd)).setCell ⟨w.heap.size, 5, none⟩ (.slice A5 n5 k5)).setCell ⟨w.heap.size, 6, none⟩ (.int .i64 a)).setCell ⟨w.heap.size, 7, none⟩ (.int .i64 b)).setCell ⟨w.heap.size, 8, none⟩ (.int .i64 c)).setCell ⟨w.heap.size, 9, none⟩ (.int .i64 d)).setCell ⟨w.heap.size, 10, none⟩ (.int .i64 e0)).setCell ⟨w.heap.size, 11, none⟩ (.int .i64 e1)).setCell ⟨w.heap.size, 12, none⟩ (.int .i64 e2)).setCell ⟨w.heap.size, 13, none⟩ (.bool e3)) := by
 obtain ⟨⟨c0, c1, c2, c3, c4, c5, c6, c7, c8, c9, c10, c11, c12, c13, h0⟩, h1⟩ := h
 have h2 := (blk_set (blk_set (blk_set (blk_set (blk_set (blk_set (blk_set (blk_set (blk_set (blk_set (blk_set (blk_set (blk_set (blk_set h0 0 (.int .i64 op)) 1 (.slice A1 n1 k1)) 2 (.slice A2 n2 k2)) 3 (.string tx)) 4 (.int .i64 kd)) 5 (.slice A5 n5 k5)) 6 (.int .i64 a)) 7 (.int .i64 b)) 8 (.int .i64 c)) 9 (.int .i64 d)) 10 (.int .i64 e0)) 11 (.int .i64 e1)) 12 (.int .i64 e2)) 13 (.bool e3))
 refine ⟨⟨op, A1, n1, k1, A2, n2, k2, tx, kd, A5, n5, k5, a, b, c, d, e0, e1, e2, e3, by simpa using h2⟩, ((((((((((((((h1.setCell (p := ⟨w.heap.size, 0, none⟩) (Nat.le_refl _) (.int .i64 op)).setCell (p := ⟨w.heap.size, 1, none⟩) (Nat.le_refl _) (.slice A1 n1 k1)).setCell (p := ⟨w.heap.size, 2, none⟩) (Nat.le_refl _) (.slice A2 n2 k2)).setCell (p := ⟨w.heap.size, 3, none⟩) (Nat.le_refl _) (.string tx)).setCell (p := ⟨w.heap.size, 4, none⟩) (Nat.le_refl _) (.int .i64 kd)).setCell (p := ⟨w.heap.size, 5, none⟩) (Nat.le_refl _) (.slice A5 n5 k5)).setCell (p := ⟨w.heap.size, 6, none⟩) (Nat.le_refl _) (.int .i64 a)).setCell (p := ⟨w.heap.size, 7, none⟩) (Nat.le_refl _) (.int .i64 b)).setCell (p := ⟨w.heap.size, 8, none⟩) (Nat.le_refl _) (.int .i64 c)).setCell (p := ⟨w.heap.size, 9, none⟩) (Nat.le_refl _) (.int .i64 d)).setCell (p := ⟨w.heap.size, 10, none⟩) (Nat.le_refl _) (.int .i64 e0)).setCell (p := ⟨w.heap.size, 11, none⟩) (Nat.le_refl _) (.int .i64 e1)).setCell (p := ⟨w.heap.size, 12, none⟩) (Nat.le_refl _) (.int .i64 e2)).setCell (p := ⟨w.heap.size, 13, none⟩) (Nat.le_refl _) (.bool e3))⟩
theorem fin_ret {s : ByteArray} {w W : World} {tmps : Array Value} {b : Bool} (h : FinT w W) (hp : tmps.getD 2 undef = .pointer (some ⟨w.heap.size, 0, none⟩)) (hu : tmps.getD 3 undef = .bool b) (hb : readR s = b) : bodyPost Tryz.prog Tryz.f10 (RPost s w) Exit.ret ⟨tmps, []⟩ W := by
 obtain ⟨⟨op, A1, n1, k1, A2, n2, k2, tx, kd, A5, n5, k5, a, b', c, d, e0, e1, e2, e3, h0⟩, h1⟩ := h
 exact bodyPost_ret (results_ct (p := 2) (u := 3) (ty := 43) rfl tmps _ w.heap.size 43 _ (0, 0) _ hp h0 Tryz.underlying43 rfl (by kernel_rfl)) rfl ⟨⟨op, A1, n1, k1, A2, n2, k2, tx, kd, A5, n5, k5, a, b', c, d, e0, e1, e2, e3, by rw [hu, hb]⟩, h1⟩
theorem cells14 {w W : World} {c0 c1 c2 c3 c4 c5 c6 c7 c8 c9 c10 c11 c12 c13 : Value} (h : W.heap[w.heap.size]? = some (.cells #[c0, c1, c2, c3, c4, c5, c6, c7, c8, c9, c10, c11, c12, c13] 43 (0, 0))) :
  W.cell? ⟨w.heap.size, 0, none⟩ = some c0 ∧ W.cell? ⟨w.heap.size, 1, none⟩ = some c1 ∧ W.cell? ⟨w.heap.size, 2, none⟩ = some c2 ∧ W.cell? ⟨w.heap.size, 3, none⟩ = some c3 ∧ W.cell? ⟨w.heap.size, 4, none⟩ = some c4 ∧ W.cell? ⟨w.heap.size, 5, none⟩ = some c5 ∧ W.cell? ⟨w.heap.size, 6, none⟩ = some c6 ∧ W.cell? ⟨w.heap.size, 7, none⟩ = some c7 ∧ W.cell? ⟨w.heap.size, 8, none⟩ = some c8 ∧ W.cell? ⟨w.heap.size, 9, none⟩ = some c9 ∧ W.cell? ⟨w.heap.size, 10, none⟩ = some c10 ∧ W.cell? ⟨w.heap.size, 11, none⟩ = some c11 ∧ W.cell? ⟨w.heap.size, 12, none⟩ = some c12 ∧ W.cell? ⟨w.heap.size, 13, none⟩ = some c13 :=
 ⟨(blk_cell h 0).trans rfl, (blk_cell h 1).trans rfl, (blk_cell h 2).trans rfl, (blk_cell h 3).trans rfl, (blk_cell h 4).trans rfl, (blk_cell h 5).trans rfl, (blk_cell h 6).trans rfl, (blk_cell h 7).trans rfl, (blk_cell h 8).trans rfl, (blk_cell h 9).trans rfl, (blk_cell h 10).trans rfl, (blk_cell h 11).trans rfl, (blk_cell h 12).trans rfl, (blk_cell h 13).trans rfl⟩
theorem froz14 {w W : World} {cs : Array Value} (h : W.heap[w.heap.size]? = some (.cells cs 43 (0, 0))) :
  W.frozen? ⟨w.heap.size, 0, none⟩ = false ∧ W.frozen? ⟨w.heap.size, 1, none⟩ = false ∧ W.frozen? ⟨w.heap.size, 2, none⟩ = false ∧ W.frozen? ⟨w.heap.size, 3, none⟩ = false ∧ W.frozen? ⟨w.heap.size, 4, none⟩ = false ∧ W.frozen? ⟨w.heap.size, 5, none⟩ = false ∧ W.frozen? ⟨w.heap.size, 6, none⟩ = false ∧ W.frozen? ⟨w.heap.size, 7, none⟩ = false ∧ W.frozen? ⟨w.heap.size, 8, none⟩ = false ∧ W.frozen? ⟨w.heap.size, 9, none⟩ = false ∧ W.frozen? ⟨w.heap.size, 10, none⟩ = false ∧ W.frozen? ⟨w.heap.size, 11, none⟩ = false ∧ W.frozen? ⟨w.heap.size, 12, none⟩ = false ∧ W.frozen? ⟨w.heap.size, 13, none⟩ = false :=
 ⟨blk_frozen h 0, blk_frozen h 1, blk_frozen h 2, blk_frozen h 3, blk_frozen h 4, blk_frozen h 5, blk_frozen h 6, blk_frozen h 7, blk_frozen h 8, blk_frozen h 9, blk_frozen h 10, blk_frozen h 11, blk_frozen h 12, blk_frozen h 13⟩
abbrev zero43 : Array Value := #[.int .i64 0, .slice none 0 0, .slice none 0 0, .string ⟨#[]⟩, .int .i64 0, .slice none 0 0, .int .i64 0, .int .i64 0, .int .i64 0, .int .i64 0, .int .i64 0, .int .i64 0, .int .i64 0, .bool false]
theorem fin_start (w : World) : Fin43 w (w.alloc (.cells zero43 43)) := ⟨⟨_, _, _, _, _, _, _, _, _, _, _, _, _, _, heap_alloc_new w _⟩, below_alloc (Below.refl _ _) _⟩
theorem fin_far {w W : World} {N : Nat} (h : Fin43 w W) (hN : w.heap.size < N) (i : Nat) (v : Value) : Fin43 w (W.setCell ⟨N, i, none⟩ v) := by
 obtain ⟨⟨c0, c1, c2, c3, c4, c5, c6, c7, c8, c9, c10, c11, c12, c13, h0⟩, h1⟩ := h
 exact ⟨⟨c0, c1, c2, c3, c4, c5, c6, c7, c8, c9, c10, c11, c12, c13, (Below.heap_setCell W ⟨N, i, none⟩ v w.heap.size (by show w.heap.size ≠ N; omega)).trans h0⟩, h1.setCell (p := ⟨N, i, none⟩) (by show w.heap.size <= N; omega) v⟩
theorem C_far {w4 w5 : World} {A : Option Addr} {c N : Nat} {l : List Int} {o : Obj} (hC : (Kd.int .i64).C w5 A l.length l) (hR : (Kd.int .i64).R 3 w5 w4.heap.size (fun _ => True) (.slice A l.length c) l) (hb : Below w4.heap.size w4 w5) (hN : w4.heap[N]? = some o) (i : Nat) (v : Value) : (Kd.int .i64).C (w5.setCell ⟨N, i, none⟩ v) A l.length l := by
 have hlt : N < w4.heap.size := (Array.getElem?_eq_some_iff.1 hN).1
 have h2 := Kd.R_mono (ok' := fun k => k ≠ N) (Kd.R_bound hR) (fun k hk => by have := hk.2.1; omega)
 have h3 := Kd.R_far h2 (p := ⟨N, i, none⟩) (fun _ h => h) v
 obtain ⟨A', c', hv, _, hC'⟩ := Kd.R_reads h3
 injection hv with hA _ _
 subst hA
 exact hC'
theorem numsG_len (c : UInt8) (d : Nat) : ∀ (f : Nat) (s : ByteArray) (acc : List Int), (numsG c d f s acc).1.length <= acc.length + s.size + 1 ∧ ((numsG c d f s acc).2 = true -> acc.length < (numsG c d f s acc).1.length)
 | 0, s, acc => ⟨Nat.zero_le _, fun h => by cases h⟩
 | f + 1, s, acc => by
  have hless := cut_less s.data.toList c
  have hls : s.data.toList.length = s.size := by simp
  unfold numsG
  generalize Lib.cut s.data.toList [c] = r at *
  obtain ⟨a, b, more⟩ := r
  dsimp only at *
  cases numV ⟨a.toArray⟩ d with
  | none => exact ⟨Nat.zero_le _, fun h => by cases h⟩
  | some v =>
   dsimp only
   cases more with
   | false => rw [if_neg (by decide)]; simp
   | true =>
    rw [if_pos rfl]
    have ih := numsG_len c d f ⟨b.toArray⟩ (acc ++ [v])
    have hb := hless.2 rfl
    have hz := ba_size b
    rw [List.length_append, List.length_singleton] at ih
    exact ⟨by omega, fun h => by have := ih.2 h; omega⟩
theorem numsR_len (s : ByteArray) (c : UInt8) (d : Nat) : (numsR s c d).1.length <= s.size + 1 ∧ ((numsR s c d).2 = true -> 1 <= (numsR s c d).1.length) := by
 have := numsG_len c d (s.size + 1) s []
 simp only [List.length_nil, Nat.zero_add] at this
 exact ⟨this.1, fun h => this.2 h⟩
theorem one2_any (r : ByteArray) (hr : r.size <= 1000000) (w : World) :
  Calls Tryz.prog 25 #[.string r] w fun e w' => ∃ v : Value, e = .returned (.tuple #[v, .string (oneR r).2.1, .bool (oneR r).2.2]) ∧ Kd.R (Kd.int .i64) 3 w' w.heap.size (fun _ => True) v (oneR r).1 ∧ Below w.heap.size w w' := by
 have hc := cut_ev r 32 (by omega)
 have hz : (hdS r).size <= r.size := hd_size r
 have hev : Ev (fun k => r11_one.f k r) ((oneR r).1, (oneR r).2.1, (oneR r).2.2) := by
  unfold r11_one.f
  refine Ev.bind (f := fun k v => _) hc (Ev.bind (f := fun k v => _) (nums_ev 32 3 (by omega) ((hdS r).size + 1) (hdS r) [] (by omega) (by simp; omega)) ?_)
  dsimp only
  cases hm : (Lib.cut r.data.toList [32]).2.2 with
  | true =>
   have : oneR r = ((numsR (hdS r) 32 3).1, tlS r, (numsR (hdS r) 32 3).2) := by
    unfold oneR
    rw [show okS r = true from hm, Bool.true_and]
   rw [this]
   exact Ev.pos rfl (Ev.now _)
  | false =>
   have : oneR r = ((numsR (hdS r) 32 3).1, tlS r, false) := by
    unfold oneR
    rw [show okS r = false from hm, Bool.false_and]
   rw [this]
   exact Ev.neg (by decide) (Ev.now _)
 obtain ⟨k, hk⟩ := hev.rounds
 exact r11_one.calls k r _ _ _ w hk
theorem rd_none (s : ByteArray) (hs : s.size <= 900000) (w : World) (hok : okS s = false) : Calls Tryz.prog 10 #[.string s] w (RPost s w) := by
 have HF := hid (fin_start w)
 have HC := hid (cut2_any s 32 (w.alloc (.cells zero43 43)) (by omega))
 have hR : readR s = false := by unfold readR; rw [if_pos hok]
 have HR := hid hR
 have hok2 : (Lib.cut s.data.toList [32]).2.2 = false := hok
 clear hR
 go_enter Tryz.func10, Tryz.ntmps10
 go_wp2_with fail
 generalize w.alloc (.cells zero43 43) = W at HF HC ⊢
 refine HC.out.mono ?_
 rintro e w1 ⟨rfl, hb1⟩
 rw [hok2]
 have HF1 := hid (HF.out.on hb1)
 clear hb1
 obtain ⟨⟨c0, c1, c2, c3, c4, c5, c6, c7, c8, c9, c10, c11, c12, c13, hx⟩, hbel⟩ := HF1.out
 obtain ⟨r0, r1, r2, r3, r4, r5, r6, r7, r8, r9, r10, r11, r12, r13⟩ := cells14 hx
 obtain ⟨z0, z1, z2, z3, z4, z5, z6, z7, z8, z9, z10, z11, z12, z13⟩ := froz14 hx
 clear hx hbel
 go_wp2_with fail
 refine fin_ret (fin14 HF1.out) rfl rfl HR.out
set_option maxHeartbeats 1000000
set_option maxRecDepth 100000
theorem rd_src (s : ByteArray) (hs : s.size <= 900000) (w : World) (hok : okS s = true) (y : howL s = [115, 111, 117, 114, 99, 101]) : Calls Tryz.prog 10 #[.string s] w (RPost s w) := by
 have HF := hid (fin_start w)
 have HC := hid (cut2_any s 32 (w.alloc (.cells zero43 43)) (by omega))
 have htl : (tlS s).size <= 900000 := Nat.le_trans (tl_size s) hs
 have d0 : ((hdS s).toList == [115, 111, 117, 114, 99, 101]) = true := by rw [beq_iff_eq, ByteArray.toList_eq]; exact y
 have HR : Hid (readR s = typeB (tlS s)) := by unfold Hid readR; rw [if_neg (by rw [hok]; decide), if_pos y]
 have hok2 : (Lib.cut s.data.toList [32]).2.2 = true := hok
 have hh : (⟨(Lib.cut s.data.toList [32]).1.toArray⟩ : ByteArray) = hdS s := rfl
 have ht : (⟨(Lib.cut s.data.toList [32]).2.1.toArray⟩ : ByteArray) = tlS s := rfl
 rw [hok2, hh, ht] at HC
 generalize hdS s = wd at *
 generalize tlS s = rs at *
 clear hok hok2 hh ht y
 go_enter Tryz.func10, Tryz.ntmps10
 go_wp2_with fail
 generalize w.alloc (.cells zero43 43) = W at HF HC ⊢
 refine HC.out.mono ?_
 rintro e w1 ⟨rfl, hb1⟩
 have HF1 := hid (HF.out.on hb1)
 clear hb1 HC HF
 have HK := hid (type_any rs (by omega) w1)
 go_wp2_with fail
 refine HK.out.mono ?_
 rintro e w2 ⟨⟨kd, A, n, c, at2, rfl⟩, hb2⟩
 have HF2 := hid (HF1.out.on hb2)
 clear hb2
 obtain ⟨⟨c0, c1, c2, c3, c4, c5, c6, c7, c8, c9, c10, c11, c12, c13, hx⟩, hbel⟩ := HF2.out
 obtain ⟨r0, r1, r2, r3, r4, r5, r6, r7, r8, r9, r10, r11, r12, r13⟩ := cells14 hx
 obtain ⟨z0, z1, z2, z3, z4, z5, z6, z7, z8, z9, z10, z11, z12, z13⟩ := froz14 hx
 have hlt := blk_lt hx
 clear hx hbel
 go_wp2_with fail
 exact fin_ret (FinT.alloc (fin14 HF2.out) _) rfl rfl HR.out
theorem rd_sink (s : ByteArray) (hs : s.size <= 900000) (w : World) (hok : okS s = true) (n0 : howL s ≠ [115, 111, 117, 114, 99, 101]) (y : howL s = [115, 105, 110, 107]) : Calls Tryz.prog 10 #[.string s] w (RPost s w) := by
 have HF := hid (fin_start w)
 have HC := hid (cut2_any s 32 (w.alloc (.cells zero43 43)) (by omega))
 have htl : (tlS s).size <= 900000 := Nat.le_trans (tl_size s) hs
 have d0 : ((hdS s).toList == [115, 111, 117, 114, 99, 101]) = false := by rw [beq_eq_false_iff_ne, ByteArray.toList_eq]; exact n0
 have d1 : ((hdS s).toList == [115, 105, 110, 107]) = true := by rw [beq_iff_eq, ByteArray.toList_eq]; exact y
 have HR : Hid (readR s = ((numsR (tlS s) 32 3).2 && (((numsR (tlS s) 32 3).1.length : Int) == 1))) := by unfold Hid readR; rw [if_neg (by rw [hok]; decide), if_neg n0, if_pos y]
 have hok2 : (Lib.cut s.data.toList [32]).2.2 = true := hok
 have hh : (⟨(Lib.cut s.data.toList [32]).1.toArray⟩ : ByteArray) = hdS s := rfl
 have ht : (⟨(Lib.cut s.data.toList [32]).2.1.toArray⟩ : ByteArray) = tlS s := rfl
 rw [hok2, hh, ht] at HC
 generalize hdS s = wd at *
 generalize tlS s = rs at *
 clear hok hok2 hh ht n0 y
 go_enter Tryz.func10, Tryz.ntmps10
 go_wp2_with fail
 generalize w.alloc (.cells zero43 43) = W at HF HC ⊢
 refine HC.out.mono ?_
 rintro e w1 ⟨rfl, hb1⟩
 have HF1 := hid (HF.out.on hb1)
 clear hb1 HC HF
 have HK := hid (nums2_any rs 32 3 (by omega) (by omega) w1)
 go_wp2_with fail
 refine HK.out.mono ?_
 rintro e w2 ⟨v, rfl, hR, hb2⟩
 obtain ⟨A, c, rfl, _, _⟩ := Kd.R_reads hR
 have HF2 := hid (HF1.out.on hb2)
 clear hb2 hR HK
 generalize (numsR rs 32 3).2 = fine at *
 generalize (numsR rs 32 3).1 = l at *
 obtain ⟨⟨c0, c1, c2, c3, c4, c5, c6, c7, c8, c9, c10, c11, c12, c13, hx⟩, hbel⟩ := HF2.out
 obtain ⟨r0, r1, r2, r3, r4, r5, r6, r7, r8, r9, r10, r11, r12, r13⟩ := cells14 hx
 obtain ⟨z0, z1, z2, z3, z4, z5, z6, z7, z8, z9, z10, z11, z12, z13⟩ := froz14 hx
 have hlt := blk_lt hx
 clear hx hbel
 cases fine with
 | false =>
  go_wp2_with fail
  exact fin_ret (fin14 HF2.out) rfl rfl HR.out
 | true =>
  go_wp2_with fail
  exact fin_ret (fin14 HF2.out) rfl rfl (HR.out.trans (Bool.true_and _))
theorem rd_flat (s : ByteArray) (hs : s.size <= 900000) (w : World) (hok : okS s = true) (n0 : howL s ≠ [115, 111, 117, 114, 99, 101]) (n1 : howL s ≠ [115, 105, 110, 107]) (y : howL s = [102, 108, 97, 116, 116, 101, 110]) : Calls Tryz.prog 10 #[.string s] w (RPost s w) := by
 have HF := hid (fin_start w)
 have HC := hid (cut2_any s 32 (w.alloc (.cells zero43 43)) (by omega))
 have htl : (tlS s).size <= 900000 := Nat.le_trans (tl_size s) hs
 have d0 : ((hdS s).toList == [115, 111, 117, 114, 99, 101]) = false := by rw [beq_eq_false_iff_ne, ByteArray.toList_eq]; exact n0
 have d1 : ((hdS s).toList == [115, 105, 110, 107]) = false := by rw [beq_eq_false_iff_ne, ByteArray.toList_eq]; exact n1
 have d2 : ((hdS s).toList == [102, 108, 97, 116, 116, 101, 110]) = true := by rw [beq_iff_eq, ByteArray.toList_eq]; exact y
 have HR : Hid (readR s = ((numsR (tlS s) 44 3).2 && risesB (numsR (tlS s) 44 3).1 1 4)) := by unfold Hid readR; rw [if_neg (by rw [hok]; decide), if_neg n0, if_neg n1, if_pos y]
 have hlen := (numsR_len (tlS s) 44 3).1
 have hok2 : (Lib.cut s.data.toList [32]).2.2 = true := hok
 have hh : (⟨(Lib.cut s.data.toList [32]).1.toArray⟩ : ByteArray) = hdS s := rfl
 have ht : (⟨(Lib.cut s.data.toList [32]).2.1.toArray⟩ : ByteArray) = tlS s := rfl
 rw [hok2, hh, ht] at HC
 generalize hdS s = wd at *
 generalize tlS s = rs at *
 clear hok hok2 hh ht n0 n1 y
 go_enter Tryz.func10, Tryz.ntmps10
 go_wp2_with fail
 generalize w.alloc (.cells zero43 43) = W at HF HC ⊢
 refine HC.out.mono ?_
 rintro e w1 ⟨rfl, hb1⟩
 have HF1 := hid (HF.out.on hb1)
 clear hb1 HC HF
 have HK := hid (nums2_any rs 44 3 (by omega) (by omega) w1)
 go_wp2_with fail
 refine HK.out.mono ?_
 rintro e w2 ⟨v, rfl, hR, hb2⟩
 obtain ⟨A, c, rfl, hc, hC⟩ := Kd.R_reads hR
 have HF2 := hid (HF1.out.on hb2)
 have hlen2 : (numsR rs 44 3).1.length <= 1000000 := by omega
 clear hb2 hR HK hlen
 generalize (numsR rs 44 3).2 = fine at *
 generalize (numsR rs 44 3).1 = l at *
 have HRI := hid (rises2_any l A c 1 4 w2 hlen2 hC hc)
 clear hC hc
 obtain ⟨⟨c0, c1, c2, c3, c4, c5, c6, c7, c8, c9, c10, c11, c12, c13, hx⟩, hbel⟩ := HF2.out
 obtain ⟨r0, r1, r2, r3, r4, r5, r6, r7, r8, r9, r10, r11, r12, r13⟩ := cells14 hx
 obtain ⟨z0, z1, z2, z3, z4, z5, z6, z7, z8, z9, z10, z11, z12, z13⟩ := froz14 hx
 have hlt := blk_lt hx
 clear hx hbel
 cases fine with
 | false =>
  go_wp2_with fail
  exact fin_ret (fin14 HF2.out) rfl rfl HR.out
 | true =>
  clear r0 r1 r2 r3 r4 r5 r6 r7 r8 r9 r10 r11 r12 r13 z0 z1 z2 z3 z4 z5 z6 z7 z8 z9 z10 z11 z12 z13 hlt
  go_wp2_with fail
  refine HRI.out.mono ?_
  rintro e w3 ⟨rfl, hb3⟩
  have HF3 := hid (HF2.out.on hb3)
  clear hb3
  obtain ⟨⟨c0, c1, c2, c3, c4, c5, c6, c7, c8, c9, c10, c11, c12, c13, hx⟩, hbel⟩ := HF3.out
  obtain ⟨r0, r1, r2, r3, r4, r5, r6, r7, r8, r9, r10, r11, r12, r13⟩ := cells14 hx
  obtain ⟨z0, z1, z2, z3, z4, z5, z6, z7, z8, z9, z10, z11, z12, z13⟩ := froz14 hx
  have hlt := blk_lt hx
  clear hx hbel
  go_wp2_with fail
  exact fin_ret (fin14 HF3.out) rfl rfl (HR.out.trans (Bool.true_and _))
theorem rd_bad (s : ByteArray) (hs : s.size <= 900000) (w : World) (hok : okS s = true) (n0 : howL s ≠ [115, 111, 117, 114, 99, 101]) (n1 : howL s ≠ [115, 105, 110, 107]) (n2 : howL s ≠ [102, 108, 97, 116, 116, 101, 110]) (h1 : (oneR (tlS s)).2.2 = false) : Calls Tryz.prog 10 #[.string s] w (RPost s w) := by
 have HF := hid (fin_start w)
 have HC := hid (cut2_any s 32 (w.alloc (.cells zero43 43)) (by omega))
 have htl : (tlS s).size <= 900000 := Nat.le_trans (tl_size s) hs
 have d0 : ((hdS s).toList == [115, 111, 117, 114, 99, 101]) = false := by rw [beq_eq_false_iff_ne, ByteArray.toList_eq]; exact n0
 have d1 : ((hdS s).toList == [115, 105, 110, 107]) = false := by rw [beq_eq_false_iff_ne, ByteArray.toList_eq]; exact n1
 have d2 : ((hdS s).toList == [102, 108, 97, 116, 116, 101, 110]) = false := by rw [beq_eq_false_iff_ne, ByteArray.toList_eq]; exact n2
 have HR : Hid (readR s = false) := by unfold Hid readR; rw [if_neg (by rw [hok]; decide), if_neg n0, if_neg n1, if_neg n2, if_pos h1]
 have hok2 : (Lib.cut s.data.toList [32]).2.2 = true := hok
 have hh : (⟨(Lib.cut s.data.toList [32]).1.toArray⟩ : ByteArray) = hdS s := rfl
 have ht : (⟨(Lib.cut s.data.toList [32]).2.1.toArray⟩ : ByteArray) = tlS s := rfl
 rw [hok2, hh, ht] at HC
 generalize hdS s = wd at *
 generalize tlS s = rs at *
 clear hok hok2 hh ht n0 n1 n2
 go_enter Tryz.func10, Tryz.ntmps10
 go_wp2_with fail
 generalize w.alloc (.cells zero43 43) = W at HF HC ⊢
 refine HC.out.mono ?_
 rintro e w1 ⟨rfl, hb1⟩
 have HF1 := hid (HF.out.on hb1)
 clear hb1 HC HF
 have HK := hid (one2_any rs (by omega) w1)
 rw [h1] at HK
 clear h1
 go_wp2_with fail
 refine HK.out.mono ?_
 rintro e w2 ⟨v, rfl, hR, hb2⟩
 obtain ⟨A, c, rfl, hc, hC⟩ := Kd.R_reads hR
 have HF2 := hid (HF1.out.on hb2)
 clear hb2 hR HK HF1
 obtain ⟨⟨c0, c1, c2, c3, c4, c5, c6, c7, c8, c9, c10, c11, c12, c13, hx⟩, hbel⟩ := HF2.out
 obtain ⟨r0, r1, r2, r3, r4, r5, r6, r7, r8, r9, r10, r11, r12, r13⟩ := cells14 hx
 obtain ⟨z0, z1, z2, z3, z4, z5, z6, z7, z8, z9, z10, z11, z12, z13⟩ := froz14 hx
 have hlt := blk_lt hx
 clear hx hbel
 go_wp2_with fail
 exact fin_ret (fin14 HF2.out) rfl rfl HR.out
theorem rd_def (s : ByteArray) (hs : s.size <= 900000) (w : World) (hok : okS s = true) (n0 : howL s ≠ [115, 111, 117, 114, 99, 101]) (n1 : howL s ≠ [115, 105, 110, 107]) (n2 : howL s ≠ [102, 108, 97, 116, 116, 101, 110]) (n3 : howL s ≠ [101, 97, 99, 104]) (n4 : howL s ≠ [119, 105, 110, 100, 111, 119]) (n5 : howL s ≠ [103, 114, 111, 117, 112]) (h1 : (oneR (tlS s)).2.2 = true) : Calls Tryz.prog 10 #[.string s] w (RPost s w) := by
 have HF := hid (fin_start w)
 have HC := hid (cut2_any s 32 (w.alloc (.cells zero43 43)) (by omega))
 have htl : (tlS s).size <= 900000 := Nat.le_trans (tl_size s) hs
 have d0 : ((hdS s).toList == [115, 111, 117, 114, 99, 101]) = false := by rw [beq_eq_false_iff_ne, ByteArray.toList_eq]; exact n0
 have d1 : ((hdS s).toList == [115, 105, 110, 107]) = false := by rw [beq_eq_false_iff_ne, ByteArray.toList_eq]; exact n1
 have d2 : ((hdS s).toList == [102, 108, 97, 116, 116, 101, 110]) = false := by rw [beq_eq_false_iff_ne, ByteArray.toList_eq]; exact n2
 have d3 : ((hdS s).toList == [101, 97, 99, 104]) = false := by rw [beq_eq_false_iff_ne, ByteArray.toList_eq]; exact n3
 have d4 : ((hdS s).toList == [119, 105, 110, 100, 111, 119]) = false := by rw [beq_eq_false_iff_ne, ByteArray.toList_eq]; exact n4
 have d5 : ((hdS s).toList == [103, 114, 111, 117, 112]) = false := by rw [beq_eq_false_iff_ne, ByteArray.toList_eq]; exact n5
 have HR : Hid (readR s = false) := by unfold Hid readR; rw [if_neg (by rw [hok]; decide), if_neg n0, if_neg n1, if_neg n2, if_neg (by rw [h1]; decide), if_neg n3, if_neg n4, if_neg n5]
 have hok2 : (Lib.cut s.data.toList [32]).2.2 = true := hok
 have hh : (⟨(Lib.cut s.data.toList [32]).1.toArray⟩ : ByteArray) = hdS s := rfl
 have ht : (⟨(Lib.cut s.data.toList [32]).2.1.toArray⟩ : ByteArray) = tlS s := rfl
 rw [hok2, hh, ht] at HC
 generalize hdS s = wd at *
 generalize tlS s = rs at *
 clear hok hok2 hh ht n0 n1 n2 n3 n4 n5
 go_enter Tryz.func10, Tryz.ntmps10
 go_wp2_with fail
 generalize w.alloc (.cells zero43 43) = W at HF HC ⊢
 refine HC.out.mono ?_
 rintro e w1 ⟨rfl, hb1⟩
 have HF1 := hid (HF.out.on hb1)
 clear hb1 HC HF
 have HK := hid (one2_any rs (by omega) w1)
 rw [h1] at HK
 clear h1
 go_wp2_with fail
 refine HK.out.mono ?_
 rintro e w2 ⟨v, rfl, hR, hb2⟩
 obtain ⟨A, c, rfl, hc, hC⟩ := Kd.R_reads hR
 have HF2 := hid (HF1.out.on hb2)
 clear hb2 hR HK HF1
 obtain ⟨⟨c0, c1, c2, c3, c4, c5, c6, c7, c8, c9, c10, c11, c12, c13, hx⟩, hbel⟩ := HF2.out
 obtain ⟨r0, r1, r2, r3, r4, r5, r6, r7, r8, r9, r10, r11, r12, r13⟩ := cells14 hx
 obtain ⟨z0, z1, z2, z3, z4, z5, z6, z7, z8, z9, z10, z11, z12, z13⟩ := froz14 hx
 have hlt := blk_lt hx
 clear hx hbel
 go_wp2_with fail
 exact fin_ret (fin14 HF2.out) rfl rfl HR.out
set_option maxHeartbeats 1000000
set_option maxRecDepth 100000
theorem rd_each (s : ByteArray) (hs : s.size <= 900000) (w : World) (hok : okS s = true) (n0 : howL s ≠ [115, 111, 117, 114, 99, 101]) (n1 : howL s ≠ [115, 105, 110, 107]) (n2 : howL s ≠ [102, 108, 97, 116, 116, 101, 110]) (y : howL s = [101, 97, 99, 104]) (h1 : (oneR (tlS s)).2.2 = true) : Calls Tryz.prog 10 #[.string s] w (RPost s w) := by
 have HF := hid (fin_start w)
 have HC := hid (cut2_any s 32 (w.alloc (.cells zero43 43)) (by omega))
 have htl : (tlS s).size <= 900000 := Nat.le_trans (tl_size s) hs
 have d0 : ((hdS s).toList == [115, 111, 117, 114, 99, 101]) = false := by rw [beq_eq_false_iff_ne, ByteArray.toList_eq]; exact n0
 have d1 : ((hdS s).toList == [115, 105, 110, 107]) = false := by rw [beq_eq_false_iff_ne, ByteArray.toList_eq]; exact n1
 have d2 : ((hdS s).toList == [102, 108, 97, 116, 116, 101, 110]) = false := by rw [beq_eq_false_iff_ne, ByteArray.toList_eq]; exact n2
 have d3 : ((hdS s).toList == [101, 97, 99, 104]) = true := by rw [beq_iff_eq, ByteArray.toList_eq]; exact y
 have HR : Hid (readR s = eachR (oneR (tlS s)).2.1) := by unfold Hid readR; rw [if_neg (by rw [hok]; decide), if_neg n0, if_neg n1, if_neg n2, if_neg (by rw [h1]; decide), if_pos y]
 have hz : (oneR (tlS s)).2.1.size <= 900000 := Nat.le_trans (tl_size (tlS s)) htl
 have hok2 : (Lib.cut s.data.toList [32]).2.2 = true := hok
 have hh : (⟨(Lib.cut s.data.toList [32]).1.toArray⟩ : ByteArray) = hdS s := rfl
 have ht : (⟨(Lib.cut s.data.toList [32]).2.1.toArray⟩ : ByteArray) = tlS s := rfl
 rw [hok2, hh, ht] at HC
 generalize hdS s = wd at *
 generalize tlS s = rs at *
 clear hok hok2 hh ht n0 n1 n2 y
 go_enter Tryz.func10, Tryz.ntmps10
 go_wp2_with fail
 generalize w.alloc (.cells zero43 43) = W at HF HC ⊢
 refine HC.out.mono ?_
 rintro e w1 ⟨rfl, hb1⟩
 have HF1 := hid (HF.out.on hb1)
 clear hb1 HC HF
 have HK := hid (one2_any rs (by omega) w1)
 rw [h1] at HK
 clear h1
 go_wp2_with fail
 refine HK.out.mono ?_
 rintro e w2 ⟨v, rfl, hR, hb2⟩
 obtain ⟨A, c, rfl, hc, hC⟩ := Kd.R_reads hR
 have HF2 := hid (HF1.out.on hb2)
 clear hb2 hR HK HF1
 generalize (oneR rs).2.1 = r2 at *
 have HC2 := hid (cut2_any r2 32 w2 (by omega))
 have HX : Hid (eachR r2 = (okS r2 && ((if (hdS r2).data.toList = [45] then true else (numsR (hdS r2) 44 3).2 && risesB (numsR (hdS r2) 44 3).1 1 4) && textB (tlS r2)))) := rfl
 have hzh : (hdS r2).size <= 900000 := Nat.le_trans (hd_size r2) hz
 have hzt : (tlS r2).size <= 900000 := Nat.le_trans (tl_size r2) hz
 have hh : (⟨(Lib.cut r2.data.toList [32]).1.toArray⟩ : ByteArray) = hdS r2 := rfl
 have ht : (⟨(Lib.cut r2.data.toList [32]).2.1.toArray⟩ : ByteArray) = tlS r2 := rfl
 have ho : (Lib.cut r2.data.toList [32]).2.2 = okS r2 := rfl
 rw [hh, ht, ho] at HC2
 have hlen := (numsR_len (hdS r2) 44 3).1
 generalize hdS r2 = x at *
 generalize tlS r2 = tx at *
 generalize okS r2 = o2 at *
 clear hh ht ho hC
 generalize (oneR rs).1.length = nl at *
 go_wp2_with fail
 refine HC2.out.mono ?_
 rintro e w3 ⟨rfl, hb3⟩
 have HF3 := hid (HF2.out.on hb3)
 clear hb3 HC2 HF2
 have HN := hid (heap_alloc_new w3 (.cells #[.int .i64 2, .slice A nl c, .slice none 0 0, .string tx, .int .i64 0, .slice none 0 0, .int .i64 0, .int .i64 0, .int .i64 0, .int .i64 0, .int .i64 0, .int .i64 0, .int .i64 0, .bool false] 43))
 have HF4 := hid (HF3.out.on (below_alloc (Below.refl _ _) (.cells #[.int .i64 2, .slice A nl c, .slice none 0 0, .string tx, .int .i64 0, .slice none 0 0, .int .i64 0, .int .i64 0, .int .i64 0, .int .i64 0, .int .i64 0, .int .i64 0, .int .i64 0, .bool false] 43)))
 have HNW : Hid (w.heap.size < w3.heap.size) := by
  obtain ⟨⟨c0, c1, c2, c3, c4, c5, c6, c7, c8, c9, c10, c11, c12, c13, hx⟩, _⟩ := HF3.out
  exact blk_lt hx
 go_upto_if 105 with fail
 generalize w3.alloc (.cells #[.int .i64 2, .slice A nl c, .slice none 0 0, .string tx, .int .i64 0, .slice none 0 0, .int .i64 0, .int .i64 0, .int .i64 0, .int .i64 0, .int .i64 0, .int .i64 0, .int .i64 0, .bool false] 43) = w4 at *
 generalize w3.heap.size = N at *
 clear HF3
 go_cut [19] (fun v19 wc => ∃ (fv : Bool) (A2 : Option Addr) (n2 k2 : Nat), v19 = .bool fv ∧ Aside0 (eachR r2 = (o2 && (fv && textB tx))) ∧ Aside0 (wc.heap[N]? = some (.cells #[.int .i64 2, .slice A nl c, .slice A2 n2 k2, .string tx, .int .i64 0, .slice none 0 0, .int .i64 0, .int .i64 0, .int .i64 0, .int .i64 0, .int .i64 0, .int .i64 0, .int .i64 0, .bool false] 43 (0, 0))) ∧ Aside0 (Fin43 w wc))
 case first =>
  by_cases hx : x.data.toList = [45]
  ·have t0 : (x.toList == [45]) = true := by rw [beq_iff_eq, ByteArray.toList_eq]; exact hx
   have t1 : (!(x.toList == [45])) = false := by rw [t0]; rfl
   have HX2 := hid (HX.out.trans (by rw [if_pos hx, Bool.true_and]))
   clear hx
   rw [t0]
   go_wp2_with fail
   go_meet
   case rel => exact ⟨true, none, 0, 0, rfl, ⟨HX2.out.trans (by rw [Bool.true_and])⟩, ⟨HN.out⟩, ⟨HF4.out⟩⟩
  ·have t0 : (x.toList == [45]) = false := by rw [beq_eq_false_iff_ne, ByteArray.toList_eq]; exact hx
   have t1 : (!(x.toList == [45])) = true := by rw [t0]; rfl
   have HX2 := hid (HX.out.trans (by rw [if_neg hx]))
   have HK := hid (nums2_any x 44 3 (by omega) (by omega) w4)
   have hlen2 : (numsR x 44 3).1.length <= 1000000 := by omega
   clear hx hlen HX
   rw [t0]
   go_wp2_with fail
   refine HK.out.mono ?_
   rintro e w5 ⟨v, rfl, hR, hb5⟩
   obtain ⟨A2, k2, rfl, hc2, hC2⟩ := Kd.R_reads hR
   have hn5 := blk_below HN.out hb5
   have HF5 := hid (HF4.out.on hb5)
   have e2 : w5.cell? ⟨N, 2, none⟩ = some (.slice none 0 0) := (blk_cell hn5 2).trans rfl
   have f2 : w5.frozen? ⟨N, 2, none⟩ = false := blk_frozen hn5 2
   have HN5 := hid hn5
   generalize (numsR x 44 3).2 = fine at *
   generalize (numsR x 44 3).1 = l at *
   have hn6 : (w5.setCell ⟨N, 2, none⟩ (.slice A2 l.length k2)).heap[N]? = some (.cells #[.int .i64 2, .slice A nl c, .slice A2 l.length k2, .string tx, .int .i64 0, .slice none 0 0, .int .i64 0, .int .i64 0, .int .i64 0, .int .i64 0, .int .i64 0, .int .i64 0, .int .i64 0, .bool false] 43 (0, 0)) := by simpa using blk_set HN5.out 2 (.slice A2 l.length k2)
   have hb6 : Below N w5 (w5.setCell ⟨N, 2, none⟩ (.slice A2 l.length k2)) := (Below.refl N w5).setCell (p := ⟨N, 2, none⟩) (Nat.le_refl _) _
   have HF6 := hid (fin_far HF5.out HNW.out 2 (.slice A2 l.length k2))
   have HC6 := hid (C_far hC2 hR hb5 HN.out 2 (.slice A2 l.length k2))
   have HN6 := hid hn6
   clear hR hC2 hb5 hn5 hn6 HK HN5 HF5 hb6
   go_upto_region 24 with fail
   clear e2 f2
   generalize w5.setCell ⟨N, 2, none⟩ (.slice A2 l.length k2) = w6 at *
   have e2 : w6.cell? ⟨N, 2, none⟩ = some (.slice A2 l.length k2) := (blk_cell HN6.out 2).trans rfl
   have HRI := hid (rises2_any l A2 k2 1 4 w6 hlen2 HC6.out hc2)
   cases fine with
   | false =>
    go_wp2_with fail
    go_meet
    case rel => exact ⟨false, A2, l.length, k2, rfl, ⟨HX2.out.trans (by simp)⟩, ⟨HN6.out⟩, ⟨HF6.out⟩⟩
   | true =>
    go_wp2_with fail
    refine HRI.out.mono ?_
    rintro e w7 ⟨rfl, hb7⟩
    have HN7 := hid (blk_below HN6.out hb7)
    have HF7 := hid (HF6.out.on hb7)
    clear hb7
    go_wp2_with fail
    go_meet
    case rel => exact ⟨risesB l 1 4, A2, l.length, k2, rfl, ⟨HX2.out.trans (by simp)⟩, ⟨HN7.out⟩, ⟨HF7.out⟩⟩
 case rest =>
  obtain ⟨fv, A2, n2, k2, rfl, ⟨hE⟩, ⟨hN⟩, ⟨hF⟩⟩ := hcut
  have HE := hid hE; have HN5 := hid hN; have HF5 := hid hF
  clear hE hN hF HN HF4 HX hlen
  cases hof : (o2 && fv) with
  | false =>
   have HR2 := hid (HR.out.trans (HE.out.trans (by rw [<- Bool.and_assoc, hof, Bool.false_and])))
   cases o2 with
   | false =>
    go_wp2_with fail
    refine start_ (n := 11) (S := fun w' => w'.cell? ⟨N, 0, none⟩ = some (.int .i64 2) ∧ w'.cell? ⟨N, 1, none⟩ = some (.slice A nl c) ∧ w'.cell? ⟨N, 2, none⟩ = some (.slice A2 n2 k2) ∧ w'.cell? ⟨N, 3, none⟩ = some (.string tx) ∧ w'.cell? ⟨N, 4, none⟩ = some (.int .i64 0) ∧ w'.cell? ⟨N, 5, none⟩ = some (.slice none 0 0) ∧ w'.cell? ⟨N, 6, none⟩ = some (.int .i64 0) ∧ w'.cell? ⟨N, 7, none⟩ = some (.int .i64 0) ∧ w'.cell? ⟨N, 8, none⟩ = some (.int .i64 0) ∧ w'.cell? ⟨N, 9, none⟩ = some (.int .i64 0) ∧ w'.cell? ⟨N, 10, none⟩ = some (.int .i64 0) ∧ w'.cell? ⟨N, 11, none⟩ = some (.int .i64 0) ∧ w'.cell? ⟨N, 12, none⟩ = some (.int .i64 0) ∧ w'.cell? ⟨N, 13, none⟩ = some (.bool false)) (ds := [9]) (bts 11 0) (by kernel_rfl) rfl rfl (cl14 (blk_drew HN5.out)) (fun hHeld => ?_)
    have HN6 := hid (blk_drew HN5.out); have HF6 := hid (HF5.out.on (Below.drew (Below.refl _ _)))
    generalize wc.drew = W6 at *
    refine take_ (i := 0) (N := some 118) (bts 11 1) rfl rfl (by kernel_rfl) (fun _ _ _ h => h) (Or.inl ⟨by rfl, by rintro w' ⟨s0, s1, s2, s3, s4, s5, s6, s7, s8, s9, s10, s11, s12, s13⟩; go_simp; with_reducible rfl⟩) (by assumption) (by simp only [Act.put, pq1, pq2, pq3, i64_w, i32_w]; rfl) ?_
    refine pure_ (i := 1) (N := some 119) (bts 11 3) rfl rfl (by kernel_rfl) (fun _ _ _ h => h) (Or.inl ⟨by rfl, by intro w'; go_simp; with_reducible rfl⟩) (by simp only [Act.put, pq1, pq2, pq3, i64_w, i32_w]; rfl) ?_
    refine pure_ (i := 2) (N := some 120) (bts 11 7) rfl rfl (by kernel_rfl) (fun _ _ _ h => h) (Or.inl ⟨by rfl, by intro w'; go_simp; with_reducible rfl⟩) (by simp only [Act.put, pq1, pq2, pq3, i64_w, i32_w]; rfl) ?_
    refine pure_ (i := 3) (N := some 121) (v := undef) (a' := ?_) #[true, true, true, true, false, false, false, false, false, false, false] rfl rfl (by kernel_rfl) (fun _ _ _ h => h) (Or.inr ⟨by rfl, rfl⟩) ?_ ?_
    rotate_left
    ·simp only [Act.put, pq1, pq2, pq3, i64_w, i32_w]
     rfl
    refine pure_ (i := 4) (N := some 122) (bts 11 31) rfl rfl (by kernel_rfl) (fun _ _ _ h => h) (Or.inl ⟨by rfl, by intro w'; go_simp; with_reducible rfl⟩) (by simp only [Act.put, pq1, pq2, pq3, i64_w, i32_w]; rfl) ?_
    refine pure_ (i := 5) (N := some 123) (bts 11 63) rfl rfl (by kernel_rfl) (fun _ _ _ h => h) (Or.inl ⟨by rfl, by intro w'; go_simp; with_reducible rfl⟩) (by simp only [Act.put, pq1, pq2, pq3, i64_w, i32_w]; rfl) ?_
    refine pure_ (i := 6) (N := some 124) (v := undef) (a' := ?_) #[true, true, true, true, true, true, true, false, false, false, false] rfl rfl (by kernel_rfl) (fun _ _ _ h => h) (Or.inr ⟨by rfl, rfl⟩) ?_ ?_
    rotate_left
    ·simp only [Act.put, pq1, pq2, pq3, i64_w, i32_w]
     rfl
    refine pure_ (i := 7) (N := some 125) (v := undef) (a' := ?_) #[true, true, true, true, true, true, true, true, false, false, false] rfl rfl (by kernel_rfl) (fun _ _ _ h => h) (Or.inr ⟨by rfl, rfl⟩) ?_ ?_
    rotate_left
    ·simp only [Act.put, pq1, pq2, pq3, i64_w, i32_w]
     rfl
    refine pure_ (i := 8) (N := some 126) (bts 11 511) rfl rfl (by kernel_rfl) (fun _ _ _ h => h) (Or.inl ⟨by rfl, by intro w'; go_simp; with_reducible rfl⟩) (by simp only [Act.put, pq1, pq2, pq3, i64_w, i32_w]; rfl) ?_
    obtain ⟨⟨c0, c1, c2, c3, c4, c5, c6, c7, c8, c9, c10, c11, c12, c13, hx⟩, hbel⟩ := HF6.out
    obtain ⟨r0, r1, rr2, r3, r4, r5, r6, r7, r8, r9, r10, r11, r12, r13⟩ := cells14 hx
    obtain ⟨z0, z1, z2, z3, z4, z5, z6, z7, z8, z9, z10, z11, z12, z13⟩ := froz14 hx
    clear hx hbel
    refine last_ (i := 9) (N := none) (bts 11 1023) rfl rfl (by kernel_rfl) (by decide) (fun K hK => ?_)
    refine skip_ (w1 := ?_) (by rfl) rfl ?_ ?_
    rotate_left
    ·go_simp
     rfl
    refine hK.out _ _ ?_
    clear hK K
    refine pure_ (i := 10) (N := some 3) (bts 11 2047) rfl rfl (by kernel_rfl) (fun _ _ _ h => h) (Or.inl ⟨by rfl, by intro w'; go_simp; with_reducible rfl⟩) (by simp only [Act.put, pq1, pq2, pq3, i64_w, i32_w]; rfl) ?_
    refine done_ (by kernel_rfl) ?_
    go_wp2_with fail
    exact fin_ret (fin14 HF6.out) rfl rfl HR2.out
   | true =>
    rw [Bool.true_and] at hof
    subst hof
    go_wp2_with fail
    refine start_ (n := 11) (S := fun w' => w'.cell? ⟨N, 0, none⟩ = some (.int .i64 2) ∧ w'.cell? ⟨N, 1, none⟩ = some (.slice A nl c) ∧ w'.cell? ⟨N, 2, none⟩ = some (.slice A2 n2 k2) ∧ w'.cell? ⟨N, 3, none⟩ = some (.string tx) ∧ w'.cell? ⟨N, 4, none⟩ = some (.int .i64 0) ∧ w'.cell? ⟨N, 5, none⟩ = some (.slice none 0 0) ∧ w'.cell? ⟨N, 6, none⟩ = some (.int .i64 0) ∧ w'.cell? ⟨N, 7, none⟩ = some (.int .i64 0) ∧ w'.cell? ⟨N, 8, none⟩ = some (.int .i64 0) ∧ w'.cell? ⟨N, 9, none⟩ = some (.int .i64 0) ∧ w'.cell? ⟨N, 10, none⟩ = some (.int .i64 0) ∧ w'.cell? ⟨N, 11, none⟩ = some (.int .i64 0) ∧ w'.cell? ⟨N, 12, none⟩ = some (.int .i64 0) ∧ w'.cell? ⟨N, 13, none⟩ = some (.bool false)) (ds := [9]) (bts 11 0) (by kernel_rfl) rfl rfl (cl14 (blk_drew HN5.out)) (fun hHeld => ?_)
    have HN6 := hid (blk_drew HN5.out); have HF6 := hid (HF5.out.on (Below.drew (Below.refl _ _)))
    generalize wc.drew = W6 at *
    refine take_ (i := 0) (N := some 118) (bts 11 1) rfl rfl (by kernel_rfl) (fun _ _ _ h => h) (Or.inl ⟨by rfl, by rintro w' ⟨s0, s1, s2, s3, s4, s5, s6, s7, s8, s9, s10, s11, s12, s13⟩; go_simp; with_reducible rfl⟩) (by assumption) (by simp only [Act.put, pq1, pq2, pq3, i64_w, i32_w]; rfl) ?_
    refine pure_ (i := 1) (N := some 119) (bts 11 3) rfl rfl (by kernel_rfl) (fun _ _ _ h => h) (Or.inl ⟨by rfl, by intro w'; go_simp; with_reducible rfl⟩) (by simp only [Act.put, pq1, pq2, pq3, i64_w, i32_w]; rfl) ?_
    refine pure_ (i := 2) (N := some 120) (bts 11 7) rfl rfl (by kernel_rfl) (fun _ _ _ h => h) (Or.inl ⟨by rfl, by intro w'; go_simp; with_reducible rfl⟩) (by simp only [Act.put, pq1, pq2, pq3, i64_w, i32_w]; rfl) ?_
    refine pure_ (i := 3) (N := some 121) (bts 11 15) rfl rfl (by kernel_rfl) (fun _ _ _ h => h) (Or.inl ⟨by rfl, by intro w'; go_simp; with_reducible rfl⟩) (by simp only [Act.put, pq1, pq2, pq3, i64_w, i32_w]; rfl) ?_
    refine pure_ (i := 4) (N := some 122) (bts 11 31) rfl rfl (by kernel_rfl) (fun _ _ _ h => h) (Or.inl ⟨by rfl, by intro w'; go_simp; with_reducible rfl⟩) (by simp only [Act.put, pq1, pq2, pq3, i64_w, i32_w]; rfl) ?_
    refine pure_ (i := 5) (N := some 123) (bts 11 63) rfl rfl (by kernel_rfl) (fun _ _ _ h => h) (Or.inl ⟨by rfl, by intro w'; go_simp; with_reducible rfl⟩) (by simp only [Act.put, pq1, pq2, pq3, i64_w, i32_w]; rfl) ?_
    refine pure_ (i := 6) (N := some 124) (v := undef) (a' := ?_) #[true, true, true, true, true, true, true, false, false, false, false] rfl rfl (by kernel_rfl) (fun _ _ _ h => h) (Or.inr ⟨by rfl, rfl⟩) ?_ ?_
    rotate_left
    ·simp only [Act.put, pq1, pq2, pq3, i64_w, i32_w]
     rfl
    refine pure_ (i := 7) (N := some 125) (v := undef) (a' := ?_) #[true, true, true, true, true, true, true, true, false, false, false] rfl rfl (by kernel_rfl) (fun _ _ _ h => h) (Or.inr ⟨by rfl, rfl⟩) ?_ ?_
    rotate_left
    ·simp only [Act.put, pq1, pq2, pq3, i64_w, i32_w]
     rfl
    refine pure_ (i := 8) (N := some 126) (bts 11 511) rfl rfl (by kernel_rfl) (fun _ _ _ h => h) (Or.inl ⟨by rfl, by intro w'; go_simp; with_reducible rfl⟩) (by simp only [Act.put, pq1, pq2, pq3, i64_w, i32_w]; rfl) ?_
    obtain ⟨⟨c0, c1, c2, c3, c4, c5, c6, c7, c8, c9, c10, c11, c12, c13, hx⟩, hbel⟩ := HF6.out
    obtain ⟨r0, r1, rr2, r3, r4, r5, r6, r7, r8, r9, r10, r11, r12, r13⟩ := cells14 hx
    obtain ⟨z0, z1, z2, z3, z4, z5, z6, z7, z8, z9, z10, z11, z12, z13⟩ := froz14 hx
    clear hx hbel
    refine last_ (i := 9) (N := none) (bts 11 1023) rfl rfl (by kernel_rfl) (by decide) (fun K hK => ?_)
    refine skip_ (w1 := ?_) (by rfl) rfl ?_ ?_
    rotate_left
    ·go_simp
     rfl
    refine hK.out _ _ ?_
    clear hK K
    refine pure_ (i := 10) (N := some 3) (bts 11 2047) rfl rfl (by kernel_rfl) (fun _ _ _ h => h) (Or.inl ⟨by rfl, by intro w'; go_simp; with_reducible rfl⟩) (by simp only [Act.put, pq1, pq2, pq3, i64_w, i32_w]; rfl) ?_
    refine done_ (by kernel_rfl) ?_
    go_wp2_with fail
    exact fin_ret (fin14 HF6.out) rfl rfl HR2.out
  | true =>
   have HR2 := hid (HR.out.trans (HE.out.trans (by rw [<- Bool.and_assoc, hof, Bool.true_and])))
   obtain ⟨h1, h2⟩ : o2 = true ∧ fv = true := by simpa using hof
   subst h1 h2
   go_wp2_with fail
   refine start_ (n := 11) (S := fun w' => w'.cell? ⟨N, 0, none⟩ = some (.int .i64 2) ∧ w'.cell? ⟨N, 1, none⟩ = some (.slice A nl c) ∧ w'.cell? ⟨N, 2, none⟩ = some (.slice A2 n2 k2) ∧ w'.cell? ⟨N, 3, none⟩ = some (.string tx) ∧ w'.cell? ⟨N, 4, none⟩ = some (.int .i64 0) ∧ w'.cell? ⟨N, 5, none⟩ = some (.slice none 0 0) ∧ w'.cell? ⟨N, 6, none⟩ = some (.int .i64 0) ∧ w'.cell? ⟨N, 7, none⟩ = some (.int .i64 0) ∧ w'.cell? ⟨N, 8, none⟩ = some (.int .i64 0) ∧ w'.cell? ⟨N, 9, none⟩ = some (.int .i64 0) ∧ w'.cell? ⟨N, 10, none⟩ = some (.int .i64 0) ∧ w'.cell? ⟨N, 11, none⟩ = some (.int .i64 0) ∧ w'.cell? ⟨N, 12, none⟩ = some (.int .i64 0) ∧ w'.cell? ⟨N, 13, none⟩ = some (.bool false)) (ds := [9]) (bts 11 0) (by kernel_rfl) rfl rfl (cl14 (blk_drew HN5.out)) (fun hHeld => ?_)
   have HN6 := hid (blk_drew HN5.out); have HF6 := hid (HF5.out.on (Below.drew (Below.refl _ _)))
   generalize wc.drew = W6 at *
   refine take_ (i := 0) (N := some 118) (bts 11 1) rfl rfl (by kernel_rfl) (fun _ _ _ h => h) (Or.inl ⟨by rfl, by rintro w' ⟨s0, s1, s2, s3, s4, s5, s6, s7, s8, s9, s10, s11, s12, s13⟩; go_simp; with_reducible rfl⟩) (by assumption) (by simp only [Act.put, pq1, pq2, pq3, i64_w, i32_w]; rfl) ?_
   refine pure_ (i := 1) (N := some 119) (bts 11 3) rfl rfl (by kernel_rfl) (fun _ _ _ h => h) (Or.inl ⟨by rfl, by intro w'; go_simp; with_reducible rfl⟩) (by simp only [Act.put, pq1, pq2, pq3, i64_w, i32_w]; rfl) ?_
   refine pure_ (i := 2) (N := some 120) (bts 11 7) rfl rfl (by kernel_rfl) (fun _ _ _ h => h) (Or.inl ⟨by rfl, by intro w'; go_simp; with_reducible rfl⟩) (by simp only [Act.put, pq1, pq2, pq3, i64_w, i32_w]; rfl) ?_
   refine pure_ (i := 3) (N := some 121) (bts 11 15) rfl rfl (by kernel_rfl) (fun _ _ _ h => h) (Or.inl ⟨by rfl, by intro w'; go_simp; with_reducible rfl⟩) (by simp only [Act.put, pq1, pq2, pq3, i64_w, i32_w]; rfl) ?_
   refine pure_ (i := 4) (N := some 122) (bts 11 31) rfl rfl (by kernel_rfl) (fun _ _ _ h => h) (Or.inl ⟨by rfl, by intro w'; go_simp; with_reducible rfl⟩) (by simp only [Act.put, pq1, pq2, pq3, i64_w, i32_w]; rfl) ?_
   refine pure_ (i := 5) (N := some 123) (bts 11 63) rfl rfl (by kernel_rfl) (fun _ _ _ h => h) (Or.inl ⟨by rfl, by intro w'; go_simp; with_reducible rfl⟩) (by simp only [Act.put, pq1, pq2, pq3, i64_w, i32_w]; rfl) ?_
   refine pure_ (i := 6) (N := some 124) (bts 11 127) rfl rfl (by kernel_rfl) (fun _ _ _ h => h) (Or.inl ⟨by rfl, by intro w'; go_simp; with_reducible rfl⟩) (by simp only [Act.put, pq1, pq2, pq3, i64_w, i32_w]; rfl) ?_
   refine one_ (i := 7) (N := some 125) (bts 11 255) rfl rfl (by kernel_rfl) (by decide) (fun K hK => ?_)
   refine goes_ Tryz.func26 (by kernel_rfl) rfl #[.string tx] (by rfl) rfl rfl (by (try simp only [List.map_toArray, List.map_cons, List.map_nil]); first | done | rfl) ?_
   refine (text2_any tx W6 (by omega)).mono ?_
   rintro e W7 ⟨rfl, hb7⟩
   refine ⟨_, rfl, ?_⟩
   have HN7 := hid (blk_below HN6.out hb7); have HF7 := hid (HF6.out.on hb7)
   clear hb7
   refine hK.out _ _ (cl14 HN7.out) (fun hHeld => ?_)
   clear hK K
   refine norm_ (a' := ?_) ?_ ?_
   rotate_left
   ·show Act.put _ (some 125) _ = _
    simp only [Act.put, pq1, pq2, pq3, i64_w, i32_w]
    rfl
   refine pure_ (i := 8) (N := some 126) (bts 11 511) rfl rfl (by kernel_rfl) (fun _ _ _ h => h) (Or.inl ⟨by rfl, by intro w'; go_simp; with_reducible rfl⟩) (by simp only [Act.put, pq1, pq2, pq3, i64_w, i32_w]; rfl) ?_
   obtain ⟨⟨c0, c1, c2, c3, c4, c5, c6, c7, c8, c9, c10, c11, c12, c13, hx⟩, hbel⟩ := HF7.out
   obtain ⟨r0, r1, rr2, r3, r4, r5, r6, r7, r8, r9, r10, r11, r12, r13⟩ := cells14 hx
   obtain ⟨z0, z1, z2, z3, z4, z5, z6, z7, z8, z9, z10, z11, z12, z13⟩ := froz14 hx
   clear hx hbel
   refine last_ (i := 9) (N := none) (bts 11 1023) rfl rfl (by kernel_rfl) (by decide) (fun K hK => ?_)
   refine skip_ (w1 := ?_) (by rfl) rfl ?_ ?_
   rotate_left
   ·go_simp
    rfl
   refine hK.out _ _ ?_
   clear hK K
   refine pure_ (i := 10) (N := some 3) (bts 11 2047) rfl rfl (by kernel_rfl) (fun _ _ _ h => h) (Or.inl ⟨by rfl, by intro w'; go_simp; with_reducible rfl⟩) (by simp only [Act.put, pq1, pq2, pq3, i64_w, i32_w]; rfl) ?_
   refine done_ (by kernel_rfl) ?_
   go_wp2_with fail
   exact fin_ret (fin14 HF7.out) rfl rfl HR2.out
set_option maxHeartbeats 1000000
set_option maxRecDepth 100000
theorem rd_win (s : ByteArray) (hs : s.size <= 900000) (w : World) (hok : okS s = true) (n0 : howL s ≠ [115, 111, 117, 114, 99, 101]) (n1 : howL s ≠ [115, 105, 110, 107]) (n2 : howL s ≠ [102, 108, 97, 116, 116, 101, 110]) (n3 : howL s ≠ [101, 97, 99, 104]) (y : howL s = [119, 105, 110, 100, 111, 119]) (h1 : (oneR (tlS s)).2.2 = true) : Calls Tryz.prog 10 #[.string s] w (RPost s w) := by
 have HF := hid (fin_start w)
 have HC := hid (cut2_any s 32 (w.alloc (.cells zero43 43)) (by omega))
 have htl : (tlS s).size <= 900000 := Nat.le_trans (tl_size s) hs
 have d0 : ((hdS s).toList == [115, 111, 117, 114, 99, 101]) = false := by rw [beq_eq_false_iff_ne, ByteArray.toList_eq]; exact n0
 have d1 : ((hdS s).toList == [115, 105, 110, 107]) = false := by rw [beq_eq_false_iff_ne, ByteArray.toList_eq]; exact n1
 have d2 : ((hdS s).toList == [102, 108, 97, 116, 116, 101, 110]) = false := by rw [beq_eq_false_iff_ne, ByteArray.toList_eq]; exact n2
 have d3 : ((hdS s).toList == [101, 97, 99, 104]) = false := by rw [beq_eq_false_iff_ne, ByteArray.toList_eq]; exact n3
 have d4 : ((hdS s).toList == [119, 105, 110, 100, 111, 119]) = true := by rw [beq_iff_eq, ByteArray.toList_eq]; exact y
 have HR : Hid (readR s = winR (oneR (tlS s)).2.1) := by unfold Hid readR; rw [if_neg (by rw [hok]; decide), if_neg n0, if_neg n1, if_neg n2, if_neg (by rw [h1]; decide), if_neg n3, if_pos y]
 have hz : (oneR (tlS s)).2.1.size <= 900000 := Nat.le_trans (tl_size (tlS s)) htl
 have hok2 : (Lib.cut s.data.toList [32]).2.2 = true := hok
 have hh : (⟨(Lib.cut s.data.toList [32]).1.toArray⟩ : ByteArray) = hdS s := rfl
 have ht : (⟨(Lib.cut s.data.toList [32]).2.1.toArray⟩ : ByteArray) = tlS s := rfl
 rw [hok2, hh, ht] at HC
 generalize hdS s = wd at *
 generalize tlS s = rs at *
 clear hok hok2 hh ht n0 n1 n2 n3 y
 go_enter Tryz.func10, Tryz.ntmps10
 go_wp2_with fail
 generalize w.alloc (.cells zero43 43) = W at HF HC ⊢
 refine HC.out.mono ?_
 rintro e w1 ⟨rfl, hb1⟩
 have HF1 := hid (HF.out.on hb1)
 clear hb1 HC HF
 have HK := hid (one2_any rs (by omega) w1)
 rw [h1] at HK
 clear h1
 go_wp2_with fail
 refine HK.out.mono ?_
 rintro e w2 ⟨v, rfl, hR, hb2⟩
 obtain ⟨A, c, rfl, hc, hC⟩ := Kd.R_reads hR
 have HF2 := hid (HF1.out.on hb2)
 clear hb2 hR HK HF1
 generalize (oneR rs).2.1 = q2 at *
 have HX : Hid (winR q2 = ((numsR q2 32 7).2 && (((numsR q2 32 7).1.length : Int) == 4))) := rfl
 have HK := hid (nums2_any q2 32 7 (by omega) (by omega) w2)
 clear hC
 generalize (oneR rs).1.length = nl at *
 go_wp2_with fail
 refine HK.out.mono ?_
 rintro e w3 ⟨v, rfl, hR, hb3⟩
 obtain ⟨A3, k3, rfl, hc3, hC3⟩ := Kd.R_reads hR
 have HF3 := hid (HF2.out.on hb3)
 clear hb3 hR HK HF2
 generalize (numsR q2 32 7).2 = fine at *
 generalize (numsR q2 32 7).1 = l at *
 obtain ⟨⟨c0, c1, c2, c3, c4, c5, c6, c7, c8, c9, c10, c11, c12, c13, hx⟩, hbel⟩ := HF3.out
 obtain ⟨r0, r1, r2, r3, r4, r5, r6, r7, r8, r9, r10, r11, r12, r13⟩ := cells14 hx
 obtain ⟨z0, z1, z2, z3, z4, z5, z6, z7, z8, z9, z10, z11, z12, z13⟩ := froz14 hx
 have hlt := blk_lt hx
 clear hx hbel
 cases fine with
 | false =>
  go_wp2_with fail
  exact fin_ret (fin14 HF3.out) rfl rfl (HR.out.trans HX.out)
 | true =>
  by_cases h4 : (l.length : Int) = 4
  ·have t0 : ((l.length : Int) == 4) = true := by rw [beq_iff_eq]; exact h4
   have HR2 := hid (HR.out.trans (HX.out.trans (by rw [t0, Bool.true_and])))
   obtain ⟨y0, e0, hy0⟩ := Kd.at_int hC3 0 (by omega) (by omega)
   cases e0
   obtain ⟨y1, e1, hy1⟩ := Kd.at_int hC3 1 (by omega) (by omega)
   obtain ⟨y2, e2, hy2⟩ := Kd.at_int hC3 2 (by omega) (by omega)
   obtain ⟨y3, e3, hy3⟩ := Kd.at_int hC3 3 (by omega) (by omega)
   cases e1; cases e2; cases e3
   have h4n : l.length = 4 := by omega
   generalize rd l 0 = g0 at *
   generalize rd l 1 = g1 at *
   generalize rd l 2 = g2 at *
   generalize rd l 3 = g3 at *
   replace hy0 : w3.cell? y0 = some (.int .i64 g0) := hy0
   replace hy1 : w3.cell? ⟨y0.block, y0.off + 1, none⟩ = some (.int .i64 g1) := hy1
   replace hy2 : w3.cell? ⟨y0.block, y0.off + 2, none⟩ = some (.int .i64 g2) := hy2
   replace hy3 : w3.cell? ⟨y0.block, y0.off + 3, none⟩ = some (.int .i64 g3) := hy3
   rw [h4n]
   clear hC3 hc3 h4 t0 HX
   go_wp2_with fail
   refine start_ (n := 17) (S := fun w' => w'.cell? y0 = some (.int .i64 g0) ∧ w'.cell? ⟨y0.block, y0.off + 1, none⟩ = some (.int .i64 g1) ∧ w'.cell? ⟨y0.block, y0.off + 2, none⟩ = some (.int .i64 g2) ∧ w'.cell? ⟨y0.block, y0.off + 3, none⟩ = some (.int .i64 g3)) (ds := [15]) (bts 17 0) (by kernel_rfl) rfl rfl ⟨hy0, hy1, hy2, hy3⟩ (fun hHeld => ?_)
   have HF6 := hid (HF3.out.on (Below.drew (Below.refl _ _)))
   clear r0 r1 r2 r3 r4 r5 r6 r7 r8 r9 r10 r11 r12 r13 z0 z1 z2 z3 z4 z5 z6 z7 z8 z9 z10 z11 z12 z13 hlt hy0 hy1 hy2 hy3
   generalize w3.drew = W6 at *
   refine pure_ (i := 0) (N := some 142) (bts 17 1) rfl rfl (by kernel_rfl) (fun _ _ _ h => h) (Or.inl ⟨by rfl, by intro w'; go_simp; with_reducible rfl⟩) (by simp only [Act.put, pq1, pq2, pq3, i64_w, i32_w]; rfl) ?_
   refine pure_ (i := 1) (N := some 143) (bts 17 3) rfl rfl (by kernel_rfl) (fun _ _ _ h => h) (Or.inl ⟨by rfl, by intro w'; go_simp; with_reducible rfl⟩) (by simp only [Act.put, pq1, pq2, pq3, i64_w, i32_w]; rfl) ?_
   refine pure_ (i := 2) (N := some 144) (bts 17 7) rfl rfl (by kernel_rfl) (fun _ _ _ h => h) (Or.inl ⟨by rfl, by intro w'; go_simp; with_reducible rfl⟩) (by simp only [Act.put, pq1, pq2, pq3, i64_w, i32_w]; rfl) ?_
   refine take_ (i := 3) (N := some 145) (bts 17 15) rfl rfl (by kernel_rfl) (fun _ _ _ h => h) (Or.inl ⟨by rfl, by rintro w' ⟨s0, s1, s2, s3⟩; go_simp; with_reducible rfl⟩) (by assumption) (by simp only [Act.put, pq1, pq2, pq3, i64_w, i32_w]; rfl) ?_
   refine pure_ (i := 4) (N := some 146) (bts 17 31) rfl rfl (by kernel_rfl) (fun _ _ _ h => h) (Or.inl ⟨by rfl, by intro w'; go_simp; with_reducible rfl⟩) (by simp only [Act.put, pq1, pq2, pq3, i64_w, i32_w]; rfl) ?_
   refine pure_ (i := 5) (N := some 147) (bts 17 63) rfl rfl (by kernel_rfl) (fun _ _ _ h => h) (Or.inl ⟨by rfl, by intro w'; go_simp; with_reducible rfl⟩) (by simp only [Act.put, pq1, pq2, pq3, i64_w, i32_w]; rfl) ?_
   refine take_ (i := 6) (N := some 148) (bts 17 127) rfl rfl (by kernel_rfl) (fun _ _ _ h => h) (Or.inl ⟨by rfl, by rintro w' ⟨s0, s1, s2, s3⟩; go_simp; with_reducible rfl⟩) (by assumption) (by simp only [Act.put, pq1, pq2, pq3, i64_w, i32_w]; rfl) ?_
   refine pure_ (i := 7) (N := some 149) (bts 17 255) rfl rfl (by kernel_rfl) (fun _ _ _ h => h) (Or.inl ⟨by rfl, by intro w'; go_simp; with_reducible rfl⟩) (by simp only [Act.put, pq1, pq2, pq3, i64_w, i32_w]; rfl) ?_
   refine pure_ (i := 8) (N := some 150) (bts 17 511) rfl rfl (by kernel_rfl) (fun _ _ _ h => h) (Or.inl ⟨by rfl, by intro w'; go_simp; with_reducible rfl⟩) (by simp only [Act.put, pq1, pq2, pq3, i64_w, i32_w]; rfl) ?_
   refine take_ (i := 9) (N := some 151) (bts 17 1023) rfl rfl (by kernel_rfl) (fun _ _ _ h => h) (Or.inl ⟨by rfl, by rintro w' ⟨s0, s1, s2, s3⟩; go_simp; with_reducible rfl⟩) (by assumption) (by simp only [Act.put, pq1, pq2, pq3, i64_w, i32_w]; rfl) ?_
   refine pure_ (i := 10) (N := some 152) (bts 17 2047) rfl rfl (by kernel_rfl) (fun _ _ _ h => h) (Or.inl ⟨by rfl, by intro w'; go_simp; with_reducible rfl⟩) (by simp only [Act.put, pq1, pq2, pq3, i64_w, i32_w]; rfl) ?_
   refine pure_ (i := 11) (N := some 153) (bts 17 4095) rfl rfl (by kernel_rfl) (fun _ _ _ h => h) (Or.inl ⟨by rfl, by intro w'; go_simp; with_reducible rfl⟩) (by simp only [Act.put, pq1, pq2, pq3, i64_w, i32_w]; rfl) ?_
   refine take_ (i := 12) (N := some 154) (bts 17 8191) rfl rfl (by kernel_rfl) (fun _ _ _ h => h) (Or.inl ⟨by rfl, by rintro w' ⟨s0, s1, s2, s3⟩; go_simp; with_reducible rfl⟩) (by assumption) (by simp only [Act.put, pq1, pq2, pq3, i64_w, i32_w]; rfl) ?_
   refine pure_ (i := 13) (N := some 155) (bts 17 16383) rfl rfl (by kernel_rfl) (fun _ _ _ h => h) (Or.inl ⟨by rfl, by intro w'; go_simp; with_reducible rfl⟩) (by simp only [Act.put, pq1, pq2, pq3, i64_w, i32_w]; rfl) ?_
   refine pure_ (i := 14) (N := some 156) (bts 17 32767) rfl rfl (by kernel_rfl) (fun _ _ _ h => h) (Or.inl ⟨by rfl, by intro w'; go_simp; with_reducible rfl⟩) (by simp only [Act.put, pq1, pq2, pq3, i64_w, i32_w]; rfl) ?_
   obtain ⟨⟨c0, c1, c2, c3, c4, c5, c6, c7, c8, c9, c10, c11, c12, c13, hx⟩, hbel⟩ := HF6.out
   obtain ⟨r0, r1, rr2, r3, r4, r5, r6, r7, r8, r9, r10, r11, r12, r13⟩ := cells14 hx
   obtain ⟨z0, z1, z2, z3, z4, z5, z6, z7, z8, z9, z10, z11, z12, z13⟩ := froz14 hx
   clear hx hbel
   refine last_ (i := 15) (N := none) (bts 17 65535) rfl rfl (by kernel_rfl) (by decide) (fun K hK => ?_)
   refine skip_ (w1 := ?_) (by rfl) rfl ?_ ?_
   rotate_left
   ·go_simp
    rfl
   refine hK.out _ _ ?_
   clear hK K
   refine pure_ (i := 16) (N := some 3) (bts 17 131071) rfl rfl (by kernel_rfl) (fun _ _ _ h => h) (Or.inl ⟨by rfl, by intro w'; go_simp; with_reducible rfl⟩) (by simp only [Act.put, pq1, pq2, pq3, i64_w, i32_w]; rfl) ?_
   refine done_ (by kernel_rfl) ?_
   go_wp2_with fail
   exact fin_ret (fin14 HF6.out) rfl rfl HR2.out
  ·have t0 : ((l.length : Int) == 4) = false := by rw [beq_eq_false_iff_ne]; exact h4
   have HR2 := hid (HR.out.trans (HX.out.trans (by rw [t0, Bool.true_and])))
   clear h4
   go_wp2_with fail
   exact fin_ret (fin14 HF3.out) rfl rfl HR2.out
end Go.Proofs.YtamfloegflejnaaGreatDoor
