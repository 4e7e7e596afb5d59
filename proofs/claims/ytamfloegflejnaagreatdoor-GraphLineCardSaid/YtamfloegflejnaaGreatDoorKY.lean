/-
 graph's read of a line: the node and whether it is one.
-/
import Derived.Test.YtamfloegflejnaaGreatDoorH1
import Derived.Test.YtamfloegflejnaaGreatDoorKX
import Derived.Test.YtamfloegflejnaaGreatDoorKO
set_option linter.unusedVariables false
set_option linter.unusedSimpArgs false
set_option maxHeartbeats 1000000
set_option maxRecDepth 100000
namespace Go.Proofs.YtamfloegflejnaaGreatDoor
open Lib (hid)
open Go.RowKit Go.Proofs.YtamfloegflejnaaGreatDoorW.PrintWords Go.Proofs.YtamfloegflejnaaGreatDoorW.PrintLast Go.Proofs.YtamfloegflejnaaGreatDoorW.PrintMore PGraphLines
def hdS (r : ByteArray) : ByteArray := ⟨(cutS r).1.toArray⟩
def tlS (r : ByteArray) : ByteArray := ⟨(cutS r).2.1.toArray⟩
def okS (r : ByteArray) : Bool := (cutS r).2.2
/-- A number up to a blank: its value, what is left, and the mark. -/
def numC (d : Int) (r : ByteArray) (b : Bool) : Int × ByteArray × Bool := ((numV (hdS r) d).getD 0, tlS r, (b || !okS r) || (numV (hdS r) d).isNone)
def sidesC (r : ByteArray) (b : Bool) : List Int × ByteArray × Bool := ((sidesV (hdS r)).1, tlS r, (b || !okS r) || !(sidesV (hdS r)).2)
def srcV (r : ByteArray) (b : Bool) : S63 × Bool := (⟨1, [], [], ⟨#[]⟩, (parseV r).getD z59, z60, z61⟩, !(b || (parseV r).isNone))
def eachV (r : ByteArray) (b : Bool) : S63 × Bool :=
 let n := numC 3 r b
 let q := sidesC n.2.1 n.2.2
 (⟨2, [n.1], q.1, q.2.1, z59, z60, z61⟩, !(q.2.2 || !textB q.2.1))
def winV (r : ByteArray) (b : Bool) : S63 × Bool :=
 let n := numC 3 r b
 let k1 := numC 7 n.2.1 n.2.2
 let k2 := numC 7 k1.2.1 k1.2.2
 let k3 := numC 7 k2.2.1 k2.2.2
 (⟨3, [n.1], [], ⟨#[]⟩, z59, ⟨k1.1, k2.1, k3.1, (numV k3.2.1 7).getD 0⟩, z61⟩, !(k3.2.2 || (numV k3.2.1 7).isNone))
def howL (r : ByteArray) : List UInt8 := (cutS r).1
def grpV (r : ByteArray) (b : Bool) : S63 × Bool :=
 let n := numC 3 r b
 let k1 := numC 7 n.2.1 n.2.2
 let k2 := numC 7 k1.2.1 k1.2.2
 let k3 := numC 7 k2.2.1 k2.2.2
 (⟨4, [n.1], [], tlS k3.2.1, z59, z60, ⟨k1.1, k2.1, k3.1, howL k3.2.1 == [97, 99, 99]⟩⟩, !(((k3.2.2 || !okS k3.2.1) || (howL k3.2.1 != [97, 99, 99] && howL k3.2.1 != [100, 105, 115])) || !textB (tlS k3.2.1)))
def flatV (r : ByteArray) (b : Bool) : S63 × Bool := (⟨5, (placesV r).1, [], ⟨#[]⟩, z59, z60, z61⟩, !(b || !(placesV r).2))
def sinkV (r : ByteArray) (b : Bool) : S63 × Bool := (⟨6, [(numV r 3).getD 0], [], ⟨#[]⟩, z59, z60, z61⟩, !(b || (numV r 3).isNone))
/-- A line's node, and whether it is one. -/
def readV (s : ByteArray) : S63 × Bool :=
 if howL s = [115, 111, 117, 114, 99, 101] then srcV (tlS s) (!okS s)
 else if howL s = [101, 97, 99, 104] then eachV (tlS s) (!okS s)
 else if howL s = [119, 105, 110, 100, 111, 119] then winV (tlS s) (!okS s)
 else if howL s = [103, 114, 111, 117, 112] then grpV (tlS s) (!okS s)
 else if howL s = [102, 108, 97, 116, 116, 101, 110] then flatV (tlS s) (!okS s)
 else if howL s = [115, 105, 110, 107] then sinkV (tlS s) (!okS s)
 else (z63, false)
def NodePost (v : S63 × Bool) (w : World) (e : Ending) (w' : World) : Prop := (∃ cs : List Value, e = .returned (.tuple #[.agg cs.toArray, .bool v.2]) ∧ k63.M w' w.heap.size (fun _ => True) v.1 cs) ∧ Below w.heap.size w w'
theorem one_R {w : World} {N : Nat} {v : Int} {base : Nat} {ok : Nat -> Prop} (h : w.heap[N]? = some (.cells #[.int .i64 v] 3 (0, 0))) (hb : base <= N) (hok : ok N) : (Kd.int .i64).R 3 w base ok (.slice (some ⟨N, 0, none⟩) 1 1) [v] :=
 Kd.R_of_own ⟨rfl, .inr ⟨N, 1, #[.int .i64 v], rfl, hb, h, Nat.le_refl _, by unfold maxLen; decide, rfl, rfl⟩⟩ (fun k hk => by simp [Value.ownBlock] at hk; subst hk; exact hok)
theorem set14 {W : World} {B : Nat} {t : TypeId} {c0 c1 c2 c3 c4 c5 c6 c7 c8 c9 c10 c11 c12 c13 : Value} (h : W.heap[B]? = some (.cells #[c0, c1, c2, c3, c4, c5, c6, c7, c8, c9, c10, c11, c12, c13] t (0, 0))) (d0 d1 d2 d3 d4 d5 d6 d7 d8 d9 d10 d11 d12 d13 : Value) : ((((((((((((((W.setCell ⟨B, 0, none⟩ (d0)).setCell ⟨B, 1, none⟩ (d1)).setCell ⟨B, 2, none⟩ (d2)).setCell ⟨B, 3, none⟩ (d3)).setCell ⟨B, 4, none⟩ (d4)).setCell ⟨B, 5, none⟩ (d5)).setCell ⟨B, 6, none⟩ (d6)).setCell ⟨B, 7, none⟩ (d7)).setCell ⟨B, 8, none⟩ (d8)).setCell ⟨B, 9, none⟩ (d9)).setCell ⟨B, 10, none⟩ (d10)).setCell ⟨B, 11, none⟩ (d11)).setCell ⟨B, 12, none⟩ (d12)).setCell ⟨B, 13, none⟩ (d13)).heap[B]? = some (.cells #[d0, d1, d2, d3, d4, d5, d6, d7, d8, d9, d10, d11, d12, d13] t (0, 0)) := by
 have := blk_set (blk_set (blk_set (blk_set (blk_set (blk_set (blk_set (blk_set (blk_set (blk_set (blk_set (blk_set (blk_set (blk_set (h) 0 d0) 1 d1) 2 d2) 3 d3) 4 d4) 5 d5) 6 d6) 7 d7) 8 d8) 9 d9) 10 d10) 11 d11) 12 d12) 13 d13
 simpa using this
theorem keepS14 (W : World) (B : Nat) (d0 d1 d2 d3 d4 d5 d6 d7 d8 d9 d10 d11 d12 d13 : Value) : KeepBut W ((((((((((((((W.setCell ⟨B, 0, none⟩ (d0)).setCell ⟨B, 1, none⟩ (d1)).setCell ⟨B, 2, none⟩ (d2)).setCell ⟨B, 3, none⟩ (d3)).setCell ⟨B, 4, none⟩ (d4)).setCell ⟨B, 5, none⟩ (d5)).setCell ⟨B, 6, none⟩ (d6)).setCell ⟨B, 7, none⟩ (d7)).setCell ⟨B, 8, none⟩ (d8)).setCell ⟨B, 9, none⟩ (d9)).setCell ⟨B, 10, none⟩ (d10)).setCell ⟨B, 11, none⟩ (d11)).setCell ⟨B, 12, none⟩ (d12)).setCell ⟨B, 13, none⟩ (d13)) B none := ((((((((((((((KeepBut.refl W B none).set_ 0 d0).set_ 1 d1).set_ 2 d2).set_ 3 d3).set_ 4 d4).set_ 5 d5).set_ 6 d6).set_ 7 d7).set_ 8 d8).set_ 9 d9).set_ 10 d10).set_ 11 d11).set_ 12 d12).set_ 13 d13
theorem belowS14 {w W : World} {b B : Nat} (h : Below b w W) (hB : b <= B) (d0 d1 d2 d3 d4 d5 d6 d7 d8 d9 d10 d11 d12 d13 : Value) : Below b w ((((((((((((((W.setCell ⟨B, 0, none⟩ (d0)).setCell ⟨B, 1, none⟩ (d1)).setCell ⟨B, 2, none⟩ (d2)).setCell ⟨B, 3, none⟩ (d3)).setCell ⟨B, 4, none⟩ (d4)).setCell ⟨B, 5, none⟩ (d5)).setCell ⟨B, 6, none⟩ (d6)).setCell ⟨B, 7, none⟩ (d7)).setCell ⟨B, 8, none⟩ (d8)).setCell ⟨B, 9, none⟩ (d9)).setCell ⟨B, 10, none⟩ (d10)).setCell ⟨B, 11, none⟩ (d11)).setCell ⟨B, 12, none⟩ (d12)).setCell ⟨B, 13, none⟩ (d13)) := ((((((((((((((h).setCell (p := ⟨B, 0, none⟩) hB d0).setCell (p := ⟨B, 1, none⟩) hB d1).setCell (p := ⟨B, 2, none⟩) hB d2).setCell (p := ⟨B, 3, none⟩) hB d3).setCell (p := ⟨B, 4, none⟩) hB d4).setCell (p := ⟨B, 5, none⟩) hB d5).setCell (p := ⟨B, 6, none⟩) hB d6).setCell (p := ⟨B, 7, none⟩) hB d7).setCell (p := ⟨B, 8, none⟩) hB d8).setCell (p := ⟨B, 9, none⟩) hB d9).setCell (p := ⟨B, 10, none⟩) hB d10).setCell (p := ⟨B, 11, none⟩) hB d11).setCell (p := ⟨B, 12, none⟩) hB d12).setCell (p := ⟨B, 13, none⟩) hB d13
/-- What is held while the result is laid. -/
def Held8 (w : World) (c0 c1 c2 c3 c4 c5 c6 c7 c8 c9 c10 c11 c12 c13 : Value) (b : Bool) (W : World) : Prop :=
 W.cell? ⟨w.heap.size + 1 + 1, 0, none⟩ = some c0 ∧ W.cell? ⟨w.heap.size + 1 + 1, 1, none⟩ = some c1 ∧ W.cell? ⟨w.heap.size + 1 + 1, 2, none⟩ = some c2 ∧ W.cell? ⟨w.heap.size + 1 + 1, 3, none⟩ = some c3 ∧ W.cell? ⟨w.heap.size + 1 + 1, 4, none⟩ = some c4 ∧ W.cell? ⟨w.heap.size + 1 + 1, 5, none⟩ = some c5 ∧ W.cell? ⟨w.heap.size + 1 + 1, 6, none⟩ = some c6 ∧ W.cell? ⟨w.heap.size + 1 + 1, 7, none⟩ = some c7 ∧ W.cell? ⟨w.heap.size + 1 + 1, 8, none⟩ = some c8 ∧ W.cell? ⟨w.heap.size + 1 + 1, 9, none⟩ = some c9 ∧ W.cell? ⟨w.heap.size + 1 + 1, 10, none⟩ = some c10 ∧ W.cell? ⟨w.heap.size + 1 + 1, 11, none⟩ = some c11 ∧ W.cell? ⟨w.heap.size + 1 + 1, 12, none⟩ = some c12 ∧ W.cell? ⟨w.heap.size + 1 + 1, 13, none⟩ = some c13 ∧ W.cell? ⟨w.heap.size + 1, 1, none⟩ = some (.bool b)
/-- What lies in memory while a line is read. -/
structure RN (w W : World) (r : ByteArray) (b : Bool) (cs : Array Value) : Prop where
 rd : RdAt w W (w.heap.size + 1) r b
 b2 : W.heap[w.heap.size]? = some (.cells #[.int .i64 0, .slice none 0 0, .slice none 0 0, .string ⟨#[]⟩, .int .i64 0, .slice none 0 0, .int .i64 0, .int .i64 0, .int .i64 0, .int .i64 0, .int .i64 0, .int .i64 0, .int .i64 0, .bool false] 63 (0, 0))
 b8 : W.heap[w.heap.size + 1 + 1]? = some (.cells cs 63 (0, 0))
theorem RN.step {w W W' : World} {r r' : ByteArray} {b b' : Bool} {cs : Array Value} (h : RN w W r b cs) (s : RdStep w W W' (w.heap.size + 1) r' b') : RN w W' r' b' cs :=
 ⟨s.1, s.2.blk h.b2 (by omega) (by simp), s.2.blk h.b8 (by omega) (by simp)⟩
theorem RN.on {w W W' : World} {r : ByteArray} {b : Bool} {cs : Array Value} (h : RN w W r b cs) (hb : Below W.heap.size W W') : RN w W' r b cs := h.step (h.rd.of_below hb)
theorem RN.put {w W : World} {r : ByteArray} {b : Bool} {c0 c1 c2 c3 c4 c5 c6 c7 c8 c9 c10 c11 c12 c13 : Value} (h : RN w W r b #[c0, c1, c2, c3, c4, c5, c6, c7, c8, c9, c10, c11, c12, c13]) (d0 d1 d2 d3 d4 d5 d6 d7 d8 d9 d10 d11 d12 d13 : Value) : RN w ((((((((((((((W.setCell ⟨w.heap.size + 1 + 1, 0, none⟩ (d0)).setCell ⟨w.heap.size + 1 + 1, 1, none⟩ (d1)).setCell ⟨w.heap.size + 1 + 1, 2, none⟩ (d2)).setCell ⟨w.heap.size + 1 + 1, 3, none⟩ (d3)).setCell ⟨w.heap.size + 1 + 1, 4, none⟩ (d4)).setCell ⟨w.heap.size + 1 + 1, 5, none⟩ (d5)).setCell ⟨w.heap.size + 1 + 1, 6, none⟩ (d6)).setCell ⟨w.heap.size + 1 + 1, 7, none⟩ (d7)).setCell ⟨w.heap.size + 1 + 1, 8, none⟩ (d8)).setCell ⟨w.heap.size + 1 + 1, 9, none⟩ (d9)).setCell ⟨w.heap.size + 1 + 1, 10, none⟩ (d10)).setCell ⟨w.heap.size + 1 + 1, 11, none⟩ (d11)).setCell ⟨w.heap.size + 1 + 1, 12, none⟩ (d12)).setCell ⟨w.heap.size + 1 + 1, 13, none⟩ (d13)) r b #[d0, d1, d2, d3, d4, d5, d6, d7, d8, d9, d10, d11, d12, d13] :=
 have hk := keepS14 W (w.heap.size + 1 + 1) d0 d1 d2 d3 d4 d5 d6 d7 d8 d9 d10 d11 d12 d13
 ⟨⟨hk.blk h.rd.blk (by omega) (by simp), h.rd.ge, belowS14 h.rd.below (by omega) d0 d1 d2 d3 d4 d5 d6 d7 d8 d9 d10 d11 d12 d13⟩, hk.blk h.b2 (by omega) (by simp), set14 h.b8 d0 d1 d2 d3 d4 d5 d6 d7 d8 d9 d10 d11 d12 d13⟩
theorem RN.held {w W : World} {r : ByteArray} {b : Bool} {c0 c1 c2 c3 c4 c5 c6 c7 c8 c9 c10 c11 c12 c13 : Value} (h : RN w W r b #[c0, c1, c2, c3, c4, c5, c6, c7, c8, c9, c10, c11, c12, c13]) : Held8 w c0 c1 c2 c3 c4 c5 c6 c7 c8 c9 c10 c11 c12 c13 b W := by
 obtain ⟨h0, h1, h2, h3, h4, h5, h6, h7, h8, h9, h10, h11, h12, h13⟩ := cl14 h.b8
 exact ⟨h0, h1, h2, h3, h4, h5, h6, h7, h8, h9, h10, h11, h12, h13, (blk_cell h.rd.blk 1).trans rfl⟩
theorem RN.heldS {w W W' : World} {r : ByteArray} {b : Bool} {c0 c1 c2 c3 c4 c5 c6 c7 c8 c9 c10 c11 c12 c13 : Value} (h : RN w W r b #[c0, c1, c2, c3, c4, c5, c6, c7, c8, c9, c10, c11, c12, c13]) (hk : KeepBut W W' w.heap.size none) : Held8 w c0 c1 c2 c3 c4 c5 c6 c7 c8 c9 c10 c11 c12 c13 b W' := by
 obtain ⟨h0, h1, h2, h3, h4, h5, h6, h7, h8, h9, h10, h11, h12, h13⟩ := cl14 (hk.blk h.b8 (by omega) (by simp))
 exact ⟨h0, h1, h2, h3, h4, h5, h6, h7, h8, h9, h10, h11, h12, h13, (blk_cell (hk.blk h.rd.blk (by omega) (by simp)) 1).trans rfl⟩
/-- The end: the result laid. -/
structure RNE (w W : World) (cs : Array Value) : Prop where
 b2 : W.heap[w.heap.size]? = some (.cells cs 63 (0, 0))
 below : Below w.heap.size w W
theorem RN.fin {w W : World} {r : ByteArray} {b : Bool} {cs : Array Value} (h : RN w W r b cs) (d0 d1 d2 d3 d4 d5 d6 d7 d8 d9 d10 d11 d12 d13 : Value) : RNE w ((((((((((((((W.setCell ⟨w.heap.size, 0, none⟩ (d0)).setCell ⟨w.heap.size, 1, none⟩ (d1)).setCell ⟨w.heap.size, 2, none⟩ (d2)).setCell ⟨w.heap.size, 3, none⟩ (d3)).setCell ⟨w.heap.size, 4, none⟩ (d4)).setCell ⟨w.heap.size, 5, none⟩ (d5)).setCell ⟨w.heap.size, 6, none⟩ (d6)).setCell ⟨w.heap.size, 7, none⟩ (d7)).setCell ⟨w.heap.size, 8, none⟩ (d8)).setCell ⟨w.heap.size, 9, none⟩ (d9)).setCell ⟨w.heap.size, 10, none⟩ (d10)).setCell ⟨w.heap.size, 11, none⟩ (d11)).setCell ⟨w.heap.size, 12, none⟩ (d12)).setCell ⟨w.heap.size, 13, none⟩ (d13)) #[d0, d1, d2, d3, d4, d5, d6, d7, d8, d9, d10, d11, d12, d13] :=
 ⟨set14 h.b2 d0 d1 d2 d3 d4 d5 d6 d7 d8 d9 d10 d11 d12 d13, belowS14 h.rd.below (Nat.le_refl _) d0 d1 d2 d3 d4 d5 d6 d7 d8 d9 d10 d11 d12 d13⟩
theorem R_put {α : Type} {d : Kd α} {e : Nat} {w W W1 : World} {v : Value} {xs : List α} {B : Nat} {ok : Nat -> Prop} {cs : Array Value} (h : d.R e W w.heap.size ok v xs) (hb : W.heap[B]? = some (.cells cs 63 (0, 0))) (ht : ∀ q, q ∈ e :: d.E -> q ≠ 63) (hk : KeepBut W W1 B none) : d.R e W1 w.heap.size ok v xs :=
 Kd.R_mono (Kd.R_keep (Kd.R_types h hb ht) hk (fun _ h => h.2)) (fun _ h => h.1)
theorem node_post {w W : World} {op kd a b c d e0 e1 e2 : Int} {v1 v2 v5 : Value} {in_ si : List Int} {tx : ByteArray} {kids : List S59} {e3 bb : Bool} {x : S63 × Bool} {ok : Nat -> Prop}
  (h : RNE w W #[.int .i64 op, v1, v2, .string tx, .int .i64 kd, v5, .int .i64 a, .int .i64 b, .int .i64 c, .int .i64 d, .int .i64 e0, .int .i64 e1, .int .i64 e2, .bool e3])
  (g1 : (Kd.int .i64).R 3 W w.heap.size ok v1 in_) (g2 : (Kd.int .i64).R 3 W w.heap.size ok v2 si) (g5 : k59.R 59 W w.heap.size ok v5 kids) (hx : x = (⟨op, in_, si, tx, ⟨kd, kids⟩, ⟨a, b, c, d⟩, ⟨e0, e1, e2, e3⟩⟩, bb)) :
  NodePost x w (.returned (.tuple #[.agg #[.int .i64 op, v1, v2, .string tx, .int .i64 kd, v5, .int .i64 a, .int .i64 b, .int .i64 c, .int .i64 d, .int .i64 e0, .int .i64 e1, .int .i64 e2, .bool e3], .bool bb])) W := by
 subst hx
 exact ⟨⟨_, rfl, k63_mkM W w.heap.size _ ⟨op, in_, si, tx, ⟨kd, kids⟩, ⟨a, b, c, d⟩, ⟨e0, e1, e2, e3⟩⟩ (Kd.R_mono g1 (fun _ _ => trivial)) (Kd.R_mono g2 (fun _ _ => trivial)) (Kd.R_mono g5 (fun _ _ => trivial))⟩, h.below⟩
theorem numC_parts {d : Int} {r r' : ByteArray} {b b' : Bool} {y : Int} (h : (y, r', b') = numC d r b) : (numV ⟨(cutS r).1.toArray⟩ d).getD 0 = y ∧ ⟨(cutS r).2.1.toArray⟩ = r' ∧ ((b || !(cutS r).2.2) || (numV ⟨(cutS r).1.toArray⟩ d).isNone) = b' := by
 unfold numC hdS tlS okS at h
 injection h with h1 h2
 injection h2 with h2 h3
 exact ⟨h1.symm, h2.symm, h3.symm⟩
theorem sidesC_parts {r r' : ByteArray} {b b' : Bool} {y : List Int} (h : (y, r', b') = sidesC r b) : (sidesV ⟨(cutS r).1.toArray⟩).1 = y ∧ ⟨(cutS r).2.1.toArray⟩ = r' ∧ ((b || !(cutS r).2.2) || !(sidesV ⟨(cutS r).1.toArray⟩).2) = b' := by
 unfold sidesC hdS tlS okS at h
 injection h with h1 h2
 injection h2 with h2 h3
 exact ⟨h1.symm, h2.symm, h3.symm⟩
theorem RN.set8 {w W : World} {r : ByteArray} {b : Bool} {cs : Array Value} (h : RN w W r b cs) (i : Nat) (v : Value) : RN w (W.setCell ⟨w.heap.size + 1 + 1, i, none⟩ v) r b (cs.setIfInBounds i v) :=
 have far : ∀ k o, W.heap[k]? = some o -> k ≠ w.heap.size + 1 + 1 -> (W.setCell ⟨w.heap.size + 1 + 1, i, none⟩ v).heap[k]? = some o := fun k o hk hne => (Below.heap_setCell W ⟨w.heap.size + 1 + 1, i, none⟩ v k hne).trans hk
 ⟨⟨far _ _ h.rd.blk (by omega), h.rd.ge, h.rd.below.setCell (p := ⟨w.heap.size + 1 + 1, i, none⟩) (by show w.heap.size <= w.heap.size + 1 + 1; omega) v⟩, far _ _ h.b2 (by omega), blk_set h.b8 i v⟩
theorem RN.bad {w W : World} {r : ByteArray} {b : Bool} {cs : Array Value} (h : RN w W r b cs) (b' : Bool) : RN w (W.setCell ⟨w.heap.size + 1, 1, none⟩ (.bool b')) r b' cs := h.step ((RdStep.refl h.rd).set1 b')
theorem eta59 (t : S59) : (⟨t.f0, t.f1⟩ : S59) = t := by cases t; rfl
theorem grp_eq {x1 : List Int} {y2 y3 y4 : Int} {r4 r5 : ByteArray} {b4 b5 b6 b9 ac : Bool} (h5 : r5 = tlS r4) (hb5 : b5 = (b4 || !okS r4)) (hac : ac = (howL r4 == [97, 99, 99])) (h9 : b9 = (b6 || !textB r5))
  (h : (b5 = true ∧ b6 = true) ∨ (b5 = false ∧ howL r4 = [97, 99, 99] ∧ b6 = false) ∨ (b5 = false ∧ howL r4 ≠ [97, 99, 99] ∧ b6 = (howL r4 != [100, 105, 115]))) :
  ((⟨4, x1, [], tlS r4, z59, z60, ⟨y2, y3, y4, howL r4 == [97, 99, 99]⟩⟩ : S63), !(((b4 || !okS r4) || (howL r4 != [97, 99, 99] && howL r4 != [100, 105, 115])) || !textB (tlS r4))) = (⟨4, x1, [], r5, ⟨0, []⟩, ⟨0, 0, 0, 0⟩, ⟨y2, y3, y4, ac⟩⟩, !b9) := by
 rw [<- hb5, <- hac, <- h5, h9]
 congr 2
 rcases h with ⟨h1, h2⟩ | ⟨h1, h2, h3⟩ | ⟨h1, h2, h3⟩
 ·rw [h1, h2]; simp
 ·rw [h1, h2, h3]; simp
 ·have : (howL r4 != [97, 99, 99]) = true := by rw [bne_iff_ne]; exact h2
  rw [h1, h3, this]; simp
theorem read_src (s : ByteArray) (hs : s.size <= 900000) (w : World) (hE : Env w)  (y : howL s = [115, 111, 117, 114, 99, 101]) :
  Calls Tryz.prog 18 #[.string s] w (NodePost (srcV (tlS s) (!okS s)) w) := by
 obtain ⟨m, hm⟩ := hE.maxLen
 have HC := hid (Tryz.strings_Cut s ⟨#[32]⟩ m (w.alloc (.cells #[.int .i64 0, .slice none 0 0, .slice none 0 0, .string ⟨#[]⟩, .int .i64 0, .slice none 0 0, .int .i64 0, .int .i64 0, .int .i64 0, .int .i64 0, .int .i64 0, .int .i64 0, .int .i64 0, .bool false] 63)) (by omega) (cell_later (below_alloc (Below.refl _ _) _) hm))
 have HCS : Hid (cutS s = Lib.cut s.data.toList (⟨#[32]⟩ : ByteArray).data.toList) := rfl
 have HE := hid hE
 rw [<- HCS.out] at HC
 have cy : ((hdS s).toList == [115, 111, 117, 114, 99, 101]) = true := by rw [beq_iff_eq, ByteArray.toList_eq]; exact y
 have htl : (tlS s).size <= 900000 := by have := (cut_size s).2; unfold tlS; omega
 clear hm hE HCS y
 go_enter Tryz.func18, Tryz.ntmps18
 go_wp2_with fail
 refine HC.out.mono ?_
 rintro e wc ⟨rfl, nd, hwc⟩
 have hb1 : Below w.heap.size w wc := by rw [hwc]; exact pw_below_drewN (below_alloc (Below.refl _ _) _) nd
 have h21 : wc.heap[w.heap.size]? = some (.cells #[.int .i64 0, .slice none 0 0, .slice none 0 0, .string ⟨#[]⟩, .int .i64 0, .slice none 0 0, .int .i64 0, .int .i64 0, .int .i64 0, .int .i64 0, .int .i64 0, .int .i64 0, .int .i64 0, .bool false] 63 (0, 0)) := by rw [hwc]; exact blk_drewN (heap_alloc_new w _) nd
 have hsz : wc.heap.size = w.heap.size + 1 := by rw [hwc]; exact World.size_alloc w _
 have hws : (⟨(cutS s).1.toArray⟩ : ByteArray) = hdS s := rfl
 have hwt : (⟨(cutS s).2.1.toArray⟩ : ByteArray) = tlS s := rfl
 have hwo : (cutS s).2.2 = okS s := rfl
 rw [hws, hwt, hwo]
 clear hws hwt hwo hwc HC
 generalize tlS s = r0 at *
 generalize okS s = o0 at *
 generalize hdS s = wd at *
 have hg1 := blk_alloc (heap_alloc_new wc (.cells #[.string r0, .bool !o0] 96)) (.cells #[.int .i64 0, .slice none 0 0, .slice none 0 0, .string ⟨#[]⟩, .int .i64 0, .slice none 0 0, .int .i64 0, .int .i64 0, .int .i64 0, .int .i64 0, .int .i64 0, .int .i64 0, .int .i64 0, .bool false] 63)
 have h81 := heap_alloc_new (wc.alloc (.cells #[.string r0, .bool !o0] 96)) (.cells #[.int .i64 0, .slice none 0 0, .slice none 0 0, .string ⟨#[]⟩, .int .i64 0, .slice none 0 0, .int .i64 0, .int .i64 0, .int .i64 0, .int .i64 0, .int .i64 0, .int .i64 0, .int .i64 0, .bool false] 63)
 have h22 := blk_alloc (blk_alloc h21 (.cells #[.string r0, .bool !o0] 96)) (.cells #[.int .i64 0, .slice none 0 0, .slice none 0 0, .string ⟨#[]⟩, .int .i64 0, .slice none 0 0, .int .i64 0, .int .i64 0, .int .i64 0, .int .i64 0, .int .i64 0, .int .i64 0, .int .i64 0, .bool false] 63)
 have hb2 := below_alloc (below_alloc hb1 (.cells #[.string r0, .bool !o0] 96)) (.cells #[.int .i64 0, .slice none 0 0, .slice none 0 0, .string ⟨#[]⟩, .int .i64 0, .slice none 0 0, .int .i64 0, .int .i64 0, .int .i64 0, .int .i64 0, .int .i64 0, .int .i64 0, .int .i64 0, .bool false] 63)
 rw [World.size_alloc, hsz] at h81
 rw [hsz] at hg1
 have HS0 : Hid (RdStep w ((wc.alloc (.cells #[.string r0, .bool !o0] 96)).alloc (.cells #[.int .i64 0, .slice none 0 0, .slice none 0 0, .string ⟨#[]⟩, .int .i64 0, .slice none 0 0, .int .i64 0, .int .i64 0, .int .i64 0, .int .i64 0, .int .i64 0, .int .i64 0, .int .i64 0, .bool false] 63)) ((wc.alloc (.cells #[.string r0, .bool !o0] 96)).alloc (.cells #[.int .i64 0, .slice none 0 0, .slice none 0 0, .string ⟨#[]⟩, .int .i64 0, .slice none 0 0, .int .i64 0, .int .i64 0, .int .i64 0, .int .i64 0, .int .i64 0, .int .i64 0, .int .i64 0, .bool false] 63)) (w.heap.size + 1) r0 (!o0)) := RdStep.refl ⟨hg1, by omega, hb2⟩
 have HB8 := hid h81; have HB2 := hid h22
 clear hb1 h21 hg1 h81 h22 hb2
 go_wp2_with fail
 clear hsz
 generalize (wc.alloc (.cells #[.string r0, .bool !o0] 96)).alloc (.cells #[.int .i64 0, .slice none 0 0, .slice none 0 0, .string ⟨#[]⟩, .int .i64 0, .slice none 0 0, .int .i64 0, .int .i64 0, .int .i64 0, .int .i64 0, .int .i64 0, .int .i64 0, .int .i64 0, .bool false] 63) = W0 at *
 have H0 : Hid (RN w W0 r0 (!o0) #[.int .i64 0, .slice none 0 0, .slice none 0 0, .string ⟨#[]⟩, .int .i64 0, .slice none 0 0, .int .i64 0, .int .i64 0, .int .i64 0, .int .i64 0, .int .i64 0, .int .i64 0, .int .i64 0, .bool false]) := ⟨HS0.out.1, HB2.out, HB8.out⟩
 clear HS0 HB8 HB2
 have hg0 := blk_lt H0.out.b8
 refine (kind_parse r0 (by omega) W0).mono ?_
 rintro e w1 ⟨⟨A5, n5, c5, at5, rfl, hR5⟩, hb⟩
 obtain ⟨er, her⟩ : ∃ er : Int, er = (if (parseV r0).isSome = true then 0 else 40) := ⟨_, rfl⟩
 obtain ⟨kd, hkd⟩ : ∃ kd, kd = ((parseV r0).getD z59).f0 := ⟨_, rfl⟩
 rw [<- her, <- hkd]
 have ER := hid her; have HKD := hid hkd
 have hle := H0.out.rd.below.size
 have G1 := hid (Kd.R_lower (Kd.R_mono (ok' := fun k => k ≠ w.heap.size + 1) (Kd.R_bound hR5) (fun k hk => by have := hk.2.1; omega)) hle)
 have H1 := hid (H0.out.on hb)
 have hgl := blk_lt H1.out.b8
 clear her hkd hR5 hb H0
 go_upto_region 8 with fail
 have H2 := hid (H1.out.on (below_alloc (Below.refl _ _) (.cells #[.int .i64 kd, .slice A5 n5 c5] 59)))
 have G2 := hid (Kd.R_alloc G1.out (.cells #[.int .i64 kd, .slice A5 n5 c5] 59))
 have HN9 := hid (heap_alloc_new w1 (.cells #[.int .i64 kd, .slice A5 n5 c5] 59))
 clear H1 G1
 generalize w1.alloc (.cells #[.int .i64 kd, .slice A5 n5 c5] 59) = w2 at *
 generalize w1.heap.size = N9 at *
 have d1 : w2.cell? ⟨w.heap.size + 1, 1, none⟩ = some (.bool !o0) := (blk_cell H2.out.rd.blk 1).trans rfl
 have f1 : w2.frozen? ⟨w.heap.size + 1, 1, none⟩ = false := blk_frozen H2.out.rd.blk 1
 cases o0 with
 | false =>
  go_upto_region 9 with fail
  have H3 := hid (H2.out.bad true)
  have HN3 := hid ((Below.heap_setCell w2 ⟨w.heap.size + 1, 1, none⟩ (.bool true) N9 (by show N9 ≠ w.heap.size + 1; omega)).trans HN9.out)
  have G3 := hid (Kd.R_far G2.out (p := ⟨w.heap.size + 1, 1, none⟩) (fun _ h => h) (.bool true))
  clear H2 HN9 G2 d1 f1
  generalize w2.setCell ⟨w.heap.size + 1, 1, none⟩ (.bool true) = w3 at *
  have n0 : w3.cell? ⟨N9, 0, none⟩ = some (.int .i64 kd) := (blk_cell HN3.out 0).trans rfl
  have n1 : w3.cell? ⟨N9, 1, none⟩ = some (.slice A5 n5 c5) := (blk_cell HN3.out 1).trans rfl
  obtain ⟨se0, se1, se2, se3, se4, se5, se6, se7, se8, se9, se10, se11, se12, se13⟩ := cl14 H3.out.b8
  obtain ⟨sf0, sf1, sf2, sf3, sf4, sf5, sf6, sf7, sf8, sf9, sf10, sf11, sf12, sf13⟩ := fz14 H3.out.b8
  go_wp2_with fail
  have H4 := hid (H3.out.put (.int .i64 1) (.slice none 0 0) (.slice none 0 0) (.string ⟨#[]⟩) (.int .i64 kd) (.slice A5 n5 c5) (.int .i64 0) (.int .i64 0) (.int .i64 0) (.int .i64 0) (.int .i64 0) (.int .i64 0) (.int .i64 0) (.bool false))
  have G4 := hid (R_put G3.out H3.out.b8 (by decide) (keepS14 w3 (w.heap.size + 1 + 1) (.int .i64 1) (.slice none 0 0) (.slice none 0 0) (.string ⟨#[]⟩) (.int .i64 kd) (.slice A5 n5 c5) (.int .i64 0) (.int .i64 0) (.int .i64 0) (.int .i64 0) (.int .i64 0) (.int .i64 0) (.int .i64 0) (.bool false)))
  clear se0 sf0 se1 sf1 se2 sf2 se3 sf3 se4 sf4 se5 sf5 se6 sf6 se7 sf7 se8 sf8 se9 sf9 se10 sf10 se11 sf11 se12 sf12 se13 sf13
  generalize ((((((((((((((w3.setCell ⟨w.heap.size + 1 + 1, 0, none⟩ (.int .i64 1)).setCell ⟨w.heap.size + 1 + 1, 1, none⟩ (.slice none 0 0)).setCell ⟨w.heap.size + 1 + 1, 2, none⟩ (.slice none 0 0)).setCell ⟨w.heap.size + 1 + 1, 3, none⟩ (.string ⟨#[]⟩)).setCell ⟨w.heap.size + 1 + 1, 4, none⟩ (.int .i64 kd)).setCell ⟨w.heap.size + 1 + 1, 5, none⟩ (.slice A5 n5 c5)).setCell ⟨w.heap.size + 1 + 1, 6, none⟩ (.int .i64 0)).setCell ⟨w.heap.size + 1 + 1, 7, none⟩ (.int .i64 0)).setCell ⟨w.heap.size + 1 + 1, 8, none⟩ (.int .i64 0)).setCell ⟨w.heap.size + 1 + 1, 9, none⟩ (.int .i64 0)).setCell ⟨w.heap.size + 1 + 1, 10, none⟩ (.int .i64 0)).setCell ⟨w.heap.size + 1 + 1, 11, none⟩ (.int .i64 0)).setCell ⟨w.heap.size + 1 + 1, 12, none⟩ (.int .i64 0)).setCell ⟨w.heap.size + 1 + 1, 13, none⟩ (.bool false)) = w4 at *
  clear H3 HN3 n0 n1 G3
  refine start_ (n := 8) (S := Held8 w (.int .i64 1) (.slice none 0 0) (.slice none 0 0) (.string ⟨#[]⟩) (.int .i64 kd) (.slice A5 n5 c5) (.int .i64 0) (.int .i64 0) (.int .i64 0) (.int .i64 0) (.int .i64 0) (.int .i64 0) (.int .i64 0) (.bool false) true) (ds := []) (bts 8 0) (by kernel_rfl) rfl rfl (H4.out.on (Below.drew (Below.refl _ _))).held (fun hHeld => ?_)
  have HT := hid (H4.out.on (Below.drew (Below.refl _ _)))
  have T2 := hid (Kd.R_drew G4.out)
  clear H4 G4
  generalize w4.drew = WT at *
  refine take_ (i := 0) (N := some 118) (bts 8 1) rfl rfl (by kernel_rfl) (fun _ _ _ h => h) (Or.inl ⟨by rfl, by intro w' hSw; unfold Held8 at hSw; go_simp; with_reducible rfl⟩) (by assumption) (by simp only [Act.put, pq1, pq2, pq3, i64_w, i32_w]; rfl) ?_
  refine pure_ (i := 1) (N := some 119) (bts 8 3) rfl rfl (by kernel_rfl) (fun _ _ _ h => h) (Or.inl ⟨by rfl, by intro w'; go_simp; with_reducible rfl⟩) (by simp only [Act.put, pq1, pq2, pq3, i64_w, i32_w]; rfl) ?_
  refine pure_ (i := 2) (N := some 120) (bts 8 7) rfl rfl (by kernel_rfl) (fun _ _ _ h => h) (Or.inl ⟨by rfl, by intro w'; go_simp; with_reducible rfl⟩) (by simp only [Act.put, pq1, pq2, pq3, i64_w, i32_w]; rfl) ?_
  refine pure_ (i := 3) (N := some 121) (bts 8 15) rfl rfl (by kernel_rfl) (fun _ _ _ h => h) (Or.inl ⟨by rfl, by intro w'; go_simp; with_reducible rfl⟩) (by simp only [Act.put, pq1, pq2, pq3, i64_w, i32_w]; rfl) ?_
  refine take_ (i := 4) (N := some 122) (bts 8 31) rfl rfl (by kernel_rfl) (fun _ _ _ h => h) (Or.inl ⟨by rfl, by intro w' hSw; unfold Held8 at hSw; go_simp; with_reducible rfl⟩) (by assumption) (by simp only [Act.put, pq1, pq2, pq3, i64_w, i32_w]; rfl) ?_
  refine pure_ (i := 5) (N := some 123) (bts 8 63) rfl rfl (by kernel_rfl) (fun _ _ _ h => h) (Or.inl ⟨by rfl, by intro w'; go_simp; with_reducible rfl⟩) (by simp only [Act.put, pq1, pq2, pq3, i64_w, i32_w]; rfl) ?_
  obtain ⟨se0, se1, se2, se3, se4, se5, se6, se7, se8, se9, se10, se11, se12, se13⟩ := cl14 HT.out.b2
  obtain ⟨sf0, sf1, sf2, sf3, sf4, sf5, sf6, sf7, sf8, sf9, sf10, sf11, sf12, sf13⟩ := fz14 HT.out.b2
  refine one_ (i := 6) (N := none) (bts 8 127) rfl rfl (by kernel_rfl) (by decide) (fun K hK => ?_)
  refine skip_ (w1 := ?_) (by rfl) rfl ?_ ?_
  rotate_left
  ·go_simp
   rfl
  have hkE := keepS14 WT (w.heap.size) (.int .i64 1) (.slice none 0 0) (.slice none 0 0) (.string ⟨#[]⟩) (.int .i64 kd) (.slice A5 n5 c5) (.int .i64 0) (.int .i64 0) (.int .i64 0) (.int .i64 0) (.int .i64 0) (.int .i64 0) (.int .i64 0) (.bool false)
  refine hK.out _ _ (HT.out.heldS hkE) (fun hHeld2 => ?_)
  clear hK K hHeld
  refine pure_ (i := 7) (N := some 3) (bts 8 255) rfl rfl (by kernel_rfl) (fun _ _ _ h => h) (Or.inl ⟨by rfl, by intro w'; go_simp; with_reducible rfl⟩) (by simp only [Act.put, pq1, pq2, pq3, i64_w, i32_w]; rfl) ?_
  refine done_ (by kernel_rfl) ?_
  have HF := hid (HT.out.fin (.int .i64 1) (.slice none 0 0) (.slice none 0 0) (.string ⟨#[]⟩) (.int .i64 kd) (.slice A5 n5 c5) (.int .i64 0) (.int .i64 0) (.int .i64 0) (.int .i64 0) (.int .i64 0) (.int .i64 0) (.int .i64 0) (.bool false))
  have U2 := hid (R_put T2.out HT.out.b2 (by decide) hkE)
  clear hkE
  clear se0 sf0 se1 sf1 se2 sf2 se3 sf3 se4 sf4 se5 sf5 se6 sf6 se7 sf7 se8 sf8 se9 sf9 se10 sf10 se11 sf11 se12 sf12 se13 sf13
  go_wp2_with fail
  exact bodyPost_ret (results_ct (p := 2) (u := 3) (ty := 63) rfl _ _ w.heap.size 63 _ (0, 0) _ rfl HF.out.b2 Tryz.underlying63 rfl (by kernel_rfl)) rfl (node_post (ok := fun k => k ≠ w.heap.size + 1) HF.out (Kd.R_nil _ _ _ _ _) (Kd.R_nil _ _ _ _ _) U2.out (by unfold srcV; rw [HKD.out, eta59]; rfl))
 | true =>
  go_upto_region 9 with fail
  have H3 := hid (H2.out.bad (er != 0))
  have HN3 := hid ((Below.heap_setCell w2 ⟨w.heap.size + 1, 1, none⟩ (.bool (er != 0)) N9 (by show N9 ≠ w.heap.size + 1; omega)).trans HN9.out)
  have G3 := hid (Kd.R_far G2.out (p := ⟨w.heap.size + 1, 1, none⟩) (fun _ h => h) (.bool (er != 0)))
  clear H2 HN9 G2 d1 f1
  generalize w2.setCell ⟨w.heap.size + 1, 1, none⟩ (.bool (er != 0)) = w3 at *
  have n0 : w3.cell? ⟨N9, 0, none⟩ = some (.int .i64 kd) := (blk_cell HN3.out 0).trans rfl
  have n1 : w3.cell? ⟨N9, 1, none⟩ = some (.slice A5 n5 c5) := (blk_cell HN3.out 1).trans rfl
  obtain ⟨se0, se1, se2, se3, se4, se5, se6, se7, se8, se9, se10, se11, se12, se13⟩ := cl14 H3.out.b8
  obtain ⟨sf0, sf1, sf2, sf3, sf4, sf5, sf6, sf7, sf8, sf9, sf10, sf11, sf12, sf13⟩ := fz14 H3.out.b8
  go_wp2_with fail
  have H4 := hid (H3.out.put (.int .i64 1) (.slice none 0 0) (.slice none 0 0) (.string ⟨#[]⟩) (.int .i64 kd) (.slice A5 n5 c5) (.int .i64 0) (.int .i64 0) (.int .i64 0) (.int .i64 0) (.int .i64 0) (.int .i64 0) (.int .i64 0) (.bool false))
  have G4 := hid (R_put G3.out H3.out.b8 (by decide) (keepS14 w3 (w.heap.size + 1 + 1) (.int .i64 1) (.slice none 0 0) (.slice none 0 0) (.string ⟨#[]⟩) (.int .i64 kd) (.slice A5 n5 c5) (.int .i64 0) (.int .i64 0) (.int .i64 0) (.int .i64 0) (.int .i64 0) (.int .i64 0) (.int .i64 0) (.bool false)))
  clear se0 sf0 se1 sf1 se2 sf2 se3 sf3 se4 sf4 se5 sf5 se6 sf6 se7 sf7 se8 sf8 se9 sf9 se10 sf10 se11 sf11 se12 sf12 se13 sf13
  generalize ((((((((((((((w3.setCell ⟨w.heap.size + 1 + 1, 0, none⟩ (.int .i64 1)).setCell ⟨w.heap.size + 1 + 1, 1, none⟩ (.slice none 0 0)).setCell ⟨w.heap.size + 1 + 1, 2, none⟩ (.slice none 0 0)).setCell ⟨w.heap.size + 1 + 1, 3, none⟩ (.string ⟨#[]⟩)).setCell ⟨w.heap.size + 1 + 1, 4, none⟩ (.int .i64 kd)).setCell ⟨w.heap.size + 1 + 1, 5, none⟩ (.slice A5 n5 c5)).setCell ⟨w.heap.size + 1 + 1, 6, none⟩ (.int .i64 0)).setCell ⟨w.heap.size + 1 + 1, 7, none⟩ (.int .i64 0)).setCell ⟨w.heap.size + 1 + 1, 8, none⟩ (.int .i64 0)).setCell ⟨w.heap.size + 1 + 1, 9, none⟩ (.int .i64 0)).setCell ⟨w.heap.size + 1 + 1, 10, none⟩ (.int .i64 0)).setCell ⟨w.heap.size + 1 + 1, 11, none⟩ (.int .i64 0)).setCell ⟨w.heap.size + 1 + 1, 12, none⟩ (.int .i64 0)).setCell ⟨w.heap.size + 1 + 1, 13, none⟩ (.bool false)) = w4 at *
  clear H3 HN3 n0 n1 G3
  obtain ⟨bv, hbv⟩ : ∃ bv, bv = (er != 0) := ⟨_, rfl⟩
  rw [<- hbv] at H4
  have HBV := hid hbv
  clear hbv
  refine start_ (n := 8) (S := Held8 w (.int .i64 1) (.slice none 0 0) (.slice none 0 0) (.string ⟨#[]⟩) (.int .i64 kd) (.slice A5 n5 c5) (.int .i64 0) (.int .i64 0) (.int .i64 0) (.int .i64 0) (.int .i64 0) (.int .i64 0) (.int .i64 0) (.bool false) bv) (ds := []) (bts 8 0) (by kernel_rfl) rfl rfl (H4.out.on (Below.drew (Below.refl _ _))).held (fun hHeld => ?_)
  have HT := hid (H4.out.on (Below.drew (Below.refl _ _)))
  have T2 := hid (Kd.R_drew G4.out)
  clear H4 G4
  generalize w4.drew = WT at *
  refine take_ (i := 0) (N := some 118) (bts 8 1) rfl rfl (by kernel_rfl) (fun _ _ _ h => h) (Or.inl ⟨by rfl, by intro w' hSw; unfold Held8 at hSw; go_simp; with_reducible rfl⟩) (by assumption) (by simp only [Act.put, pq1, pq2, pq3, i64_w, i32_w]; rfl) ?_
  refine pure_ (i := 1) (N := some 119) (bts 8 3) rfl rfl (by kernel_rfl) (fun _ _ _ h => h) (Or.inl ⟨by rfl, by intro w'; go_simp; with_reducible rfl⟩) (by simp only [Act.put, pq1, pq2, pq3, i64_w, i32_w]; rfl) ?_
  refine pure_ (i := 2) (N := some 120) (bts 8 7) rfl rfl (by kernel_rfl) (fun _ _ _ h => h) (Or.inl ⟨by rfl, by intro w'; go_simp; with_reducible rfl⟩) (by simp only [Act.put, pq1, pq2, pq3, i64_w, i32_w]; rfl) ?_
  refine pure_ (i := 3) (N := some 121) (bts 8 15) rfl rfl (by kernel_rfl) (fun _ _ _ h => h) (Or.inl ⟨by rfl, by intro w'; go_simp; with_reducible rfl⟩) (by simp only [Act.put, pq1, pq2, pq3, i64_w, i32_w]; rfl) ?_
  refine take_ (i := 4) (N := some 122) (bts 8 31) rfl rfl (by kernel_rfl) (fun _ _ _ h => h) (Or.inl ⟨by rfl, by intro w' hSw; unfold Held8 at hSw; go_simp; with_reducible rfl⟩) (by assumption) (by simp only [Act.put, pq1, pq2, pq3, i64_w, i32_w]; rfl) ?_
  refine pure_ (i := 5) (N := some 123) (bts 8 63) rfl rfl (by kernel_rfl) (fun _ _ _ h => h) (Or.inl ⟨by rfl, by intro w'; go_simp; with_reducible rfl⟩) (by simp only [Act.put, pq1, pq2, pq3, i64_w, i32_w]; rfl) ?_
  obtain ⟨se0, se1, se2, se3, se4, se5, se6, se7, se8, se9, se10, se11, se12, se13⟩ := cl14 HT.out.b2
  obtain ⟨sf0, sf1, sf2, sf3, sf4, sf5, sf6, sf7, sf8, sf9, sf10, sf11, sf12, sf13⟩ := fz14 HT.out.b2
  refine one_ (i := 6) (N := none) (bts 8 127) rfl rfl (by kernel_rfl) (by decide) (fun K hK => ?_)
  refine skip_ (w1 := ?_) (by rfl) rfl ?_ ?_
  rotate_left
  ·go_simp
   rfl
  have hkE := keepS14 WT (w.heap.size) (.int .i64 1) (.slice none 0 0) (.slice none 0 0) (.string ⟨#[]⟩) (.int .i64 kd) (.slice A5 n5 c5) (.int .i64 0) (.int .i64 0) (.int .i64 0) (.int .i64 0) (.int .i64 0) (.int .i64 0) (.int .i64 0) (.bool false)
  refine hK.out _ _ (HT.out.heldS hkE) (fun hHeld2 => ?_)
  clear hK K hHeld
  refine pure_ (i := 7) (N := some 3) (bts 8 255) rfl rfl (by kernel_rfl) (fun _ _ _ h => h) (Or.inl ⟨by rfl, by intro w'; go_simp; with_reducible rfl⟩) (by simp only [Act.put, pq1, pq2, pq3, i64_w, i32_w]; rfl) ?_
  refine done_ (by kernel_rfl) ?_
  have HF := hid (HT.out.fin (.int .i64 1) (.slice none 0 0) (.slice none 0 0) (.string ⟨#[]⟩) (.int .i64 kd) (.slice A5 n5 c5) (.int .i64 0) (.int .i64 0) (.int .i64 0) (.int .i64 0) (.int .i64 0) (.int .i64 0) (.int .i64 0) (.bool false))
  have U2 := hid (R_put T2.out HT.out.b2 (by decide) hkE)
  clear hkE
  clear se0 sf0 se1 sf1 se2 sf2 se3 sf3 se4 sf4 se5 sf5 se6 sf6 se7 sf7 se8 sf8 se9 sf9 se10 sf10 se11 sf11 se12 sf12 se13 sf13
  go_wp2_with fail
  exact bodyPost_ret (results_ct (p := 2) (u := 3) (ty := 63) rfl _ _ w.heap.size 63 _ (0, 0) _ rfl HF.out.b2 Tryz.underlying63 rfl (by kernel_rfl)) rfl (node_post (ok := fun k => k ≠ w.heap.size + 1) HF.out (Kd.R_nil _ _ _ _ _) (Kd.R_nil _ _ _ _ _) U2.out (by unfold srcV; rw [HBV.out, ER.out, HKD.out, eta59]; cases hpp : parseV r0 <;> rfl))
theorem read_def (s : ByteArray) (hs : s.size <= 900000) (w : World) (hE : Env w) (n0 : howL s ≠ [115, 111, 117, 114, 99, 101]) (n1 : howL s ≠ [101, 97, 99, 104]) (n2 : howL s ≠ [119, 105, 110, 100, 111, 119]) (n3 : howL s ≠ [103, 114, 111, 117, 112]) (n4 : howL s ≠ [102, 108, 97, 116, 116, 101, 110]) (n5 : howL s ≠ [115, 105, 110, 107]) :
  Calls Tryz.prog 18 #[.string s] w (NodePost ((z63, false)) w) := by
 obtain ⟨m, hm⟩ := hE.maxLen
 have HC := hid (Tryz.strings_Cut s ⟨#[32]⟩ m (w.alloc (.cells #[.int .i64 0, .slice none 0 0, .slice none 0 0, .string ⟨#[]⟩, .int .i64 0, .slice none 0 0, .int .i64 0, .int .i64 0, .int .i64 0, .int .i64 0, .int .i64 0, .int .i64 0, .int .i64 0, .bool false] 63)) (by omega) (cell_later (below_alloc (Below.refl _ _) _) hm))
 have HCS : Hid (cutS s = Lib.cut s.data.toList (⟨#[32]⟩ : ByteArray).data.toList) := rfl
 have HE := hid hE
 rw [<- HCS.out] at HC
 have c0 : ((hdS s).toList == [115, 111, 117, 114, 99, 101]) = false := by rw [beq_eq_false_iff_ne, ByteArray.toList_eq]; exact n0
 have c1 : ((hdS s).toList == [101, 97, 99, 104]) = false := by rw [beq_eq_false_iff_ne, ByteArray.toList_eq]; exact n1
 have c2 : ((hdS s).toList == [119, 105, 110, 100, 111, 119]) = false := by rw [beq_eq_false_iff_ne, ByteArray.toList_eq]; exact n2
 have c3 : ((hdS s).toList == [103, 114, 111, 117, 112]) = false := by rw [beq_eq_false_iff_ne, ByteArray.toList_eq]; exact n3
 have c4 : ((hdS s).toList == [102, 108, 97, 116, 116, 101, 110]) = false := by rw [beq_eq_false_iff_ne, ByteArray.toList_eq]; exact n4
 have c5 : ((hdS s).toList == [115, 105, 110, 107]) = false := by rw [beq_eq_false_iff_ne, ByteArray.toList_eq]; exact n5
 have htl : (tlS s).size <= 900000 := by have := (cut_size s).2; unfold tlS; omega
 clear hm hE HCS n0 n1 n2 n3 n4 n5
 go_enter Tryz.func18, Tryz.ntmps18
 go_wp2_with fail
 refine HC.out.mono ?_
 rintro e wc ⟨rfl, nd, hwc⟩
 have hb1 : Below w.heap.size w wc := by rw [hwc]; exact pw_below_drewN (below_alloc (Below.refl _ _) _) nd
 have h21 : wc.heap[w.heap.size]? = some (.cells #[.int .i64 0, .slice none 0 0, .slice none 0 0, .string ⟨#[]⟩, .int .i64 0, .slice none 0 0, .int .i64 0, .int .i64 0, .int .i64 0, .int .i64 0, .int .i64 0, .int .i64 0, .int .i64 0, .bool false] 63 (0, 0)) := by rw [hwc]; exact blk_drewN (heap_alloc_new w _) nd
 have hsz : wc.heap.size = w.heap.size + 1 := by rw [hwc]; exact World.size_alloc w _
 have hws : (⟨(cutS s).1.toArray⟩ : ByteArray) = hdS s := rfl
 have hwt : (⟨(cutS s).2.1.toArray⟩ : ByteArray) = tlS s := rfl
 have hwo : (cutS s).2.2 = okS s := rfl
 rw [hws, hwt, hwo]
 clear hws hwt hwo hwc HC
 generalize tlS s = r0 at *
 generalize okS s = o0 at *
 generalize hdS s = wd at *
 have hg1 := blk_alloc (heap_alloc_new wc (.cells #[.string r0, .bool !o0] 96)) (.cells #[.int .i64 0, .slice none 0 0, .slice none 0 0, .string ⟨#[]⟩, .int .i64 0, .slice none 0 0, .int .i64 0, .int .i64 0, .int .i64 0, .int .i64 0, .int .i64 0, .int .i64 0, .int .i64 0, .bool false] 63)
 have h81 := heap_alloc_new (wc.alloc (.cells #[.string r0, .bool !o0] 96)) (.cells #[.int .i64 0, .slice none 0 0, .slice none 0 0, .string ⟨#[]⟩, .int .i64 0, .slice none 0 0, .int .i64 0, .int .i64 0, .int .i64 0, .int .i64 0, .int .i64 0, .int .i64 0, .int .i64 0, .bool false] 63)
 have h22 := blk_alloc (blk_alloc h21 (.cells #[.string r0, .bool !o0] 96)) (.cells #[.int .i64 0, .slice none 0 0, .slice none 0 0, .string ⟨#[]⟩, .int .i64 0, .slice none 0 0, .int .i64 0, .int .i64 0, .int .i64 0, .int .i64 0, .int .i64 0, .int .i64 0, .int .i64 0, .bool false] 63)
 have hb2 := below_alloc (below_alloc hb1 (.cells #[.string r0, .bool !o0] 96)) (.cells #[.int .i64 0, .slice none 0 0, .slice none 0 0, .string ⟨#[]⟩, .int .i64 0, .slice none 0 0, .int .i64 0, .int .i64 0, .int .i64 0, .int .i64 0, .int .i64 0, .int .i64 0, .int .i64 0, .bool false] 63)
 rw [World.size_alloc, hsz] at h81
 rw [hsz] at hg1
 have HS0 : Hid (RdStep w ((wc.alloc (.cells #[.string r0, .bool !o0] 96)).alloc (.cells #[.int .i64 0, .slice none 0 0, .slice none 0 0, .string ⟨#[]⟩, .int .i64 0, .slice none 0 0, .int .i64 0, .int .i64 0, .int .i64 0, .int .i64 0, .int .i64 0, .int .i64 0, .int .i64 0, .bool false] 63)) ((wc.alloc (.cells #[.string r0, .bool !o0] 96)).alloc (.cells #[.int .i64 0, .slice none 0 0, .slice none 0 0, .string ⟨#[]⟩, .int .i64 0, .slice none 0 0, .int .i64 0, .int .i64 0, .int .i64 0, .int .i64 0, .int .i64 0, .int .i64 0, .int .i64 0, .bool false] 63)) (w.heap.size + 1) r0 (!o0)) := RdStep.refl ⟨hg1, by omega, hb2⟩
 have HB8 := hid h81; have HB2 := hid h22
 clear hb1 h21 hg1 h81 h22 hb2
 go_upto_region 5 with fail
 clear hsz
 generalize (wc.alloc (.cells #[.string r0, .bool !o0] 96)).alloc (.cells #[.int .i64 0, .slice none 0 0, .slice none 0 0, .string ⟨#[]⟩, .int .i64 0, .slice none 0 0, .int .i64 0, .int .i64 0, .int .i64 0, .int .i64 0, .int .i64 0, .int .i64 0, .int .i64 0, .bool false] 63) = W0 at *
 have H0 : Hid (RN w W0 r0 (!o0) #[.int .i64 0, .slice none 0 0, .slice none 0 0, .string ⟨#[]⟩, .int .i64 0, .slice none 0 0, .int .i64 0, .int .i64 0, .int .i64 0, .int .i64 0, .int .i64 0, .int .i64 0, .int .i64 0, .bool false]) := ⟨HS0.out.1, HB2.out, HB8.out⟩
 clear HS0 HB8 HB2
 have hg0 := blk_lt H0.out.b8
 have d1 : W0.cell? ⟨w.heap.size + 1, 1, none⟩ = some (.bool !o0) := (blk_cell H0.out.rd.blk 1).trans rfl
 have f1 : W0.frozen? ⟨w.heap.size + 1, 1, none⟩ = false := blk_frozen H0.out.rd.blk 1
 go_upto_region 24 with fail
 have H1 := hid (H0.out.bad true)
 clear H0 d1 f1
 generalize W0.setCell ⟨w.heap.size + 1, 1, none⟩ (.bool true) = w1 at *
 refine start_ (n := 8) (S := Held8 w (.int .i64 0) (.slice none 0 0) (.slice none 0 0) (.string ⟨#[]⟩) (.int .i64 0) (.slice none 0 0) (.int .i64 0) (.int .i64 0) (.int .i64 0) (.int .i64 0) (.int .i64 0) (.int .i64 0) (.int .i64 0) (.bool false) true) (ds := []) (bts 8 0) (by kernel_rfl) rfl rfl (H1.out.on (Below.drew (Below.refl _ _))).held (fun hHeld => ?_)
 have HT := hid (H1.out.on (Below.drew (Below.refl _ _)))
 clear H1
 generalize w1.drew = WT at *
 refine take_ (i := 0) (N := some 118) (bts 8 1) rfl rfl (by kernel_rfl) (fun _ _ _ h => h) (Or.inl ⟨by rfl, by intro w' hSw; unfold Held8 at hSw; go_simp; with_reducible rfl⟩) (by assumption) (by simp only [Act.put, pq1, pq2, pq3, i64_w, i32_w]; rfl) ?_
 refine pure_ (i := 1) (N := some 119) (bts 8 3) rfl rfl (by kernel_rfl) (fun _ _ _ h => h) (Or.inl ⟨by rfl, by intro w'; go_simp; with_reducible rfl⟩) (by simp only [Act.put, pq1, pq2, pq3, i64_w, i32_w]; rfl) ?_
 refine pure_ (i := 2) (N := some 120) (bts 8 7) rfl rfl (by kernel_rfl) (fun _ _ _ h => h) (Or.inl ⟨by rfl, by intro w'; go_simp; with_reducible rfl⟩) (by simp only [Act.put, pq1, pq2, pq3, i64_w, i32_w]; rfl) ?_
 refine pure_ (i := 3) (N := some 121) (bts 8 15) rfl rfl (by kernel_rfl) (fun _ _ _ h => h) (Or.inl ⟨by rfl, by intro w'; go_simp; with_reducible rfl⟩) (by simp only [Act.put, pq1, pq2, pq3, i64_w, i32_w]; rfl) ?_
 refine take_ (i := 4) (N := some 122) (bts 8 31) rfl rfl (by kernel_rfl) (fun _ _ _ h => h) (Or.inl ⟨by rfl, by intro w' hSw; unfold Held8 at hSw; go_simp; with_reducible rfl⟩) (by assumption) (by simp only [Act.put, pq1, pq2, pq3, i64_w, i32_w]; rfl) ?_
 refine pure_ (i := 5) (N := some 123) (bts 8 63) rfl rfl (by kernel_rfl) (fun _ _ _ h => h) (Or.inl ⟨by rfl, by intro w'; go_simp; with_reducible rfl⟩) (by simp only [Act.put, pq1, pq2, pq3, i64_w, i32_w]; rfl) ?_
 obtain ⟨se0, se1, se2, se3, se4, se5, se6, se7, se8, se9, se10, se11, se12, se13⟩ := cl14 HT.out.b2
 obtain ⟨sf0, sf1, sf2, sf3, sf4, sf5, sf6, sf7, sf8, sf9, sf10, sf11, sf12, sf13⟩ := fz14 HT.out.b2
 refine one_ (i := 6) (N := none) (bts 8 127) rfl rfl (by kernel_rfl) (by decide) (fun K hK => ?_)
 refine skip_ (w1 := ?_) (rfl) rfl ?_ ?_
 rotate_left
 ·go_simp
  rfl
 have hkE := keepS14 WT (w.heap.size) (.int .i64 0) (.slice none 0 0) (.slice none 0 0) (.string ⟨#[]⟩) (.int .i64 0) (.slice none 0 0) (.int .i64 0) (.int .i64 0) (.int .i64 0) (.int .i64 0) (.int .i64 0) (.int .i64 0) (.int .i64 0) (.bool false)
 refine hK.out _ _ (HT.out.heldS hkE) (fun hHeld2 => ?_)
 clear hK K hHeld
 refine pure_ (i := 7) (N := some 3) (bts 8 255) rfl rfl (by kernel_rfl) (fun _ _ _ h => h) (Or.inl ⟨by rfl, by intro w'; go_simp; with_reducible rfl⟩) (by simp only [Act.put, pq1, pq2, pq3, i64_w, i32_w]; rfl) ?_
 refine done_ (by kernel_rfl) ?_
 have HF := hid (HT.out.fin (.int .i64 0) (.slice none 0 0) (.slice none 0 0) (.string ⟨#[]⟩) (.int .i64 0) (.slice none 0 0) (.int .i64 0) (.int .i64 0) (.int .i64 0) (.int .i64 0) (.int .i64 0) (.int .i64 0) (.int .i64 0) (.bool false))
 clear hkE
 clear se0 sf0 se1 sf1 se2 sf2 se3 sf3 se4 sf4 se5 sf5 se6 sf6 se7 sf7 se8 sf8 se9 sf9 se10 sf10 se11 sf11 se12 sf12 se13 sf13
 go_wp2_with fail
 exact bodyPost_ret (results_ct (p := 2) (u := 3) (ty := 63) rfl _ _ w.heap.size 63 _ (0, 0) _ rfl HF.out.b2 Tryz.underlying63 rfl (by kernel_rfl)) rfl (node_post (ok := fun k => k ≠ w.heap.size + 1) HF.out (Kd.R_nil _ _ _ _ _) (Kd.R_nil _ _ _ _ _) (Kd.R_nil _ _ _ _ _) (rfl))
theorem read_sink (s : ByteArray) (hs : s.size <= 900000) (w : World) (hE : Env w) (n0 : howL s ≠ [115, 111, 117, 114, 99, 101]) (n1 : howL s ≠ [101, 97, 99, 104]) (n2 : howL s ≠ [119, 105, 110, 100, 111, 119]) (n3 : howL s ≠ [103, 114, 111, 117, 112]) (n4 : howL s ≠ [102, 108, 97, 116, 116, 101, 110]) (y : howL s = [115, 105, 110, 107]) :
  Calls Tryz.prog 18 #[.string s] w (NodePost (sinkV (tlS s) (!okS s)) w) := by
 obtain ⟨m, hm⟩ := hE.maxLen
 have HC := hid (Tryz.strings_Cut s ⟨#[32]⟩ m (w.alloc (.cells #[.int .i64 0, .slice none 0 0, .slice none 0 0, .string ⟨#[]⟩, .int .i64 0, .slice none 0 0, .int .i64 0, .int .i64 0, .int .i64 0, .int .i64 0, .int .i64 0, .int .i64 0, .int .i64 0, .bool false] 63)) (by omega) (cell_later (below_alloc (Below.refl _ _) _) hm))
 have HCS : Hid (cutS s = Lib.cut s.data.toList (⟨#[32]⟩ : ByteArray).data.toList) := rfl
 have HE := hid hE
 rw [<- HCS.out] at HC
 have c0 : ((hdS s).toList == [115, 111, 117, 114, 99, 101]) = false := by rw [beq_eq_false_iff_ne, ByteArray.toList_eq]; exact n0
 have c1 : ((hdS s).toList == [101, 97, 99, 104]) = false := by rw [beq_eq_false_iff_ne, ByteArray.toList_eq]; exact n1
 have c2 : ((hdS s).toList == [119, 105, 110, 100, 111, 119]) = false := by rw [beq_eq_false_iff_ne, ByteArray.toList_eq]; exact n2
 have c3 : ((hdS s).toList == [103, 114, 111, 117, 112]) = false := by rw [beq_eq_false_iff_ne, ByteArray.toList_eq]; exact n3
 have c4 : ((hdS s).toList == [102, 108, 97, 116, 116, 101, 110]) = false := by rw [beq_eq_false_iff_ne, ByteArray.toList_eq]; exact n4
 have cy : ((hdS s).toList == [115, 105, 110, 107]) = true := by rw [beq_iff_eq, ByteArray.toList_eq]; exact y
 have htl : (tlS s).size <= 900000 := by have := (cut_size s).2; unfold tlS; omega
 clear hm hE HCS n0 n1 n2 n3 n4 y
 go_enter Tryz.func18, Tryz.ntmps18
 go_wp2_with fail
 refine HC.out.mono ?_
 rintro e wc ⟨rfl, nd, hwc⟩
 have hb1 : Below w.heap.size w wc := by rw [hwc]; exact pw_below_drewN (below_alloc (Below.refl _ _) _) nd
 have h21 : wc.heap[w.heap.size]? = some (.cells #[.int .i64 0, .slice none 0 0, .slice none 0 0, .string ⟨#[]⟩, .int .i64 0, .slice none 0 0, .int .i64 0, .int .i64 0, .int .i64 0, .int .i64 0, .int .i64 0, .int .i64 0, .int .i64 0, .bool false] 63 (0, 0)) := by rw [hwc]; exact blk_drewN (heap_alloc_new w _) nd
 have hsz : wc.heap.size = w.heap.size + 1 := by rw [hwc]; exact World.size_alloc w _
 have hws : (⟨(cutS s).1.toArray⟩ : ByteArray) = hdS s := rfl
 have hwt : (⟨(cutS s).2.1.toArray⟩ : ByteArray) = tlS s := rfl
 have hwo : (cutS s).2.2 = okS s := rfl
 rw [hws, hwt, hwo]
 clear hws hwt hwo hwc HC
 generalize tlS s = r0 at *
 generalize okS s = o0 at *
 generalize hdS s = wd at *
 have hg1 := blk_alloc (heap_alloc_new wc (.cells #[.string r0, .bool !o0] 96)) (.cells #[.int .i64 0, .slice none 0 0, .slice none 0 0, .string ⟨#[]⟩, .int .i64 0, .slice none 0 0, .int .i64 0, .int .i64 0, .int .i64 0, .int .i64 0, .int .i64 0, .int .i64 0, .int .i64 0, .bool false] 63)
 have h81 := heap_alloc_new (wc.alloc (.cells #[.string r0, .bool !o0] 96)) (.cells #[.int .i64 0, .slice none 0 0, .slice none 0 0, .string ⟨#[]⟩, .int .i64 0, .slice none 0 0, .int .i64 0, .int .i64 0, .int .i64 0, .int .i64 0, .int .i64 0, .int .i64 0, .int .i64 0, .bool false] 63)
 have h22 := blk_alloc (blk_alloc h21 (.cells #[.string r0, .bool !o0] 96)) (.cells #[.int .i64 0, .slice none 0 0, .slice none 0 0, .string ⟨#[]⟩, .int .i64 0, .slice none 0 0, .int .i64 0, .int .i64 0, .int .i64 0, .int .i64 0, .int .i64 0, .int .i64 0, .int .i64 0, .bool false] 63)
 have hb2 := below_alloc (below_alloc hb1 (.cells #[.string r0, .bool !o0] 96)) (.cells #[.int .i64 0, .slice none 0 0, .slice none 0 0, .string ⟨#[]⟩, .int .i64 0, .slice none 0 0, .int .i64 0, .int .i64 0, .int .i64 0, .int .i64 0, .int .i64 0, .int .i64 0, .int .i64 0, .bool false] 63)
 rw [World.size_alloc, hsz] at h81
 rw [hsz] at hg1
 have HS0 : Hid (RdStep w ((wc.alloc (.cells #[.string r0, .bool !o0] 96)).alloc (.cells #[.int .i64 0, .slice none 0 0, .slice none 0 0, .string ⟨#[]⟩, .int .i64 0, .slice none 0 0, .int .i64 0, .int .i64 0, .int .i64 0, .int .i64 0, .int .i64 0, .int .i64 0, .int .i64 0, .bool false] 63)) ((wc.alloc (.cells #[.string r0, .bool !o0] 96)).alloc (.cells #[.int .i64 0, .slice none 0 0, .slice none 0 0, .string ⟨#[]⟩, .int .i64 0, .slice none 0 0, .int .i64 0, .int .i64 0, .int .i64 0, .int .i64 0, .int .i64 0, .int .i64 0, .int .i64 0, .bool false] 63)) (w.heap.size + 1) r0 (!o0)) := RdStep.refl ⟨hg1, by omega, hb2⟩
 have HB8 := hid h81; have HB2 := hid h22
 clear hb1 h21 hg1 h81 h22 hb2
 go_wp2_with fail
 clear hsz
 generalize (wc.alloc (.cells #[.string r0, .bool !o0] 96)).alloc (.cells #[.int .i64 0, .slice none 0 0, .slice none 0 0, .string ⟨#[]⟩, .int .i64 0, .slice none 0 0, .int .i64 0, .int .i64 0, .int .i64 0, .int .i64 0, .int .i64 0, .int .i64 0, .int .i64 0, .bool false] 63) = W0 at *
 have H0 : Hid (RN w W0 r0 (!o0) #[.int .i64 0, .slice none 0 0, .slice none 0 0, .string ⟨#[]⟩, .int .i64 0, .slice none 0 0, .int .i64 0, .int .i64 0, .int .i64 0, .int .i64 0, .int .i64 0, .int .i64 0, .int .i64 0, .bool false]) := ⟨HS0.out.1, HB2.out, HB8.out⟩
 clear HS0 HB8 HB2
 have hg0 := blk_lt H0.out.b8
 refine (one_last w W0 (w.heap.size + 1) r0 _ HE.out H0.out.rd (by omega)).mono ?_
 rintro e w1 ⟨⟨N, rfl, hN, hNs⟩, s1⟩
 have H1 := hid (H0.out.step s1)
 have G1 : Hid ((Kd.int .i64).R 3 w1 w.heap.size (fun k => k ≠ w.heap.size + 1) (.slice (some ⟨N, 0, none⟩) 1 1) [(numV r0 3).getD 0]) := one_R hN (by omega) (by omega)
 clear hN hNs s1 H0
 obtain ⟨se0, se1, se2, se3, se4, se5, se6, se7, se8, se9, se10, se11, se12, se13⟩ := cl14 H1.out.b8
 obtain ⟨sf0, sf1, sf2, sf3, sf4, sf5, sf6, sf7, sf8, sf9, sf10, sf11, sf12, sf13⟩ := fz14 H1.out.b8
 go_wp2_with fail
 have H2 := hid (H1.out.put (.int .i64 6) (.slice (some ⟨N, 0, none⟩) 1 1) (.slice none 0 0) (.string ⟨#[]⟩) (.int .i64 0) (.slice none 0 0) (.int .i64 0) (.int .i64 0) (.int .i64 0) (.int .i64 0) (.int .i64 0) (.int .i64 0) (.int .i64 0) (.bool false))
 have G2 := hid (R_put G1.out H1.out.b8 (by decide) (keepS14 w1 (w.heap.size + 1 + 1) (.int .i64 6) (.slice (some ⟨N, 0, none⟩) 1 1) (.slice none 0 0) (.string ⟨#[]⟩) (.int .i64 0) (.slice none 0 0) (.int .i64 0) (.int .i64 0) (.int .i64 0) (.int .i64 0) (.int .i64 0) (.int .i64 0) (.int .i64 0) (.bool false)))
 clear se0 sf0 se1 sf1 se2 sf2 se3 sf3 se4 sf4 se5 sf5 se6 sf6 se7 sf7 se8 sf8 se9 sf9 se10 sf10 se11 sf11 se12 sf12 se13 sf13
 generalize ((((((((((((((w1.setCell ⟨w.heap.size + 1 + 1, 0, none⟩ (.int .i64 6)).setCell ⟨w.heap.size + 1 + 1, 1, none⟩ (.slice (some ⟨N, 0, none⟩) 1 1)).setCell ⟨w.heap.size + 1 + 1, 2, none⟩ (.slice none 0 0)).setCell ⟨w.heap.size + 1 + 1, 3, none⟩ (.string ⟨#[]⟩)).setCell ⟨w.heap.size + 1 + 1, 4, none⟩ (.int .i64 0)).setCell ⟨w.heap.size + 1 + 1, 5, none⟩ (.slice none 0 0)).setCell ⟨w.heap.size + 1 + 1, 6, none⟩ (.int .i64 0)).setCell ⟨w.heap.size + 1 + 1, 7, none⟩ (.int .i64 0)).setCell ⟨w.heap.size + 1 + 1, 8, none⟩ (.int .i64 0)).setCell ⟨w.heap.size + 1 + 1, 9, none⟩ (.int .i64 0)).setCell ⟨w.heap.size + 1 + 1, 10, none⟩ (.int .i64 0)).setCell ⟨w.heap.size + 1 + 1, 11, none⟩ (.int .i64 0)).setCell ⟨w.heap.size + 1 + 1, 12, none⟩ (.int .i64 0)).setCell ⟨w.heap.size + 1 + 1, 13, none⟩ (.bool false)) = w2 at *
 obtain ⟨bv, hbv⟩ : ∃ bv, bv = (!o0 || (numV r0 3).isNone) := ⟨_, rfl⟩
 rw [<- hbv] at H2
 have HBV := hid hbv
 clear hbv G1 H1
 refine start_ (n := 8) (S := Held8 w (.int .i64 6) (.slice (some ⟨N, 0, none⟩) 1 1) (.slice none 0 0) (.string ⟨#[]⟩) (.int .i64 0) (.slice none 0 0) (.int .i64 0) (.int .i64 0) (.int .i64 0) (.int .i64 0) (.int .i64 0) (.int .i64 0) (.int .i64 0) (.bool false) bv) (ds := []) (bts 8 0) (by kernel_rfl) rfl rfl (H2.out.on (Below.drew (Below.refl _ _))).held (fun hHeld => ?_)
 have HT := hid (H2.out.on (Below.drew (Below.refl _ _)))
 have T0 := hid (Kd.R_drew G2.out)
 clear H2 G2
 generalize w2.drew = WT at *
 refine take_ (i := 0) (N := some 118) (bts 8 1) rfl rfl (by kernel_rfl) (fun _ _ _ h => h) (Or.inl ⟨by rfl, by intro w' hSw; unfold Held8 at hSw; go_simp; with_reducible rfl⟩) (by assumption) (by simp only [Act.put, pq1, pq2, pq3, i64_w, i32_w]; rfl) ?_
 refine pure_ (i := 1) (N := some 119) (bts 8 3) rfl rfl (by kernel_rfl) (fun _ _ _ h => h) (Or.inl ⟨by rfl, by intro w'; go_simp; with_reducible rfl⟩) (by simp only [Act.put, pq1, pq2, pq3, i64_w, i32_w]; rfl) ?_
 refine pure_ (i := 2) (N := some 120) (bts 8 7) rfl rfl (by kernel_rfl) (fun _ _ _ h => h) (Or.inl ⟨by rfl, by intro w'; go_simp; with_reducible rfl⟩) (by simp only [Act.put, pq1, pq2, pq3, i64_w, i32_w]; rfl) ?_
 refine pure_ (i := 3) (N := some 121) (bts 8 15) rfl rfl (by kernel_rfl) (fun _ _ _ h => h) (Or.inl ⟨by rfl, by intro w'; go_simp; with_reducible rfl⟩) (by simp only [Act.put, pq1, pq2, pq3, i64_w, i32_w]; rfl) ?_
 refine take_ (i := 4) (N := some 122) (bts 8 31) rfl rfl (by kernel_rfl) (fun _ _ _ h => h) (Or.inl ⟨by rfl, by intro w' hSw; unfold Held8 at hSw; go_simp; with_reducible rfl⟩) (by assumption) (by simp only [Act.put, pq1, pq2, pq3, i64_w, i32_w]; rfl) ?_
 refine pure_ (i := 5) (N := some 123) (bts 8 63) rfl rfl (by kernel_rfl) (fun _ _ _ h => h) (Or.inl ⟨by rfl, by intro w'; go_simp; with_reducible rfl⟩) (by simp only [Act.put, pq1, pq2, pq3, i64_w, i32_w]; rfl) ?_
 obtain ⟨se0, se1, se2, se3, se4, se5, se6, se7, se8, se9, se10, se11, se12, se13⟩ := cl14 HT.out.b2
 obtain ⟨sf0, sf1, sf2, sf3, sf4, sf5, sf6, sf7, sf8, sf9, sf10, sf11, sf12, sf13⟩ := fz14 HT.out.b2
 refine one_ (i := 6) (N := none) (bts 8 127) rfl rfl (by kernel_rfl) (by decide) (fun K hK => ?_)
 refine skip_ (w1 := ?_) (by rfl) rfl ?_ ?_
 rotate_left
 ·go_simp
  rfl
 have hkE := keepS14 WT (w.heap.size) (.int .i64 6) (.slice (some ⟨N, 0, none⟩) 1 1) (.slice none 0 0) (.string ⟨#[]⟩) (.int .i64 0) (.slice none 0 0) (.int .i64 0) (.int .i64 0) (.int .i64 0) (.int .i64 0) (.int .i64 0) (.int .i64 0) (.int .i64 0) (.bool false)
 refine hK.out _ _ (HT.out.heldS hkE) (fun hHeld2 => ?_)
 clear hK K hHeld
 refine pure_ (i := 7) (N := some 3) (bts 8 255) rfl rfl (by kernel_rfl) (fun _ _ _ h => h) (Or.inl ⟨by rfl, by intro w'; go_simp; with_reducible rfl⟩) (by simp only [Act.put, pq1, pq2, pq3, i64_w, i32_w]; rfl) ?_
 refine done_ (by kernel_rfl) ?_
 have HF := hid (HT.out.fin (.int .i64 6) (.slice (some ⟨N, 0, none⟩) 1 1) (.slice none 0 0) (.string ⟨#[]⟩) (.int .i64 0) (.slice none 0 0) (.int .i64 0) (.int .i64 0) (.int .i64 0) (.int .i64 0) (.int .i64 0) (.int .i64 0) (.int .i64 0) (.bool false))
 have U0 := hid (R_put T0.out HT.out.b2 (by decide) hkE)
 clear hkE
 clear se0 sf0 se1 sf1 se2 sf2 se3 sf3 se4 sf4 se5 sf5 se6 sf6 se7 sf7 se8 sf8 se9 sf9 se10 sf10 se11 sf11 se12 sf12 se13 sf13
 go_wp2_with fail
 exact bodyPost_ret (results_ct (p := 2) (u := 3) (ty := 63) rfl _ _ w.heap.size 63 _ (0, 0) _ rfl HF.out.b2 Tryz.underlying63 rfl (by kernel_rfl)) rfl (node_post (ok := fun k => k ≠ w.heap.size + 1) HF.out U0.out (Kd.R_nil _ _ _ _ _) (Kd.R_nil _ _ _ _ _) (by rw [HBV.out]; rfl))
theorem read_flat (s : ByteArray) (hs : s.size <= 900000) (w : World) (hE : Env w) (n0 : howL s ≠ [115, 111, 117, 114, 99, 101]) (n1 : howL s ≠ [101, 97, 99, 104]) (n2 : howL s ≠ [119, 105, 110, 100, 111, 119]) (n3 : howL s ≠ [103, 114, 111, 117, 112]) (y : howL s = [102, 108, 97, 116, 116, 101, 110]) :
  Calls Tryz.prog 18 #[.string s] w (NodePost (flatV (tlS s) (!okS s)) w) := by
 obtain ⟨m, hm⟩ := hE.maxLen
 have HC := hid (Tryz.strings_Cut s ⟨#[32]⟩ m (w.alloc (.cells #[.int .i64 0, .slice none 0 0, .slice none 0 0, .string ⟨#[]⟩, .int .i64 0, .slice none 0 0, .int .i64 0, .int .i64 0, .int .i64 0, .int .i64 0, .int .i64 0, .int .i64 0, .int .i64 0, .bool false] 63)) (by omega) (cell_later (below_alloc (Below.refl _ _) _) hm))
 have HCS : Hid (cutS s = Lib.cut s.data.toList (⟨#[32]⟩ : ByteArray).data.toList) := rfl
 have HE := hid hE
 rw [<- HCS.out] at HC
 have c0 : ((hdS s).toList == [115, 111, 117, 114, 99, 101]) = false := by rw [beq_eq_false_iff_ne, ByteArray.toList_eq]; exact n0
 have c1 : ((hdS s).toList == [101, 97, 99, 104]) = false := by rw [beq_eq_false_iff_ne, ByteArray.toList_eq]; exact n1
 have c2 : ((hdS s).toList == [119, 105, 110, 100, 111, 119]) = false := by rw [beq_eq_false_iff_ne, ByteArray.toList_eq]; exact n2
 have c3 : ((hdS s).toList == [103, 114, 111, 117, 112]) = false := by rw [beq_eq_false_iff_ne, ByteArray.toList_eq]; exact n3
 have cy : ((hdS s).toList == [102, 108, 97, 116, 116, 101, 110]) = true := by rw [beq_iff_eq, ByteArray.toList_eq]; exact y
 have htl : (tlS s).size <= 900000 := by have := (cut_size s).2; unfold tlS; omega
 clear hm hE HCS n0 n1 n2 n3 y
 go_enter Tryz.func18, Tryz.ntmps18
 go_wp2_with fail
 refine HC.out.mono ?_
 rintro e wc ⟨rfl, nd, hwc⟩
 have hb1 : Below w.heap.size w wc := by rw [hwc]; exact pw_below_drewN (below_alloc (Below.refl _ _) _) nd
 have h21 : wc.heap[w.heap.size]? = some (.cells #[.int .i64 0, .slice none 0 0, .slice none 0 0, .string ⟨#[]⟩, .int .i64 0, .slice none 0 0, .int .i64 0, .int .i64 0, .int .i64 0, .int .i64 0, .int .i64 0, .int .i64 0, .int .i64 0, .bool false] 63 (0, 0)) := by rw [hwc]; exact blk_drewN (heap_alloc_new w _) nd
 have hsz : wc.heap.size = w.heap.size + 1 := by rw [hwc]; exact World.size_alloc w _
 have hws : (⟨(cutS s).1.toArray⟩ : ByteArray) = hdS s := rfl
 have hwt : (⟨(cutS s).2.1.toArray⟩ : ByteArray) = tlS s := rfl
 have hwo : (cutS s).2.2 = okS s := rfl
 rw [hws, hwt, hwo]
 clear hws hwt hwo hwc HC
 generalize tlS s = r0 at *
 generalize okS s = o0 at *
 generalize hdS s = wd at *
 have hg1 := blk_alloc (heap_alloc_new wc (.cells #[.string r0, .bool !o0] 96)) (.cells #[.int .i64 0, .slice none 0 0, .slice none 0 0, .string ⟨#[]⟩, .int .i64 0, .slice none 0 0, .int .i64 0, .int .i64 0, .int .i64 0, .int .i64 0, .int .i64 0, .int .i64 0, .int .i64 0, .bool false] 63)
 have h81 := heap_alloc_new (wc.alloc (.cells #[.string r0, .bool !o0] 96)) (.cells #[.int .i64 0, .slice none 0 0, .slice none 0 0, .string ⟨#[]⟩, .int .i64 0, .slice none 0 0, .int .i64 0, .int .i64 0, .int .i64 0, .int .i64 0, .int .i64 0, .int .i64 0, .int .i64 0, .bool false] 63)
 have h22 := blk_alloc (blk_alloc h21 (.cells #[.string r0, .bool !o0] 96)) (.cells #[.int .i64 0, .slice none 0 0, .slice none 0 0, .string ⟨#[]⟩, .int .i64 0, .slice none 0 0, .int .i64 0, .int .i64 0, .int .i64 0, .int .i64 0, .int .i64 0, .int .i64 0, .int .i64 0, .bool false] 63)
 have hb2 := below_alloc (below_alloc hb1 (.cells #[.string r0, .bool !o0] 96)) (.cells #[.int .i64 0, .slice none 0 0, .slice none 0 0, .string ⟨#[]⟩, .int .i64 0, .slice none 0 0, .int .i64 0, .int .i64 0, .int .i64 0, .int .i64 0, .int .i64 0, .int .i64 0, .int .i64 0, .bool false] 63)
 rw [World.size_alloc, hsz] at h81
 rw [hsz] at hg1
 have HS0 : Hid (RdStep w ((wc.alloc (.cells #[.string r0, .bool !o0] 96)).alloc (.cells #[.int .i64 0, .slice none 0 0, .slice none 0 0, .string ⟨#[]⟩, .int .i64 0, .slice none 0 0, .int .i64 0, .int .i64 0, .int .i64 0, .int .i64 0, .int .i64 0, .int .i64 0, .int .i64 0, .bool false] 63)) ((wc.alloc (.cells #[.string r0, .bool !o0] 96)).alloc (.cells #[.int .i64 0, .slice none 0 0, .slice none 0 0, .string ⟨#[]⟩, .int .i64 0, .slice none 0 0, .int .i64 0, .int .i64 0, .int .i64 0, .int .i64 0, .int .i64 0, .int .i64 0, .int .i64 0, .bool false] 63)) (w.heap.size + 1) r0 (!o0)) := RdStep.refl ⟨hg1, by omega, hb2⟩
 have HB8 := hid h81; have HB2 := hid h22
 clear hb1 h21 hg1 h81 h22 hb2
 go_wp2_with fail
 clear hsz
 generalize (wc.alloc (.cells #[.string r0, .bool !o0] 96)).alloc (.cells #[.int .i64 0, .slice none 0 0, .slice none 0 0, .string ⟨#[]⟩, .int .i64 0, .slice none 0 0, .int .i64 0, .int .i64 0, .int .i64 0, .int .i64 0, .int .i64 0, .int .i64 0, .int .i64 0, .bool false] 63) = W0 at *
 have H0 : Hid (RN w W0 r0 (!o0) #[.int .i64 0, .slice none 0 0, .slice none 0 0, .string ⟨#[]⟩, .int .i64 0, .slice none 0 0, .int .i64 0, .int .i64 0, .int .i64 0, .int .i64 0, .int .i64 0, .int .i64 0, .int .i64 0, .bool false]) := ⟨HS0.out.1, HB2.out, HB8.out⟩
 clear HS0 HB8 HB2
 have hg0 := blk_lt H0.out.b8
 have hle1 := H0.out.rd.below.size
 refine (places_last w W0 (w.heap.size + 1) r0 _ HE.out H0.out.rd (by omega)).mono ?_
 rintro e w1 ⟨⟨v1, rfl, hv⟩, s1⟩
 obtain ⟨A1, C1, hve⟩ := Kd.R_slice hv
 have G1 := hid (Kd.R_lower hv hle1)
 subst hve
 have H1 := hid (H0.out.step s1)
 clear hv hle1 s1 H0
 obtain ⟨se0, se1, se2, se3, se4, se5, se6, se7, se8, se9, se10, se11, se12, se13⟩ := cl14 H1.out.b8
 obtain ⟨sf0, sf1, sf2, sf3, sf4, sf5, sf6, sf7, sf8, sf9, sf10, sf11, sf12, sf13⟩ := fz14 H1.out.b8
 go_wp2_with fail
 have H2 := hid (H1.out.put (.int .i64 5) (.slice A1 (placesV r0).1.length C1) (.slice none 0 0) (.string ⟨#[]⟩) (.int .i64 0) (.slice none 0 0) (.int .i64 0) (.int .i64 0) (.int .i64 0) (.int .i64 0) (.int .i64 0) (.int .i64 0) (.int .i64 0) (.bool false))
 have G2 := hid (R_put G1.out H1.out.b8 (by decide) (keepS14 w1 (w.heap.size + 1 + 1) (.int .i64 5) (.slice A1 (placesV r0).1.length C1) (.slice none 0 0) (.string ⟨#[]⟩) (.int .i64 0) (.slice none 0 0) (.int .i64 0) (.int .i64 0) (.int .i64 0) (.int .i64 0) (.int .i64 0) (.int .i64 0) (.int .i64 0) (.bool false)))
 clear se0 sf0 se1 sf1 se2 sf2 se3 sf3 se4 sf4 se5 sf5 se6 sf6 se7 sf7 se8 sf8 se9 sf9 se10 sf10 se11 sf11 se12 sf12 se13 sf13
 generalize ((((((((((((((w1.setCell ⟨w.heap.size + 1 + 1, 0, none⟩ (.int .i64 5)).setCell ⟨w.heap.size + 1 + 1, 1, none⟩ (.slice A1 (placesV r0).1.length C1)).setCell ⟨w.heap.size + 1 + 1, 2, none⟩ (.slice none 0 0)).setCell ⟨w.heap.size + 1 + 1, 3, none⟩ (.string ⟨#[]⟩)).setCell ⟨w.heap.size + 1 + 1, 4, none⟩ (.int .i64 0)).setCell ⟨w.heap.size + 1 + 1, 5, none⟩ (.slice none 0 0)).setCell ⟨w.heap.size + 1 + 1, 6, none⟩ (.int .i64 0)).setCell ⟨w.heap.size + 1 + 1, 7, none⟩ (.int .i64 0)).setCell ⟨w.heap.size + 1 + 1, 8, none⟩ (.int .i64 0)).setCell ⟨w.heap.size + 1 + 1, 9, none⟩ (.int .i64 0)).setCell ⟨w.heap.size + 1 + 1, 10, none⟩ (.int .i64 0)).setCell ⟨w.heap.size + 1 + 1, 11, none⟩ (.int .i64 0)).setCell ⟨w.heap.size + 1 + 1, 12, none⟩ (.int .i64 0)).setCell ⟨w.heap.size + 1 + 1, 13, none⟩ (.bool false)) = w2 at *
 obtain ⟨bv, hbv⟩ : ∃ bv, bv = (!o0 || !(placesV r0).2) := ⟨_, rfl⟩
 rw [<- hbv] at H2
 have HBV := hid hbv
 clear hbv G1 H1
 refine start_ (n := 8) (S := Held8 w (.int .i64 5) (.slice A1 (placesV r0).1.length C1) (.slice none 0 0) (.string ⟨#[]⟩) (.int .i64 0) (.slice none 0 0) (.int .i64 0) (.int .i64 0) (.int .i64 0) (.int .i64 0) (.int .i64 0) (.int .i64 0) (.int .i64 0) (.bool false) bv) (ds := []) (bts 8 0) (by kernel_rfl) rfl rfl (H2.out.on (Below.drew (Below.refl _ _))).held (fun hHeld => ?_)
 have HT := hid (H2.out.on (Below.drew (Below.refl _ _)))
 have T0 := hid (Kd.R_drew G2.out)
 clear H2 G2
 generalize w2.drew = WT at *
 refine take_ (i := 0) (N := some 118) (bts 8 1) rfl rfl (by kernel_rfl) (fun _ _ _ h => h) (Or.inl ⟨by rfl, by intro w' hSw; unfold Held8 at hSw; go_simp; with_reducible rfl⟩) (by assumption) (by simp only [Act.put, pq1, pq2, pq3, i64_w, i32_w]; rfl) ?_
 refine pure_ (i := 1) (N := some 119) (bts 8 3) rfl rfl (by kernel_rfl) (fun _ _ _ h => h) (Or.inl ⟨by rfl, by intro w'; go_simp; with_reducible rfl⟩) (by simp only [Act.put, pq1, pq2, pq3, i64_w, i32_w]; rfl) ?_
 refine pure_ (i := 2) (N := some 120) (bts 8 7) rfl rfl (by kernel_rfl) (fun _ _ _ h => h) (Or.inl ⟨by rfl, by intro w'; go_simp; with_reducible rfl⟩) (by simp only [Act.put, pq1, pq2, pq3, i64_w, i32_w]; rfl) ?_
 refine pure_ (i := 3) (N := some 121) (bts 8 15) rfl rfl (by kernel_rfl) (fun _ _ _ h => h) (Or.inl ⟨by rfl, by intro w'; go_simp; with_reducible rfl⟩) (by simp only [Act.put, pq1, pq2, pq3, i64_w, i32_w]; rfl) ?_
 refine take_ (i := 4) (N := some 122) (bts 8 31) rfl rfl (by kernel_rfl) (fun _ _ _ h => h) (Or.inl ⟨by rfl, by intro w' hSw; unfold Held8 at hSw; go_simp; with_reducible rfl⟩) (by assumption) (by simp only [Act.put, pq1, pq2, pq3, i64_w, i32_w]; rfl) ?_
 refine pure_ (i := 5) (N := some 123) (bts 8 63) rfl rfl (by kernel_rfl) (fun _ _ _ h => h) (Or.inl ⟨by rfl, by intro w'; go_simp; with_reducible rfl⟩) (by simp only [Act.put, pq1, pq2, pq3, i64_w, i32_w]; rfl) ?_
 obtain ⟨se0, se1, se2, se3, se4, se5, se6, se7, se8, se9, se10, se11, se12, se13⟩ := cl14 HT.out.b2
 obtain ⟨sf0, sf1, sf2, sf3, sf4, sf5, sf6, sf7, sf8, sf9, sf10, sf11, sf12, sf13⟩ := fz14 HT.out.b2
 refine one_ (i := 6) (N := none) (bts 8 127) rfl rfl (by kernel_rfl) (by decide) (fun K hK => ?_)
 refine skip_ (w1 := ?_) (by rfl) rfl ?_ ?_
 rotate_left
 ·go_simp
  rfl
 have hkE := keepS14 WT (w.heap.size) (.int .i64 5) (.slice A1 (placesV r0).1.length C1) (.slice none 0 0) (.string ⟨#[]⟩) (.int .i64 0) (.slice none 0 0) (.int .i64 0) (.int .i64 0) (.int .i64 0) (.int .i64 0) (.int .i64 0) (.int .i64 0) (.int .i64 0) (.bool false)
 refine hK.out _ _ (HT.out.heldS hkE) (fun hHeld2 => ?_)
 clear hK K hHeld
 refine pure_ (i := 7) (N := some 3) (bts 8 255) rfl rfl (by kernel_rfl) (fun _ _ _ h => h) (Or.inl ⟨by rfl, by intro w'; go_simp; with_reducible rfl⟩) (by simp only [Act.put, pq1, pq2, pq3, i64_w, i32_w]; rfl) ?_
 refine done_ (by kernel_rfl) ?_
 have HF := hid (HT.out.fin (.int .i64 5) (.slice A1 (placesV r0).1.length C1) (.slice none 0 0) (.string ⟨#[]⟩) (.int .i64 0) (.slice none 0 0) (.int .i64 0) (.int .i64 0) (.int .i64 0) (.int .i64 0) (.int .i64 0) (.int .i64 0) (.int .i64 0) (.bool false))
 have U0 := hid (R_put T0.out HT.out.b2 (by decide) hkE)
 clear hkE
 clear se0 sf0 se1 sf1 se2 sf2 se3 sf3 se4 sf4 se5 sf5 se6 sf6 se7 sf7 se8 sf8 se9 sf9 se10 sf10 se11 sf11 se12 sf12 se13 sf13
 go_wp2_with fail
 exact bodyPost_ret (results_ct (p := 2) (u := 3) (ty := 63) rfl _ _ w.heap.size 63 _ (0, 0) _ rfl HF.out.b2 Tryz.underlying63 rfl (by kernel_rfl)) rfl (node_post (ok := fun k => k ≠ w.heap.size + 1) HF.out U0.out (Kd.R_nil _ _ _ _ _) (Kd.R_nil _ _ _ _ _) (by unfold flatV; rw [HBV.out]; rfl))
theorem read_each (s : ByteArray) (hs : s.size <= 900000) (w : World) (hE : Env w) (n0 : howL s ≠ [115, 111, 117, 114, 99, 101]) (y : howL s = [101, 97, 99, 104]) :
  Calls Tryz.prog 18 #[.string s] w (NodePost (eachV (tlS s) (!okS s)) w) := by
 obtain ⟨m, hm⟩ := hE.maxLen
 have HC := hid (Tryz.strings_Cut s ⟨#[32]⟩ m (w.alloc (.cells #[.int .i64 0, .slice none 0 0, .slice none 0 0, .string ⟨#[]⟩, .int .i64 0, .slice none 0 0, .int .i64 0, .int .i64 0, .int .i64 0, .int .i64 0, .int .i64 0, .int .i64 0, .int .i64 0, .bool false] 63)) (by omega) (cell_later (below_alloc (Below.refl _ _) _) hm))
 have HCS : Hid (cutS s = Lib.cut s.data.toList (⟨#[32]⟩ : ByteArray).data.toList) := rfl
 have HE := hid hE
 rw [<- HCS.out] at HC
 have c0 : ((hdS s).toList == [115, 111, 117, 114, 99, 101]) = false := by rw [beq_eq_false_iff_ne, ByteArray.toList_eq]; exact n0
 have cy : ((hdS s).toList == [101, 97, 99, 104]) = true := by rw [beq_iff_eq, ByteArray.toList_eq]; exact y
 have htl : (tlS s).size <= 900000 := by have := (cut_size s).2; unfold tlS; omega
 clear hm hE HCS n0 y
 go_enter Tryz.func18, Tryz.ntmps18
 go_wp2_with fail
 refine HC.out.mono ?_
 rintro e wc ⟨rfl, nd, hwc⟩
 have hb1 : Below w.heap.size w wc := by rw [hwc]; exact pw_below_drewN (below_alloc (Below.refl _ _) _) nd
 have h21 : wc.heap[w.heap.size]? = some (.cells #[.int .i64 0, .slice none 0 0, .slice none 0 0, .string ⟨#[]⟩, .int .i64 0, .slice none 0 0, .int .i64 0, .int .i64 0, .int .i64 0, .int .i64 0, .int .i64 0, .int .i64 0, .int .i64 0, .bool false] 63 (0, 0)) := by rw [hwc]; exact blk_drewN (heap_alloc_new w _) nd
 have hsz : wc.heap.size = w.heap.size + 1 := by rw [hwc]; exact World.size_alloc w _
 have hws : (⟨(cutS s).1.toArray⟩ : ByteArray) = hdS s := rfl
 have hwt : (⟨(cutS s).2.1.toArray⟩ : ByteArray) = tlS s := rfl
 have hwo : (cutS s).2.2 = okS s := rfl
 rw [hws, hwt, hwo]
 clear hws hwt hwo hwc HC
 generalize tlS s = r0 at *
 generalize okS s = o0 at *
 generalize hdS s = wd at *
 have hg1 := blk_alloc (heap_alloc_new wc (.cells #[.string r0, .bool !o0] 96)) (.cells #[.int .i64 0, .slice none 0 0, .slice none 0 0, .string ⟨#[]⟩, .int .i64 0, .slice none 0 0, .int .i64 0, .int .i64 0, .int .i64 0, .int .i64 0, .int .i64 0, .int .i64 0, .int .i64 0, .bool false] 63)
 have h81 := heap_alloc_new (wc.alloc (.cells #[.string r0, .bool !o0] 96)) (.cells #[.int .i64 0, .slice none 0 0, .slice none 0 0, .string ⟨#[]⟩, .int .i64 0, .slice none 0 0, .int .i64 0, .int .i64 0, .int .i64 0, .int .i64 0, .int .i64 0, .int .i64 0, .int .i64 0, .bool false] 63)
 have h22 := blk_alloc (blk_alloc h21 (.cells #[.string r0, .bool !o0] 96)) (.cells #[.int .i64 0, .slice none 0 0, .slice none 0 0, .string ⟨#[]⟩, .int .i64 0, .slice none 0 0, .int .i64 0, .int .i64 0, .int .i64 0, .int .i64 0, .int .i64 0, .int .i64 0, .int .i64 0, .bool false] 63)
 have hb2 := below_alloc (below_alloc hb1 (.cells #[.string r0, .bool !o0] 96)) (.cells #[.int .i64 0, .slice none 0 0, .slice none 0 0, .string ⟨#[]⟩, .int .i64 0, .slice none 0 0, .int .i64 0, .int .i64 0, .int .i64 0, .int .i64 0, .int .i64 0, .int .i64 0, .int .i64 0, .bool false] 63)
 rw [World.size_alloc, hsz] at h81
 rw [hsz] at hg1
 have HS0 : Hid (RdStep w ((wc.alloc (.cells #[.string r0, .bool !o0] 96)).alloc (.cells #[.int .i64 0, .slice none 0 0, .slice none 0 0, .string ⟨#[]⟩, .int .i64 0, .slice none 0 0, .int .i64 0, .int .i64 0, .int .i64 0, .int .i64 0, .int .i64 0, .int .i64 0, .int .i64 0, .bool false] 63)) ((wc.alloc (.cells #[.string r0, .bool !o0] 96)).alloc (.cells #[.int .i64 0, .slice none 0 0, .slice none 0 0, .string ⟨#[]⟩, .int .i64 0, .slice none 0 0, .int .i64 0, .int .i64 0, .int .i64 0, .int .i64 0, .int .i64 0, .int .i64 0, .int .i64 0, .bool false] 63)) (w.heap.size + 1) r0 (!o0)) := RdStep.refl ⟨hg1, by omega, hb2⟩
 have HB8 := hid h81; have HB2 := hid h22
 clear hb1 h21 hg1 h81 h22 hb2
 go_wp2_with fail
 clear hsz
 generalize (wc.alloc (.cells #[.string r0, .bool !o0] 96)).alloc (.cells #[.int .i64 0, .slice none 0 0, .slice none 0 0, .string ⟨#[]⟩, .int .i64 0, .slice none 0 0, .int .i64 0, .int .i64 0, .int .i64 0, .int .i64 0, .int .i64 0, .int .i64 0, .int .i64 0, .bool false] 63) = W0 at *
 have H0 : Hid (RN w W0 r0 (!o0) #[.int .i64 0, .slice none 0 0, .slice none 0 0, .string ⟨#[]⟩, .int .i64 0, .slice none 0 0, .int .i64 0, .int .i64 0, .int .i64 0, .int .i64 0, .int .i64 0, .int .i64 0, .int .i64 0, .bool false]) := ⟨HS0.out.1, HB2.out, HB8.out⟩
 clear HS0 HB8 HB2
 have hg0 := blk_lt H0.out.b8
 obtain ⟨⟨y1, r1, b1⟩, hq⟩ : ∃ t : Int × ByteArray × Bool, t = numC 3 r0 (!o0) := ⟨_, rfl⟩
 obtain ⟨q1, q2, q3⟩ := numC_parts hq
 have HN1 := hid hq
 refine (one_cut w W0 (w.heap.size + 1) r0 _ HE.out H0.out.rd (by omega)).mono ?_
 rintro e w1 ⟨⟨N, rfl, hN, hNs⟩, s1⟩
 rw [q2, q3] at s1
 rw [q1] at hN
 have H1 := hid (H0.out.step s1)
 have I_1 : Hid ((Kd.int .i64).R 3 w1 w.heap.size (fun k => k ≠ w.heap.size + 1) (.slice (some ⟨N, 0, none⟩) 1 1) [y1]) := one_R hN (by omega) (by omega)
 have hz1 : r1.size <= 900000 := by have := (cut_size r0).2; rw [q2] at this; omega
 clear hN hNs s1 q1 q2 q3 hq H0
 go_wp2_with fail
 obtain ⟨⟨y2, r2, b2⟩, hq⟩ : ∃ t : List Int × ByteArray × Bool, t = sidesC r1 b1 := ⟨_, rfl⟩
 obtain ⟨q1, q2, q3⟩ := sidesC_parts hq
 have HN2 := hid hq
 have hle2 := H1.out.rd.below.size
 refine (places_cut w w1 (w.heap.size + 1) r1 _ HE.out H1.out.rd (by omega)).mono ?_
 rintro e w2 ⟨⟨v2, rfl, hv⟩, s1⟩
 rw [q2, q3] at s1
 rw [q1] at hv
 obtain ⟨A2, C2, hve⟩ := Kd.R_slice hv
 have J_2 := hid (Kd.R_lower hv hle2)
 subst hve
 have H2 := hid (H1.out.step s1)
 have I_2 := hid (Kd.R_keep I_1.out s1.2 (fun _ h => h))
 have hz2 : r2.size <= 900000 := by have := (cut_size r1).2; rw [q2] at this; omega
 clear hv hle2 s1 q1 q2 q3 hq H1 I_1
 go_wp2_with fail
 obtain ⟨b3, hq3⟩ : ∃ b, b = (b2 || !textB r2) := ⟨_, rfl⟩
 refine (rd_text w w2 (w.heap.size + 1) r2 _ H2.out.rd (by omega)).mono ?_
 rintro e w3 ⟨rfl, s1⟩
 rw [<- hq3] at s1
 have HBV := hid hq3
 have H3 := hid (H2.out.step s1)
 have I_3 := hid (Kd.R_keep I_2.out s1.2 (fun _ h => h))
 have J_3 := hid (Kd.R_keep J_2.out s1.2 (fun _ h => h))
 clear s1 hq3 H2 I_2 J_2
 obtain ⟨se0, se1, se2, se3, se4, se5, se6, se7, se8, se9, se10, se11, se12, se13⟩ := cl14 H3.out.b8
 obtain ⟨sf0, sf1, sf2, sf3, sf4, sf5, sf6, sf7, sf8, sf9, sf10, sf11, sf12, sf13⟩ := fz14 H3.out.b8
 go_wp2_with fail
 have H4 := hid (H3.out.put (.int .i64 2) (.slice (some ⟨N, 0, none⟩) 1 1) (.slice A2 y2.length C2) (.string r2) (.int .i64 0) (.slice none 0 0) (.int .i64 0) (.int .i64 0) (.int .i64 0) (.int .i64 0) (.int .i64 0) (.int .i64 0) (.int .i64 0) (.bool false))
 have I4 := hid (R_put I_3.out H3.out.b8 (by decide) (keepS14 w3 (w.heap.size + 1 + 1) (.int .i64 2) (.slice (some ⟨N, 0, none⟩) 1 1) (.slice A2 y2.length C2) (.string r2) (.int .i64 0) (.slice none 0 0) (.int .i64 0) (.int .i64 0) (.int .i64 0) (.int .i64 0) (.int .i64 0) (.int .i64 0) (.int .i64 0) (.bool false)))
 have J4 := hid (R_put J_3.out H3.out.b8 (by decide) (keepS14 w3 (w.heap.size + 1 + 1) (.int .i64 2) (.slice (some ⟨N, 0, none⟩) 1 1) (.slice A2 y2.length C2) (.string r2) (.int .i64 0) (.slice none 0 0) (.int .i64 0) (.int .i64 0) (.int .i64 0) (.int .i64 0) (.int .i64 0) (.int .i64 0) (.int .i64 0) (.bool false)))
 clear se0 sf0 se1 sf1 se2 sf2 se3 sf3 se4 sf4 se5 sf5 se6 sf6 se7 sf7 se8 sf8 se9 sf9 se10 sf10 se11 sf11 se12 sf12 se13 sf13
 generalize ((((((((((((((w3.setCell ⟨w.heap.size + 1 + 1, 0, none⟩ (.int .i64 2)).setCell ⟨w.heap.size + 1 + 1, 1, none⟩ (.slice (some ⟨N, 0, none⟩) 1 1)).setCell ⟨w.heap.size + 1 + 1, 2, none⟩ (.slice A2 y2.length C2)).setCell ⟨w.heap.size + 1 + 1, 3, none⟩ (.string r2)).setCell ⟨w.heap.size + 1 + 1, 4, none⟩ (.int .i64 0)).setCell ⟨w.heap.size + 1 + 1, 5, none⟩ (.slice none 0 0)).setCell ⟨w.heap.size + 1 + 1, 6, none⟩ (.int .i64 0)).setCell ⟨w.heap.size + 1 + 1, 7, none⟩ (.int .i64 0)).setCell ⟨w.heap.size + 1 + 1, 8, none⟩ (.int .i64 0)).setCell ⟨w.heap.size + 1 + 1, 9, none⟩ (.int .i64 0)).setCell ⟨w.heap.size + 1 + 1, 10, none⟩ (.int .i64 0)).setCell ⟨w.heap.size + 1 + 1, 11, none⟩ (.int .i64 0)).setCell ⟨w.heap.size + 1 + 1, 12, none⟩ (.int .i64 0)).setCell ⟨w.heap.size + 1 + 1, 13, none⟩ (.bool false)) = w4 at *
 clear H3 I_3 J_3
 refine start_ (n := 8) (S := Held8 w (.int .i64 2) (.slice (some ⟨N, 0, none⟩) 1 1) (.slice A2 y2.length C2) (.string r2) (.int .i64 0) (.slice none 0 0) (.int .i64 0) (.int .i64 0) (.int .i64 0) (.int .i64 0) (.int .i64 0) (.int .i64 0) (.int .i64 0) (.bool false) b3) (ds := []) (bts 8 0) (by kernel_rfl) rfl rfl (H4.out.on (Below.drew (Below.refl _ _))).held (fun hHeld => ?_)
 have HT := hid (H4.out.on (Below.drew (Below.refl _ _)))
 have T0 := hid (Kd.R_drew I4.out)
 have T1 := hid (Kd.R_drew J4.out)
 clear H4 I4 J4
 generalize w4.drew = WT at *
 refine take_ (i := 0) (N := some 118) (bts 8 1) rfl rfl (by kernel_rfl) (fun _ _ _ h => h) (Or.inl ⟨by rfl, by intro w' hSw; unfold Held8 at hSw; go_simp; with_reducible rfl⟩) (by assumption) (by simp only [Act.put, pq1, pq2, pq3, i64_w, i32_w]; rfl) ?_
 refine pure_ (i := 1) (N := some 119) (bts 8 3) rfl rfl (by kernel_rfl) (fun _ _ _ h => h) (Or.inl ⟨by rfl, by intro w'; go_simp; with_reducible rfl⟩) (by simp only [Act.put, pq1, pq2, pq3, i64_w, i32_w]; rfl) ?_
 refine pure_ (i := 2) (N := some 120) (bts 8 7) rfl rfl (by kernel_rfl) (fun _ _ _ h => h) (Or.inl ⟨by rfl, by intro w'; go_simp; with_reducible rfl⟩) (by simp only [Act.put, pq1, pq2, pq3, i64_w, i32_w]; rfl) ?_
 refine pure_ (i := 3) (N := some 121) (bts 8 15) rfl rfl (by kernel_rfl) (fun _ _ _ h => h) (Or.inl ⟨by rfl, by intro w'; go_simp; with_reducible rfl⟩) (by simp only [Act.put, pq1, pq2, pq3, i64_w, i32_w]; rfl) ?_
 refine take_ (i := 4) (N := some 122) (bts 8 31) rfl rfl (by kernel_rfl) (fun _ _ _ h => h) (Or.inl ⟨by rfl, by intro w' hSw; unfold Held8 at hSw; go_simp; with_reducible rfl⟩) (by assumption) (by simp only [Act.put, pq1, pq2, pq3, i64_w, i32_w]; rfl) ?_
 refine pure_ (i := 5) (N := some 123) (bts 8 63) rfl rfl (by kernel_rfl) (fun _ _ _ h => h) (Or.inl ⟨by rfl, by intro w'; go_simp; with_reducible rfl⟩) (by simp only [Act.put, pq1, pq2, pq3, i64_w, i32_w]; rfl) ?_
 obtain ⟨se0, se1, se2, se3, se4, se5, se6, se7, se8, se9, se10, se11, se12, se13⟩ := cl14 HT.out.b2
 obtain ⟨sf0, sf1, sf2, sf3, sf4, sf5, sf6, sf7, sf8, sf9, sf10, sf11, sf12, sf13⟩ := fz14 HT.out.b2
 refine one_ (i := 6) (N := none) (bts 8 127) rfl rfl (by kernel_rfl) (by decide) (fun K hK => ?_)
 refine skip_ (w1 := ?_) (by rfl) rfl ?_ ?_
 rotate_left
 ·go_simp
  rfl
 have hkE := keepS14 WT (w.heap.size) (.int .i64 2) (.slice (some ⟨N, 0, none⟩) 1 1) (.slice A2 y2.length C2) (.string r2) (.int .i64 0) (.slice none 0 0) (.int .i64 0) (.int .i64 0) (.int .i64 0) (.int .i64 0) (.int .i64 0) (.int .i64 0) (.int .i64 0) (.bool false)
 refine hK.out _ _ (HT.out.heldS hkE) (fun hHeld2 => ?_)
 clear hK K hHeld
 refine pure_ (i := 7) (N := some 3) (bts 8 255) rfl rfl (by kernel_rfl) (fun _ _ _ h => h) (Or.inl ⟨by rfl, by intro w'; go_simp; with_reducible rfl⟩) (by simp only [Act.put, pq1, pq2, pq3, i64_w, i32_w]; rfl) ?_
 refine done_ (by kernel_rfl) ?_
 have HF := hid (HT.out.fin (.int .i64 2) (.slice (some ⟨N, 0, none⟩) 1 1) (.slice A2 y2.length C2) (.string r2) (.int .i64 0) (.slice none 0 0) (.int .i64 0) (.int .i64 0) (.int .i64 0) (.int .i64 0) (.int .i64 0) (.int .i64 0) (.int .i64 0) (.bool false))
 have U0 := hid (R_put T0.out HT.out.b2 (by decide) hkE)
 have U1 := hid (R_put T1.out HT.out.b2 (by decide) hkE)
 clear hkE
 clear se0 sf0 se1 sf1 se2 sf2 se3 sf3 se4 sf4 se5 sf5 se6 sf6 se7 sf7 se8 sf8 se9 sf9 se10 sf10 se11 sf11 se12 sf12 se13 sf13
 go_wp2_with fail
 exact bodyPost_ret (results_ct (p := 2) (u := 3) (ty := 63) rfl _ _ w.heap.size 63 _ (0, 0) _ rfl HF.out.b2 Tryz.underlying63 rfl (by kernel_rfl)) rfl (node_post (ok := fun k => k ≠ w.heap.size + 1) HF.out U0.out U1.out (Kd.R_nil _ _ _ _ _) (by unfold eachV; rw [<- HN1.out]; dsimp only; rw [<- HN2.out]; dsimp only; rw [HBV.out]; rfl))
end Go.Proofs.YtamfloegflejnaaGreatDoor
