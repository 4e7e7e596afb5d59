/-
 kind's reader: the word that may stand here.
-/
import Derived.Test.YtamfloegflejnaaGreatDoorKU
import Derived.Deep.QuietTactic
import Derived.BigQuiet
import Derived.ScopeJumps
import Derived.WalkMore
set_option linter.unusedVariables false
set_option linter.unusedSimpArgs false
set_option maxHeartbeats 2000000
set_option maxRecDepth 100000
namespace Go.Proofs.YtamfloegflejnaaGreatDoor
open Lib (hid)
open Go.RowKit Go.Proofs.YtamfloegflejnaaGreatDoorW.PrintWords Go.Proofs.YtamfloegflejnaaGreatDoorW.PrintLast Go.Proofs.YtamfloegflejnaaGreatDoorW.PrintMore PGraphLines
/-- A word that has types behind it may not stand where no deeper type may. -/
def deepB (depth : Int) (x : S135) : Bool := decide (0 < x.f2) && (depth == 1)
/-- The n-th byte of the word is not the one that stands here. -/
def offB (s : ByteArray) (n at_ : Nat) (x : S135) : Bool := bt x.f1 (n : Int) != bt s (at_ : Int)
theorem deep_any (D : Nat) (depth : Int) (x : S135) (W : World) (hD : W.cell? ⟨D, 0, none⟩ = some (.int .i64 depth)) (hDs : D < W.heap.size) :
  Calls Tryz.prog 96 #[.agg #[.int .i64 x.f0, .string x.f1, .int .i64 x.f2], .pointer (some ⟨D, 0, none⟩)] W fun e W' => e = .returned (.bool (deepB depth x)) ∧ Below W.heap.size W W' := by
 have hb := below_alloc (Below.refl W.heap.size W) (.cells #[.int .i64 x.f0, .string x.f1, .int .i64 x.f2] 135)
 have hD2 := (hb.cell (p := ⟨D, 0, none⟩) hDs).trans hD
 have HB := hid hb
 have HV : Hid (deepB depth x = (decide (0 < x.f2) && (depth == 1))) := rfl
 clear hb hD
 by_cases h : 0 < x.f2
 ·have t0 : decide (0 < x.f2) = true := by rw [decide_eq_true_iff]; exact h
  have HV2 := hid (HV.out.trans (by rw [t0, Bool.true_and]))
  clear h
  go_enter Tryz.func96, Tryz.ntmps96
  go_wp2_with fail
  exact bodyPost_ret (v := .bool (depth == 1)) (by simp [results, Tryz.results96, go_sem]) rfl ⟨by rw [HV2.out], HB.out⟩
 ·have t0 : decide (0 < x.f2) = false := by rw [decide_eq_false_iff_not]; exact h
  have HV2 := hid (HV.out.trans (by rw [t0, Bool.false_and]))
  clear h
  go_enter Tryz.func96, Tryz.ntmps96
  go_wp2_with fail
  exact bodyPost_ret (v := .bool false) (by simp [results, Tryz.results96, go_sem]) rfl ⟨by rw [HV2.out], HB.out⟩
theorem off_any (Q R g n at_ : Nat) (s : ByteArray) (x : S135) (W : World) (hQ : W.cell? ⟨Q, 0, none⟩ = some (.int .i64 n)) (hR : W.cell? ⟨R, 0, none⟩ = some (.pointer (some ⟨g, 0, none⟩))) (h0 : W.cell? ⟨g, 0, none⟩ = some (.string s)) (h1 : W.cell? ⟨g, 1, none⟩ = some (.int .i64 at_)) (hn : n < x.f1.size) (ha : at_ < s.size) :
  Calls Tryz.prog 97 #[.agg #[.int .i64 x.f0, .string x.f1, .int .i64 x.f2], .pointer (some ⟨Q, 0, none⟩), .pointer (some ⟨R, 0, none⟩)] W fun e W' => e = .returned (.bool (offB s n at_ x)) ∧ Below W.heap.size W W' := by
 have hb := below_alloc (Below.refl W.heap.size W) (.cells #[.int .i64 x.f0, .string x.f1, .int .i64 x.f2] 135)
 have hX := heap_alloc_new W (.cells #[.int .i64 x.f0, .string x.f1, .int .i64 x.f2] 135)
 have hQ2 := pw_cell_below hb hQ
 have hR2 := pw_cell_below hb hR
 have h02 := pw_cell_below hb h0
 have h12 := pw_cell_below hb h1
 have HB := hid hb
 have HV : Hid (offB s n at_ x = (bt x.f1 (n : Int) != bt s (at_ : Int))) := rfl
 have m1 : (W.alloc (.cells #[.int .i64 x.f0, .string x.f1, .int .i64 x.f2] 135)).cell? ⟨W.heap.size, 1, none⟩ = some (.string x.f1) := (blk_cell hX 1).trans rfl
 clear hb hQ hR h0 h1 hX
 have HQ2 := hid hQ2; have HR2 := hid hR2; have H02 := hid h02; have H12 := hid h12; have M1 := hid m1
 clear hQ2 hR2 h02 h12 m1
 go_enter Tryz.func97, Tryz.ntmps97
 go_wp2_with fail
 generalize W.heap.size = N at M1 ⊢
 generalize W.alloc (.cells #[.int .i64 x.f0, .string x.f1, .int .i64 x.f2] 135) = V at *
 have hQ2 := HQ2.out; have hR2 := HR2.out; have h02 := H02.out; have h12 := H12.out; have m1 := M1.out
 go_quiet (fail)
 go_wp2_with fail
 have EV : (((x.f1[n]'hn).toNat : Int) != ((s[at_]'ha).toNat : Int)) = offB s n at_ x := by
  unfold offB bt
  rw [dif_pos (by simpa using hn), dif_pos (by simpa using ha)]
  simp
 rw [EV]
 exact bodyPost_ret (v := .bool (offB s n at_ x)) (by simp [results, Tryz.results97, go_sem]) rfl ⟨rfl, pw_below_drewN HB.out _⟩
/-- The word that may stand at a place, and the place behind what of it stands there. -/
def wordF : Nat -> List S135 -> Nat -> ByteArray -> Nat -> Option S135 × Nat
 | 0, _, _, _, at_ => (none, at_)
 | f + 1, ws, n, s, at_ => match ws.find? (fun x => x.f1.size == n) with
  | some x => (some x, at_)
  | none => if at_ < s.size ∧ 0 < (ws.filter fun x => !offB s n at_ x).length then wordF f (ws.filter fun x => !offB s n at_ x) (n + 1) s (at_ + 1) else (none, at_)
def wordS : List S135 := wordsL.map fun x => ⟨x.1, ⟨x.2.1.toArray⟩, x.2.2⟩
def mayS (depth : Int) : List S135 := wordS.filter fun x => !deepB depth x
def wordV (depth : Int) (s : ByteArray) (at_ : Nat) : Option S135 × Nat := wordF 8 (mayS depth) 0 s at_
theorem words_row (w : World) : RowAt (w.alloc (.cells wordCells 135)) w.heap.size wordS := ⟨wordCells, heap_alloc_new w _, rfl, by decide, rfl⟩
theorem wordS_size : ∀ x ∈ wordS, x.f1.size <= 6 := by
 intro x hx
 simp only [wordS, wordsL, List.map_cons, List.map_nil, List.mem_cons, List.not_mem_nil, or_false] at hx
 rcases hx with rfl | rfl | rfl | rfl | rfl | rfl | rfl | rfl <;> decide
theorem wordF_found {f n : Nat} {ws : List S135} {s : ByteArray} {at_ k : Nat} (hk : k < ws.length) (h : ws[k].f1.size = n) (hno : ∀ j (hj : j < ws.length), j < k -> ws[j].f1.size ≠ n) : wordF (f + 1) ws n s at_ = (some ws[k], at_) := by
 have : ws.find? (fun x => x.f1.size == n) = some ws[k] := by
  rw [List.find?_eq_some_iff_getElem]
  refine ⟨by simpa using h, k, hk, rfl, fun j hj => ?_⟩
  simpa using hno j (by omega) hj
 unfold wordF
 rw [this]
theorem wordF_on {f n : Nat} {ws : List S135} {s : ByteArray} {at_ : Nat} (hno : ∀ j (hj : j < ws.length), ws[j].f1.size ≠ n) : wordF (f + 1) ws n s at_ = if at_ < s.size ∧ 0 < (ws.filter fun x => !offB s n at_ x).length then wordF f (ws.filter fun x => !offB s n at_ x) (n + 1) s (at_ + 1) else (none, at_) := by
 have : ws.find? (fun x => x.f1.size == n) = none := by
  rw [List.find?_eq_none]
  intro x hx
  obtain ⟨j, hj, rfl⟩ := List.getElem_of_mem hx
  simpa using hno j hj
 conv => lhs; unfold wordF
 rw [this]
structure WordMem (w0 w w' : World) (g G Q : Nat) (s : ByteArray) (ws : List S135) (n at_ : Nat) : Prop where
 row : RowAt w' G ws
 rd : IsS118 w0 w' g s at_
 box : w'.heap[w.heap.size]? = some (.cells #[.pointer (some ⟨g, 0, none⟩)] 116 (0, 0))
 res : w'.heap[w.heap.size + 1 + 1]? = some (.cells #[.int .i64 0, .string ⟨#[]⟩, .int .i64 0] 135 (0, 0))
 cnt : w'.heap[Q]? = some (.cells #[.int .i64 n] 3 (0, 0))
 below : Below w0.heap.size w0 w'
 keep : KeepBut w w' g none
theorem WordMem.on {w0 w w' W : World} {g G Q : Nat} {s : ByteArray} {ws : List S135} {n q : Nat} (h : WordMem w0 w w' g G Q s ws n q) (hb : Below w'.heap.size w' W) : WordMem w0 w W g G Q s ws n q :=
 ⟨h.row.below hb, h.rd.below hb, blk_below h.box hb, blk_below h.res hb, blk_below h.cnt hb, h.below.trans (hb.mono h.below.size), h.keep.trans (KeepBut.of_below hb g none) (.inl rfl)⟩
theorem keep_other {w w1 w2 : World} {g G : Nat} (h : KeepBut w w1 g none) (k : KeepBut w1 w2 G none) (hG : w.heap.size <= G) : KeepBut w w2 g none :=
 ⟨Nat.le_trans h.1 k.1, fun i hi hg hr => (k.2 i (Nat.lt_of_lt_of_le hi h.1) (by omega) hr).trans (h.2 i hi hg hr)⟩
theorem WordMem.cut {w0 w w' W : World} {g G Q : Nat} {s : ByteArray} {ws ws' : List S135} {n q : Nat} (h : WordMem w0 w w' g G Q s ws n q) (hg : g < w.heap.size) (hG : w.heap.size + 1 + 1 < G) (hQ : G < Q) (h0 : w0.heap.size <= w.heap.size)
  (hr : RowAt W G ws') (hb : Below G w' W) (hk : KeepBut w' W G none) : WordMem w0 w W g G Q s ws' n q :=
 ⟨hr, ⟨hk.blk h.rd.1 (by omega) (by simp), h.rd.2⟩, hk.blk h.box (by omega) (by simp), hk.blk h.res (by omega) (by simp), hk.blk h.cnt (by omega) (by simp), h.below.trans (hb.mono (by omega)), keep_other h.keep hk (by omega)⟩
theorem WordMem.step {w0 w w' : World} {g G Q : Nat} {s : ByteArray} {ws : List S135} {n q : Nat} (h : WordMem w0 w w' g G Q s ws n q) (hg : g < w.heap.size) (hG : w.heap.size + 1 + 1 < G) (hQ : G < Q) (h0 : w0.heap.size <= w.heap.size) :
  WordMem w0 w ((w'.setCell ⟨g, 1, none⟩ (.int .i64 ((q : Int) + 1))).setCell ⟨Q, 0, none⟩ (.int .i64 ((n : Int) + 1))) g G Q s ws (n + 1) (q + 1) := by
 have eq1 : ((q + 1 : Nat) : Int) = (q : Int) + 1 := by omega
 have en1 : ((n + 1 : Nat) : Int) = (n : Int) + 1 := by omega
 have far : ∀ k o, w'.heap[k]? = some o -> k ≠ g -> k ≠ Q -> ((w'.setCell ⟨g, 1, none⟩ (.int .i64 ((q : Int) + 1))).setCell ⟨Q, 0, none⟩ (.int .i64 ((n : Int) + 1))).heap[k]? = some o := fun k o hk h1 h2 =>
  (Below.heap_setCell _ ⟨Q, 0, none⟩ _ k h2).trans ((Below.heap_setCell _ ⟨g, 1, none⟩ _ k h1).trans hk)
 refine ⟨?_, ?_, far _ _ h.box (by omega) (by omega), far _ _ h.res (by omega) (by omega), ?_, ?_, ?_⟩
 ·obtain ⟨c, h1, h2⟩ := h.row
  exact ⟨c, far _ _ h1 (by omega) (by omega), h2⟩
 ·rw [eq1]
  exact (h.rd.set_1 _).far (by show g ≠ Q; omega) _
 ·have h1 : (w'.setCell ⟨g, 1, none⟩ (.int .i64 ((q : Int) + 1))).heap[Q]? = some (.cells #[.int .i64 n] 3 (0, 0)) := (Below.heap_setCell _ ⟨g, 1, none⟩ _ Q (by show Q ≠ g; omega)).trans h.cnt
  rw [en1]
  simpa using blk_set h1 0 (.int .i64 ((n : Int) + 1))
 ·exact (h.below.setCell (p := ⟨g, 1, none⟩) h.rd.2 _).setCell (p := ⟨Q, 0, none⟩) (by show w0.heap.size <= Q; omega) _
 ·exact keep_far (h.keep.set_ 1 _) (by show w.heap.size <= Q; omega) _
/-- What stands at the label. -/
structure WordRel (w0 w w' : World) (g G Q : Nat) (s : ByteArray) (depth : Int) (at0 : Nat) (ws : List S135) (n at_ : Nat) : Prop where
 val : wordF (8 - n) ws n s at_ = wordV depth s at0
 few : n <= 7
 size : ∀ x ∈ ws, n <= x.f1.size ∧ x.f1.size <= 6
 mem : WordMem w0 w w' g G Q s ws n at_
 gG : w.heap.size + 1 + 1 < G
 gQ : G < Q
/-- What is known at the end, and of the result's block B. -/
structure WordFin (w0 w W : World) (g B : Nat) (s : ByteArray) (q : Nat) (cs : Array Value) : Prop where
 rd : IsS118 w0 W g s q
 res : W.heap[B]? = some (.cells cs 135 (0, 0))
 below : Below w0.heap.size w0 W
 keep : KeepBut w W g none
theorem WordMem.fin {w0 w w' W : World} {g G Q : Nat} {s : ByteArray} {ws : List S135} {n q : Nat} (h : WordMem w0 w w' g G Q s ws n q) (hb : Below w'.heap.size w' W) : WordFin w0 w W g (w.heap.size + 1 + 1) s q #[.int .i64 0, .string ⟨#[]⟩, .int .i64 0] :=
 ⟨h.rd.below hb, blk_below h.res hb, h.below.trans (hb.mono h.below.size), h.keep.trans (KeepBut.of_below hb g none) (.inl rfl)⟩
theorem keep_far {w w1 : World} {g : Nat} (h : KeepBut w w1 g none) {p : Addr} (hp : w.heap.size <= p.block) (u : Value) : KeepBut w (w1.setCell p u) g none :=
 ⟨by simpa [World.setCell] using h.1, fun i hi hg hr => (Below.heap_setCell w1 p u i (by omega)).trans (h.2 i hi hg hr)⟩
theorem WordFin.set {w0 w W : World} {g B : Nat} {s : ByteArray} {q : Nat} {cs : Array Value} (h : WordFin w0 w W g B s q cs) (hg : g < w.heap.size) (hB : w.heap.size <= B) (h0 : w0.heap.size <= w.heap.size) (i : Nat) (v : Value) : WordFin w0 w (W.setCell ⟨B, i, none⟩ v) g B s q (cs.setIfInBounds i v) :=
 ⟨h.rd.far (by show g ≠ B; omega) v, blk_set h.res i v, h.below.setCell (p := ⟨B, i, none⟩) (by show w0.heap.size <= B; omega) v, keep_far h.keep (by exact hB) v⟩
theorem WordFin.alloc {w0 w W : World} {g B : Nat} {s : ByteArray} {q : Nat} {cs : Array Value} (h : WordFin w0 w W g B s q cs) (o : Obj) : WordFin w0 w (W.alloc o) g B s q cs :=
 ⟨h.rd.alloc o, blk_alloc h.res o, below_alloc h.below o, keep_alloc h.keep o⟩
theorem WordFin.put {w0 w W : World} {g B : Nat} {s : ByteArray} {q : Nat} {a b c : Value} (h : WordFin w0 w W g B s q #[a, b, c]) (hg : g < w.heap.size) (hB : w.heap.size <= B) (h0 : w0.heap.size <= w.heap.size) (x y z : Value) : WordFin w0 w (((W.setCell ⟨B, 0, none⟩ x).setCell ⟨B, 1, none⟩ y).setCell ⟨B, 2, none⟩ z) g B s q #[x, y, z] := by
 simpa using ((h.set hg hB h0 0 x).set hg hB h0 1 y).set hg hB h0 2 z
def muW (a : Act) (w : World) : Nat := match a.tmps.getD 7 undef with
 | .pointer (some p) => (match w.cell? p with | some (.int _ n) => 8 - n.toNat | _ => 0)
 | _ => 0
theorem wp_scope_label {P : Program} {c X : Code} {Q : Exit -> Act -> World -> Prop} {a : Act} {w : World} (l : Nat) (J : Act -> World -> Prop) (μ : Act -> World -> Nat) (hf : findLabel c l = some (Code.skip.seq X))
  (pass : ∀ a w, J a w -> X.wp P (Exit.jump l (fun a' w' => J a' w' ∧ μ a' w' < μ a w) Q) a w)
  (first : (∀ a w, J a w -> X.wp P (Exit.jump l J Q) a w) -> c.wp P (Exit.jump l J Q) a w) : (Code.scope c).wp P Q a w :=
 wp_scope_jumps l J μ hf (first fun a w h => wp_mono (pass a w h) (fun e a' w' hq => by
  cases e with
  | goto l' => exact ⟨hq.1, hq.2.1⟩
  | _ => exact hq)) (fun a w h => wp_seq (wp_skip (pass a w h)))
theorem word_any (g : Nat) (s : ByteArray) (at_ : Nat) (depth : Int) (w0 w : World) (hI : IsS118 w0 w g s at_) (hB : Below w0.heap.size w0 w) (hs : s.size <= 1000000) :
  Calls Tryz.prog 79 #[.pointer (some ⟨g, 0, none⟩), .int .i64 depth] w fun e w' => (∃ x : S135, ∃ ok : Bool, e = .returned (.tuple #[.agg #[.int .i64 x.f0, .string x.f1, .int .i64 x.f2], .bool ok]) ∧ (wordV depth s at_).1 = (if ok = true then some x else none)) ∧ IsS118 w0 w' g s (wordV depth s at_).2 ∧ Below w0.heap.size w0 w' ∧ KeepBut w w' g none := by
 have HI := hid hI; have HB := hid hB
 have hgw := hI.lt
 clear hI hB
 go_enter Tryz.func79, Tryz.ntmps79
 go_wp2_with fail
 refine wp_scope_label 0 (fun a' w' => ∃ (ws : List S135) (n q Q : Nat), WordRel w0 w w' g (w.heap.size + 1 + 1 + 1) Q s depth at_ ws n q ∧ ∃ u5 u8 u9 u10 u11 u12 u13 u14 u15 u16 u17 u18 u19 u20 u21 u22 u23 u24 u25 u26 u27 u28 u29 u30 u31 u32 u33 u34 u35 u36 u37 u38 u39 u40 u41 u42 u43 u44 u45 u46 u47 u48 u49 u50 u51 : Value, a' = { tmps := #[.pointer (some ⟨g, 0, none⟩), .int .i64 depth, .pointer (some ⟨w.heap.size, 0, none⟩), .pointer (some ⟨w.heap.size + 1, 0, none⟩), .pointer (some ⟨w.heap.size + 1 + 1, 0, none⟩), u5, .slice (some ⟨w.heap.size + 1 + 1 + 1, 0, none⟩) ws.length 8, .pointer (some ⟨Q, 0, none⟩), u8, u9, u10, u11, u12, u13, u14, u15, u16, u17, u18, u19, u20, u21, u22, u23, u24, u25, u26, u27, u28, u29, u30, u31, u32, u33, u34, u35, u36, u37, u38, u39, u40, u41, u42, u43, u44, u45, u46, u47, u48, u49, u50, u51], defers := [] }) muW rfl ?_ ?_
 ·rintro a' w' ⟨ws, n, q, Q, hR, ha⟩
  obtain ⟨u5, ha⟩ := ha
  obtain ⟨u8, ha⟩ := ha
  obtain ⟨u9, ha⟩ := ha
  obtain ⟨u10, ha⟩ := ha
  obtain ⟨u11, ha⟩ := ha
  obtain ⟨u12, ha⟩ := ha
  obtain ⟨u13, ha⟩ := ha
  obtain ⟨u14, ha⟩ := ha
  obtain ⟨u15, ha⟩ := ha
  obtain ⟨u16, ha⟩ := ha
  obtain ⟨u17, ha⟩ := ha
  obtain ⟨u18, ha⟩ := ha
  obtain ⟨u19, ha⟩ := ha
  obtain ⟨u20, ha⟩ := ha
  obtain ⟨u21, ha⟩ := ha
  obtain ⟨u22, ha⟩ := ha
  obtain ⟨u23, ha⟩ := ha
  obtain ⟨u24, ha⟩ := ha
  obtain ⟨u25, ha⟩ := ha
  obtain ⟨u26, ha⟩ := ha
  obtain ⟨u27, ha⟩ := ha
  obtain ⟨u28, ha⟩ := ha
  obtain ⟨u29, ha⟩ := ha
  obtain ⟨u30, ha⟩ := ha
  obtain ⟨u31, ha⟩ := ha
  obtain ⟨u32, ha⟩ := ha
  obtain ⟨u33, ha⟩ := ha
  obtain ⟨u34, ha⟩ := ha
  obtain ⟨u35, ha⟩ := ha
  obtain ⟨u36, ha⟩ := ha
  obtain ⟨u37, ha⟩ := ha
  obtain ⟨u38, ha⟩ := ha
  obtain ⟨u39, ha⟩ := ha
  obtain ⟨u40, ha⟩ := ha
  obtain ⟨u41, ha⟩ := ha
  obtain ⟨u42, ha⟩ := ha
  obtain ⟨u43, ha⟩ := ha
  obtain ⟨u44, ha⟩ := ha
  obtain ⟨u45, ha⟩ := ha
  obtain ⟨u46, ha⟩ := ha
  obtain ⟨u47, ha⟩ := ha
  obtain ⟨u48, ha⟩ := ha
  obtain ⟨u49, ha⟩ := ha
  obtain ⟨u50, ha⟩ := ha
  obtain ⟨u51, ha⟩ := ha
  subst ha
  have HR := hid hR
  have hle := hR.mem.row.le
  have hn7 := hR.few
  have hNG := hR.gG
  have hGQ := hR.gQ
  clear hR
  go_wp2_with fail
  go_loopg [15] ws.length (fun f i wr => ∃ k : Nat, f + k = ws.length ∧ i = .int .i64 k ∧ Aside0 (∀ j (hj : j < ws.length), j < k -> ws[j].f1.size ≠ n) ∧ Aside0 (Below w'.heap.size w' wr))
  case atStart => exact ⟨0, by omega, rfl, ⟨fun j _ hj => by omega⟩, ⟨Below.refl _ _⟩⟩
  case round =>
   obtain ⟨k, hk, rfl, ⟨hno⟩, ⟨hB⟩⟩ := hrel
   have HNO := hid hno; have HBk := hid hB
   clear hno hB
   by_cases hlt : k < ws.length
   ·obtain ⟨m, rfl⟩ : ∃ m, gk = m + 1 := ⟨gk - 1, by omega⟩
    obtain ⟨g0, g1, g2⟩ := (HR.out.mem.row.below HBk.out).cell k hlt
    have c7 : wr.cell? ⟨Q, 0, none⟩ = some (.int .i64 n) := (blk_cell (blk_below HR.out.mem.cnt HBk.out) 0).trans rfl
    have r0 := (blk_cell (blk_below HR.out.mem.res HBk.out) 0).trans (show _ = some (.int .i64 0) from rfl)
    have r1 := (blk_cell (blk_below HR.out.mem.res HBk.out) 1).trans (show _ = some (.string ⟨#[]⟩) from rfl)
    have r2 := (blk_cell (blk_below HR.out.mem.res HBk.out) 2).trans (show _ = some (.int .i64 0) from rfl)
    have q0 := blk_frozen (blk_below HR.out.mem.res HBk.out) 0
    have q1 := blk_frozen (blk_below HR.out.mem.res HBk.out) 1
    have q2 := blk_frozen (blk_below HR.out.mem.res HBk.out) 2
    have hrs := blk_lt (blk_below HR.out.mem.res HBk.out)
    have hcs := blk_lt (blk_below HR.out.mem.cnt HBk.out)
    by_cases hsz : ws[k].f1.size = n
    ·have hfd : wordF (8 - n) ws n s q = (some ws[k], q) := by
      rw [show 8 - n = (7 - n) + 1 by omega]
      exact wordF_found hlt hsz HNO.out
     have HFD := hid hfd
     have t1 : (ws[k].f1.size == n) = true := by rw [beq_iff_eq]; exact hsz
     clear hfd hsz
     generalize ws[k] = x at *
     go_wp2_with fail
     have HF := hid (((HR.out.mem.fin HBk.out).put hgw (by omega) HB.out.size (.int .i64 x.f0) (.string x.f1) (.int .i64 x.f2)).alloc (.cells #[.int .i64 x.f0, .string x.f1, .int .i64 x.f2] 135))
     clear g0 g1 g2 c7 r0 r1 r2 q0 q1 q2
     generalize (((wr.setCell ⟨w.heap.size + 1 + 1, 0, none⟩ (.int .i64 x.f0)).setCell ⟨w.heap.size + 1 + 1, 1, none⟩ (.string x.f1)).setCell ⟨w.heap.size + 1 + 1, 2, none⟩ (.int .i64 x.f2)).alloc (.cells #[.int .i64 x.f0, .string x.f1, .int .i64 x.f2] 135) = W at HF ⊢
     have HV : Hid (wordV depth s at_ = (some x, q)) := HR.out.val.symm.trans HFD.out
     simp only [Exit.jump]
     exact bodyPost_ret (results_ct (p := 4) (u := 5) (ty := 135) rfl _ _ (w.heap.size + 1 + 1) 135 _ (0, 0) _ rfl HF.out.res Tryz.underlying135 rfl (by kernel_rfl)) rfl ⟨⟨x, true, rfl, by rw [HV.out]; rfl⟩, by rw [HV.out]; exact HF.out.rd, HF.out.below, HF.out.keep⟩
    ·have HSZ := hid hsz
     have t1 : (ws[k].f1.size == n) = false := by rw [beq_eq_false_iff_ne]; exact hsz
     clear hsz
     go_wp2_with fail
     go_roundg m
     case measure => omega
     case rel => exact ⟨k + 1, by omega, by go_num, ⟨fun j hj hj2 => by
      rcases Nat.lt_or_ge j k with h | h
      ·exact HNO.out j hj h
      ·obtain rfl : j = k := by omega
       exact HSZ.out⟩, ⟨below_alloc HBk.out _⟩⟩
   ·obtain rfl : k = ws.length := by omega
    have HON := hid ((show wordF (8 - n) ws n s q = wordF ((7 - n) + 1) ws n s q by rw [show 8 - n = (7 - n) + 1 by omega]).trans (wordF_on (f := 7 - n) (s := s) (at_ := q) (fun j hj => HNO.out j hj hj)))
    have HBB := hid (blk_below HR.out.mem.box HBk.out)
    have HRD := hid (HR.out.mem.rd.below HBk.out)
    have b0 : wr.cell? ⟨w.heap.size, 0, none⟩ = some (.pointer (some ⟨g, 0, none⟩)) := (blk_cell HBB.out 0).trans rfl
    have d0 : wr.cell? ⟨g, 0, none⟩ = some (.string s) := cellS118_0 HRD.out.1
    have d1 : wr.cell? ⟨g, 1, none⟩ = some (.int .i64 q) := cellS118_1 HRD.out.1
    by_cases hq : q < s.size
    ·have t2 : decide (q < s.size) = true := by rw [decide_eq_true_iff]; exact hq
     go_wp2_with fail
     go_quiet (fail)
     have HBd := hid (pw_below_drewN HBk.out nq)
     clear b0 d0 d1
     generalize wr.drewN nq = wd at HBd ⊢
     go_wp2_with fail
     have HMd := hid (HR.out.mem.on HBd.out)
     have hclo : Clo_c Q w.heap.size (offB s n q) wd (w.heap.size + 1 + 1 + 1) ws := by
      intro W x hx hk
      obtain ⟨j, hj, rfl⟩ := List.getElem_of_mem hx
      have hs1 := (HR.out.size _ hx).1
      have hs2 := HNO.out j hj hj
      have bQ := hk.blk HMd.out.cnt (by omega) (by simp)
      have bB := hk.blk HMd.out.box (by omega) (by simp)
      have bg := hk.blk HMd.out.rd.1 (by omega) (by simp)
      exact off_any Q w.heap.size g n q s ws[j] W ((blk_cell bQ 0).trans rfl) ((blk_cell bB 0).trans rfl) (cellS118_0 bg) (cellS118_1 bg) (by omega) hq
     refine (delete_c Q w.heap.size (offB s n q) (w.heap.size + 1 + 1 + 1) ws wd hclo HMd.out.row).mono ?_
     rintro e w2 ⟨rfl, hrow2, hb2, hk2⟩
     have HM2 := hid (HMd.out.cut hgw hNG hGQ HB.out.size hrow2 hb2 hk2)
     have HW8 : Hid (∀ x ∈ ws.filter (fun x => !offB s n q x), n + 1 <= x.f1.size ∧ x.f1.size <= 6) := by
      intro x hx
      have hx2 := (List.mem_filter.1 hx).1
      obtain ⟨j, hj, rfl⟩ := List.getElem_of_mem hx2
      have hs1 := HR.out.size _ hx2
      have hs2 := HNO.out j hj hj
      exact ⟨by omega, hs1.2⟩
     clear hclo hrow2 hb2 hk2 t2
     obtain ⟨ws2, hws2⟩ : ∃ l, l = ws.filter (fun x => !offB s n q x) := ⟨_, rfl⟩
     rw [<- hws2] at HON HM2 HW8 ⊢
     clear hws2
     by_cases hl : 0 < ws2.length
     ·have t3 : decide (0 < ws2.length) = true := by rw [decide_eq_true_iff]; exact hl
      have HV : Hid (wordF (7 - n) ws2 (n + 1) s (q + 1) = wordV depth s at_) := ((HON.out.trans (if_pos ⟨hq, hl⟩)).symm.trans HR.out.val)
      have hn6 : n + 1 <= 6 := by
       have := HW8.out ws2[0] (List.getElem_mem hl)
       omega
      have b0 : w2.cell? ⟨w.heap.size, 0, none⟩ = some (.pointer (some ⟨g, 0, none⟩)) := (blk_cell HM2.out.box 0).trans rfl
      have d1 : w2.cell? ⟨g, 1, none⟩ = some (.int .i64 q) := cellS118_1 HM2.out.rd.1
      have f1 : w2.frozen? ⟨g, 1, none⟩ = false := blk_frozen HM2.out.rd.1 1
      have c0 : w2.cell? ⟨Q, 0, none⟩ = some (.int .i64 n) := (blk_cell HM2.out.cnt 0).trans rfl
      have f0 : w2.frozen? ⟨Q, 0, none⟩ = false := blk_frozen HM2.out.cnt 0
      clear hl
      go_wp2_with fail
      go_step3
      have HM3 := hid (HM2.out.step hgw hNG hGQ HB.out.size)
      have HC3 := hid HM3.out.cnt
      have HC0 := hid HR.out.mem.cnt
      clear b0 d1 f1 c0 f0
      generalize (w2.setCell ⟨g, 1, none⟩ (.int .i64 ((q : Int) + 1))).setCell ⟨Q, 0, none⟩ (.int .i64 ((n : Int) + 1)) = w3 at *
      refine ⟨rfl, ⟨ws2, n + 1, q + 1, Q, ⟨?_, by omega, HW8.out, HM3.out, hNG, hGQ⟩, _, _, _, _, _, _, _, _, _, _, _, _, _, _, _, _, _, _, _, _, _, _, _, _, _, _, _, _, _, _, _, _, _, _, _, _, _, _, _, _, _, _, _, _, _, rfl⟩, ?_⟩
      ·rw [show 8 - (n + 1) = 7 - n by omega]; exact HV.out
      ·have m1 : w3.cell? ⟨Q, 0, none⟩ = some (.int .i64 ((n + 1 : Nat) : Int)) := (blk_cell HC3.out 0).trans rfl
       have m0 : w'.cell? ⟨Q, 0, none⟩ = some (.int .i64 (n : Int)) := (blk_cell HC0.out 0).trans rfl
       show (match w3.cell? ⟨Q, 0, none⟩ with | some (.int _ n) => 8 - n.toNat | _ => 0) < (match w'.cell? ⟨Q, 0, none⟩ with | some (.int _ n) => 8 - n.toNat | _ => 0)
       rw [m1, m0]
       show 8 - (((n + 1 : Nat) : Int)).toNat < 8 - ((n : Nat) : Int).toNat
       rw [Int.toNat_natCast, Int.toNat_natCast]
       omega
     ·have t3 : decide (0 < ws2.length) = false := by rw [decide_eq_false_iff_not]; exact hl
      have HV : Hid (wordV depth s at_ = (none, q)) := HR.out.val.symm.trans (HON.out.trans (if_neg (fun h => hl h.2)))
      clear hl
      have HF0 := hid (HM2.out.fin (Below.refl _ _))
      have r0 := (blk_cell HF0.out.res 0).trans (show _ = some (.int .i64 0) from rfl)
      have r1 := (blk_cell HF0.out.res 1).trans (show _ = some (.string ⟨#[]⟩) from rfl)
      have r2 := (blk_cell HF0.out.res 2).trans (show _ = some (.int .i64 0) from rfl)
      have q0 := blk_frozen HF0.out.res 0
      have q1 := blk_frozen HF0.out.res 1
      have q2 := blk_frozen HF0.out.res 2
      go_wp2_with fail
      have HF := hid (HF0.out.put hgw (by omega) HB.out.size (.int .i64 0) (.string ⟨#[]⟩) (.int .i64 0))
      clear r0 r1 r2 q0 q1 q2
      generalize ((w2.setCell ⟨w.heap.size + 1 + 1, 0, none⟩ (.int .i64 0)).setCell ⟨w.heap.size + 1 + 1, 1, none⟩ (.string ⟨#[]⟩)).setCell ⟨w.heap.size + 1 + 1, 2, none⟩ (.int .i64 0) = W at HF ⊢
      simp only [Exit.jump]
      exact bodyPost_ret (results_ct (p := 4) (u := 5) (ty := 135) rfl _ _ (w.heap.size + 1 + 1) 135 _ (0, 0) _ rfl HF.out.res Tryz.underlying135 rfl (by kernel_rfl)) rfl ⟨⟨⟨0, ⟨#[]⟩, 0⟩, false, rfl, by rw [HV.out]; rfl⟩, by rw [HV.out]; exact HF.out.rd, HF.out.below, HF.out.keep⟩
    ·have t2 : decide (q < s.size) = false := by rw [decide_eq_false_iff_not]; exact hq
     have HV : Hid (wordV depth s at_ = (none, q)) := HR.out.val.symm.trans (HON.out.trans (if_neg (fun h => hq h.1)))
     go_wp2_with fail
     go_quiet (fail)
     have HBd := hid (pw_below_drewN HBk.out nq)
     clear b0 d0 d1 t2 hq
     generalize wr.drewN nq = wd at HBd ⊢
     have HF0 := hid (HR.out.mem.fin HBd.out)
     have r0 := (blk_cell HF0.out.res 0).trans (show _ = some (.int .i64 0) from rfl)
     have r1 := (blk_cell HF0.out.res 1).trans (show _ = some (.string ⟨#[]⟩) from rfl)
     have r2 := (blk_cell HF0.out.res 2).trans (show _ = some (.int .i64 0) from rfl)
     have q0 := blk_frozen HF0.out.res 0
     have q1 := blk_frozen HF0.out.res 1
     have q2 := blk_frozen HF0.out.res 2
     go_wp2_with fail
     have HF := hid (HF0.out.put hgw (by omega) HB.out.size (.int .i64 0) (.string ⟨#[]⟩) (.int .i64 0))
     clear r0 r1 r2 q0 q1 q2
     generalize ((wd.setCell ⟨w.heap.size + 1 + 1, 0, none⟩ (.int .i64 0)).setCell ⟨w.heap.size + 1 + 1, 1, none⟩ (.string ⟨#[]⟩)).setCell ⟨w.heap.size + 1 + 1, 2, none⟩ (.int .i64 0) = W at HF ⊢
     simp only [Exit.jump]
     exact bodyPost_ret (results_ct (p := 4) (u := 5) (ty := 135) rfl _ _ (w.heap.size + 1 + 1) 135 _ (0, 0) _ rfl HF.out.res Tryz.underlying135 rfl (by kernel_rfl)) rfl ⟨⟨⟨0, ⟨#[]⟩, 0⟩, false, rfl, by rw [HV.out]; rfl⟩, by rw [HV.out]; exact HF.out.rd, HF.out.below, HF.out.keep⟩
 ·intro hlab
  have HLAB := hid hlab
  clear hlab
  go_wp2_with fail
  refine (words_any _).mono ?_
  rintro e w1 ⟨rfl, rfl⟩
  go_wp2_with fail
  have hR0 := words_row (((w.alloc (.cells #[.pointer (some ⟨g, 0, none⟩)] 116)).alloc (.cells #[.int .i64 depth] 3)).alloc (.cells #[.int .i64 0, .string ⟨#[]⟩, .int .i64 0] 135))
  have hBX := blk_alloc (blk_alloc (blk_alloc (heap_alloc_new w (.cells #[.pointer (some ⟨g, 0, none⟩)] 116)) (.cells #[.int .i64 depth] 3)) (.cells #[.int .i64 0, .string ⟨#[]⟩, .int .i64 0] 135)) (.cells wordCells 135)
  have hDX := blk_alloc (blk_alloc (heap_alloc_new (w.alloc (.cells #[.pointer (some ⟨g, 0, none⟩)] 116)) (.cells #[.int .i64 depth] 3)) (.cells #[.int .i64 0, .string ⟨#[]⟩, .int .i64 0] 135)) (.cells wordCells 135)
  have hZX := blk_alloc (heap_alloc_new ((w.alloc (.cells #[.pointer (some ⟨g, 0, none⟩)] 116)).alloc (.cells #[.int .i64 depth] 3)) (.cells #[.int .i64 0, .string ⟨#[]⟩, .int .i64 0] 135)) (.cells wordCells 135)
  have hbb := below_alloc (below_alloc (below_alloc (below_alloc (Below.refl w.heap.size w) (.cells #[.pointer (some ⟨g, 0, none⟩)] 116)) (.cells #[.int .i64 depth] 3)) (.cells #[.int .i64 0, .string ⟨#[]⟩, .int .i64 0] 135)) (.cells wordCells 135)
  simp only [World.size_alloc] at hR0 hBX hDX hZX
  have HR0 := hid hR0; have HBX := hid hBX; have HDX := hid hDX; have HZX := hid hZX; have HBB := hid hbb
  clear hR0 hBX hDX hZX hbb
  generalize (((w.alloc (.cells #[.pointer (some ⟨g, 0, none⟩)] 116)).alloc (.cells #[.int .i64 depth] 3)).alloc (.cells #[.int .i64 0, .string ⟨#[]⟩, .int .i64 0] 135)).alloc (.cells wordCells 135) = V at *
  have hclo : Clo_d (w.heap.size + 1) (deepB depth) V (w.heap.size + 1 + 1 + 1) wordS := by
   intro W x hx hk
   have bD := hk.blk HDX.out (by omega) (by simp)
   exact deep_any (w.heap.size + 1) depth x W ((blk_cell bD 0).trans rfl) (blk_lt bD)
  have hdel := delete_d (w.heap.size + 1) (deepB depth) (w.heap.size + 1 + 1 + 1) wordS V hclo HR0.out
  have HDL := hid hdel
  clear hclo hdel
  refine HDL.out.mono ?_
  rintro e w2 ⟨rfl, hrow2, hb2, hk2⟩
  go_wp2_with fail
  go_step3
  rename_i hgo
  refine hgo _ _ ?_
  refine wp_mono (HLAB.out _ _ ⟨mayS depth, 0, at_, w2.heap.size, ⟨rfl, by omega, ?_, ?_, by omega, ?_⟩, _, _, _, _, _, _, _, _, _, _, _, _, _, _, _, _, _, _, _, _, _, _, _, _, _, _, _, _, _, _, _, _, _, _, _, _, _, _, _, _, _, _, _, _, _, rfl⟩) (fun _ _ _ h => h)
  ·intro x hx
   exact ⟨Nat.zero_le _, wordS_size x (List.mem_filter.1 hx).1⟩
  ·have hgV : V.heap[g]? = some (.cells #[.string s, .int .i64 at_] 118 (0, 0)) := (HBB.out.block g hgw).trans HI.out.1
   exact ⟨hrow2.below (below_alloc (Below.refl _ _) _), ⟨blk_alloc (hk2.blk hgV (by omega) (by simp)) _, HI.out.2⟩, blk_alloc (hk2.blk HBX.out (by omega) (by simp)) _, blk_alloc (hk2.blk HZX.out (by omega) (by simp)) _, heap_alloc_new w2 _,
    below_alloc ((HB.out.trans (HBB.out.mono HB.out.size)).trans (hb2.mono (by have := HB.out.size; omega))) _, keep_alloc (keep_other (KeepBut.of_below HBB.out g none) hk2 (by omega)) _⟩
  ·exact hrow2.lt
end Go.Proofs.YtamfloegflejnaaGreatDoor
