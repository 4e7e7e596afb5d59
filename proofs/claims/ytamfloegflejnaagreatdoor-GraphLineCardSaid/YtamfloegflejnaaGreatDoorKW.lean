/-
 kind's reader of a type.
-/
import Derived.Test.YtamfloegflejnaaGreatDoorH1
import Derived.Test.YtamfloegflejnaaGreatDoorKV
import Derived.Deep.CutRange
set_option linter.unusedVariables false
set_option linter.unusedSimpArgs false
set_option maxHeartbeats 4000000
set_option maxRecDepth 100000
namespace Go.Proofs.YtamfloegflejnaaGreatDoor
open Lib (hid)
open Go.RowKit Go.Proofs.YtamfloegflejnaaGreatDoorW.PrintWords Go.Proofs.YtamfloegflejnaaGreatDoorW.PrintLast Go.Proofs.YtamfloegflejnaaGreatDoorW.PrintMore PGraphLines
/-- Does this sign stand here? -/
def signB (s : ByteArray) (q : Nat) (c : UInt8) : Bool := decide (q < s.size) && (bt s (q : Int) == (c.toNat : Int))
/-- So many types, each behind its sign. -/
def argsF (f : ByteArray -> Nat -> Option S59 × Nat) : Nat -> Nat -> ByteArray -> Nat -> Option (List S59) × Nat
 | 0, _, _, q => (some [], q)
 | n + 1, i, s, q => if signB s q (sepT i) = true then (match f s (q + 1) with
   | (none, q') => (none, q')
   | (some a, q') => match argsF f n (i + 1) s q' with
    | (none, q2) => (none, q2)
    | (some l, q2) => (some (a :: l), q2)) else (none, q)
/-- A type that is not deeper than this, and the place behind it. -/
def readF : Nat -> ByteArray -> Nat -> Option S59 × Nat
 | 0, _, q => (none, q)
 | d + 1, s, q => match wordV ((d : Int) + 1) s q with
  | (none, q1) => (none, q1)
  | (some x, q1) => match argsF (readF d) x.f2.toNat 0 s q1 with
   | (none, q2) => (none, q2)
   | (some l, q2) => if x.f2 = 0 then (some ⟨x.f0, l⟩, q2) else if signB s q2 41 = true then (some ⟨x.f0, l⟩, q2 + 1) else (none, q2)
def glue (l : List S59) : Option (List S59) × Nat -> Option (List S59) × Nat
 | (none, q) => (none, q)
 | (some r, q) => (some (l ++ r), q)
theorem glue_nil (r : Option (List S59) × Nat) : glue [] r = r := by
 obtain ⟨r, q⟩ := r
 cases r <;> rfl
theorem glue_no {f : ByteArray -> Nat -> Option S59 × Nat} {n i : Nat} {s : ByteArray} {q : Nat} (l : List S59) (h : signB s q (sepT i) = false) : glue l (argsF f (n + 1) i s q) = (none, q) := by
 unfold argsF
 rw [if_neg (by rw [h]; decide)]
 rfl
theorem glue_bad {f : ByteArray -> Nat -> Option S59 × Nat} {n i : Nat} {s : ByteArray} {q q' : Nat} (l : List S59) (h : signB s q (sepT i) = true) (hf : f s (q + 1) = (none, q')) : glue l (argsF f (n + 1) i s q) = (none, q') := by
 unfold argsF
 rw [if_pos h, hf]
 rfl
theorem glue_on {f : ByteArray -> Nat -> Option S59 × Nat} {n i : Nat} {s : ByteArray} {q q' : Nat} (l : List S59) {a : S59} (h : signB s q (sepT i) = true) (hf : f s (q + 1) = (some a, q')) : glue l (argsF f (n + 1) i s q) = glue (l ++ [a]) (argsF f n (i + 1) s q') := by
 rw [argsF.eq_2, if_pos h, hf]
 dsimp only
 generalize argsF f n (i + 1) s q' = r
 obtain ⟨r, q2⟩ := r
 cases r <;> simp [glue]
theorem wordF_mem : ∀ (f : Nat) (ws : List S135) (n : Nat) (s : ByteArray) (q : Nat) (x : S135), (wordF f ws n s q).1 = some x -> x ∈ ws
 | 0, ws, n, s, q, x, h => by cases h
 | f + 1, ws, n, s, q, x, h => by
  unfold wordF at h
  split at h
  ·rename_i y hy
   injection h with h
   subst h
   exact List.mem_of_find?_eq_some hy
  ·split at h
   ·exact (List.mem_filter.1 (wordF_mem f _ _ _ _ _ h)).1
   ·cases h
theorem wordS_args : ∀ x ∈ wordS, 0 <= x.f2 ∧ x.f2 <= 2 := by
 intro x hx
 simp only [wordS, wordsL, List.map_cons, List.map_nil, List.mem_cons, List.not_mem_nil, or_false] at hx
 rcases hx with rfl | rfl | rfl | rfl | rfl | rfl | rfl | rfl <;> decide
theorem wordV_args {depth : Int} {s : ByteArray} {q : Nat} {x : S135} (h : (wordV depth s q).1 = some x) : 0 <= x.f2 ∧ x.f2 <= 2 ∧ (0 < x.f2 -> depth ≠ 1) := by
 have hm := wordF_mem _ _ _ _ _ _ h
 obtain ⟨hm, hd⟩ := List.mem_filter.1 hm
 obtain ⟨h0, h1⟩ := wordS_args x hm
 refine ⟨h0, h1, fun hp he => ?_⟩
 unfold deepB at hd
 simp [hp, he] at hd
theorem sign_any (g : Nat) (s : ByteArray) (q : Nat) (c : UInt8) (w0 w : World) (hI : IsS118 w0 w g s q) (hB : Below w0.heap.size w0 w) (hs : s.size <= 1000000) :
  Calls Tryz.prog 80 #[.pointer (some ⟨g, 0, none⟩), .int .u8 c.toNat] w fun e w' => e = .returned (.bool (signB s q c)) ∧ IsS118 w0 w' g s ((if signB s q c = true then q + 1 else q : Nat) : Int) ∧ Below w0.heap.size w0 w' ∧ KeepBut w w' g none := by
 refine kind_reader_sign.calls g s q c.toNat (signB s q c) s ((if signB s q c = true then q + 1 else q : Nat) : Int) w0 w hI hB ?_
 unfold kind_reader_sign.f signB
 by_cases h : q < s.size
 ·rw [if_pos (by omega), if_pos (by omega)]
  by_cases hb : bt s (q : Int) = (c.toNat : Int)
  ·rw [if_pos hb]
   have hw : wrap64 ((q : Int) + 1) = ((q + 1 : Nat) : Int) := by unfold wrap64; omega
   simp [h, hb, hw]
  ·rw [if_neg hb]
   simp [h, hb]
 ·rw [if_neg (by omega)]
  simp [h]
/-- What lies in memory while a type is read. -/
structure TyMem (w0 w W : World) (g : Nat) (s : ByteArray) (q : Nat) (T6 T8 : Nat) (x : S135) (v : Value) : Prop where
 rd : IsS118 w0 W g s q
 res : W.heap[w.heap.size]? = some (.cells #[.int .i64 0, .slice none 0 0] 59 (0, 0))
 word : W.heap[T6]? = some (.cells #[.int .i64 x.f0, .string x.f1, .int .i64 x.f2] 135 (0, 0))
 tree : W.heap[T8]? = some (.cells #[.int .i64 x.f0, v] 59 (0, 0))
 below : Below w0.heap.size w0 W
 keep : KeepBut w W g none
theorem TyMem.on {w0 w W W' : World} {g T6 T8 q : Nat} {s : ByteArray} {x : S135} {v : Value} (h : TyMem w0 w W g s q T6 T8 x v) (hb : Below W.heap.size W W') : TyMem w0 w W' g s q T6 T8 x v :=
 ⟨h.rd.below hb, blk_below h.res hb, blk_below h.word hb, blk_below h.tree hb, h.below.trans (hb.mono h.below.size), h.keep.trans (KeepBut.of_below hb g none) (.inl rfl)⟩
theorem TyMem.call {w0 w W W' : World} {g T6 T8 q q' : Nat} {s : ByteArray} {x : S135} {v : Value} (h : TyMem w0 w W g s q T6 T8 x v) (hg : g < w.heap.size) (h6 : w.heap.size < T6) (h8 : T6 < T8) (hI : IsS118 w0 W' g s q') (hB : Below w0.heap.size w0 W') (hk : KeepBut W W' g none) : TyMem w0 w W' g s q' T6 T8 x v :=
 ⟨hI, hk.blk h.res (by omega) (by simp), hk.blk h.word (by omega) (by simp), hk.blk h.tree (by omega) (by simp), hB, h.keep.trans hk (.inl rfl)⟩
theorem TyMem.grown {w0 w W W' : World} {g T6 T8 q : Nat} {s : ByteArray} {x : S135} {v : Value} (h : TyMem w0 w W g s q T6 T8 x v) {row : Option Nat} (hw : W.grownBy W' row) (hg : some g ≠ row) (hr : some w.heap.size ≠ row) (h6 : some T6 ≠ row) (h8 : some T8 ≠ row) (h0 : w0.heap.size <= w.heap.size) (hbase : ∀ k, row = some k -> w.heap.size <= k) : TyMem w0 w W' g s q T6 T8 x v :=
 ⟨h.rd.grown hw hg, blk_grown h.res hw hr, blk_grown h.word hw h6, blk_grown h.tree hw h8, pw_below_grown h.below row h.below.size hw (fun k hk => by have := hbase k hk; omega), h.keep.trans (KeepBut.of_grown hw g) (by
  cases row with
  | none => exact .inl rfl
  | some k => exact .inr ⟨k, rfl, hbase k rfl⟩)⟩
theorem TyMem.setv {w0 w W : World} {g T6 T8 q : Nat} {s : ByteArray} {x : S135} {v : Value} (h : TyMem w0 w W g s q T6 T8 x v) (hg : g < w.heap.size) (h6 : w.heap.size < T6) (h8 : T6 < T8) (h0 : w0.heap.size <= w.heap.size) (u : Value) : TyMem w0 w (W.setCell ⟨T8, 1, none⟩ u) g s q T6 T8 x u :=
 ⟨h.rd.far (by show g ≠ T8; omega) u, (Below.heap_setCell W ⟨T8, 1, none⟩ u _ (by show w.heap.size ≠ T8; omega)).trans h.res, (Below.heap_setCell W ⟨T8, 1, none⟩ u _ (by show T6 ≠ T8; omega)).trans h.word, by simpa using blk_set h.tree 1 u, h.below.setCell (p := ⟨T8, 1, none⟩) (by show w0.heap.size <= T8; omega) u, keep_far h.keep (by show w.heap.size <= T8; omega) u⟩
/-- The end: the result laid. -/
structure TyFin (w0 w W : World) (g : Nat) (s : ByteArray) (q : Nat) (cs : Array Value) : Prop where
 rd : IsS118 w0 W g s q
 res : W.heap[w.heap.size]? = some (.cells cs 59 (0, 0))
 below : Below w0.heap.size w0 W
 keep : KeepBut w W g none
theorem TyFin.put {w0 w W : World} {g : Nat} {s : ByteArray} {q : Nat} {a b : Value} (h : TyFin w0 w W g s q #[a, b]) (hg : g < w.heap.size) (h0 : w0.heap.size <= w.heap.size) (x y : Value) : TyFin w0 w ((W.setCell ⟨w.heap.size, 0, none⟩ x).setCell ⟨w.heap.size, 1, none⟩ y) g s q #[x, y] :=
 ⟨(h.rd.far (by show g ≠ w.heap.size; omega) x).far (by show g ≠ w.heap.size; omega) y, by simpa using blk_set (blk_set h.res 0 x) 1 y, (h.below.setCell (p := ⟨w.heap.size, 0, none⟩) h0 x).setCell (p := ⟨w.heap.size, 1, none⟩) h0 y, keep_far (keep_far h.keep (Nat.le_refl _) x) (Nat.le_refl _) y⟩
theorem TyMem.fin {w0 w W : World} {g T6 T8 q : Nat} {s : ByteArray} {x : S135} {v : Value} (h : TyMem w0 w W g s q T6 T8 x v) : TyFin w0 w W g s q #[.int .i64 0, .slice none 0 0] := ⟨h.rd, h.res, h.below, h.keep⟩
theorem TyFin.alloc {w0 w W : World} {g : Nat} {s : ByteArray} {q : Nat} {cs : Array Value} (h : TyFin w0 w W g s q cs) (o : Obj) : TyFin w0 w (W.alloc o) g s q cs := ⟨h.rd.alloc o, blk_alloc h.res o, below_alloc h.below o, keep_alloc h.keep o⟩
/-- What the reader of a type answers. -/
def ReadPost (w0 w : World) (g : Nat) (s : ByteArray) (r : Option S59 × Nat) (e : Ending) (w' : World) : Prop :=
 (∃ (kd : Int) (A : Option Addr) (n c : Nat) (ok : Bool), e = .returned (.tuple #[.agg #[.int .i64 kd, .slice A n c], .bool ok]) ∧ (ok = true -> ∃ l, r.1 = some ⟨kd, l⟩ ∧ k59.R 59 w' w.heap.size (fun k => k ≠ g) (.slice A n c) l) ∧ (ok = false -> r.1 = none)) ∧ IsS118 w0 w' g s r.2 ∧ Below w0.heap.size w0 w' ∧ KeepBut w w' g none
theorem fail_post {w0 w W : World} {g : Nat} {s : ByteArray} {q : Nat} {cs : Array Value} {r : Option S59 × Nat} (h : TyFin w0 w W g s q cs) (hr : r = (none, q)) : ReadPost w0 w g s r (.returned (.tuple #[.agg #[.int .i64 0, .slice none 0 0], .bool false])) W := by
 subst hr
 exact ⟨⟨0, none, 0, 0, false, rfl, (fun h => (by cases h)), (fun _ => rfl)⟩, h.rd, h.below, h.keep⟩
theorem good_post {w0 w W : World} {g : Nat} {s : ByteArray} {q : Nat} {kd : Int} {A : Option Addr} {n c : Nat} {l : List S59} {r : Option S59 × Nat} {ok : Nat -> Prop} (h : TyFin w0 w W g s q #[.int .i64 kd, .slice A n c]) (hO : k59.R 59 W w.heap.size (fun k => k ≠ g ∧ ok k) (.slice A n c) l) (hr : r = (some ⟨kd, l⟩, q)) : ReadPost w0 w g s r (.returned (.tuple #[.agg #[.int .i64 kd, .slice A n c], .bool true])) W := by
 subst hr
 exact ⟨⟨kd, A, n, c, true, rfl, (fun _ => ⟨l, rfl, Kd.R_mono hO (fun _ h => h.1)⟩), (fun h => (by cases h))⟩, h.rd, h.below, h.keep⟩
theorem last_post {w0 w W : World} {g : Nat} {s : ByteArray} {q : Nat} {kd : Int} {A : Option Addr} {n c : Nat} {l : List S59} {r : Option S59 × Nat} {ok : Nat -> Prop} {bv : Bool} (h : TyFin w0 w W g s (if bv = true then q + 1 else q) #[.int .i64 kd, .slice A n c]) (hO : k59.R 59 W w.heap.size (fun k => k ≠ g ∧ ok k) (.slice A n c) l) (hr : r = (if bv = true then some (⟨kd, l⟩ : S59) else none, if bv = true then q + 1 else q)) : ReadPost w0 w g s r (.returned (.tuple #[.agg #[.int .i64 kd, .slice A n c], .bool bv])) W := by
 subst hr
 refine ⟨⟨kd, A, n, c, bv, rfl, (fun hb => ⟨l, by rw [if_pos hb], Kd.R_mono hO (fun _ h => h.1)⟩), (fun hb => (by rw [hb]; rfl))⟩, h.rd, h.below, h.keep⟩
theorem read_any (g : Nat) (s : ByteArray) (hs : s.size <= 1000000) (d : Nat) : 1 <= d -> d <= 6 -> ∀ (q : Nat) (w0 w : World), IsS118 w0 w g s q -> Below w0.heap.size w0 w →
  Calls Tryz.prog 59 #[.pointer (some ⟨g, 0, none⟩), .int .i64 d] w (ReadPost w0 w g s (readF d s q)) := by
 induction d with
 | zero => intro h; omega
 | succ d ih =>
  intro _ hd6 q w0 w hI hB
  have hgw := hI.lt
  have hw0 := hB.size
  have HIH := hid ih
  have hI1 := hI.alloc (.cells #[.int .i64 0, .slice none 0 0] 59)
  have hB1 := below_alloc hB (.cells #[.int .i64 0, .slice none 0 0] 59)
  have hcast : ((d + 1 : Nat) : Int) = (d : Int) + 1 := by omega
  have HW := hid (word_any g s q ((d : Int) + 1) w0 (w.alloc (.cells #[.int .i64 0, .slice none 0 0] 59)) hI1 hB1 hs)
  have HB4 := hid (heap_alloc_new w (.cells #[.int .i64 0, .slice none 0 0] 59))
  have HK1 := hid (keep_alloc (KeepBut.refl w g none) (.cells #[.int .i64 0, .slice none 0 0] 59))
  have HRD : Hid (∀ r, wordV ((d : Int) + 1) s q = r -> readF (d + 1) s q = match r with
   | (none, q1) => (none, q1)
   | (some x, q1) => match argsF (readF d) x.f2.toNat 0 s q1 with
    | (none, q2) => (none, q2)
    | (some l, q2) => if x.f2 = 0 then (some ⟨x.f0, l⟩, q2) else if signB s q2 41 = true then (some ⟨x.f0, l⟩, q2 + 1) else (none, q2)) := by
   intro r hr; subst hr; rfl
  rw [hcast]
  clear hI hB ih hI1 hB1 hcast
  go_enter Tryz.func59, Tryz.ntmps59
  go_wp2_with fail
  refine HW.out.mono ?_
  rintro e w2 ⟨⟨x, ok, rfl, hx⟩, hI2, hB2, hk2⟩
  have hB4 := hk2.blk HB4.out (by omega) (by simp)
  obtain ⟨q1, hq1⟩ : ∃ q1, q1 = (wordV ((d : Int) + 1) s q).2 := ⟨_, rfl⟩
  rw [<- hq1] at hI2
  have hs2 := Nat.lt_of_lt_of_le (blk_lt HB4.out) hk2.1
  have HF0 : Hid (TyFin w0 w w2 g s q1 #[.int .i64 0, .slice none 0 0]) :=
   ⟨hI2, hB4, hB2, HK1.out.trans hk2 (.inl rfl)⟩
  have HT6 := hid (heap_alloc_new w2 (.cells #[.int .i64 x.f0, .string x.f1, .int .i64 x.f2] 135))
  have HX := hid hx; have HQ1 := hid hq1
  have r0 := (blk_cell hB4 0).trans (show _ = some (.int .i64 0) from rfl)
  have r1 := (blk_cell hB4 1).trans (show _ = some (.slice none 0 0) from rfl)
  have z0 := blk_frozen hB4 0
  have z1 := blk_frozen hB4 1
  clear hI2 hB2 hk2 hB4 hx hq1
  cases ok with
  | false =>
   have HR : Hid (readF (d + 1) s q = (none, q1)) := HRD.out (none, q1) (Prod.ext HX.out HQ1.out.symm)
   go_wp2_with fail
   have HF := hid ((HF0.out.put hgw hw0 (.int .i64 0) (.slice none 0 0)).alloc (.cells #[.int .i64 x.f0, .string x.f1, .int .i64 x.f2] 135))
   clear r0 r1 z0 z1
   generalize ((w2.setCell ⟨w.heap.size, 0, none⟩ (.int .i64 0)).setCell ⟨w.heap.size, 1, none⟩ (.slice none 0 0)).alloc (.cells #[.int .i64 x.f0, .string x.f1, .int .i64 x.f2] 135) = WF at HF ⊢
   exact bodyPost_ret (results_ct (p := 4) (u := 5) (ty := 59) rfl _ _ w.heap.size 59 _ (0, 0) _ rfl HF.out.res Tryz.underlying59 rfl (by kernel_rfl)) rfl (fail_post HF.out HR.out)
  | true =>
   have HWV : Hid (wordV ((d : Int) + 1) s q = (some x, q1)) := Prod.ext HX.out HQ1.out.symm
   obtain ⟨hx0, hx2, hx1⟩ := wordV_args HX.out
   have HX1 := hid hx1
   clear hx1
   go_wp2_with fail
   have HM0 : Hid (TyMem w0 w ((w2.alloc (.cells #[.int .i64 x.f0, .string x.f1, .int .i64 x.f2] 135)).alloc (.cells #[.int .i64 x.f0, .slice none 0 0] 59)) g s q1 w2.heap.size (w2.heap.size + 1) x (.slice none 0 0)) :=
    ⟨(HF0.out.rd.alloc _).alloc _, blk_alloc (blk_alloc HF0.out.res _) _, blk_alloc HT6.out _, by have := heap_alloc_new (w2.alloc (.cells #[.int .i64 x.f0, .string x.f1, .int .i64 x.f2] 135)) (.cells #[.int .i64 x.f0, .slice none 0 0] 59); rw [World.size_alloc] at this; exact this, below_alloc (below_alloc HF0.out.below _) _, keep_alloc (keep_alloc HF0.out.keep _) _⟩
   clear HF0 HT6 r0 r1 z0 z1
   generalize (w2.alloc (.cells #[.int .i64 x.f0, .string x.f1, .int .i64 x.f2] 135)).alloc (.cells #[.int .i64 x.f0, .slice none 0 0] 59) = W0 at HM0 ⊢
   generalize w2.heap.size = T6 at *
   go_loopg [26] x.f2.toNat (fun f i wr => ∃ (k q' : Nat) (l : List S59), f + k = x.f2.toNat ∧ i = .int .i64 k ∧ l.length = k ∧ ∃ A c, Aside0 (TyMem w0 w wr g s q' T6 (T6 + 1) x (.slice A k c)) ∧ Aside0 (k59.R 59 wr w.heap.size (fun k => k ≠ g ∧ k ≠ w.heap.size ∧ k ≠ T6 + 1) (.slice A k c) l) ∧ Aside0 (argsF (readF d) x.f2.toNat 0 s q1 = glue l (argsF (readF d) (x.f2.toNat - k) k s q')))
   case atStart => exact ⟨0, q1, [], by omega, rfl, rfl, none, 0, ⟨HM0.out⟩, ⟨Kd.R_nil _ _ _ _ _⟩, ⟨by rw [glue_nil, Nat.sub_zero]⟩⟩
   case round =>
    obtain ⟨k, q', l, hk, rfl, hlk, A, c, ⟨hM⟩, ⟨hO⟩, ⟨hG⟩⟩ := hrel
    have HM := hid hM; have HO := hid hO; have HG := hid hG; have HLK := hid hlk
    clear hM hO hG hlk
    by_cases hlt : (k : Int) < x.f2
    ·obtain ⟨m, rfl⟩ : ∃ m, gk = m + 1 := ⟨gk - 1, by omega⟩
     have t0 : decide ((k : Int) < x.f2) = true := by rw [decide_eq_true_iff]; exact hlt
     have hk2 : k < 2 := by omega
     have hd1 : 1 <= d := by have := HX1.out (by omega); omega
     have HNK : Hid (x.f2.toNat - k = (x.f2.toNat - (k + 1)) + 1) := by unfold Hid; omega
     go_wp2_with fail
     rw [sepT_at]
     refine (sign_any g s q' (sepT k) w0 wr HM.out.rd HM.out.below hs).mono ?_
     rintro e w3 ⟨rfl, hI3, hB3, hk3⟩
     cases hsg : signB s q' (sepT k) with
     | false =>
      rw [hsg, if_neg (by decide)] at hI3
      have HM3 := hid (HM.out.call hgw (by omega) (by omega) hI3 hB3 hk3)
      have HR : Hid (readF (d + 1) s q = (none, q')) := (HRD.out _ HWV.out).trans (by dsimp only; rw [HG.out, HNK.out, glue_no l hsg])
      clear hsg hI3 hB3 hk3
      have r0 : w3.cell? ⟨w.heap.size, 0, none⟩ = some (.int .i64 0) := (blk_cell HM3.out.res 0).trans rfl
      have r1 : w3.cell? ⟨w.heap.size, 1, none⟩ = some (.slice none 0 0) := (blk_cell HM3.out.res 1).trans rfl
      have z0 : w3.frozen? ⟨w.heap.size, 0, none⟩ = false := blk_frozen HM3.out.res 0
      have z1 : w3.frozen? ⟨w.heap.size, 1, none⟩ = false := blk_frozen HM3.out.res 1
      go_wp2_with fail
      have HF := hid ((HM3.out.fin.put hgw hw0 (.int .i64 0) (.slice none 0 0)))
      clear r0 r1 z0 z1
      generalize ((w3.setCell ⟨w.heap.size, 0, none⟩ (.int .i64 0)).setCell ⟨w.heap.size, 1, none⟩ (.slice none 0 0)) = WF at HF ⊢
      exact bodyPost_ret (results_ct (p := 4) (u := 5) (ty := 59) rfl _ _ w.heap.size 59 _ (0, 0) _ rfl HF.out.res Tryz.underlying59 rfl (by kernel_rfl)) rfl (fail_post HF.out HR.out)
     | true =>
      rw [hsg, if_pos rfl] at hI3
      have HM3 := hid (HM.out.call hgw (by omega) (by omega) hI3 hB3 hk3)
      have HO3 := hid (Kd.R_keep HO.out hk3 (fun _ h => h.1))
      have HSG := hid hsg
      clear hsg hI3 hB3 hk3
      go_wp2_with fail
      refine (HIH.out hd1 (by omega) (q' + 1) w0 w3 HM3.out.rd HM3.out.below).mono ?_
      rintro e w4 ⟨⟨kd2, A2, n2, c2, ok2, rfl, hok, hno⟩, hI4, hB4, hk4⟩
      obtain ⟨q4, hq4⟩ : ∃ q4, q4 = (readF d s (q' + 1)).2 := ⟨_, rfl⟩
      rw [<- hq4] at hI4
      have h38 := blk_lt HM3.out.tree
      have hw3 := HM3.out.keep.1
      have HM4 := hid (HM3.out.call hgw (by omega) (by omega) hI4 hB4 hk4)
      have HO4 := hid (Kd.R_keep HO3.out hk4 (fun _ h => h.1))
      have HOK := hid hok; have HNO := hid hno; have HQ4 := hid hq4
      have h48 := blk_lt HM4.out.tree
      clear hok hno hI4 hB4 hk4 hq4
      cases ok2 with
      | false =>
       have HR : Hid (readF (d + 1) s q = (none, q4)) := (HRD.out _ HWV.out).trans (by dsimp only; rw [HG.out, HNK.out, glue_bad l HSG.out (Prod.ext (HNO.out rfl) HQ4.out.symm)])
       have r0 : w4.cell? ⟨w.heap.size, 0, none⟩ = some (.int .i64 0) := (blk_cell HM4.out.res 0).trans rfl
       have r1 : w4.cell? ⟨w.heap.size, 1, none⟩ = some (.slice none 0 0) := (blk_cell HM4.out.res 1).trans rfl
       have z0 : w4.frozen? ⟨w.heap.size, 0, none⟩ = false := blk_frozen HM4.out.res 0
       have z1 : w4.frozen? ⟨w.heap.size, 1, none⟩ = false := blk_frozen HM4.out.res 1
       have hz4 : w.heap.size < w4.heap.size := by omega
       go_wp2_with fail
       have HF := hid ((HM4.out.fin.put hgw hw0 (.int .i64 0) (.slice none 0 0)).alloc (.cells #[.int .i64 kd2, .slice A2 n2 c2] 59))
       clear r0 r1 z0 z1
       generalize ((w4.setCell ⟨w.heap.size, 0, none⟩ (.int .i64 0)).setCell ⟨w.heap.size, 1, none⟩ (.slice none 0 0)).alloc (.cells #[.int .i64 kd2, .slice A2 n2 c2] 59) = WF at HF ⊢
       exact bodyPost_ret (results_ct (p := 4) (u := 5) (ty := 59) rfl _ _ w.heap.size 59 _ (0, 0) _ rfl HF.out.res Tryz.underlying59 rfl (by kernel_rfl)) rfl (fail_post HF.out HR.out)
      | true =>
       obtain ⟨l2, hr2, hR2⟩ := HOK.out rfl
       have HRF : Hid (readF d s (q' + 1) = (some ⟨kd2, l2⟩, q4)) := Prod.ext hr2 HQ4.out.symm
       have HGN : Hid (argsF (readF d) x.f2.toNat 0 s q1 = glue (l ++ [⟨kd2, l2⟩]) (argsF (readF d) (x.f2.toNat - (k + 1)) (k + 1) s q4)) := by
        unfold Hid
        rw [HG.out, HNK.out, glue_on l HSG.out HRF.out]
       have HP : Hid (k59.M (w4.alloc (.cells #[.int .i64 kd2, .slice A2 n2 c2] 59)) w.heap.size (fun k' => (k' ≠ g ∧ k' ≠ w.heap.size ∧ k' ≠ T6 + 1) ∧ some k' ≠ (Value.slice A k c).ownBlock) (⟨kd2, l2⟩ : S59) [.int .i64 kd2, .slice A2 n2 c2]) := by
        have h1 := Kd.R_newR hR2 HO3.out
        have h2 := Kd.R_bound h1
        have h3 := Kd.R_mono (ok' := fun k' => (k' ≠ g ∧ k' ≠ w.heap.size ∧ k' ≠ T6 + 1) ∧ some k' ≠ (Value.slice A k c).ownBlock) h2 (fun k' hk' => ⟨⟨hk'.1.1, by omega, by omega⟩, hk'.1.2⟩)
        exact k59_mkM _ _ _ ⟨kd2, l2⟩ (Kd.R_alloc (Kd.R_lower h3 hw3) _)
       have HO5 := hid (Kd.R_alloc HO4.out (.cells #[.int .i64 kd2, .slice A2 n2 c2] 59))
       have HM5 := hid (HM4.out.on (below_alloc (Below.refl _ _) (.cells #[.int .i64 kd2, .slice A2 n2 c2] 59)))
       have HN5 := hid (heap_alloc_new w4 (.cells #[.int .i64 kd2, .slice A2 n2 c2] 59))
       have e1 : w4.cell? ⟨T6 + 1, 1, none⟩ = some (.slice A k c) := (blk_cell HM4.out.tree 1).trans rfl
       clear hr2 hR2
       go_upto_region 13 with fail
       have e5 : (w4.alloc (.cells #[.int .i64 kd2, .slice A2 n2 c2] 59)).cell? ⟨T6 + 1, 1, none⟩ = some (.slice A k c) := (blk_cell HM5.out.tree 1).trans rfl
       have n0 : (w4.alloc (.cells #[.int .i64 kd2, .slice A2 n2 c2] 59)).cell? ⟨w4.heap.size, 0, none⟩ = some (.int .i64 kd2) := (blk_cell HN5.out 0).trans rfl
       have n1 : (w4.alloc (.cells #[.int .i64 kd2, .slice A2 n2 c2] 59)).cell? ⟨w4.heap.size, 1, none⟩ = some (.slice A2 n2 c2) := (blk_cell HN5.out 1).trans rfl
       have h5s : w.heap.size <= (w4.alloc (.cells #[.int .i64 kd2, .slice A2 n2 c2] 59)).heap.size := HM5.out.keep.1
       have h58 := blk_lt HM5.out.tree
       clear e1
       generalize w4.alloc (.cells #[.int .i64 kd2, .slice A2 n2 c2] 59) = w5 at *
       generalize w4.heap.size = T10 at *
       go_wp2_with (at_builtin; refine Kd.R_append k59 (w0 := w5) w.heap.size rfl _ _ 57 59 (.agg #[.int .i64 0, .slice none 0 0]) 32 rfl Tryz.underlying57 info59 rfl (by decide) (by decide) (.slice A k c) l (⟨kd2, l2⟩ : S59) [.int .i64 kd2, .slice A2 n2 c2] (fun k' => k' ≠ g ∧ k' ≠ w.heap.size ∧ k' ≠ T6 + 1) (fun k' => (k' ≠ g ∧ k' ≠ w.heap.size ∧ k' ≠ T6 + 1) ∧ some k' ≠ (Value.slice A k c).ownBlock) rfl rfl HP.out (fun _ h => h) ?cf HO5.out (Below.refl _ _) h5s ?c1 ?_)
       case cf => exact fun k' hk' => ⟨by omega, by omega, by omega⟩
       case c1 => rw [HLK.out]; omega
       intro v1 w6 hO6 _ hg6 _
       have HM6 := hid (HM5.out.grown hg6 (Kd.R_away HO5.out (fun _ h => h.1)) (Kd.R_away HO5.out (fun _ h => h.2.1)) (Kd.R_ne HO5.out HM5.out.word (by decide)) (Kd.R_away HO5.out (fun _ h => h.2.2)) hw0 (Kd.R_base HO5.out))
       obtain ⟨A6, c6, hv6⟩ := Kd.R_slice hO6
       rw [List.length_append, HLK.out, List.length_singleton] at hv6
       subst hv6
       have HO6 := hid hO6
       clear hO6 hg6 e5 n0 n1
       have e6 : w6.cell? ⟨T6 + 1, 1, none⟩ = some (.slice A k c) := (blk_cell HM6.out.tree 1).trans rfl
       have f6 : w6.frozen? ⟨T6 + 1, 1, none⟩ = false := blk_frozen HM6.out.tree 1
       go_wp2_with fail
       have HM7 := hid (HM6.out.setv hgw (by omega) (by omega) hw0 (.slice A6 (k + 1) c6))
       have HO7 := hid (Kd.R_far HO6.out (p := ⟨T6 + 1, 1, none⟩) (fun _ h => h.2.2) (.slice A6 (k + 1) c6))
       clear e6 f6
       generalize w6.setCell ⟨T6 + 1, 1, none⟩ (.slice A6 (k + 1) c6) = w7 at *
       go_roundg m
       case measure => omega
       case rel => exact ⟨k + 1, q4, l ++ [⟨kd2, l2⟩], by omega, by go_num, by rw [List.length_append, HLK.out]; rfl, A6, c6, ⟨HM7.out⟩, ⟨HO7.out⟩, ⟨HGN.out⟩⟩
    ·have t0 : decide ((k : Int) < x.f2) = false := by rw [decide_eq_false_iff_not]; exact hlt
     have hkx : x.f2 = (k : Int) := by omega
     have HG0 : Hid (argsF (readF d) x.f2.toNat 0 s q1 = (some l, q')) := by
      unfold Hid
      rw [HG.out, show x.f2.toNat - k = 0 by omega]
      simp [argsF, glue]
     have HME := hid HM.out
     have hfx : x = ⟨x.f0, x.f1, (k : Int)⟩ := by rw [<- hkx]
     rw [hfx] at HME
     by_cases hk0 : k = 0
     ·have t1 : ((k : Int) == 0) = true := by rw [beq_iff_eq]; omega
      have HR : Hid (readF (d + 1) s q = (some ⟨x.f0, l⟩, q')) := (HRD.out _ HWV.out).trans (by dsimp only; rw [HG0.out]; dsimp only; rw [if_pos (by omega)])
      clear hfx hk0
      go_wp2_with fail
      refine start_ (n := 10) (S := fun w' => w'.cell? ⟨T6 + 1, 0, none⟩ = some (.int .i64 x.f0) ∧ w'.cell? ⟨T6 + 1, 1, none⟩ = some (.slice A k c) ∧ w'.cell? ⟨T6, 2, none⟩ = some (.int .i64 (k : Int))) (ds := [8]) (bts 10 0) (by kernel_rfl) rfl rfl ⟨(blk_cell (w := wr.drew) HME.out.tree 0).trans rfl, (blk_cell (w := wr.drew) HME.out.tree 1).trans rfl, (blk_cell (w := wr.drew) HME.out.word 2).trans rfl⟩ (fun hHeld => ?_)
      have HMa : Hid (TyMem w0 w wr.drew g s q' T6 (T6 + 1) ⟨x.f0, x.f1, k⟩ (.slice A k c)) := hid (HME.out.on (Below.drew (Below.refl _ _)))
      have HOa : Hid (k59.R 59 wr.drew w.heap.size (fun k => k ≠ g ∧ k ≠ w.heap.size ∧ k ≠ T6 + 1) (.slice A k c) l) := hid (Kd.R_drew HO.out)
      generalize wr.drew = Wa at HMa HOa hHeld ⊢
      refine pure_ (i := 1) (N := some 53) (bts 10 2) rfl rfl (by kernel_rfl) (fun _ _ _ h => h) (Or.inl ⟨by rfl, by intro w'; go_simp; with_reducible rfl⟩) (by simp only [Act.put, pq1, pq2, pq3, i64_w, i32_w]; rfl) ?_
      refine take_ (i := 2) (N := some 54) (bts 10 6) rfl rfl (by kernel_rfl) (fun _ _ _ h => h) (Or.inl ⟨by rfl, by intro w' hSw; (try dsimp only at hSw); go_simp; with_reducible rfl⟩) (by assumption) (by simp only [Act.put, pq1, pq2, pq3, i64_w, i32_w]; rfl) ?_
      refine pure_ (i := 3) (N := some 55) (bts 10 14) rfl rfl (by kernel_rfl) (fun _ _ _ h => h) (Or.inl ⟨by rfl, by intro w'; go_simp; with_reducible rfl⟩) (by simp only [Act.put, pq1, pq2, pq3, i64_w, i32_w]; rfl) ?_
      refine pure_ (i := 4) (N := some 56) (bts 10 30) rfl rfl (by kernel_rfl) (fun _ _ _ h => h) (Or.inl ⟨by rfl, by intro w'; go_simp; with_reducible rfl⟩) (by simp only [Act.put, pq1, pq2, pq3, i64_w, i32_w]; rfl) ?_
      refine take_ (i := 0) (N := some 52) (bts 10 31) rfl rfl (by kernel_rfl) (fun _ _ _ h => h) (Or.inl ⟨by rfl, by intro w' hSw; (try dsimp only at hSw); go_simp; with_reducible rfl⟩) (by assumption) (by simp only [Act.put, pq1, pq2, pq3, i64_w, i32_w]; rfl) ?_
      refine pure_ (i := 5) (N := some 57) (v := undef) (a' := ?_) #[true, true, true, true, true, true, false, false, false, false] rfl rfl (by kernel_rfl) (fun _ _ _ h => h) (Or.inr ⟨by rfl, rfl⟩) ?_ ?_
      rotate_left
      ·simp only [Act.put, pq1, pq2, pq3, i64_w, i32_w]
       rfl
      refine pure_ (i := 6) (N := some 58) (v := undef) (a' := ?_) #[true, true, true, true, true, true, true, false, false, false] rfl rfl (by kernel_rfl) (fun _ _ _ h => h) (Or.inr ⟨by rfl, rfl⟩) ?_ ?_
      rotate_left
      ·simp only [Act.put, pq1, pq2, pq3, i64_w, i32_w]
       rfl
      refine pure_ (i := 7) (N := some 59) (bts 10 255) rfl rfl (by kernel_rfl) (fun _ _ _ h => h) (Or.inl ⟨by rfl, by intro w'; go_simp; with_reducible rfl⟩) (by simp only [Act.put, pq1, pq2, pq3, i64_w, i32_w]; rfl) ?_
      have z0 : Wa.cell? ⟨w.heap.size, 0, none⟩ = some (.int .i64 0) := (blk_cell HMa.out.res 0).trans rfl
      have z1 : Wa.cell? ⟨w.heap.size, 1, none⟩ = some (.slice none 0 0) := (blk_cell HMa.out.res 1).trans rfl
      have y0 : Wa.frozen? ⟨w.heap.size, 0, none⟩ = false := blk_frozen HMa.out.res 0
      have y1 : Wa.frozen? ⟨w.heap.size, 1, none⟩ = false := blk_frozen HMa.out.res 1
      refine last_ (i := 8) (N := none) (bts 10 511) rfl rfl (by kernel_rfl) (by decide) (fun K hK => ?_)
      refine skip_ (w1 := ?_) (by rfl) rfl ?_ ?_
      rotate_left
      ·go_simp
       rfl
      refine hK.out _ _ ?_
      clear hK K hHeld z0 z1 y0 y1
      refine pure_ (i := 9) (N := some 5) (bts 10 1023) rfl rfl (by kernel_rfl) (fun _ _ _ h => h) (Or.inl ⟨by rfl, by intro w'; go_simp; with_reducible rfl⟩) (by simp only [Act.put, pq1, pq2, pq3, i64_w, i32_w]; rfl) ?_
      refine done_ (by kernel_rfl) ?_
      have HF := hid (HMa.out.fin.put hgw hw0 (.int .i64 x.f0) (.slice A k c))
      have HOF := hid (Kd.R_far (Kd.R_far HOa.out (p := ⟨w.heap.size, 0, none⟩) (fun _ h => h.2.1) (.int .i64 x.f0)) (p := ⟨w.heap.size, 1, none⟩) (fun _ h => h.2.1) (.slice A k c))
      generalize (Wa.setCell ⟨w.heap.size, 0, none⟩ (.int .i64 x.f0)).setCell ⟨w.heap.size, 1, none⟩ (.slice A k c) = WF at HF HOF ⊢
      go_wp2_with fail
      exact bodyPost_ret (results_ct (p := 4) (u := 5) (ty := 59) rfl _ _ w.heap.size 59 _ (0, 0) _ rfl HF.out.res Tryz.underlying59 rfl (by kernel_rfl)) rfl (good_post HF.out HOF.out HR.out)
     ·have t1 : ((k : Int) == 0) = false := by rw [beq_eq_false_iff_ne]; omega
      have HR : Hid (∀ bv, bv = signB s q' 41 -> readF (d + 1) s q = (if bv = true then some (⟨x.f0, l⟩ : S59) else none, if bv = true then q' + 1 else q')) := by
       rintro bv rfl
       rw [HRD.out _ HWV.out]
       dsimp only
       rw [HG0.out]
       dsimp only
       rw [if_neg (by omega)]
       cases signB s q' 41 <;> rfl
      clear hfx hk0
      go_wp2_with fail
      refine start_ (n := 10) (S := fun w' => w'.cell? ⟨T6 + 1, 0, none⟩ = some (.int .i64 x.f0) ∧ w'.cell? ⟨T6 + 1, 1, none⟩ = some (.slice A k c) ∧ w'.cell? ⟨T6, 2, none⟩ = some (.int .i64 (k : Int))) (ds := [8]) (bts 10 0) (by kernel_rfl) rfl rfl ⟨(blk_cell (w := wr.drew) HME.out.tree 0).trans rfl, (blk_cell (w := wr.drew) HME.out.tree 1).trans rfl, (blk_cell (w := wr.drew) HME.out.word 2).trans rfl⟩ (fun hHeld => ?_)
      have HMa : Hid (TyMem w0 w wr.drew g s q' T6 (T6 + 1) ⟨x.f0, x.f1, k⟩ (.slice A k c)) := hid (HME.out.on (Below.drew (Below.refl _ _)))
      have HOa : Hid (k59.R 59 wr.drew w.heap.size (fun k => k ≠ g ∧ k ≠ w.heap.size ∧ k ≠ T6 + 1) (.slice A k c) l) := hid (Kd.R_drew HO.out)
      generalize wr.drew = Wa at HMa HOa hHeld ⊢
      refine pure_ (i := 1) (N := some 53) (bts 10 2) rfl rfl (by kernel_rfl) (fun _ _ _ h => h) (Or.inl ⟨by rfl, by intro w'; go_simp; with_reducible rfl⟩) (by simp only [Act.put, pq1, pq2, pq3, i64_w, i32_w]; rfl) ?_
      refine take_ (i := 2) (N := some 54) (bts 10 6) rfl rfl (by kernel_rfl) (fun _ _ _ h => h) (Or.inl ⟨by rfl, by intro w' hSw; (try dsimp only at hSw); go_simp; with_reducible rfl⟩) (by assumption) (by simp only [Act.put, pq1, pq2, pq3, i64_w, i32_w]; rfl) ?_
      refine pure_ (i := 3) (N := some 55) (bts 10 14) rfl rfl (by kernel_rfl) (fun _ _ _ h => h) (Or.inl ⟨by rfl, by intro w'; go_simp; with_reducible rfl⟩) (by simp only [Act.put, pq1, pq2, pq3, i64_w, i32_w]; rfl) ?_
      refine pure_ (i := 4) (N := some 56) (bts 10 30) rfl rfl (by kernel_rfl) (fun _ _ _ h => h) (Or.inl ⟨by rfl, by intro w'; go_simp; with_reducible rfl⟩) (by simp only [Act.put, pq1, pq2, pq3, i64_w, i32_w]; rfl) ?_
      refine take_ (i := 0) (N := some 52) (bts 10 31) rfl rfl (by kernel_rfl) (fun _ _ _ h => h) (Or.inl ⟨by rfl, by intro w' hSw; (try dsimp only at hSw); go_simp; with_reducible rfl⟩) (by assumption) (by simp only [Act.put, pq1, pq2, pq3, i64_w, i32_w]; rfl) ?_
      refine pure_ (i := 5) (N := some 57) (bts 10 63) rfl rfl (by kernel_rfl) (fun _ _ _ h => h) (Or.inl ⟨by rfl, by intro w'; go_simp; with_reducible rfl⟩) (by simp only [Act.put, pq1, pq2, pq3, i64_w, i32_w]; rfl) ?_
      refine one_ (i := 6) (N := some 58) (bts 10 127) rfl rfl (by kernel_rfl) (by decide) (fun K hK => ?_)
      refine goes_ Tryz.func80 (by kernel_rfl) rfl #[.pointer (some ⟨g, 0, none⟩), .int .u8 41] (by rfl) rfl rfl (by (try simp only [List.map_toArray, List.map_cons, List.map_nil]); first | done | rfl) ?_
      refine (sign_any g s q' 41 w0 Wa HMa.out.rd HMa.out.below hs).mono ?_
      rintro e Wb ⟨rfl, hIb, hBb, hkb⟩
      refine ⟨_, rfl, ?_⟩
      have HMb := hid (HMa.out.call hgw (by omega) (by omega) hIb hBb hkb)
      have HOb := hid (Kd.R_keep HOa.out hkb (fun _ h => h.1))
      clear hIb hBb hkb HMa HOa
      have hSb : Wb.cell? ⟨T6 + 1, 0, none⟩ = some (.int .i64 x.f0) ∧ Wb.cell? ⟨T6 + 1, 1, none⟩ = some (.slice A k c) ∧ Wb.cell? ⟨T6, 2, none⟩ = some (.int .i64 (k : Int)) := ⟨(blk_cell (w := Wb) HMb.out.tree 0).trans rfl, (blk_cell (w := Wb) HMb.out.tree 1).trans rfl, (blk_cell (w := Wb) HMb.out.word 2).trans rfl⟩
      refine hK.out _ _ hSb (fun hHeld => ?_)
      clear hK K hSb
      obtain ⟨bv, hbv⟩ : ∃ bv, bv = signB s q' 41 := ⟨_, rfl⟩
      rw [<- hbv] at HMb ⊢
      have HBV := hid hbv
      clear hbv
      refine norm_ (a' := ?_) ?_ ?_
      rotate_left
      ·show Act.put _ (some 58) _ = _
       simp only [Act.put, pq1, pq2, pq3, i64_w, i32_w]
       rfl
      refine pure_ (i := 7) (N := some 59) (bts 10 255) rfl rfl (by kernel_rfl) (fun _ _ _ h => h) (Or.inl ⟨by rfl, by intro w'; go_simp; with_reducible rfl⟩) (by simp only [Act.put, pq1, pq2, pq3, i64_w, i32_w]; rfl) ?_
      have z0 : Wb.cell? ⟨w.heap.size, 0, none⟩ = some (.int .i64 0) := (blk_cell HMb.out.res 0).trans rfl
      have z1 : Wb.cell? ⟨w.heap.size, 1, none⟩ = some (.slice none 0 0) := (blk_cell HMb.out.res 1).trans rfl
      have y0 : Wb.frozen? ⟨w.heap.size, 0, none⟩ = false := blk_frozen HMb.out.res 0
      have y1 : Wb.frozen? ⟨w.heap.size, 1, none⟩ = false := blk_frozen HMb.out.res 1
      refine last_ (i := 8) (N := none) (bts 10 511) rfl rfl (by kernel_rfl) (by decide) (fun K hK => ?_)
      refine skip_ (w1 := ?_) (by rfl) rfl ?_ ?_
      rotate_left
      ·go_simp
       rfl
      refine hK.out _ _ ?_
      clear hK K hHeld z0 z1 y0 y1
      refine pure_ (i := 9) (N := some 5) (bts 10 1023) rfl rfl (by kernel_rfl) (fun _ _ _ h => h) (Or.inl ⟨by rfl, by intro w'; go_simp; with_reducible rfl⟩) (by simp only [Act.put, pq1, pq2, pq3, i64_w, i32_w]; rfl) ?_
      refine done_ (by kernel_rfl) ?_
      have HF := hid (HMb.out.fin.put hgw hw0 (.int .i64 x.f0) (.slice A k c))
      have HOF := hid (Kd.R_far (Kd.R_far HOb.out (p := ⟨w.heap.size, 0, none⟩) (fun _ h => h.2.1) (.int .i64 x.f0)) (p := ⟨w.heap.size, 1, none⟩) (fun _ h => h.2.1) (.slice A k c))
      generalize (Wb.setCell ⟨w.heap.size, 0, none⟩ (.int .i64 x.f0)).setCell ⟨w.heap.size, 1, none⟩ (.slice A k c) = WF at HF HOF ⊢
      go_wp2_with fail
      exact bodyPost_ret (results_ct (p := 4) (u := 5) (ty := 59) rfl _ _ w.heap.size 59 _ (0, 0) _ rfl HF.out.res Tryz.underlying59 rfl (by kernel_rfl)) rfl (last_post HF.out HOF.out (HR.out bv HBV.out))
end Go.Proofs.YtamfloegflejnaaGreatDoor
