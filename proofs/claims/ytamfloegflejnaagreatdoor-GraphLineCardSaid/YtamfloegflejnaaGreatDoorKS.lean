/-
 graph's line of a node: its text.
 graph's Show: the text of a right pipeline.
-/
import Derived.Test.YtamfloegflejnaaGreatDoorKP
set_option linter.unusedVariables false
set_option linter.unusedSimpArgs false
set_option maxHeartbeats 1000000
set_option maxRecDepth 100000
namespace Go.Proofs.YtamfloegflejnaaGreatDoor
open Lib (hid)
open Go.RowKit Go.Proofs.YtamfloegflejnaaGreatDoorW.PrintWords Go.Proofs.YtamfloegflejnaaGreatDoorW.PrintLast Go.Proofs.YtamfloegflejnaaGreatDoorW.PrintMore PGraphLines
/-- A line's parts. -/
def partsT (x : S63) : List (List UInt8) :=
 if x.f0 = 1 then [[115, 111, 117, 114, 99, 101], showT 6 x.f4]
 else if x.f0 = 2 then [[101, 97, 99, 104], placesT x.f1, placesT x.f2, x.f3.data.toList]
 else if x.f0 = 3 then [[119, 105, 110, 100, 111, 119], placesT x.f1, Lib.itoa x.f5.f0, Lib.itoa x.f5.f1, Lib.itoa x.f5.f2, Lib.itoa x.f5.f3]
 else if x.f0 = 4 then [[103, 114, 111, 117, 112], placesT x.f1, Lib.itoa x.f6.f0, Lib.itoa x.f6.f1, Lib.itoa x.f6.f2, (if x.f6.f3 = true then [97, 99, 99] else [100, 105, 115]), x.f3.data.toList]
 else if x.f0 = 5 then [[102, 108, 97, 116, 116, 101, 110], placesT x.f1]
 else [[115, 105, 110, 107], placesT x.f1]
/-- A node's line without its end. -/
def bodyT (x : S63) : List UInt8 := Lib.join (partsT x) [32]
def lineT (x : S63) : List UInt8 := bodyT x ++ [10]
def I64 (n : Int) : Prop := -9223372036854775808 <= n ∧ n <= 9223372036854775807
/-- A node whose line can be told. -/
structure Fit (x : S63) : Prop where
 op : 1 <= x.f0 ∧ x.f0 <= 6
 ins : x.f1.length <= 1000 ∧ ∀ k ∈ x.f1, I64 k
 sides : x.f2.length <= 1000 ∧ ∀ k ∈ x.f2, I64 k
 text : x.f3.size <= 1000000
 type : x.f0 = 1 -> rightT 6 x.f4 = true
 fn : I64 x.f5.f0 ∧ I64 x.f5.f1 ∧ I64 x.f5.f2 ∧ I64 x.f5.f3
 trig : I64 x.f6.f0 ∧ I64 x.f6.f1 ∧ I64 x.f6.f2
theorem placesT_len (l : List Int) (hn : l.length <= 1000) (hr : ∀ k ∈ l, I64 k) : (placesT l).length <= 22001 := by
 unfold placesT
 split
 ·decide
 ·have := join_le (l.map Lib.itoa) 44 21 (fun x hx => by
   obtain ⟨n, hn, rfl⟩ := List.mem_map.1 hx
   exact Lib.itoa_length_le n (hr n hn).1 (hr n hn).2)
  rw [List.length_map] at this
  omega
theorem put_end (l : List UInt8) : (⟨l.toArray⟩ : ByteArray) ++ ⟨#[10]⟩ = ⟨(l ++ [10]).toArray⟩ := by
 apply ByteArray.ext
 rw [ByteArray.data_append]
 simp
/-- Join of a row that was just laid. -/
theorem row_join (g : Nat) (xs : List ByteArray) (n : Nat) (hn : n = xs.length) (c : UInt8) (w : World) (hg : w.heap[g]? = some (.cells (xs.map Value.string).toArray 9)) (h1 : xs.length <= 100) (h2 : ∀ x ∈ xs, x.size <= 1000000) :
  Calls Tryz.prog 53 #[.slice (some ⟨g, 0, none⟩) n n, .string ⟨#[c]⟩] w fun e w' => (∃ s : ByteArray, e = .returned (.string s) ∧ s = ⟨(Lib.join (xs.map (·.data.toList)) [c]).toArray⟩ ∧ s.size <= 100000100) ∧ Below w.heap.size w w' := by
 subst hn
 have hle := join_le (xs.map (·.data.toList)) c 1000000 (fun x hx => by
   obtain ⟨y, hy, rfl⟩ := List.mem_map.1 hx
   exact h2 y hy)
 rw [List.length_map] at hle
 refine (Tryz.strings_Join g 0 xs.length xs ⟨#[c]⟩ w ?_ (blk_lt hg) (by omega) (Nat.le_refl _) ?_).mono (fun e w' h => ⟨⟨_, h.1, rfl, ?_⟩, h.2⟩)
 ·intro j x hj
  rw [Nat.zero_add]
  refine (blk_cell hg j).trans ?_
  rw [List.getElem?_toArray, List.getElem?_map, hj]
  rfl
 ·show (Lib.join (xs.map (·.data.toList)) [c]).length <= _
  omega
 ·show (Lib.join (xs.map (·.data.toList)) [c]).length <= _
  omega
theorem line_1 (ins sides : List Int) (tx : ByteArray) (kd : Int) (kids : List S59) (a b c d e0 e1 e2 : Int) (e3 : Bool) (A1 A2 A5 : Option Addr) (c1 c2 c5 : Nat) (w : World) (hE : Env w) (hF : Fit ⟨1, ins, sides, tx, ⟨kd, kids⟩, ⟨a, b, c, d⟩, ⟨e0, e1, e2, e3⟩⟩) (h1 : ins.length <= c1) (k1 : Kd.C (Kd.int .i64) w A1 ins.length ins) (h2 : sides.length <= c2) (k2 : Kd.C (Kd.int .i64) w A2 sides.length sides) (h5 : kids.length <= c5) (k5 : k59.C w A5 kids.length kids) :
  Calls Tryz.prog 28 #[.agg #[.int .i64 1, .slice A1 ins.length c1, .slice A2 sides.length c2, .string tx, .int .i64 kd, .slice A5 kids.length c5, .int .i64 a, .int .i64 b, .int .i64 c, .int .i64 d, .int .i64 e0, .int .i64 e1, .int .i64 e2, .bool e3]] w fun e w' => e = .returned (.string ⟨(lineT ⟨1, ins, sides, tx, ⟨kd, kids⟩, ⟨a, b, c, d⟩, ⟨e0, e1, e2, e3⟩⟩).toArray⟩) ∧ Below w.heap.size w w' := by
 have hb0 := below_alloc (Below.refl w.heap.size w) (.cells #[.int .i64 1, .slice A1 ins.length c1, .slice A2 sides.length c2, .string tx, .int .i64 kd, .slice A5 kids.length c5, .int .i64 a, .int .i64 b, .int .i64 c, .int .i64 d, .int .i64 e0, .int .i64 e1, .int .i64 e2, .bool e3] 63)
 have HX0 := hid (heap_alloc_new w (.cells #[.int .i64 1, .slice A1 ins.length c1, .slice A2 sides.length c2, .string tx, .int .i64 kd, .slice A5 kids.length c5, .int .i64 a, .int .i64 b, .int .i64 c, .int .i64 d, .int .i64 e0, .int .i64 e1, .int .i64 e2, .bool e3] 63))
 have HE := hid (hE.later hb0); have HF := hid hF
 have K1 := hid (Kd.C_below k1 hb0); have K2 := hid (Kd.C_below k2 hb0); have K5 := hid (Kd.C_below k5 hb0)
 have HB0 := hid hb0
 have hpl := placesT_len ins hF.ins.1 hF.ins.2
 have HPL := hid hpl
 clear hb0 hE hF k1 k2 k5 hpl
 go_enter Tryz.func28, Tryz.ntmps28
 go_wp2_with fail
 generalize w.alloc (.cells #[.int .i64 1, .slice A1 ins.length c1, .slice A2 sides.length c2, .string tx, .int .i64 kd, .slice A5 kids.length c5, .int .i64 a, .int .i64 b, .int .i64 c, .int .i64 d, .int .i64 e0, .int .i64 e1, .int .i64 e2, .bool e3] 63) = w0 at *
 refine (places_show ins A1 c1 w0 HE.out HF.out.ins.1 h1 HF.out.ins.2 K1.out).mono ?_
 rintro e w1 ⟨rfl, hb1⟩
 have HX := hid ((hb1.block _ (blk_lt HX0.out)).trans HX0.out)
 have HB := hid hb1
 clear hb1 HX0
 have m0 : w1.cell? ⟨w.heap.size, 0, none⟩ = some (.int .i64 1) := (blk_cell HX.out 0).trans rfl
 have m4 : w1.cell? ⟨w.heap.size, 4, none⟩ = some (.int .i64 kd) := (blk_cell HX.out 4).trans rfl
 have m5 : w1.cell? ⟨w.heap.size, 5, none⟩ = some (.slice A5 kids.length c5) := (blk_cell HX.out 5).trans rfl
 have hz := blk_lt HX.out
 go_wp2_with fail
 refine (kind_show ⟨kd, kids⟩ A5 c5 w1 (HF.out.type rfl) h5 (Kd.C_below K5.out HB.out)).mono ?_
 rintro e w2 ⟨rfl, hb2⟩
 have HB2 := hid (HB.out.trans (hb2.mono HB.out.size))
 clear hb2 m0 m4 m5
 go_wp2_with fail
 have hS := row_join w2.heap.size [⟨#[115, 111, 117, 114, 99, 101]⟩, ⟨(showT 6 ⟨kd, kids⟩).toArray⟩] 2 rfl 32 (w2.alloc (.cells #[.string ⟨#[115, 111, 117, 114, 99, 101]⟩, .string ⟨(showT 6 ⟨kd, kids⟩).toArray⟩] 9)) (heap_alloc_new w2 _) (by show (2 : Nat) <= 100; decide) ?_
 rotate_left
 ·have hpl := HPL.out
  have HFX := HF.out
  intro x hx
  simp only [List.mem_cons, List.not_mem_nil, or_false] at hx
  rcases hx with rfl | rfl
  ·decide
  ·have := (showT_len 6 ⟨kd, kids⟩ (HFX.type rfl)).1; show (showT 6 ⟨kd, kids⟩).length <= _; omega
 have HS := hid hS
 have hba := below_alloc HB2.out (.cells #[.string ⟨#[115, 111, 117, 114, 99, 101]⟩, .string ⟨(showT 6 ⟨kd, kids⟩).toArray⟩] 9)
 have HBA := hid hba
 clear hS hba hz
 generalize w2.heap.size = Nr at HS ⊢
 generalize w2.alloc (.cells #[.string ⟨#[115, 111, 117, 114, 99, 101]⟩, .string ⟨(showT 6 ⟨kd, kids⟩).toArray⟩] 9) = wr at *
 refine HS.out.mono ?_
 rintro e wj ⟨⟨sj, rfl, hsj, hsz⟩, hbj⟩
 have HSJ := hid hsj
 clear hsj
 have HBJ := hid (HB0.out.trans ((HBA.out.trans (hbj.mono HBA.out.size)).mono HB0.out.size))
 clear hbj
 go_wp2_with fail
 exact bodyPost_ret (v := .string (sj ++ ⟨#[10]⟩)) (by simp [results, Tryz.results28, go_sem]) rfl ⟨by rw [HSJ.out, put_end]; rfl, HBJ.out⟩
theorem line_6 (ins sides : List Int) (tx : ByteArray) (kd : Int) (kids : List S59) (a b c d e0 e1 e2 : Int) (e3 : Bool) (A1 A2 A5 : Option Addr) (c1 c2 c5 : Nat) (w : World) (hE : Env w) (hF : Fit ⟨6, ins, sides, tx, ⟨kd, kids⟩, ⟨a, b, c, d⟩, ⟨e0, e1, e2, e3⟩⟩) (h1 : ins.length <= c1) (k1 : Kd.C (Kd.int .i64) w A1 ins.length ins) (h2 : sides.length <= c2) (k2 : Kd.C (Kd.int .i64) w A2 sides.length sides) (h5 : kids.length <= c5) (k5 : k59.C w A5 kids.length kids) :
  Calls Tryz.prog 28 #[.agg #[.int .i64 6, .slice A1 ins.length c1, .slice A2 sides.length c2, .string tx, .int .i64 kd, .slice A5 kids.length c5, .int .i64 a, .int .i64 b, .int .i64 c, .int .i64 d, .int .i64 e0, .int .i64 e1, .int .i64 e2, .bool e3]] w fun e w' => e = .returned (.string ⟨(lineT ⟨6, ins, sides, tx, ⟨kd, kids⟩, ⟨a, b, c, d⟩, ⟨e0, e1, e2, e3⟩⟩).toArray⟩) ∧ Below w.heap.size w w' := by
 have hb0 := below_alloc (Below.refl w.heap.size w) (.cells #[.int .i64 6, .slice A1 ins.length c1, .slice A2 sides.length c2, .string tx, .int .i64 kd, .slice A5 kids.length c5, .int .i64 a, .int .i64 b, .int .i64 c, .int .i64 d, .int .i64 e0, .int .i64 e1, .int .i64 e2, .bool e3] 63)
 have HX0 := hid (heap_alloc_new w (.cells #[.int .i64 6, .slice A1 ins.length c1, .slice A2 sides.length c2, .string tx, .int .i64 kd, .slice A5 kids.length c5, .int .i64 a, .int .i64 b, .int .i64 c, .int .i64 d, .int .i64 e0, .int .i64 e1, .int .i64 e2, .bool e3] 63))
 have HE := hid (hE.later hb0); have HF := hid hF
 have K1 := hid (Kd.C_below k1 hb0); have K2 := hid (Kd.C_below k2 hb0); have K5 := hid (Kd.C_below k5 hb0)
 have HB0 := hid hb0
 have hpl := placesT_len ins hF.ins.1 hF.ins.2
 have HPL := hid hpl
 clear hb0 hE hF k1 k2 k5 hpl
 go_enter Tryz.func28, Tryz.ntmps28
 go_wp2_with fail
 generalize w.alloc (.cells #[.int .i64 6, .slice A1 ins.length c1, .slice A2 sides.length c2, .string tx, .int .i64 kd, .slice A5 kids.length c5, .int .i64 a, .int .i64 b, .int .i64 c, .int .i64 d, .int .i64 e0, .int .i64 e1, .int .i64 e2, .bool e3] 63) = w0 at *
 refine (places_show ins A1 c1 w0 HE.out HF.out.ins.1 h1 HF.out.ins.2 K1.out).mono ?_
 rintro e w1 ⟨rfl, hb1⟩
 have HX := hid ((hb1.block _ (blk_lt HX0.out)).trans HX0.out)
 have HB := hid hb1
 clear hb1 HX0
 have m0 : w1.cell? ⟨w.heap.size, 0, none⟩ = some (.int .i64 6) := (blk_cell HX.out 0).trans rfl
 have hz := blk_lt HX.out
 go_wp2_with fail
 have hS := row_join w1.heap.size [⟨#[115, 105, 110, 107]⟩, ⟨(placesT ins).toArray⟩] 2 rfl 32 (w1.alloc (.cells #[.string ⟨#[115, 105, 110, 107]⟩, .string ⟨(placesT ins).toArray⟩] 9)) (heap_alloc_new w1 _) (by show (2 : Nat) <= 100; decide) ?_
 rotate_left
 ·have hpl := HPL.out
  have HFX := HF.out
  intro x hx
  simp only [List.mem_cons, List.not_mem_nil, or_false] at hx
  rcases hx with rfl | rfl
  ·decide
  ·show (placesT ins).length <= _; omega
 have HS := hid hS
 have hba := below_alloc HB.out (.cells #[.string ⟨#[115, 105, 110, 107]⟩, .string ⟨(placesT ins).toArray⟩] 9)
 have HBA := hid hba
 clear hS hba hz
 generalize w1.heap.size = Nr at HS ⊢
 generalize w1.alloc (.cells #[.string ⟨#[115, 105, 110, 107]⟩, .string ⟨(placesT ins).toArray⟩] 9) = wr at *
 refine HS.out.mono ?_
 rintro e wj ⟨⟨sj, rfl, hsj, hsz⟩, hbj⟩
 have HSJ := hid hsj
 clear hsj
 have HBJ := hid (HB0.out.trans ((HBA.out.trans (hbj.mono HBA.out.size)).mono HB0.out.size))
 clear hbj
 go_wp2_with fail
 exact bodyPost_ret (v := .string (sj ++ ⟨#[10]⟩)) (by simp [results, Tryz.results28, go_sem]) rfl ⟨by rw [HSJ.out, put_end]; rfl, HBJ.out⟩
theorem line_show (x : S63) (A1 A2 A5 : Option Addr) (c1 c2 c5 : Nat) (w : World) (hE : Env w) (hF : Fit x) (ho : x.f0 = 1 ∨ x.f0 = 6) (h1 : x.f1.length <= c1) (k1 : Kd.C (Kd.int .i64) w A1 x.f1.length x.f1) (h2 : x.f2.length <= c2) (k2 : Kd.C (Kd.int .i64) w A2 x.f2.length x.f2) (h5 : x.f4.f1.length <= c5) (k5 : k59.C w A5 x.f4.f1.length x.f4.f1) :
  Calls Tryz.prog 28 #[.agg #[.int .i64 x.f0, .slice A1 x.f1.length c1, .slice A2 x.f2.length c2, .string x.f3, .int .i64 x.f4.f0, .slice A5 x.f4.f1.length c5, .int .i64 x.f5.f0, .int .i64 x.f5.f1, .int .i64 x.f5.f2, .int .i64 x.f5.f3, .int .i64 x.f6.f0, .int .i64 x.f6.f1, .int .i64 x.f6.f2, .bool x.f6.f3]] w fun e w' => e = .returned (.string ⟨(lineT x).toArray⟩) ∧ Below w.heap.size w w' := by
 obtain ⟨op, ins, sides, tx, ⟨kd, kids⟩, ⟨a, b, c, d⟩, ⟨e0, e1, e2, e3⟩⟩ := x
 dsimp only at *
 rcases ho with rfl | rfl
 ·exact line_1 ins sides tx kd kids a b c d e0 e1 e2 e3 A1 A2 A5 c1 c2 c5 w hE hF h1 k1 h2 k2 h5 k5
 ·exact line_6 ins sides tx kd kids a b c d e0 e1 e2 e3 A1 A2 A5 c1 c2 c5 w hE hF h1 k1 h2 k2 h5 k5
theorem join_parts_le (x : S63) (hF : Fit x) : (lineT x).length <= 7000008 := by
 have hpl := placesT_len x.f1 hF.ins.1 hF.ins.2
 have hps := placesT_len x.f2 hF.sides.1 hF.sides.2
 have htx : x.f3.data.toList.length <= 1000000 := by simpa using hF.text
 have ia := fun n (h : I64 n) => Lib.itoa_length_le n h.1 h.2
 have key : ∀ y ∈ partsT x, y.length <= 1000000 := by
  intro y hy
  unfold partsT at hy
  by_cases h1 : x.f0 = 1
  ·rw [if_pos h1] at hy
   simp only [List.mem_cons, List.not_mem_nil, or_false] at hy
   rcases hy with rfl | rfl
   ·decide
   ·have := (showT_len 6 x.f4 (hF.type h1)).1; omega
  rw [if_neg h1] at hy
  split at hy
  ·simp only [List.mem_cons, List.not_mem_nil, or_false] at hy
   rcases hy with rfl | rfl | rfl | rfl
   ·decide
   ·omega
   ·omega
   ·exact htx
  split at hy
  ·simp only [List.mem_cons, List.not_mem_nil, or_false] at hy
   rcases hy with rfl | rfl | rfl | rfl | rfl | rfl
   ·decide
   ·omega
   ·have := ia _ hF.fn.1; omega
   ·have := ia _ hF.fn.2.1; omega
   ·have := ia _ hF.fn.2.2.1; omega
   ·have := ia _ hF.fn.2.2.2; omega
  split at hy
  ·simp only [List.mem_cons, List.not_mem_nil, or_false] at hy
   rcases hy with rfl | rfl | rfl | rfl | rfl | rfl | rfl
   ·decide
   ·omega
   ·have := ia _ hF.trig.1; omega
   ·have := ia _ hF.trig.2.1; omega
   ·have := ia _ hF.trig.2.2; omega
   ·split <;> decide
   ·exact htx
  split at hy
  ·simp only [List.mem_cons, List.not_mem_nil, or_false] at hy
   rcases hy with rfl | rfl
   ·decide
   ·omega
  ·simp only [List.mem_cons, List.not_mem_nil, or_false] at hy
   rcases hy with rfl | rfl
   ·decide
   ·omega
 have h7 : (partsT x).length <= 7 := by
  unfold partsT
  repeat' split
  all_goals (simp only [List.length_cons, List.length_nil]; omega)
 have := join_le (partsT x) 32 1000000 key
 have h8 := Nat.mul_le_mul_right 1000001 h7
 unfold lineT bodyT
 rw [List.length_append, List.length_singleton]
 omega
set_option maxHeartbeats 1000000
set_option maxRecDepth 100000
/-- A pipeline's text. -/
def textT : List S63 -> List UInt8
 | [] => []
 | x :: r => lineT x ++ textT r
theorem textT_append (a b : List S63) : textT (a ++ b) = textT a ++ textT b := by
 induction a with
 | nil => rfl
 | cons x r ih => simp [textT, ih, List.append_assoc]
theorem textT_take (ns : List S63) (k : Nat) (h : k < ns.length) : textT (ns.take (k + 1)) = textT (ns.take k) ++ lineT ns[k] := by
 rw [List.take_succ_eq_append_getElem h, textT_append]
 simp [textT]
theorem textT_len (ns : List S63) (h : ∀ x ∈ ns, Fit x) : (textT ns).length <= ns.length * 7000008 := by
 induction ns with
 | nil => simp [textT]
 | cons x r ih =>
  have h1 := join_parts_le x (h x (by simp))
  have h2 := ih (fun y hy => h y (by simp [hy]))
  simp only [textT, List.length_append, List.length_cons, Nat.add_mul]
  omega
theorem textT_le (ns : List S63) (h : ∀ x ∈ ns, Fit x) (h32 : ns.length <= 32) : (textT ns).length <= 1000000000 := by
 have h1 := textT_len ns h
 have h2 := Nat.mul_le_mul_right 7000008 h32
 omega
theorem build_below {w w' : World} {B b : Nat} {bs : List Value} (h : Lib.IsBuilder 82 5 B b bs w) (hb : Below w.heap.size w w') : Lib.IsBuilder 82 5 B b bs w' := by
 have key : ∀ p, Lib.BuilderAt 82 5 B b p bs w -> Lib.BuilderAt 82 5 B b p bs w' := by
  rintro p ⟨hB, v, hbk, hown, hne⟩
  exact ⟨hB, v, (hb.block _ (blk_lt hbk)).trans hbk, pw_own_below hown hb, hne⟩
 exact h.imp (key _) (key _)
theorem getD_at (ns : List S63) (k : Nat) (h : k < ns.length) : rd_T63 ns (k : Int) = ns[k] := by simp [rd_T63, List.getD, List.getElem?_eq_getElem h]
theorem graph_show_ok (A : Option Addr) (c : Nat) (ns : List S63) (w : World) (hE : Env w) (hc : ns.length <= c) (hC : k63.C w A ns.length ns) (hTm : Tame ns) (hv : checkV ns = (0, 0)) (h1 : 1 <= ns.length) (h32 : ns.length <= 32) (hF : ∀ x ∈ ns, Fit x ∧ (x.f0 = 1 ∨ x.f0 = 6)) :
  Calls Tryz.prog 11 #[.agg #[.slice A ns.length c]] w fun e w' => e = .returned (.tuple #[.string ⟨(textT ns).toArray⟩, .int .i64 0]) ∧ Below w.heap.size w w' := by
 have hb0 := below_alloc (Below.refl w.heap.size w) (.cells #[.slice A ns.length c] 29)
 have HC0 := hid hC
 have HC := hid (Kd.C_below hC hb0)
 have HP := hid (heap_alloc_new w (.cells #[.slice A ns.length c] 29))
 have HE := hid hE
 have HB0 := hid hb0; have HTm := hid hTm; have HF := hid hF; have HV := hid hv
 have HN := hid (textT_len ns fun x hx => (hF x hx).1)
 clear hC hb0 hTm hv hF hE
 go_enter Tryz.func11, Tryz.ntmps11
 go_wp2_with fail
 refine (graph_check A c ns _ hc HC.out HTm.out).mono ?_
 rintro e w1 ⟨rfl, hb1⟩
 rw [HV.out]
 have HB1 := hid (HB0.out.trans (hb1.mono HB0.out.size))
 have HP1 := hid ((hb1.block _ (blk_lt HP.out)).trans HP.out)
 have m0 : w1.cell? ⟨w.heap.size, 0, none⟩ = some (.slice A ns.length c) := (blk_cell HP1.out 0).trans rfl
 have hz := blk_lt HP1.out
 clear hb1
 go_wp2_with fail
 have HI : Hid (Lib.IsBuilder 82 5 w.heap.size w1.heap.size (Lib.byteCells []) (w1.alloc (.cells #[.pointer none, .slice none 0 0] 82))) :=
  .inl ⟨HB1.out.size, .slice none 0 0, heap_alloc_new w1 _, World.ownsRow_nil _ _ _ _, by simp [Value.ownBlock]⟩
 have HB2 := hid (below_alloc HB1.out (.cells #[.pointer none, .slice none 0 0] 82))
 clear m0 hz
 generalize w1.alloc (.cells #[.pointer none, .slice none 0 0] 82) = w2 at HI HB2 ⊢
 generalize w1.heap.size = b at HI ⊢
 go_loopg [20] ns.length (fun n i wr => ∃ k : Nat, n + k = ns.length ∧ i = .int .i64 k ∧ Aside0 (Lib.IsBuilder 82 5 w.heap.size b (Lib.byteCells (textT (ns.take k))) wr) ∧ Aside0 (Below w.heap.size w wr))
 case atStart => exact ⟨0, by omega, rfl, ⟨HI.out⟩, ⟨HB2.out⟩⟩
 case round =>
  obtain ⟨k, hk, rfl, ⟨hI⟩, ⟨hB⟩⟩ := hrel
  have HIk := hid hI; have HBk := hid hB
  clear hI hB
  by_cases hlt : k < ns.length
  ·obtain ⟨m, rfl⟩ : ∃ m, gk = m + 1 := ⟨gk - 1, by omega⟩
   obtain ⟨ad, A1, c1, A2, c2, A5, c5, rfl, g0, g1, g2, g3, g4, g5, g6, g7, g8, g9, g10, g11, g12, g13, hc1, k1, hc2, k2, hc5, k5⟩ := at_T63 (Kd.C_below HC0.out HBk.out) (k : Int) (by omega) (by omega)
   rw [Int.toNat_natCast] at g0 g1 g2 g3 g4 g5 g6 g7 g8 g9 g10 g11 g12 g13
   have HTT := hid (textT_take ns k hlt)
   have hfx := HF.out ns[k] (List.getElem_mem hlt)
   have hgd := getD_at ns k hlt
   have hlen := textT_le (ns.take k) (fun x hx => (HF.out x (List.mem_of_mem_take hx)).1) (by rw [List.length_take]; omega)
   rw [<- hgd] at hfx
   rw [<- hgd] at HTT
   have hll := join_parts_le _ hfx.1
   clear hgd
   generalize rd_T63 ns (k : Int) = x at *
   have HFX := hid hfx; have HLL := hid hll; have HLN := hid hlen
   have K1 := hid k1; have K2 := hid k2; have K5 := hid k5
   clear hfx hll hlen k1 k2 k5
   go_wp2_with fail
   have HNX := hid (heap_alloc_new wr (.cells #[.int .i64 x.f0, .slice A1 x.f1.length c1, .slice A2 x.f2.length c2, .string x.f3, .int .i64 x.f4.f0, .slice A5 x.f4.f1.length c5, .int .i64 x.f5.f0, .int .i64 x.f5.f1, .int .i64 x.f5.f2, .int .i64 x.f5.f3, .int .i64 x.f6.f0, .int .i64 x.f6.f1, .int .i64 x.f6.f2, .bool x.f6.f3] 63))
   have hba := below_alloc (Below.refl wr.heap.size wr) (.cells #[.int .i64 x.f0, .slice A1 x.f1.length c1, .slice A2 x.f2.length c2, .string x.f3, .int .i64 x.f4.f0, .slice A5 x.f4.f1.length c5, .int .i64 x.f5.f0, .int .i64 x.f5.f1, .int .i64 x.f5.f2, .int .i64 x.f5.f3, .int .i64 x.f6.f0, .int .i64 x.f6.f1, .int .i64 x.f6.f2, .bool x.f6.f3] 63)
   have HBA := hid (HBk.out.trans (hba.mono HBk.out.size))
   have K1a := hid (Kd.C_below K1.out hba); have K2a := hid (Kd.C_below K2.out hba); have K5a := hid (Kd.C_below K5.out hba)
   have HIA := hid (build_below HIk.out hba)
   clear hba K1 K2 K5 g0 g1 g2 g3 g4 g5 g6 g7 g8 g9 g10 g11 g12 g13
   generalize wr.heap.size = N at HNX ⊢
   generalize wr.alloc (.cells #[.int .i64 x.f0, .slice A1 x.f1.length c1, .slice A2 x.f2.length c2, .string x.f3, .int .i64 x.f4.f0, .slice A5 x.f4.f1.length c5, .int .i64 x.f5.f0, .int .i64 x.f5.f1, .int .i64 x.f5.f2, .int .i64 x.f5.f3, .int .i64 x.f6.f0, .int .i64 x.f6.f1, .int .i64 x.f6.f2, .bool x.f6.f3] 63) = V at *
   refine (line_show x A1 A2 A5 c1 c2 c5 V (HE.out.later HBA.out) HFX.out.1 HFX.out.2 hc1 K1a.out hc2 K2a.out hc5 K5a.out).mono ?_
   rintro e V1 ⟨rfl, hb2⟩
   have HB3 := hid (HBA.out.trans (hb2.mono HBA.out.size))
   have HI3 := hid (build_below HIA.out hb2)
   clear hb2
   go_wp2_with fail
   refine (b_string w b (textT (ns.take k)) ⟨(lineT x).toArray⟩ V1 HI3.out HB3.out ?_).mono ?_
   ·have h1 := HLL.out
    have h2 := HLN.out
    show _ + (lineT x).length <= _
    omega
   rintro e V2 ⟨rfl, s2⟩
   have HS2 := hid s2
   clear s2
   go_wp2_with fail
   go_roundg m
   case measure => omega
   case rel => exact ⟨k + 1, by omega, by go_num, ⟨by rw [HTT.out]; exact HS2.out.1⟩, ⟨HS2.out.2.1⟩⟩
  ·obtain rfl : k = ns.length := by omega
   have hI := HIk.out
   rw [List.take_length] at hI
   have HIE := hid hI
   have hne : textT ns ≠ [] := by
    intro he
    cases ns with
    | nil => exact absurd h1 (by simp)
    | cons x r =>
     have := congrArg List.length he
     simp [textT, lineT] at this
   have HNE := hid hne
   clear hI hne
   go_wp2_with fail
   refine (Tryz.Builder_String w.heap.size b (textT ns) wr HIE.out HNE.out).mono ?_
   rintro e w4 ⟨rfl, hb4⟩
   have HB4 := hid (HBk.out.trans hb4)
   clear hb4
   go_wp2_with fail
   exact bodyPost_ret (v := .tuple #[.string ⟨(textT ns).toArray⟩, .int .i64 0]) (by simp [results, Tryz.results11, go_sem]) rfl ⟨rfl, HB4.out⟩
end Go.Proofs.YtamfloegflejnaaGreatDoor
