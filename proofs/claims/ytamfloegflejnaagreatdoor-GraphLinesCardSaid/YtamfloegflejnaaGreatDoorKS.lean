/-
  graph's line of a node: its text.
-/
import Derived.Test.YtamfloegflejnaaGreatDoorKR
set_option linter.unusedVariables false
set_option linter.unusedSimpArgs false
namespace Go.Proofs.YtamfloegflejnaaGreatDoor
open Go.RowKit Go.Proofs.YtamfloegflejnaaGreatDoorW.PrintWords Go.Proofs.YtamfloegflejnaaGreatDoorW.PrintLast Go.Proofs.YtamfloegflejnaaGreatDoorW.PrintMore PGraphLines

/-- A line's parts. -/
def partsT (x : S63) : List (List UInt8) :=
  if x.f0 = 1 then [[115, 111, 117, 114, 99, 101], showT 6 x.f4]
  else if x.f0 = 2 then [[101, 97, 99, 104], placesT x.f1, placesT x.f2, x.f3.data.toList]
  else if x.f0 = 3 then [[119, 105, 110, 100, 111, 119], placesT x.f1, Lib.itoa x.f5.f0, Lib.itoa x.f5.f1, Lib.itoa x.f5.f2, Lib.itoa x.f5.f3]
  else if x.f0 = 4 then [[103, 114, 111, 117, 112], placesT x.f1, Lib.itoa x.f6.f0, Lib.itoa x.f6.f1, Lib.itoa x.f6.f2, (if x.f6.f3 = true then [97, 99, 99] else [100, 105, 115]), x.f3.data.toList]
  else if x.f0 = 5 then [[102, 108, 97, 116, 116, 101, 110], placesT x.f1]
  else [[115, 105, 110, 107], placesT x.f1]
/-- A node's line without its end. -/
def bodyT (x : S63) : List UInt8 := Lib.join (partsT x) [32]
def lineT (x : S63) : List UInt8 := bodyT x ++ [10]

def I64 (n : Int) : Prop := -9223372036854775808 ≤ n ∧ n ≤ 9223372036854775807
/-- A node whose line can be told. -/
structure Fit (x : S63) : Prop where
  op : 1 ≤ x.f0 ∧ x.f0 ≤ 6
  ins : x.f1.length ≤ 1000 ∧ ∀ k ∈ x.f1, I64 k
  sides : x.f2.length ≤ 1000 ∧ ∀ k ∈ x.f2, I64 k
  text : x.f3.size ≤ 1000000
  type : x.f0 = 1 → rightT 6 x.f4 = true
  fn : I64 x.f5.f0 ∧ I64 x.f5.f1 ∧ I64 x.f5.f2 ∧ I64 x.f5.f3
  trig : I64 x.f6.f0 ∧ I64 x.f6.f1 ∧ I64 x.f6.f2

theorem placesT_len (l : List Int) (hn : l.length ≤ 1000) (hr : ∀ k ∈ l, I64 k) : (placesT l).length ≤ 22001 := by
  unfold placesT
  split
  · decide
  · have := join_le (l.map Lib.itoa) 44 21 (fun x hx => by
      obtain ⟨n, hn, rfl⟩ := List.mem_map.1 hx
      exact Lib.itoa_length_le n (hr n hn).1 (hr n hn).2)
    rw [List.length_map] at this
    omega
theorem put_end (l : List UInt8) : (⟨l.toArray⟩ : ByteArray) ++ ⟨#[10]⟩ = ⟨(l ++ [10]).toArray⟩ := by
  apply ByteArray.ext
  rw [ByteArray.data_append]
  simp

/-- Join of a row that was just laid. -/
theorem row_join (g : Nat) (xs : List ByteArray) (n : Nat) (hn : n = xs.length) (c : UInt8) (w : World) (hg : w.heap[g]? = some (.cells (xs.map Value.string).toArray 9)) (h1 : xs.length ≤ 100) (h2 : ∀ x ∈ xs, x.size ≤ 1000000) :
    Calls Tryz.prog 53 #[.slice (some ⟨g, 0, none⟩) n n, .string ⟨#[c]⟩] w fun e w' => (∃ s : ByteArray, e = .returned (.string s) ∧ s = ⟨(Lib.join (xs.map (·.data.toList)) [c]).toArray⟩ ∧ s.size ≤ 100000100) ∧ Below w.heap.size w w' := by
  subst hn
  have hle := join_le (xs.map (·.data.toList)) c 1000000 (fun x hx => by
      obtain ⟨y, hy, rfl⟩ := List.mem_map.1 hx
      exact h2 y hy)
  rw [List.length_map] at hle
  refine (Tryz.strings_Join g 0 xs.length xs ⟨#[c]⟩ w ?_ (blk_lt hg) (by omega) (Nat.le_refl _) ?_).mono (fun e w' h => ⟨⟨_, h.1, rfl, ?_⟩, h.2⟩)
  · intro j x hj
    rw [Nat.zero_add]
    refine (blk_cell hg j).trans ?_
    rw [List.getElem?_toArray, List.getElem?_map, hj]
    rfl
  · show (Lib.join (xs.map (·.data.toList)) [c]).length ≤ _
    omega
  · show (Lib.join (xs.map (·.data.toList)) [c]).length ≤ _
    omega

set_option maxHeartbeats 1000000 in
set_option maxRecDepth 100000 in
theorem line_1 (ins sides : List Int) (tx : ByteArray) (kd : Int) (kids : List S59) (a b c d e0 e1 e2 : Int) (e3 : Bool) (A1 A2 A5 : Option Addr) (c1 c2 c5 : Nat) (w : World) (hE : Env w) (hF : Fit ⟨1, ins, sides, tx, ⟨kd, kids⟩, ⟨a, b, c, d⟩, ⟨e0, e1, e2, e3⟩⟩) (h1 : ins.length ≤ c1) (k1 : Kd.C (Kd.int .i64) w A1 ins.length ins) (h2 : sides.length ≤ c2) (k2 : Kd.C (Kd.int .i64) w A2 sides.length sides) (h5 : kids.length ≤ c5) (k5 : k59.C w A5 kids.length kids) :
    Calls Tryz.prog 28 #[.agg #[.int .i64 1, .slice A1 ins.length c1, .slice A2 sides.length c2, .string tx, .int .i64 kd, .slice A5 kids.length c5, .int .i64 a, .int .i64 b, .int .i64 c, .int .i64 d, .int .i64 e0, .int .i64 e1, .int .i64 e2, .bool e3]] w fun e w' => e = .returned (.string ⟨(lineT ⟨1, ins, sides, tx, ⟨kd, kids⟩, ⟨a, b, c, d⟩, ⟨e0, e1, e2, e3⟩⟩).toArray⟩) ∧ Below w.heap.size w w' := by
  have hb0 := below_alloc (Below.refl w.heap.size w) (.cells #[.int .i64 1, .slice A1 ins.length c1, .slice A2 sides.length c2, .string tx, .int .i64 kd, .slice A5 kids.length c5, .int .i64 a, .int .i64 b, .int .i64 c, .int .i64 d, .int .i64 e0, .int .i64 e1, .int .i64 e2, .bool e3] 63)
  have HX0 := Lib.hid (heap_alloc_new w (.cells #[.int .i64 1, .slice A1 ins.length c1, .slice A2 sides.length c2, .string tx, .int .i64 kd, .slice A5 kids.length c5, .int .i64 a, .int .i64 b, .int .i64 c, .int .i64 d, .int .i64 e0, .int .i64 e1, .int .i64 e2, .bool e3] 63))
  have HE := Lib.hid (hE.later hb0); have HF := Lib.hid hF
  have K1 := Lib.hid (Kd.C_below k1 hb0); have K2 := Lib.hid (Kd.C_below k2 hb0); have K5 := Lib.hid (Kd.C_below k5 hb0)
  have HB0 := Lib.hid hb0
  have hpl := placesT_len ins hF.ins.1 hF.ins.2
  have HPL := Lib.hid hpl
  clear hb0 hE hF k1 k2 k5 hpl
  go_enter Tryz.func28, Tryz.ntmps28
  go_wp2_with fail
  generalize w.alloc (.cells #[.int .i64 1, .slice A1 ins.length c1, .slice A2 sides.length c2, .string tx, .int .i64 kd, .slice A5 kids.length c5, .int .i64 a, .int .i64 b, .int .i64 c, .int .i64 d, .int .i64 e0, .int .i64 e1, .int .i64 e2, .bool e3] 63) = w0 at *
  refine (places_show ins A1 c1 w0 HE.out HF.out.ins.1 h1 HF.out.ins.2 K1.out).mono ?_
  rintro e w1 ⟨rfl, hb1⟩
  have HX := Lib.hid ((hb1.block _ (blk_lt HX0.out)).trans HX0.out)
  have HB := Lib.hid hb1
  clear hb1 HX0
  have m0 : w1.cell? ⟨w.heap.size, 0, none⟩ = some (.int .i64 1) := (blk_cell HX.out 0).trans rfl
  have m4 : w1.cell? ⟨w.heap.size, 4, none⟩ = some (.int .i64 kd) := (blk_cell HX.out 4).trans rfl
  have m5 : w1.cell? ⟨w.heap.size, 5, none⟩ = some (.slice A5 kids.length c5) := (blk_cell HX.out 5).trans rfl
  have hz := blk_lt HX.out
  go_wp2_with fail
  refine (kind_show ⟨kd, kids⟩ A5 c5 w1 (HF.out.type rfl) h5 (Kd.C_below K5.out HB.out)).mono ?_
  rintro e w2 ⟨rfl, hb2⟩
  have HB2 := Lib.hid (HB.out.trans (hb2.mono HB.out.size))
  clear hb2 m0 m4 m5
  go_wp2_with fail
  have hS := row_join w2.heap.size [⟨#[115, 111, 117, 114, 99, 101]⟩, ⟨(showT 6 ⟨kd, kids⟩).toArray⟩] 2 rfl 32 (w2.alloc (.cells #[.string ⟨#[115, 111, 117, 114, 99, 101]⟩, .string ⟨(showT 6 ⟨kd, kids⟩).toArray⟩] 9)) (heap_alloc_new w2 _) (by show (2 : Nat) ≤ 100; decide) ?_
  rotate_left
  · have hpl := HPL.out
    have HFX := HF.out
    intro x hx
    simp only [List.mem_cons, List.not_mem_nil, or_false] at hx
    rcases hx with rfl | rfl
    · decide
    · have := (showT_len 6 ⟨kd, kids⟩ (HFX.type rfl)).1; show (showT 6 ⟨kd, kids⟩).length ≤ _; omega
  have HS := Lib.hid hS
  have hba := below_alloc HB2.out (.cells #[.string ⟨#[115, 111, 117, 114, 99, 101]⟩, .string ⟨(showT 6 ⟨kd, kids⟩).toArray⟩] 9)
  have HBA := Lib.hid hba
  clear hS hba hz
  generalize w2.heap.size = Nr at HS ⊢
  generalize w2.alloc (.cells #[.string ⟨#[115, 111, 117, 114, 99, 101]⟩, .string ⟨(showT 6 ⟨kd, kids⟩).toArray⟩] 9) = wr at *
  refine HS.out.mono ?_
  rintro e wj ⟨⟨sj, rfl, hsj, hsz⟩, hbj⟩
  have HSJ := Lib.hid hsj
  clear hsj
  have HBJ := Lib.hid (HB0.out.trans ((HBA.out.trans (hbj.mono HBA.out.size)).mono HB0.out.size))
  clear hbj
  go_wp2_with fail
  exact bodyPost_ret (v := .string (sj ++ ⟨#[10]⟩)) (by simp [results, Tryz.results28, go_sem]) rfl ⟨by rw [HSJ.out, put_end]; rfl, HBJ.out⟩

set_option maxHeartbeats 1000000 in
set_option maxRecDepth 100000 in
theorem line_2 (ins sides : List Int) (tx : ByteArray) (kd : Int) (kids : List S59) (a b c d e0 e1 e2 : Int) (e3 : Bool) (A1 A2 A5 : Option Addr) (c1 c2 c5 : Nat) (w : World) (hE : Env w) (hF : Fit ⟨2, ins, sides, tx, ⟨kd, kids⟩, ⟨a, b, c, d⟩, ⟨e0, e1, e2, e3⟩⟩) (h1 : ins.length ≤ c1) (k1 : Kd.C (Kd.int .i64) w A1 ins.length ins) (h2 : sides.length ≤ c2) (k2 : Kd.C (Kd.int .i64) w A2 sides.length sides) (h5 : kids.length ≤ c5) (k5 : k59.C w A5 kids.length kids) :
    Calls Tryz.prog 28 #[.agg #[.int .i64 2, .slice A1 ins.length c1, .slice A2 sides.length c2, .string tx, .int .i64 kd, .slice A5 kids.length c5, .int .i64 a, .int .i64 b, .int .i64 c, .int .i64 d, .int .i64 e0, .int .i64 e1, .int .i64 e2, .bool e3]] w fun e w' => e = .returned (.string ⟨(lineT ⟨2, ins, sides, tx, ⟨kd, kids⟩, ⟨a, b, c, d⟩, ⟨e0, e1, e2, e3⟩⟩).toArray⟩) ∧ Below w.heap.size w w' := by
  have hb0 := below_alloc (Below.refl w.heap.size w) (.cells #[.int .i64 2, .slice A1 ins.length c1, .slice A2 sides.length c2, .string tx, .int .i64 kd, .slice A5 kids.length c5, .int .i64 a, .int .i64 b, .int .i64 c, .int .i64 d, .int .i64 e0, .int .i64 e1, .int .i64 e2, .bool e3] 63)
  have HX0 := Lib.hid (heap_alloc_new w (.cells #[.int .i64 2, .slice A1 ins.length c1, .slice A2 sides.length c2, .string tx, .int .i64 kd, .slice A5 kids.length c5, .int .i64 a, .int .i64 b, .int .i64 c, .int .i64 d, .int .i64 e0, .int .i64 e1, .int .i64 e2, .bool e3] 63))
  have HE := Lib.hid (hE.later hb0); have HF := Lib.hid hF
  have K1 := Lib.hid (Kd.C_below k1 hb0); have K2 := Lib.hid (Kd.C_below k2 hb0); have K5 := Lib.hid (Kd.C_below k5 hb0)
  have HB0 := Lib.hid hb0
  have hpl := placesT_len ins hF.ins.1 hF.ins.2
  have HPL := Lib.hid hpl
  clear hb0 hE hF k1 k2 k5 hpl
  go_enter Tryz.func28, Tryz.ntmps28
  go_wp2_with fail
  generalize w.alloc (.cells #[.int .i64 2, .slice A1 ins.length c1, .slice A2 sides.length c2, .string tx, .int .i64 kd, .slice A5 kids.length c5, .int .i64 a, .int .i64 b, .int .i64 c, .int .i64 d, .int .i64 e0, .int .i64 e1, .int .i64 e2, .bool e3] 63) = w0 at *
  refine (places_show ins A1 c1 w0 HE.out HF.out.ins.1 h1 HF.out.ins.2 K1.out).mono ?_
  rintro e w1 ⟨rfl, hb1⟩
  have HX := Lib.hid ((hb1.block _ (blk_lt HX0.out)).trans HX0.out)
  have HB := Lib.hid hb1
  clear hb1 HX0
  have m0 : w1.cell? ⟨w.heap.size, 0, none⟩ = some (.int .i64 2) := (blk_cell HX.out 0).trans rfl
  have hz := blk_lt HX.out
  go_upto_region 8 with fail
  refine start_ (n := 8) (S := fun w' => w'.cell? ⟨w.heap.size, 2, none⟩ = some (.slice A2 sides.length c2) ∧ w'.cell? ⟨w.heap.size, 3, none⟩ = some (.string tx)) (ds := []) #[false, false, false, false, false, false, false, false] (by kernel_rfl) rfl rfl ⟨(blk_cell (w := w1.drew) HX.out 2).trans rfl, (blk_cell (w := w1.drew) HX.out 3).trans rfl⟩ (fun hHeld => ?_)
  have HXa : Hid (w1.drew.heap[w.heap.size]? = _) := HX.out
  have HBa := Lib.hid (Below.drew HB.out)
  clear hz m0
  clear HX HB
  generalize w1.drew = V0 at HXa HBa hHeld ⊢
  refine pure_ (i := 0) (N := some 25) (v := ?_) (a' := ?_) #[true, false, false, false, false, false, false, false] rfl rfl (by kernel_rfl) (fun _ _ _ h => h) (Or.inl ⟨by rfl, ?_⟩) ?_ ?_
  rotate_left
  · intro w'
    go_simp
    with_reducible rfl
  rotate_left
  · simp only [Act.put, List.setIfInBounds_toArray, List.set_cons_zero, List.set_cons_succ, i64_w, i32_w]
    rfl
  refine pure_ (i := 1) (N := some 26) (v := ?_) (a' := ?_) #[true, true, false, false, false, false, false, false] rfl rfl (by kernel_rfl) (fun _ _ _ h => h) (Or.inl ⟨by rfl, ?_⟩) ?_ ?_
  rotate_left
  · intro w'
    go_simp
    with_reducible rfl
  rotate_left
  · simp only [Act.put, List.setIfInBounds_toArray, List.set_cons_zero, List.set_cons_succ, i64_w, i32_w]
    rfl
  refine take_ (i := 2) (N := some 27) (v := ?_) (a' := ?_) #[true, true, true, false, false, false, false, false] rfl rfl (by kernel_rfl) (fun _ _ _ h => h) (Or.inl ⟨by rfl, ?_⟩) (by assumption) ?_ ?_
  rotate_left
  · intro w' hSw
    try dsimp only at hSw
    go_simp
    with_reducible rfl
  rotate_left
  · simp only [Act.put, List.setIfInBounds_toArray, List.set_cons_zero, List.set_cons_succ, i64_w, i32_w]
    rfl
  refine pure_ (i := 4) (N := some 29) (v := ?_) (a' := ?_) #[true, true, true, false, true, false, false, false] rfl rfl (by kernel_rfl) (fun _ _ _ h => h) (Or.inl ⟨by rfl, ?_⟩) ?_ ?_
  rotate_left
  · intro w'
    go_simp
    with_reducible rfl
  rotate_left
  · simp only [Act.put, List.setIfInBounds_toArray, List.set_cons_zero, List.set_cons_succ, i64_w, i32_w]
    rfl
  refine take_ (i := 5) (N := some 30) (v := ?_) (a' := ?_) #[true, true, true, false, true, true, false, false] rfl rfl (by kernel_rfl) (fun _ _ _ h => h) (Or.inl ⟨by rfl, ?_⟩) (by assumption) ?_ ?_
  rotate_left
  · intro w' hSw
    try dsimp only at hSw
    go_simp
    with_reducible rfl
  rotate_left
  · simp only [Act.put, List.setIfInBounds_toArray, List.set_cons_zero, List.set_cons_succ, i64_w, i32_w]
    rfl
  refine one_ (i := 3) (N := some 28) #[true, true, true, true, true, true, false, false] rfl rfl (by kernel_rfl) (by decide) (fun K hK => ?_)
  refine goes_ Tryz.func50 (by kernel_rfl) rfl #[.slice A2 sides.length c2] (by rfl) rfl rfl (by (try simp only [List.map_toArray, List.map_cons, List.map_nil]); first | done | rfl) ?_
  refine (places_show sides A2 c2 V0 (HE.out.later HBa.out) HF.out.sides.1 h2 HF.out.sides.2 (Kd.C_below K2.out HBa.out)).mono ?_
  rintro e V1 ⟨rfl, hv⟩
  refine ⟨_, rfl, ?_⟩
  have hb := hv
  have HX11 := Lib.hid ((hb.block _ (blk_lt HXa.out)).trans HXa.out)
  have HB11 := Lib.hid (HBa.out.trans (hb.mono HBa.out.size))
  clear hb hv HXa HBa
  have hS1 : V1.cell? ⟨w.heap.size, 2, none⟩ = some (.slice A2 sides.length c2) ∧ V1.cell? ⟨w.heap.size, 3, none⟩ = some (.string tx) := ⟨(blk_cell (w := V1) HX11.out 2).trans rfl, (blk_cell (w := V1) HX11.out 3).trans rfl⟩
  refine hK.out _ _ hS1 (fun hHeld => ?_)
  clear hK K
  refine norm_ (a' := ?_) ?_ ?_
  rotate_left
  · show Act.put _ (some 28) _ = _
    simp only [Act.put, List.setIfInBounds_toArray, List.set_cons_zero, List.set_cons_succ, i64_w, i32_w]
    rfl
  refine one_ (i := 6) (N := some 31) #[true, true, true, true, true, true, true, false] rfl rfl (by kernel_rfl) (by decide) (fun K hK => ?_)
  refine value_ (w1 := ?_) (v := ?_) (by rfl) rfl ?_ ?_
  rotate_left 2
  · go_simp
    constructor
    · rfl
    · rfl
  have hSb : (V1.alloc (.cells #[.string ⟨#[101, 97, 99, 104]⟩, .string ⟨(placesT ins).toArray⟩, .string ⟨(placesT sides).toArray⟩, .string tx] 9)).cell? ⟨w.heap.size, 2, none⟩ = some (.slice A2 sides.length c2) ∧ (V1.alloc (.cells #[.string ⟨#[101, 97, 99, 104]⟩, .string ⟨(placesT ins).toArray⟩, .string ⟨(placesT sides).toArray⟩, .string tx] 9)).cell? ⟨w.heap.size, 3, none⟩ = some (.string tx) := ⟨(blk_cell (w := (V1.alloc (.cells #[.string ⟨#[101, 97, 99, 104]⟩, .string ⟨(placesT ins).toArray⟩, .string ⟨(placesT sides).toArray⟩, .string tx] 9))) (Lib.hid (blk_alloc HX11.out _)).out 2).trans rfl, (blk_cell (w := (V1.alloc (.cells #[.string ⟨#[101, 97, 99, 104]⟩, .string ⟨(placesT ins).toArray⟩, .string ⟨(placesT sides).toArray⟩, .string tx] 9))) (Lib.hid (blk_alloc HX11.out _)).out 3).trans rfl⟩
  refine hK.out _ _ hSb (fun hHeld => ?_)
  clear hK K
  refine norm_ (a' := ?_) ?_ ?_
  rotate_left
  · show Act.put _ (some 31) _ = _
    simp only [Act.put, List.setIfInBounds_toArray, List.set_cons_zero, List.set_cons_succ, i64_w, i32_w]
    rfl
  refine pure_ (i := 7) (N := some 4) (v := ?_) (a' := ?_) #[true, true, true, true, true, true, true, true] rfl rfl (by kernel_rfl) (fun _ _ _ h => h) (Or.inl ⟨by rfl, ?_⟩) ?_ ?_
  rotate_left
  · intro w'
    go_simp
    with_reducible rfl
  rotate_left
  · simp only [Act.put, List.setIfInBounds_toArray, List.set_cons_zero, List.set_cons_succ, i64_w, i32_w]
    rfl
  refine done_ (by kernel_rfl) ?_
  clear hHeld hSb
  have hz := blk_lt HX11.out
  go_wp2_with fail
  have hS := row_join V1.heap.size [⟨#[101, 97, 99, 104]⟩, ⟨(placesT ins).toArray⟩, ⟨(placesT sides).toArray⟩, tx] 4 rfl 32 (V1.alloc (.cells #[.string ⟨#[101, 97, 99, 104]⟩, .string ⟨(placesT ins).toArray⟩, .string ⟨(placesT sides).toArray⟩, .string tx] 9)) (heap_alloc_new V1 _) (by show (4 : Nat) ≤ 100; decide) ?_
  rotate_left
  · have hpl := HPL.out
    have HFX := HF.out
    intro x hx
    simp only [List.mem_cons, List.not_mem_nil, or_false] at hx
    rcases hx with rfl | rfl | rfl | rfl
    · decide
    · show (placesT ins).length ≤ _; omega
    · have := placesT_len sides HFX.sides.1 HFX.sides.2; show (placesT sides).length ≤ _; omega
    · exact HFX.text
  have HS := Lib.hid hS
  have hba := below_alloc HB11.out (.cells #[.string ⟨#[101, 97, 99, 104]⟩, .string ⟨(placesT ins).toArray⟩, .string ⟨(placesT sides).toArray⟩, .string tx] 9)
  have HBA := Lib.hid hba
  clear hS hba hz
  generalize V1.heap.size = Nr at HS ⊢
  generalize V1.alloc (.cells #[.string ⟨#[101, 97, 99, 104]⟩, .string ⟨(placesT ins).toArray⟩, .string ⟨(placesT sides).toArray⟩, .string tx] 9) = wr at *
  refine HS.out.mono ?_
  rintro e wj ⟨⟨sj, rfl, hsj, hsz⟩, hbj⟩
  have HSJ := Lib.hid hsj
  clear hsj
  have HBJ := Lib.hid (HB0.out.trans ((HBA.out.trans (hbj.mono HBA.out.size)).mono HB0.out.size))
  clear hbj
  go_wp2_with fail
  exact bodyPost_ret (v := .string (sj ++ ⟨#[10]⟩)) (by simp [results, Tryz.results28, go_sem]) rfl ⟨by rw [HSJ.out, put_end]; rfl, HBJ.out⟩

set_option maxHeartbeats 1000000 in
set_option maxRecDepth 100000 in
theorem line_3 (ins sides : List Int) (tx : ByteArray) (kd : Int) (kids : List S59) (a b c d e0 e1 e2 : Int) (e3 : Bool) (A1 A2 A5 : Option Addr) (c1 c2 c5 : Nat) (w : World) (hE : Env w) (hF : Fit ⟨3, ins, sides, tx, ⟨kd, kids⟩, ⟨a, b, c, d⟩, ⟨e0, e1, e2, e3⟩⟩) (h1 : ins.length ≤ c1) (k1 : Kd.C (Kd.int .i64) w A1 ins.length ins) (h2 : sides.length ≤ c2) (k2 : Kd.C (Kd.int .i64) w A2 sides.length sides) (h5 : kids.length ≤ c5) (k5 : k59.C w A5 kids.length kids) :
    Calls Tryz.prog 28 #[.agg #[.int .i64 3, .slice A1 ins.length c1, .slice A2 sides.length c2, .string tx, .int .i64 kd, .slice A5 kids.length c5, .int .i64 a, .int .i64 b, .int .i64 c, .int .i64 d, .int .i64 e0, .int .i64 e1, .int .i64 e2, .bool e3]] w fun e w' => e = .returned (.string ⟨(lineT ⟨3, ins, sides, tx, ⟨kd, kids⟩, ⟨a, b, c, d⟩, ⟨e0, e1, e2, e3⟩⟩).toArray⟩) ∧ Below w.heap.size w w' := by
  have hb0 := below_alloc (Below.refl w.heap.size w) (.cells #[.int .i64 3, .slice A1 ins.length c1, .slice A2 sides.length c2, .string tx, .int .i64 kd, .slice A5 kids.length c5, .int .i64 a, .int .i64 b, .int .i64 c, .int .i64 d, .int .i64 e0, .int .i64 e1, .int .i64 e2, .bool e3] 63)
  have HX0 := Lib.hid (heap_alloc_new w (.cells #[.int .i64 3, .slice A1 ins.length c1, .slice A2 sides.length c2, .string tx, .int .i64 kd, .slice A5 kids.length c5, .int .i64 a, .int .i64 b, .int .i64 c, .int .i64 d, .int .i64 e0, .int .i64 e1, .int .i64 e2, .bool e3] 63))
  have HE := Lib.hid (hE.later hb0); have HF := Lib.hid hF
  have K1 := Lib.hid (Kd.C_below k1 hb0); have K2 := Lib.hid (Kd.C_below k2 hb0); have K5 := Lib.hid (Kd.C_below k5 hb0)
  have HB0 := Lib.hid hb0
  have hpl := placesT_len ins hF.ins.1 hF.ins.2
  have HPL := Lib.hid hpl
  clear hb0 hE hF k1 k2 k5 hpl
  go_enter Tryz.func28, Tryz.ntmps28
  go_wp2_with fail
  generalize w.alloc (.cells #[.int .i64 3, .slice A1 ins.length c1, .slice A2 sides.length c2, .string tx, .int .i64 kd, .slice A5 kids.length c5, .int .i64 a, .int .i64 b, .int .i64 c, .int .i64 d, .int .i64 e0, .int .i64 e1, .int .i64 e2, .bool e3] 63) = w0 at *
  refine (places_show ins A1 c1 w0 HE.out HF.out.ins.1 h1 HF.out.ins.2 K1.out).mono ?_
  rintro e w1 ⟨rfl, hb1⟩
  have HX := Lib.hid ((hb1.block _ (blk_lt HX0.out)).trans HX0.out)
  have HB := Lib.hid hb1
  clear hb1 HX0
  have m0 : w1.cell? ⟨w.heap.size, 0, none⟩ = some (.int .i64 3) := (blk_cell HX.out 0).trans rfl
  have hz := blk_lt HX.out
  go_upto_region 10 with fail
  refine start_ (n := 19) (S := fun w' => w'.cell? ⟨w.heap.size, 6, none⟩ = some (.int .i64 a) ∧ w'.cell? ⟨w.heap.size, 7, none⟩ = some (.int .i64 b) ∧ w'.cell? ⟨w.heap.size, 8, none⟩ = some (.int .i64 c) ∧ w'.cell? ⟨w.heap.size, 9, none⟩ = some (.int .i64 d)) (ds := []) #[false, false, false, false, false, false, false, false, false, false, false, false, false, false, false, false, false, false, false] (by kernel_rfl) rfl rfl ⟨(blk_cell (w := w1.drew) HX.out 6).trans rfl, (blk_cell (w := w1.drew) HX.out 7).trans rfl, (blk_cell (w := w1.drew) HX.out 8).trans rfl, (blk_cell (w := w1.drew) HX.out 9).trans rfl⟩ (fun hHeld => ?_)
  have HXa : Hid (w1.drew.heap[w.heap.size]? = _) := HX.out
  have HBa := Lib.hid (Below.drew HB.out)
  clear hz m0
  clear HX HB
  generalize w1.drew = V0 at HXa HBa hHeld ⊢
  refine pure_ (i := 0) (N := some 34) (v := ?_) (a' := ?_) #[true, false, false, false, false, false, false, false, false, false, false, false, false, false, false, false, false, false, false] rfl rfl (by kernel_rfl) (fun _ _ _ h => h) (Or.inl ⟨by rfl, ?_⟩) ?_ ?_
  rotate_left
  · intro w'
    go_simp
    with_reducible rfl
  rotate_left
  · simp only [Act.put, List.setIfInBounds_toArray, List.set_cons_zero, List.set_cons_succ, i64_w, i32_w]
    rfl
  refine pure_ (i := 1) (N := some 35) (v := ?_) (a' := ?_) #[true, true, false, false, false, false, false, false, false, false, false, false, false, false, false, false, false, false, false] rfl rfl (by kernel_rfl) (fun _ _ _ h => h) (Or.inl ⟨by rfl, ?_⟩) ?_ ?_
  rotate_left
  · intro w'
    go_simp
    with_reducible rfl
  rotate_left
  · simp only [Act.put, List.setIfInBounds_toArray, List.set_cons_zero, List.set_cons_succ, i64_w, i32_w]
    rfl
  refine pure_ (i := 2) (N := some 36) (v := ?_) (a' := ?_) #[true, true, true, false, false, false, false, false, false, false, false, false, false, false, false, false, false, false, false] rfl rfl (by kernel_rfl) (fun _ _ _ h => h) (Or.inl ⟨by rfl, ?_⟩) ?_ ?_
  rotate_left
  · intro w'
    go_simp
    with_reducible rfl
  rotate_left
  · simp only [Act.put, List.setIfInBounds_toArray, List.set_cons_zero, List.set_cons_succ, i64_w, i32_w]
    rfl
  refine take_ (i := 3) (N := some 37) (v := ?_) (a' := ?_) #[true, true, true, true, false, false, false, false, false, false, false, false, false, false, false, false, false, false, false] rfl rfl (by kernel_rfl) (fun _ _ _ h => h) (Or.inl ⟨by rfl, ?_⟩) (by assumption) ?_ ?_
  rotate_left
  · intro w' hSw
    try dsimp only at hSw
    go_simp
    with_reducible rfl
  rotate_left
  · simp only [Act.put, List.setIfInBounds_toArray, List.set_cons_zero, List.set_cons_succ, i64_w, i32_w]
    rfl
  refine pure_ (i := 5) (N := some 39) (v := ?_) (a' := ?_) #[true, true, true, true, false, true, false, false, false, false, false, false, false, false, false, false, false, false, false] rfl rfl (by kernel_rfl) (fun _ _ _ h => h) (Or.inl ⟨by rfl, ?_⟩) ?_ ?_
  rotate_left
  · intro w'
    go_simp
    with_reducible rfl
  rotate_left
  · simp only [Act.put, List.setIfInBounds_toArray, List.set_cons_zero, List.set_cons_succ, i64_w, i32_w]
    rfl
  refine pure_ (i := 6) (N := some 40) (v := ?_) (a' := ?_) #[true, true, true, true, false, true, true, false, false, false, false, false, false, false, false, false, false, false, false] rfl rfl (by kernel_rfl) (fun _ _ _ h => h) (Or.inl ⟨by rfl, ?_⟩) ?_ ?_
  rotate_left
  · intro w'
    go_simp
    with_reducible rfl
  rotate_left
  · simp only [Act.put, List.setIfInBounds_toArray, List.set_cons_zero, List.set_cons_succ, i64_w, i32_w]
    rfl
  refine take_ (i := 7) (N := some 41) (v := ?_) (a' := ?_) #[true, true, true, true, false, true, true, true, false, false, false, false, false, false, false, false, false, false, false] rfl rfl (by kernel_rfl) (fun _ _ _ h => h) (Or.inl ⟨by rfl, ?_⟩) (by assumption) ?_ ?_
  rotate_left
  · intro w' hSw
    try dsimp only at hSw
    go_simp
    with_reducible rfl
  rotate_left
  · simp only [Act.put, List.setIfInBounds_toArray, List.set_cons_zero, List.set_cons_succ, i64_w, i32_w]
    rfl
  refine pure_ (i := 9) (N := some 43) (v := ?_) (a' := ?_) #[true, true, true, true, false, true, true, true, false, true, false, false, false, false, false, false, false, false, false] rfl rfl (by kernel_rfl) (fun _ _ _ h => h) (Or.inl ⟨by rfl, ?_⟩) ?_ ?_
  rotate_left
  · intro w'
    go_simp
    with_reducible rfl
  rotate_left
  · simp only [Act.put, List.setIfInBounds_toArray, List.set_cons_zero, List.set_cons_succ, i64_w, i32_w]
    rfl
  refine pure_ (i := 10) (N := some 44) (v := ?_) (a' := ?_) #[true, true, true, true, false, true, true, true, false, true, true, false, false, false, false, false, false, false, false] rfl rfl (by kernel_rfl) (fun _ _ _ h => h) (Or.inl ⟨by rfl, ?_⟩) ?_ ?_
  rotate_left
  · intro w'
    go_simp
    with_reducible rfl
  rotate_left
  · simp only [Act.put, List.setIfInBounds_toArray, List.set_cons_zero, List.set_cons_succ, i64_w, i32_w]
    rfl
  refine take_ (i := 11) (N := some 45) (v := ?_) (a' := ?_) #[true, true, true, true, false, true, true, true, false, true, true, true, false, false, false, false, false, false, false] rfl rfl (by kernel_rfl) (fun _ _ _ h => h) (Or.inl ⟨by rfl, ?_⟩) (by assumption) ?_ ?_
  rotate_left
  · intro w' hSw
    try dsimp only at hSw
    go_simp
    with_reducible rfl
  rotate_left
  · simp only [Act.put, List.setIfInBounds_toArray, List.set_cons_zero, List.set_cons_succ, i64_w, i32_w]
    rfl
  refine pure_ (i := 13) (N := some 47) (v := ?_) (a' := ?_) #[true, true, true, true, false, true, true, true, false, true, true, true, false, true, false, false, false, false, false] rfl rfl (by kernel_rfl) (fun _ _ _ h => h) (Or.inl ⟨by rfl, ?_⟩) ?_ ?_
  rotate_left
  · intro w'
    go_simp
    with_reducible rfl
  rotate_left
  · simp only [Act.put, List.setIfInBounds_toArray, List.set_cons_zero, List.set_cons_succ, i64_w, i32_w]
    rfl
  refine pure_ (i := 14) (N := some 48) (v := ?_) (a' := ?_) #[true, true, true, true, false, true, true, true, false, true, true, true, false, true, true, false, false, false, false] rfl rfl (by kernel_rfl) (fun _ _ _ h => h) (Or.inl ⟨by rfl, ?_⟩) ?_ ?_
  rotate_left
  · intro w'
    go_simp
    with_reducible rfl
  rotate_left
  · simp only [Act.put, List.setIfInBounds_toArray, List.set_cons_zero, List.set_cons_succ, i64_w, i32_w]
    rfl
  refine take_ (i := 15) (N := some 49) (v := ?_) (a' := ?_) #[true, true, true, true, false, true, true, true, false, true, true, true, false, true, true, true, false, false, false] rfl rfl (by kernel_rfl) (fun _ _ _ h => h) (Or.inl ⟨by rfl, ?_⟩) (by assumption) ?_ ?_
  rotate_left
  · intro w' hSw
    try dsimp only at hSw
    go_simp
    with_reducible rfl
  rotate_left
  · simp only [Act.put, List.setIfInBounds_toArray, List.set_cons_zero, List.set_cons_succ, i64_w, i32_w]
    rfl
  refine one_ (i := 4) (N := some 38) #[true, true, true, true, true, true, true, true, false, true, true, true, false, true, true, true, false, false, false] rfl rfl (by kernel_rfl) (by decide) (fun K hK => ?_)
  refine goes_ Tryz.func52 (by kernel_rfl) rfl #[.int .i64 a] (by rfl) rfl rfl (by (try simp only [List.map_toArray, List.map_cons, List.map_nil]); first | done | rfl) ?_
  refine (Tryz.strconv_Itoa a HF.out.fn.1.1 HF.out.fn.1.2 V0 (HE.out.later HBa.out).tab).mono ?_
  rintro e V1 ⟨rfl, hv⟩
  refine ⟨_, rfl, ?_⟩
  have hb : Below V0.heap.size V0 V1 := by obtain ⟨kk, os, hv⟩ := hv; rw [hv]; exact below_grow2 V0 kk os
  have HX11 := Lib.hid ((hb.block _ (blk_lt HXa.out)).trans HXa.out)
  have HB11 := Lib.hid (HBa.out.trans (hb.mono HBa.out.size))
  clear hb hv HXa HBa
  have hS1 : V1.cell? ⟨w.heap.size, 6, none⟩ = some (.int .i64 a) ∧ V1.cell? ⟨w.heap.size, 7, none⟩ = some (.int .i64 b) ∧ V1.cell? ⟨w.heap.size, 8, none⟩ = some (.int .i64 c) ∧ V1.cell? ⟨w.heap.size, 9, none⟩ = some (.int .i64 d) := ⟨(blk_cell (w := V1) HX11.out 6).trans rfl, (blk_cell (w := V1) HX11.out 7).trans rfl, (blk_cell (w := V1) HX11.out 8).trans rfl, (blk_cell (w := V1) HX11.out 9).trans rfl⟩
  refine hK.out _ _ hS1 (fun hHeld => ?_)
  clear hK K
  refine norm_ (a' := ?_) ?_ ?_
  rotate_left
  · show Act.put _ (some 38) _ = _
    simp only [Act.put, List.setIfInBounds_toArray, List.set_cons_zero, List.set_cons_succ, i64_w, i32_w]
    rfl
  refine one_ (i := 8) (N := some 42) #[true, true, true, true, true, true, true, true, true, true, true, true, false, true, true, true, false, false, false] rfl rfl (by kernel_rfl) (by decide) (fun K hK => ?_)
  refine goes_ Tryz.func52 (by kernel_rfl) rfl #[.int .i64 b] (by rfl) rfl rfl (by (try simp only [List.map_toArray, List.map_cons, List.map_nil]); first | done | rfl) ?_
  refine (Tryz.strconv_Itoa b HF.out.fn.2.1.1 HF.out.fn.2.1.2 V1 (HE.out.later HB11.out).tab).mono ?_
  rintro e V2 ⟨rfl, hv⟩
  refine ⟨_, rfl, ?_⟩
  have hb : Below V1.heap.size V1 V2 := by obtain ⟨kk, os, hv⟩ := hv; rw [hv]; exact below_grow2 V1 kk os
  have HX12 := Lib.hid ((hb.block _ (blk_lt HX11.out)).trans HX11.out)
  have HB12 := Lib.hid (HB11.out.trans (hb.mono HB11.out.size))
  clear hb hv HX11 HB11
  have hS2 : V2.cell? ⟨w.heap.size, 6, none⟩ = some (.int .i64 a) ∧ V2.cell? ⟨w.heap.size, 7, none⟩ = some (.int .i64 b) ∧ V2.cell? ⟨w.heap.size, 8, none⟩ = some (.int .i64 c) ∧ V2.cell? ⟨w.heap.size, 9, none⟩ = some (.int .i64 d) := ⟨(blk_cell (w := V2) HX12.out 6).trans rfl, (blk_cell (w := V2) HX12.out 7).trans rfl, (blk_cell (w := V2) HX12.out 8).trans rfl, (blk_cell (w := V2) HX12.out 9).trans rfl⟩
  refine hK.out _ _ hS2 (fun hHeld => ?_)
  clear hK K
  refine norm_ (a' := ?_) ?_ ?_
  rotate_left
  · show Act.put _ (some 42) _ = _
    simp only [Act.put, List.setIfInBounds_toArray, List.set_cons_zero, List.set_cons_succ, i64_w, i32_w]
    rfl
  refine one_ (i := 12) (N := some 46) #[true, true, true, true, true, true, true, true, true, true, true, true, true, true, true, true, false, false, false] rfl rfl (by kernel_rfl) (by decide) (fun K hK => ?_)
  refine goes_ Tryz.func52 (by kernel_rfl) rfl #[.int .i64 c] (by rfl) rfl rfl (by (try simp only [List.map_toArray, List.map_cons, List.map_nil]); first | done | rfl) ?_
  refine (Tryz.strconv_Itoa c HF.out.fn.2.2.1.1 HF.out.fn.2.2.1.2 V2 (HE.out.later HB12.out).tab).mono ?_
  rintro e V3 ⟨rfl, hv⟩
  refine ⟨_, rfl, ?_⟩
  have hb : Below V2.heap.size V2 V3 := by obtain ⟨kk, os, hv⟩ := hv; rw [hv]; exact below_grow2 V2 kk os
  have HX13 := Lib.hid ((hb.block _ (blk_lt HX12.out)).trans HX12.out)
  have HB13 := Lib.hid (HB12.out.trans (hb.mono HB12.out.size))
  clear hb hv HX12 HB12
  have hS3 : V3.cell? ⟨w.heap.size, 6, none⟩ = some (.int .i64 a) ∧ V3.cell? ⟨w.heap.size, 7, none⟩ = some (.int .i64 b) ∧ V3.cell? ⟨w.heap.size, 8, none⟩ = some (.int .i64 c) ∧ V3.cell? ⟨w.heap.size, 9, none⟩ = some (.int .i64 d) := ⟨(blk_cell (w := V3) HX13.out 6).trans rfl, (blk_cell (w := V3) HX13.out 7).trans rfl, (blk_cell (w := V3) HX13.out 8).trans rfl, (blk_cell (w := V3) HX13.out 9).trans rfl⟩
  refine hK.out _ _ hS3 (fun hHeld => ?_)
  clear hK K
  refine norm_ (a' := ?_) ?_ ?_
  rotate_left
  · show Act.put _ (some 46) _ = _
    simp only [Act.put, List.setIfInBounds_toArray, List.set_cons_zero, List.set_cons_succ, i64_w, i32_w]
    rfl
  refine one_ (i := 16) (N := some 50) #[true, true, true, true, true, true, true, true, true, true, true, true, true, true, true, true, true, false, false] rfl rfl (by kernel_rfl) (by decide) (fun K hK => ?_)
  refine goes_ Tryz.func52 (by kernel_rfl) rfl #[.int .i64 d] (by rfl) rfl rfl (by (try simp only [List.map_toArray, List.map_cons, List.map_nil]); first | done | rfl) ?_
  refine (Tryz.strconv_Itoa d HF.out.fn.2.2.2.1 HF.out.fn.2.2.2.2 V3 (HE.out.later HB13.out).tab).mono ?_
  rintro e V4 ⟨rfl, hv⟩
  refine ⟨_, rfl, ?_⟩
  have hb : Below V3.heap.size V3 V4 := by obtain ⟨kk, os, hv⟩ := hv; rw [hv]; exact below_grow2 V3 kk os
  have HX14 := Lib.hid ((hb.block _ (blk_lt HX13.out)).trans HX13.out)
  have HB14 := Lib.hid (HB13.out.trans (hb.mono HB13.out.size))
  clear hb hv HX13 HB13
  have hS4 : V4.cell? ⟨w.heap.size, 6, none⟩ = some (.int .i64 a) ∧ V4.cell? ⟨w.heap.size, 7, none⟩ = some (.int .i64 b) ∧ V4.cell? ⟨w.heap.size, 8, none⟩ = some (.int .i64 c) ∧ V4.cell? ⟨w.heap.size, 9, none⟩ = some (.int .i64 d) := ⟨(blk_cell (w := V4) HX14.out 6).trans rfl, (blk_cell (w := V4) HX14.out 7).trans rfl, (blk_cell (w := V4) HX14.out 8).trans rfl, (blk_cell (w := V4) HX14.out 9).trans rfl⟩
  refine hK.out _ _ hS4 (fun hHeld => ?_)
  clear hK K
  refine norm_ (a' := ?_) ?_ ?_
  rotate_left
  · show Act.put _ (some 50) _ = _
    simp only [Act.put, List.setIfInBounds_toArray, List.set_cons_zero, List.set_cons_succ, i64_w, i32_w]
    rfl
  refine one_ (i := 17) (N := some 51) #[true, true, true, true, true, true, true, true, true, true, true, true, true, true, true, true, true, true, false] rfl rfl (by kernel_rfl) (by decide) (fun K hK => ?_)
  refine value_ (w1 := ?_) (v := ?_) (by rfl) rfl ?_ ?_
  rotate_left 2
  · go_simp
    constructor
    · rfl
    · rfl
  have hSb : (V4.alloc (.cells #[.string ⟨#[119, 105, 110, 100, 111, 119]⟩, .string ⟨(placesT ins).toArray⟩, .string ⟨(Lib.itoa a).toArray⟩, .string ⟨(Lib.itoa b).toArray⟩, .string ⟨(Lib.itoa c).toArray⟩, .string ⟨(Lib.itoa d).toArray⟩] 9)).cell? ⟨w.heap.size, 6, none⟩ = some (.int .i64 a) ∧ (V4.alloc (.cells #[.string ⟨#[119, 105, 110, 100, 111, 119]⟩, .string ⟨(placesT ins).toArray⟩, .string ⟨(Lib.itoa a).toArray⟩, .string ⟨(Lib.itoa b).toArray⟩, .string ⟨(Lib.itoa c).toArray⟩, .string ⟨(Lib.itoa d).toArray⟩] 9)).cell? ⟨w.heap.size, 7, none⟩ = some (.int .i64 b) ∧ (V4.alloc (.cells #[.string ⟨#[119, 105, 110, 100, 111, 119]⟩, .string ⟨(placesT ins).toArray⟩, .string ⟨(Lib.itoa a).toArray⟩, .string ⟨(Lib.itoa b).toArray⟩, .string ⟨(Lib.itoa c).toArray⟩, .string ⟨(Lib.itoa d).toArray⟩] 9)).cell? ⟨w.heap.size, 8, none⟩ = some (.int .i64 c) ∧ (V4.alloc (.cells #[.string ⟨#[119, 105, 110, 100, 111, 119]⟩, .string ⟨(placesT ins).toArray⟩, .string ⟨(Lib.itoa a).toArray⟩, .string ⟨(Lib.itoa b).toArray⟩, .string ⟨(Lib.itoa c).toArray⟩, .string ⟨(Lib.itoa d).toArray⟩] 9)).cell? ⟨w.heap.size, 9, none⟩ = some (.int .i64 d) := ⟨(blk_cell (w := (V4.alloc (.cells #[.string ⟨#[119, 105, 110, 100, 111, 119]⟩, .string ⟨(placesT ins).toArray⟩, .string ⟨(Lib.itoa a).toArray⟩, .string ⟨(Lib.itoa b).toArray⟩, .string ⟨(Lib.itoa c).toArray⟩, .string ⟨(Lib.itoa d).toArray⟩] 9))) (Lib.hid (blk_alloc HX14.out _)).out 6).trans rfl, (blk_cell (w := (V4.alloc (.cells #[.string ⟨#[119, 105, 110, 100, 111, 119]⟩, .string ⟨(placesT ins).toArray⟩, .string ⟨(Lib.itoa a).toArray⟩, .string ⟨(Lib.itoa b).toArray⟩, .string ⟨(Lib.itoa c).toArray⟩, .string ⟨(Lib.itoa d).toArray⟩] 9))) (Lib.hid (blk_alloc HX14.out _)).out 7).trans rfl, (blk_cell (w := (V4.alloc (.cells #[.string ⟨#[119, 105, 110, 100, 111, 119]⟩, .string ⟨(placesT ins).toArray⟩, .string ⟨(Lib.itoa a).toArray⟩, .string ⟨(Lib.itoa b).toArray⟩, .string ⟨(Lib.itoa c).toArray⟩, .string ⟨(Lib.itoa d).toArray⟩] 9))) (Lib.hid (blk_alloc HX14.out _)).out 8).trans rfl, (blk_cell (w := (V4.alloc (.cells #[.string ⟨#[119, 105, 110, 100, 111, 119]⟩, .string ⟨(placesT ins).toArray⟩, .string ⟨(Lib.itoa a).toArray⟩, .string ⟨(Lib.itoa b).toArray⟩, .string ⟨(Lib.itoa c).toArray⟩, .string ⟨(Lib.itoa d).toArray⟩] 9))) (Lib.hid (blk_alloc HX14.out _)).out 9).trans rfl⟩
  refine hK.out _ _ hSb (fun hHeld => ?_)
  clear hK K
  refine norm_ (a' := ?_) ?_ ?_
  rotate_left
  · show Act.put _ (some 51) _ = _
    simp only [Act.put, List.setIfInBounds_toArray, List.set_cons_zero, List.set_cons_succ, i64_w, i32_w]
    rfl
  refine pure_ (i := 18) (N := some 4) (v := ?_) (a' := ?_) #[true, true, true, true, true, true, true, true, true, true, true, true, true, true, true, true, true, true, true] rfl rfl (by kernel_rfl) (fun _ _ _ h => h) (Or.inl ⟨by rfl, ?_⟩) ?_ ?_
  rotate_left
  · intro w'
    go_simp
    with_reducible rfl
  rotate_left
  · simp only [Act.put, List.setIfInBounds_toArray, List.set_cons_zero, List.set_cons_succ, i64_w, i32_w]
    rfl
  refine done_ (by kernel_rfl) ?_
  clear hHeld hSb
  have hz := blk_lt HX14.out
  go_wp2_with fail
  have hS := row_join V4.heap.size [⟨#[119, 105, 110, 100, 111, 119]⟩, ⟨(placesT ins).toArray⟩, ⟨(Lib.itoa a).toArray⟩, ⟨(Lib.itoa b).toArray⟩, ⟨(Lib.itoa c).toArray⟩, ⟨(Lib.itoa d).toArray⟩] 6 rfl 32 (V4.alloc (.cells #[.string ⟨#[119, 105, 110, 100, 111, 119]⟩, .string ⟨(placesT ins).toArray⟩, .string ⟨(Lib.itoa a).toArray⟩, .string ⟨(Lib.itoa b).toArray⟩, .string ⟨(Lib.itoa c).toArray⟩, .string ⟨(Lib.itoa d).toArray⟩] 9)) (heap_alloc_new V4 _) (by show (6 : Nat) ≤ 100; decide) ?_
  rotate_left
  · have hpl := HPL.out
    have HFX := HF.out
    intro x hx
    simp only [List.mem_cons, List.not_mem_nil, or_false] at hx
    rcases hx with rfl | rfl | rfl | rfl | rfl | rfl
    · decide
    · show (placesT ins).length ≤ _; omega
    · have := Lib.itoa_length_le a HFX.fn.1.1 HFX.fn.1.2; show (Lib.itoa a).length ≤ _; omega
    · have := Lib.itoa_length_le b HFX.fn.2.1.1 HFX.fn.2.1.2; show (Lib.itoa b).length ≤ _; omega
    · have := Lib.itoa_length_le c HFX.fn.2.2.1.1 HFX.fn.2.2.1.2; show (Lib.itoa c).length ≤ _; omega
    · have := Lib.itoa_length_le d HFX.fn.2.2.2.1 HFX.fn.2.2.2.2; show (Lib.itoa d).length ≤ _; omega
  have HS := Lib.hid hS
  have hba := below_alloc HB14.out (.cells #[.string ⟨#[119, 105, 110, 100, 111, 119]⟩, .string ⟨(placesT ins).toArray⟩, .string ⟨(Lib.itoa a).toArray⟩, .string ⟨(Lib.itoa b).toArray⟩, .string ⟨(Lib.itoa c).toArray⟩, .string ⟨(Lib.itoa d).toArray⟩] 9)
  have HBA := Lib.hid hba
  clear hS hba hz
  generalize V4.heap.size = Nr at HS ⊢
  generalize V4.alloc (.cells #[.string ⟨#[119, 105, 110, 100, 111, 119]⟩, .string ⟨(placesT ins).toArray⟩, .string ⟨(Lib.itoa a).toArray⟩, .string ⟨(Lib.itoa b).toArray⟩, .string ⟨(Lib.itoa c).toArray⟩, .string ⟨(Lib.itoa d).toArray⟩] 9) = wr at *
  refine HS.out.mono ?_
  rintro e wj ⟨⟨sj, rfl, hsj, hsz⟩, hbj⟩
  have HSJ := Lib.hid hsj
  clear hsj
  have HBJ := Lib.hid (HB0.out.trans ((HBA.out.trans (hbj.mono HBA.out.size)).mono HB0.out.size))
  clear hbj
  go_wp2_with fail
  exact bodyPost_ret (v := .string (sj ++ ⟨#[10]⟩)) (by simp [results, Tryz.results28, go_sem]) rfl ⟨by rw [HSJ.out, put_end]; rfl, HBJ.out⟩

set_option maxHeartbeats 1000000 in
set_option maxRecDepth 100000 in
theorem line_4acc (ins sides : List Int) (tx : ByteArray) (kd : Int) (kids : List S59) (a b c d e0 e1 e2 : Int) (A1 A2 A5 : Option Addr) (c1 c2 c5 : Nat) (w : World) (hE : Env w) (hF : Fit ⟨4, ins, sides, tx, ⟨kd, kids⟩, ⟨a, b, c, d⟩, ⟨e0, e1, e2, true⟩⟩) (h1 : ins.length ≤ c1) (k1 : Kd.C (Kd.int .i64) w A1 ins.length ins) (h2 : sides.length ≤ c2) (k2 : Kd.C (Kd.int .i64) w A2 sides.length sides) (h5 : kids.length ≤ c5) (k5 : k59.C w A5 kids.length kids) :
    Calls Tryz.prog 28 #[.agg #[.int .i64 4, .slice A1 ins.length c1, .slice A2 sides.length c2, .string tx, .int .i64 kd, .slice A5 kids.length c5, .int .i64 a, .int .i64 b, .int .i64 c, .int .i64 d, .int .i64 e0, .int .i64 e1, .int .i64 e2, .bool true]] w fun e w' => e = .returned (.string ⟨(lineT ⟨4, ins, sides, tx, ⟨kd, kids⟩, ⟨a, b, c, d⟩, ⟨e0, e1, e2, true⟩⟩).toArray⟩) ∧ Below w.heap.size w w' := by
  have hb0 := below_alloc (Below.refl w.heap.size w) (.cells #[.int .i64 4, .slice A1 ins.length c1, .slice A2 sides.length c2, .string tx, .int .i64 kd, .slice A5 kids.length c5, .int .i64 a, .int .i64 b, .int .i64 c, .int .i64 d, .int .i64 e0, .int .i64 e1, .int .i64 e2, .bool true] 63)
  have HX0 := Lib.hid (heap_alloc_new w (.cells #[.int .i64 4, .slice A1 ins.length c1, .slice A2 sides.length c2, .string tx, .int .i64 kd, .slice A5 kids.length c5, .int .i64 a, .int .i64 b, .int .i64 c, .int .i64 d, .int .i64 e0, .int .i64 e1, .int .i64 e2, .bool true] 63))
  have HE := Lib.hid (hE.later hb0); have HF := Lib.hid hF
  have K1 := Lib.hid (Kd.C_below k1 hb0); have K2 := Lib.hid (Kd.C_below k2 hb0); have K5 := Lib.hid (Kd.C_below k5 hb0)
  have HB0 := Lib.hid hb0
  have hpl := placesT_len ins hF.ins.1 hF.ins.2
  have HPL := Lib.hid hpl
  clear hb0 hE hF k1 k2 k5 hpl
  go_enter Tryz.func28, Tryz.ntmps28
  go_wp2_with fail
  generalize w.alloc (.cells #[.int .i64 4, .slice A1 ins.length c1, .slice A2 sides.length c2, .string tx, .int .i64 kd, .slice A5 kids.length c5, .int .i64 a, .int .i64 b, .int .i64 c, .int .i64 d, .int .i64 e0, .int .i64 e1, .int .i64 e2, .bool true] 63) = w0 at *
  refine (places_show ins A1 c1 w0 HE.out HF.out.ins.1 h1 HF.out.ins.2 K1.out).mono ?_
  rintro e w1 ⟨rfl, hb1⟩
  have HX := Lib.hid ((hb1.block _ (blk_lt HX0.out)).trans HX0.out)
  have HB := Lib.hid hb1
  clear hb1 HX0
  have m0 : w1.cell? ⟨w.heap.size, 0, none⟩ = some (.int .i64 4) := (blk_cell HX.out 0).trans rfl
  have m13 : w1.cell? ⟨w.heap.size, 13, none⟩ = some (.bool true) := (blk_cell HX.out 13).trans rfl
  have hz := blk_lt HX.out
  go_upto_region 15 with fail
  refine start_ (n := 18) (S := fun w' => w'.cell? ⟨w.heap.size, 3, none⟩ = some (.string tx) ∧ w'.cell? ⟨w.heap.size, 10, none⟩ = some (.int .i64 e0) ∧ w'.cell? ⟨w.heap.size, 11, none⟩ = some (.int .i64 e1) ∧ w'.cell? ⟨w.heap.size, 12, none⟩ = some (.int .i64 e2)) (ds := []) #[false, false, false, false, false, false, false, false, false, false, false, false, false, false, false, false, false, false] (by kernel_rfl) rfl rfl ⟨(blk_cell (w := w1.drew) HX.out 3).trans rfl, (blk_cell (w := w1.drew) HX.out 10).trans rfl, (blk_cell (w := w1.drew) HX.out 11).trans rfl, (blk_cell (w := w1.drew) HX.out 12).trans rfl⟩ (fun hHeld => ?_)
  have HXa : Hid (w1.drew.heap[w.heap.size]? = _) := HX.out
  have HBa := Lib.hid (Below.drew HB.out)
  clear hz m0 m13
  clear HX HB
  generalize w1.drew = V0 at HXa HBa hHeld ⊢
  refine pure_ (i := 0) (N := some 57) (v := ?_) (a' := ?_) #[true, false, false, false, false, false, false, false, false, false, false, false, false, false, false, false, false, false] rfl rfl (by kernel_rfl) (fun _ _ _ h => h) (Or.inl ⟨by rfl, ?_⟩) ?_ ?_
  rotate_left
  · intro w'
    go_simp
    with_reducible rfl
  rotate_left
  · simp only [Act.put, List.setIfInBounds_toArray, List.set_cons_zero, List.set_cons_succ, i64_w, i32_w]
    rfl
  refine pure_ (i := 1) (N := some 58) (v := ?_) (a' := ?_) #[true, true, false, false, false, false, false, false, false, false, false, false, false, false, false, false, false, false] rfl rfl (by kernel_rfl) (fun _ _ _ h => h) (Or.inl ⟨by rfl, ?_⟩) ?_ ?_
  rotate_left
  · intro w'
    go_simp
    with_reducible rfl
  rotate_left
  · simp only [Act.put, List.setIfInBounds_toArray, List.set_cons_zero, List.set_cons_succ, i64_w, i32_w]
    rfl
  refine pure_ (i := 2) (N := some 59) (v := ?_) (a' := ?_) #[true, true, true, false, false, false, false, false, false, false, false, false, false, false, false, false, false, false] rfl rfl (by kernel_rfl) (fun _ _ _ h => h) (Or.inl ⟨by rfl, ?_⟩) ?_ ?_
  rotate_left
  · intro w'
    go_simp
    with_reducible rfl
  rotate_left
  · simp only [Act.put, List.setIfInBounds_toArray, List.set_cons_zero, List.set_cons_succ, i64_w, i32_w]
    rfl
  refine take_ (i := 3) (N := some 60) (v := ?_) (a' := ?_) #[true, true, true, true, false, false, false, false, false, false, false, false, false, false, false, false, false, false] rfl rfl (by kernel_rfl) (fun _ _ _ h => h) (Or.inl ⟨by rfl, ?_⟩) (by assumption) ?_ ?_
  rotate_left
  · intro w' hSw
    try dsimp only at hSw
    go_simp
    with_reducible rfl
  rotate_left
  · simp only [Act.put, List.setIfInBounds_toArray, List.set_cons_zero, List.set_cons_succ, i64_w, i32_w]
    rfl
  refine pure_ (i := 5) (N := some 62) (v := ?_) (a' := ?_) #[true, true, true, true, false, true, false, false, false, false, false, false, false, false, false, false, false, false] rfl rfl (by kernel_rfl) (fun _ _ _ h => h) (Or.inl ⟨by rfl, ?_⟩) ?_ ?_
  rotate_left
  · intro w'
    go_simp
    with_reducible rfl
  rotate_left
  · simp only [Act.put, List.setIfInBounds_toArray, List.set_cons_zero, List.set_cons_succ, i64_w, i32_w]
    rfl
  refine pure_ (i := 6) (N := some 63) (v := ?_) (a' := ?_) #[true, true, true, true, false, true, true, false, false, false, false, false, false, false, false, false, false, false] rfl rfl (by kernel_rfl) (fun _ _ _ h => h) (Or.inl ⟨by rfl, ?_⟩) ?_ ?_
  rotate_left
  · intro w'
    go_simp
    with_reducible rfl
  rotate_left
  · simp only [Act.put, List.setIfInBounds_toArray, List.set_cons_zero, List.set_cons_succ, i64_w, i32_w]
    rfl
  refine take_ (i := 7) (N := some 64) (v := ?_) (a' := ?_) #[true, true, true, true, false, true, true, true, false, false, false, false, false, false, false, false, false, false] rfl rfl (by kernel_rfl) (fun _ _ _ h => h) (Or.inl ⟨by rfl, ?_⟩) (by assumption) ?_ ?_
  rotate_left
  · intro w' hSw
    try dsimp only at hSw
    go_simp
    with_reducible rfl
  rotate_left
  · simp only [Act.put, List.setIfInBounds_toArray, List.set_cons_zero, List.set_cons_succ, i64_w, i32_w]
    rfl
  refine pure_ (i := 9) (N := some 66) (v := ?_) (a' := ?_) #[true, true, true, true, false, true, true, true, false, true, false, false, false, false, false, false, false, false] rfl rfl (by kernel_rfl) (fun _ _ _ h => h) (Or.inl ⟨by rfl, ?_⟩) ?_ ?_
  rotate_left
  · intro w'
    go_simp
    with_reducible rfl
  rotate_left
  · simp only [Act.put, List.setIfInBounds_toArray, List.set_cons_zero, List.set_cons_succ, i64_w, i32_w]
    rfl
  refine pure_ (i := 10) (N := some 67) (v := ?_) (a' := ?_) #[true, true, true, true, false, true, true, true, false, true, true, false, false, false, false, false, false, false] rfl rfl (by kernel_rfl) (fun _ _ _ h => h) (Or.inl ⟨by rfl, ?_⟩) ?_ ?_
  rotate_left
  · intro w'
    go_simp
    with_reducible rfl
  rotate_left
  · simp only [Act.put, List.setIfInBounds_toArray, List.set_cons_zero, List.set_cons_succ, i64_w, i32_w]
    rfl
  refine take_ (i := 11) (N := some 68) (v := ?_) (a' := ?_) #[true, true, true, true, false, true, true, true, false, true, true, true, false, false, false, false, false, false] rfl rfl (by kernel_rfl) (fun _ _ _ h => h) (Or.inl ⟨by rfl, ?_⟩) (by assumption) ?_ ?_
  rotate_left
  · intro w' hSw
    try dsimp only at hSw
    go_simp
    with_reducible rfl
  rotate_left
  · simp only [Act.put, List.setIfInBounds_toArray, List.set_cons_zero, List.set_cons_succ, i64_w, i32_w]
    rfl
  refine pure_ (i := 13) (N := some 70) (v := ?_) (a' := ?_) #[true, true, true, true, false, true, true, true, false, true, true, true, false, true, false, false, false, false] rfl rfl (by kernel_rfl) (fun _ _ _ h => h) (Or.inl ⟨by rfl, ?_⟩) ?_ ?_
  rotate_left
  · intro w'
    go_simp
    with_reducible rfl
  rotate_left
  · simp only [Act.put, List.setIfInBounds_toArray, List.set_cons_zero, List.set_cons_succ, i64_w, i32_w]
    rfl
  refine pure_ (i := 14) (N := some 71) (v := ?_) (a' := ?_) #[true, true, true, true, false, true, true, true, false, true, true, true, false, true, true, false, false, false] rfl rfl (by kernel_rfl) (fun _ _ _ h => h) (Or.inl ⟨by rfl, ?_⟩) ?_ ?_
  rotate_left
  · intro w'
    go_simp
    with_reducible rfl
  rotate_left
  · simp only [Act.put, List.setIfInBounds_toArray, List.set_cons_zero, List.set_cons_succ, i64_w, i32_w]
    rfl
  refine take_ (i := 15) (N := some 72) (v := ?_) (a' := ?_) #[true, true, true, true, false, true, true, true, false, true, true, true, false, true, true, true, false, false] rfl rfl (by kernel_rfl) (fun _ _ _ h => h) (Or.inl ⟨by rfl, ?_⟩) (by assumption) ?_ ?_
  rotate_left
  · intro w' hSw
    try dsimp only at hSw
    go_simp
    with_reducible rfl
  rotate_left
  · simp only [Act.put, List.setIfInBounds_toArray, List.set_cons_zero, List.set_cons_succ, i64_w, i32_w]
    rfl
  refine one_ (i := 4) (N := some 61) #[true, true, true, true, true, true, true, true, false, true, true, true, false, true, true, true, false, false] rfl rfl (by kernel_rfl) (by decide) (fun K hK => ?_)
  refine goes_ Tryz.func52 (by kernel_rfl) rfl #[.int .i64 e0] (by rfl) rfl rfl (by (try simp only [List.map_toArray, List.map_cons, List.map_nil]); first | done | rfl) ?_
  refine (Tryz.strconv_Itoa e0 HF.out.trig.1.1 HF.out.trig.1.2 V0 (HE.out.later HBa.out).tab).mono ?_
  rintro e V1 ⟨rfl, hv⟩
  refine ⟨_, rfl, ?_⟩
  have hb : Below V0.heap.size V0 V1 := by obtain ⟨kk, os, hv⟩ := hv; rw [hv]; exact below_grow2 V0 kk os
  have HX11 := Lib.hid ((hb.block _ (blk_lt HXa.out)).trans HXa.out)
  have HB11 := Lib.hid (HBa.out.trans (hb.mono HBa.out.size))
  clear hb hv HXa HBa
  have hS1 : V1.cell? ⟨w.heap.size, 3, none⟩ = some (.string tx) ∧ V1.cell? ⟨w.heap.size, 10, none⟩ = some (.int .i64 e0) ∧ V1.cell? ⟨w.heap.size, 11, none⟩ = some (.int .i64 e1) ∧ V1.cell? ⟨w.heap.size, 12, none⟩ = some (.int .i64 e2) := ⟨(blk_cell (w := V1) HX11.out 3).trans rfl, (blk_cell (w := V1) HX11.out 10).trans rfl, (blk_cell (w := V1) HX11.out 11).trans rfl, (blk_cell (w := V1) HX11.out 12).trans rfl⟩
  refine hK.out _ _ hS1 (fun hHeld => ?_)
  clear hK K
  refine norm_ (a' := ?_) ?_ ?_
  rotate_left
  · show Act.put _ (some 61) _ = _
    simp only [Act.put, List.setIfInBounds_toArray, List.set_cons_zero, List.set_cons_succ, i64_w, i32_w]
    rfl
  refine one_ (i := 8) (N := some 65) #[true, true, true, true, true, true, true, true, true, true, true, true, false, true, true, true, false, false] rfl rfl (by kernel_rfl) (by decide) (fun K hK => ?_)
  refine goes_ Tryz.func52 (by kernel_rfl) rfl #[.int .i64 e1] (by rfl) rfl rfl (by (try simp only [List.map_toArray, List.map_cons, List.map_nil]); first | done | rfl) ?_
  refine (Tryz.strconv_Itoa e1 HF.out.trig.2.1.1 HF.out.trig.2.1.2 V1 (HE.out.later HB11.out).tab).mono ?_
  rintro e V2 ⟨rfl, hv⟩
  refine ⟨_, rfl, ?_⟩
  have hb : Below V1.heap.size V1 V2 := by obtain ⟨kk, os, hv⟩ := hv; rw [hv]; exact below_grow2 V1 kk os
  have HX12 := Lib.hid ((hb.block _ (blk_lt HX11.out)).trans HX11.out)
  have HB12 := Lib.hid (HB11.out.trans (hb.mono HB11.out.size))
  clear hb hv HX11 HB11
  have hS2 : V2.cell? ⟨w.heap.size, 3, none⟩ = some (.string tx) ∧ V2.cell? ⟨w.heap.size, 10, none⟩ = some (.int .i64 e0) ∧ V2.cell? ⟨w.heap.size, 11, none⟩ = some (.int .i64 e1) ∧ V2.cell? ⟨w.heap.size, 12, none⟩ = some (.int .i64 e2) := ⟨(blk_cell (w := V2) HX12.out 3).trans rfl, (blk_cell (w := V2) HX12.out 10).trans rfl, (blk_cell (w := V2) HX12.out 11).trans rfl, (blk_cell (w := V2) HX12.out 12).trans rfl⟩
  refine hK.out _ _ hS2 (fun hHeld => ?_)
  clear hK K
  refine norm_ (a' := ?_) ?_ ?_
  rotate_left
  · show Act.put _ (some 65) _ = _
    simp only [Act.put, List.setIfInBounds_toArray, List.set_cons_zero, List.set_cons_succ, i64_w, i32_w]
    rfl
  refine one_ (i := 12) (N := some 69) #[true, true, true, true, true, true, true, true, true, true, true, true, true, true, true, true, false, false] rfl rfl (by kernel_rfl) (by decide) (fun K hK => ?_)
  refine goes_ Tryz.func52 (by kernel_rfl) rfl #[.int .i64 e2] (by rfl) rfl rfl (by (try simp only [List.map_toArray, List.map_cons, List.map_nil]); first | done | rfl) ?_
  refine (Tryz.strconv_Itoa e2 HF.out.trig.2.2.1 HF.out.trig.2.2.2 V2 (HE.out.later HB12.out).tab).mono ?_
  rintro e V3 ⟨rfl, hv⟩
  refine ⟨_, rfl, ?_⟩
  have hb : Below V2.heap.size V2 V3 := by obtain ⟨kk, os, hv⟩ := hv; rw [hv]; exact below_grow2 V2 kk os
  have HX13 := Lib.hid ((hb.block _ (blk_lt HX12.out)).trans HX12.out)
  have HB13 := Lib.hid (HB12.out.trans (hb.mono HB12.out.size))
  clear hb hv HX12 HB12
  have hS3 : V3.cell? ⟨w.heap.size, 3, none⟩ = some (.string tx) ∧ V3.cell? ⟨w.heap.size, 10, none⟩ = some (.int .i64 e0) ∧ V3.cell? ⟨w.heap.size, 11, none⟩ = some (.int .i64 e1) ∧ V3.cell? ⟨w.heap.size, 12, none⟩ = some (.int .i64 e2) := ⟨(blk_cell (w := V3) HX13.out 3).trans rfl, (blk_cell (w := V3) HX13.out 10).trans rfl, (blk_cell (w := V3) HX13.out 11).trans rfl, (blk_cell (w := V3) HX13.out 12).trans rfl⟩
  refine hK.out _ _ hS3 (fun hHeld => ?_)
  clear hK K
  refine norm_ (a' := ?_) ?_ ?_
  rotate_left
  · show Act.put _ (some 69) _ = _
    simp only [Act.put, List.setIfInBounds_toArray, List.set_cons_zero, List.set_cons_succ, i64_w, i32_w]
    rfl
  refine one_ (i := 16) (N := some 73) #[true, true, true, true, true, true, true, true, true, true, true, true, true, true, true, true, true, false] rfl rfl (by kernel_rfl) (by decide) (fun K hK => ?_)
  refine value_ (w1 := ?_) (v := ?_) (by rfl) rfl ?_ ?_
  rotate_left 2
  · go_simp
    constructor
    · rfl
    · rfl
  have hSb : (V3.alloc (.cells #[.string ⟨#[103, 114, 111, 117, 112]⟩, .string ⟨(placesT ins).toArray⟩, .string ⟨(Lib.itoa e0).toArray⟩, .string ⟨(Lib.itoa e1).toArray⟩, .string ⟨(Lib.itoa e2).toArray⟩, .string ⟨#[97, 99, 99]⟩, .string tx] 9)).cell? ⟨w.heap.size, 3, none⟩ = some (.string tx) ∧ (V3.alloc (.cells #[.string ⟨#[103, 114, 111, 117, 112]⟩, .string ⟨(placesT ins).toArray⟩, .string ⟨(Lib.itoa e0).toArray⟩, .string ⟨(Lib.itoa e1).toArray⟩, .string ⟨(Lib.itoa e2).toArray⟩, .string ⟨#[97, 99, 99]⟩, .string tx] 9)).cell? ⟨w.heap.size, 10, none⟩ = some (.int .i64 e0) ∧ (V3.alloc (.cells #[.string ⟨#[103, 114, 111, 117, 112]⟩, .string ⟨(placesT ins).toArray⟩, .string ⟨(Lib.itoa e0).toArray⟩, .string ⟨(Lib.itoa e1).toArray⟩, .string ⟨(Lib.itoa e2).toArray⟩, .string ⟨#[97, 99, 99]⟩, .string tx] 9)).cell? ⟨w.heap.size, 11, none⟩ = some (.int .i64 e1) ∧ (V3.alloc (.cells #[.string ⟨#[103, 114, 111, 117, 112]⟩, .string ⟨(placesT ins).toArray⟩, .string ⟨(Lib.itoa e0).toArray⟩, .string ⟨(Lib.itoa e1).toArray⟩, .string ⟨(Lib.itoa e2).toArray⟩, .string ⟨#[97, 99, 99]⟩, .string tx] 9)).cell? ⟨w.heap.size, 12, none⟩ = some (.int .i64 e2) := ⟨(blk_cell (w := (V3.alloc (.cells #[.string ⟨#[103, 114, 111, 117, 112]⟩, .string ⟨(placesT ins).toArray⟩, .string ⟨(Lib.itoa e0).toArray⟩, .string ⟨(Lib.itoa e1).toArray⟩, .string ⟨(Lib.itoa e2).toArray⟩, .string ⟨#[97, 99, 99]⟩, .string tx] 9))) (Lib.hid (blk_alloc HX13.out _)).out 3).trans rfl, (blk_cell (w := (V3.alloc (.cells #[.string ⟨#[103, 114, 111, 117, 112]⟩, .string ⟨(placesT ins).toArray⟩, .string ⟨(Lib.itoa e0).toArray⟩, .string ⟨(Lib.itoa e1).toArray⟩, .string ⟨(Lib.itoa e2).toArray⟩, .string ⟨#[97, 99, 99]⟩, .string tx] 9))) (Lib.hid (blk_alloc HX13.out _)).out 10).trans rfl, (blk_cell (w := (V3.alloc (.cells #[.string ⟨#[103, 114, 111, 117, 112]⟩, .string ⟨(placesT ins).toArray⟩, .string ⟨(Lib.itoa e0).toArray⟩, .string ⟨(Lib.itoa e1).toArray⟩, .string ⟨(Lib.itoa e2).toArray⟩, .string ⟨#[97, 99, 99]⟩, .string tx] 9))) (Lib.hid (blk_alloc HX13.out _)).out 11).trans rfl, (blk_cell (w := (V3.alloc (.cells #[.string ⟨#[103, 114, 111, 117, 112]⟩, .string ⟨(placesT ins).toArray⟩, .string ⟨(Lib.itoa e0).toArray⟩, .string ⟨(Lib.itoa e1).toArray⟩, .string ⟨(Lib.itoa e2).toArray⟩, .string ⟨#[97, 99, 99]⟩, .string tx] 9))) (Lib.hid (blk_alloc HX13.out _)).out 12).trans rfl⟩
  refine hK.out _ _ hSb (fun hHeld => ?_)
  clear hK K
  refine norm_ (a' := ?_) ?_ ?_
  rotate_left
  · show Act.put _ (some 73) _ = _
    simp only [Act.put, List.setIfInBounds_toArray, List.set_cons_zero, List.set_cons_succ, i64_w, i32_w]
    rfl
  refine pure_ (i := 17) (N := some 4) (v := ?_) (a' := ?_) #[true, true, true, true, true, true, true, true, true, true, true, true, true, true, true, true, true, true] rfl rfl (by kernel_rfl) (fun _ _ _ h => h) (Or.inl ⟨by rfl, ?_⟩) ?_ ?_
  rotate_left
  · intro w'
    go_simp
    with_reducible rfl
  rotate_left
  · simp only [Act.put, List.setIfInBounds_toArray, List.set_cons_zero, List.set_cons_succ, i64_w, i32_w]
    rfl
  refine done_ (by kernel_rfl) ?_
  clear hHeld hSb
  have hz := blk_lt HX13.out
  go_wp2_with fail
  have hS := row_join V3.heap.size [⟨#[103, 114, 111, 117, 112]⟩, ⟨(placesT ins).toArray⟩, ⟨(Lib.itoa e0).toArray⟩, ⟨(Lib.itoa e1).toArray⟩, ⟨(Lib.itoa e2).toArray⟩, ⟨#[97, 99, 99]⟩, tx] 7 rfl 32 (V3.alloc (.cells #[.string ⟨#[103, 114, 111, 117, 112]⟩, .string ⟨(placesT ins).toArray⟩, .string ⟨(Lib.itoa e0).toArray⟩, .string ⟨(Lib.itoa e1).toArray⟩, .string ⟨(Lib.itoa e2).toArray⟩, .string ⟨#[97, 99, 99]⟩, .string tx] 9)) (heap_alloc_new V3 _) (by show (7 : Nat) ≤ 100; decide) ?_
  rotate_left
  · have hpl := HPL.out
    have HFX := HF.out
    intro x hx
    simp only [List.mem_cons, List.not_mem_nil, or_false] at hx
    rcases hx with rfl | rfl | rfl | rfl | rfl | rfl | rfl
    · decide
    · show (placesT ins).length ≤ _; omega
    · have := Lib.itoa_length_le e0 HFX.trig.1.1 HFX.trig.1.2; show (Lib.itoa e0).length ≤ _; omega
    · have := Lib.itoa_length_le e1 HFX.trig.2.1.1 HFX.trig.2.1.2; show (Lib.itoa e1).length ≤ _; omega
    · have := Lib.itoa_length_le e2 HFX.trig.2.2.1 HFX.trig.2.2.2; show (Lib.itoa e2).length ≤ _; omega
    · decide
    · exact HFX.text
  have HS := Lib.hid hS
  have hba := below_alloc HB13.out (.cells #[.string ⟨#[103, 114, 111, 117, 112]⟩, .string ⟨(placesT ins).toArray⟩, .string ⟨(Lib.itoa e0).toArray⟩, .string ⟨(Lib.itoa e1).toArray⟩, .string ⟨(Lib.itoa e2).toArray⟩, .string ⟨#[97, 99, 99]⟩, .string tx] 9)
  have HBA := Lib.hid hba
  clear hS hba hz
  generalize V3.heap.size = Nr at HS ⊢
  generalize V3.alloc (.cells #[.string ⟨#[103, 114, 111, 117, 112]⟩, .string ⟨(placesT ins).toArray⟩, .string ⟨(Lib.itoa e0).toArray⟩, .string ⟨(Lib.itoa e1).toArray⟩, .string ⟨(Lib.itoa e2).toArray⟩, .string ⟨#[97, 99, 99]⟩, .string tx] 9) = wr at *
  refine HS.out.mono ?_
  rintro e wj ⟨⟨sj, rfl, hsj, hsz⟩, hbj⟩
  have HSJ := Lib.hid hsj
  clear hsj
  have HBJ := Lib.hid (HB0.out.trans ((HBA.out.trans (hbj.mono HBA.out.size)).mono HB0.out.size))
  clear hbj
  go_wp2_with fail
  exact bodyPost_ret (v := .string (sj ++ ⟨#[10]⟩)) (by simp [results, Tryz.results28, go_sem]) rfl ⟨by rw [HSJ.out, put_end]; rfl, HBJ.out⟩

set_option maxHeartbeats 1000000 in
set_option maxRecDepth 100000 in
theorem line_4dis (ins sides : List Int) (tx : ByteArray) (kd : Int) (kids : List S59) (a b c d e0 e1 e2 : Int) (A1 A2 A5 : Option Addr) (c1 c2 c5 : Nat) (w : World) (hE : Env w) (hF : Fit ⟨4, ins, sides, tx, ⟨kd, kids⟩, ⟨a, b, c, d⟩, ⟨e0, e1, e2, false⟩⟩) (h1 : ins.length ≤ c1) (k1 : Kd.C (Kd.int .i64) w A1 ins.length ins) (h2 : sides.length ≤ c2) (k2 : Kd.C (Kd.int .i64) w A2 sides.length sides) (h5 : kids.length ≤ c5) (k5 : k59.C w A5 kids.length kids) :
    Calls Tryz.prog 28 #[.agg #[.int .i64 4, .slice A1 ins.length c1, .slice A2 sides.length c2, .string tx, .int .i64 kd, .slice A5 kids.length c5, .int .i64 a, .int .i64 b, .int .i64 c, .int .i64 d, .int .i64 e0, .int .i64 e1, .int .i64 e2, .bool false]] w fun e w' => e = .returned (.string ⟨(lineT ⟨4, ins, sides, tx, ⟨kd, kids⟩, ⟨a, b, c, d⟩, ⟨e0, e1, e2, false⟩⟩).toArray⟩) ∧ Below w.heap.size w w' := by
  have hb0 := below_alloc (Below.refl w.heap.size w) (.cells #[.int .i64 4, .slice A1 ins.length c1, .slice A2 sides.length c2, .string tx, .int .i64 kd, .slice A5 kids.length c5, .int .i64 a, .int .i64 b, .int .i64 c, .int .i64 d, .int .i64 e0, .int .i64 e1, .int .i64 e2, .bool false] 63)
  have HX0 := Lib.hid (heap_alloc_new w (.cells #[.int .i64 4, .slice A1 ins.length c1, .slice A2 sides.length c2, .string tx, .int .i64 kd, .slice A5 kids.length c5, .int .i64 a, .int .i64 b, .int .i64 c, .int .i64 d, .int .i64 e0, .int .i64 e1, .int .i64 e2, .bool false] 63))
  have HE := Lib.hid (hE.later hb0); have HF := Lib.hid hF
  have K1 := Lib.hid (Kd.C_below k1 hb0); have K2 := Lib.hid (Kd.C_below k2 hb0); have K5 := Lib.hid (Kd.C_below k5 hb0)
  have HB0 := Lib.hid hb0
  have hpl := placesT_len ins hF.ins.1 hF.ins.2
  have HPL := Lib.hid hpl
  clear hb0 hE hF k1 k2 k5 hpl
  go_enter Tryz.func28, Tryz.ntmps28
  go_wp2_with fail
  generalize w.alloc (.cells #[.int .i64 4, .slice A1 ins.length c1, .slice A2 sides.length c2, .string tx, .int .i64 kd, .slice A5 kids.length c5, .int .i64 a, .int .i64 b, .int .i64 c, .int .i64 d, .int .i64 e0, .int .i64 e1, .int .i64 e2, .bool false] 63) = w0 at *
  refine (places_show ins A1 c1 w0 HE.out HF.out.ins.1 h1 HF.out.ins.2 K1.out).mono ?_
  rintro e w1 ⟨rfl, hb1⟩
  have HX := Lib.hid ((hb1.block _ (blk_lt HX0.out)).trans HX0.out)
  have HB := Lib.hid hb1
  clear hb1 HX0
  have m0 : w1.cell? ⟨w.heap.size, 0, none⟩ = some (.int .i64 4) := (blk_cell HX.out 0).trans rfl
  have m13 : w1.cell? ⟨w.heap.size, 13, none⟩ = some (.bool false) := (blk_cell HX.out 13).trans rfl
  have hz := blk_lt HX.out
  go_upto_region 15 with fail
  refine start_ (n := 18) (S := fun w' => w'.cell? ⟨w.heap.size, 3, none⟩ = some (.string tx) ∧ w'.cell? ⟨w.heap.size, 10, none⟩ = some (.int .i64 e0) ∧ w'.cell? ⟨w.heap.size, 11, none⟩ = some (.int .i64 e1) ∧ w'.cell? ⟨w.heap.size, 12, none⟩ = some (.int .i64 e2)) (ds := []) #[false, false, false, false, false, false, false, false, false, false, false, false, false, false, false, false, false, false] (by kernel_rfl) rfl rfl ⟨(blk_cell (w := w1.drew) HX.out 3).trans rfl, (blk_cell (w := w1.drew) HX.out 10).trans rfl, (blk_cell (w := w1.drew) HX.out 11).trans rfl, (blk_cell (w := w1.drew) HX.out 12).trans rfl⟩ (fun hHeld => ?_)
  have HXa : Hid (w1.drew.heap[w.heap.size]? = _) := HX.out
  have HBa := Lib.hid (Below.drew HB.out)
  clear hz m0 m13
  clear HX HB
  generalize w1.drew = V0 at HXa HBa hHeld ⊢
  refine pure_ (i := 0) (N := some 57) (v := ?_) (a' := ?_) #[true, false, false, false, false, false, false, false, false, false, false, false, false, false, false, false, false, false] rfl rfl (by kernel_rfl) (fun _ _ _ h => h) (Or.inl ⟨by rfl, ?_⟩) ?_ ?_
  rotate_left
  · intro w'
    go_simp
    with_reducible rfl
  rotate_left
  · simp only [Act.put, List.setIfInBounds_toArray, List.set_cons_zero, List.set_cons_succ, i64_w, i32_w]
    rfl
  refine pure_ (i := 1) (N := some 58) (v := ?_) (a' := ?_) #[true, true, false, false, false, false, false, false, false, false, false, false, false, false, false, false, false, false] rfl rfl (by kernel_rfl) (fun _ _ _ h => h) (Or.inl ⟨by rfl, ?_⟩) ?_ ?_
  rotate_left
  · intro w'
    go_simp
    with_reducible rfl
  rotate_left
  · simp only [Act.put, List.setIfInBounds_toArray, List.set_cons_zero, List.set_cons_succ, i64_w, i32_w]
    rfl
  refine pure_ (i := 2) (N := some 59) (v := ?_) (a' := ?_) #[true, true, true, false, false, false, false, false, false, false, false, false, false, false, false, false, false, false] rfl rfl (by kernel_rfl) (fun _ _ _ h => h) (Or.inl ⟨by rfl, ?_⟩) ?_ ?_
  rotate_left
  · intro w'
    go_simp
    with_reducible rfl
  rotate_left
  · simp only [Act.put, List.setIfInBounds_toArray, List.set_cons_zero, List.set_cons_succ, i64_w, i32_w]
    rfl
  refine take_ (i := 3) (N := some 60) (v := ?_) (a' := ?_) #[true, true, true, true, false, false, false, false, false, false, false, false, false, false, false, false, false, false] rfl rfl (by kernel_rfl) (fun _ _ _ h => h) (Or.inl ⟨by rfl, ?_⟩) (by assumption) ?_ ?_
  rotate_left
  · intro w' hSw
    try dsimp only at hSw
    go_simp
    with_reducible rfl
  rotate_left
  · simp only [Act.put, List.setIfInBounds_toArray, List.set_cons_zero, List.set_cons_succ, i64_w, i32_w]
    rfl
  refine pure_ (i := 5) (N := some 62) (v := ?_) (a' := ?_) #[true, true, true, true, false, true, false, false, false, false, false, false, false, false, false, false, false, false] rfl rfl (by kernel_rfl) (fun _ _ _ h => h) (Or.inl ⟨by rfl, ?_⟩) ?_ ?_
  rotate_left
  · intro w'
    go_simp
    with_reducible rfl
  rotate_left
  · simp only [Act.put, List.setIfInBounds_toArray, List.set_cons_zero, List.set_cons_succ, i64_w, i32_w]
    rfl
  refine pure_ (i := 6) (N := some 63) (v := ?_) (a' := ?_) #[true, true, true, true, false, true, true, false, false, false, false, false, false, false, false, false, false, false] rfl rfl (by kernel_rfl) (fun _ _ _ h => h) (Or.inl ⟨by rfl, ?_⟩) ?_ ?_
  rotate_left
  · intro w'
    go_simp
    with_reducible rfl
  rotate_left
  · simp only [Act.put, List.setIfInBounds_toArray, List.set_cons_zero, List.set_cons_succ, i64_w, i32_w]
    rfl
  refine take_ (i := 7) (N := some 64) (v := ?_) (a' := ?_) #[true, true, true, true, false, true, true, true, false, false, false, false, false, false, false, false, false, false] rfl rfl (by kernel_rfl) (fun _ _ _ h => h) (Or.inl ⟨by rfl, ?_⟩) (by assumption) ?_ ?_
  rotate_left
  · intro w' hSw
    try dsimp only at hSw
    go_simp
    with_reducible rfl
  rotate_left
  · simp only [Act.put, List.setIfInBounds_toArray, List.set_cons_zero, List.set_cons_succ, i64_w, i32_w]
    rfl
  refine pure_ (i := 9) (N := some 66) (v := ?_) (a' := ?_) #[true, true, true, true, false, true, true, true, false, true, false, false, false, false, false, false, false, false] rfl rfl (by kernel_rfl) (fun _ _ _ h => h) (Or.inl ⟨by rfl, ?_⟩) ?_ ?_
  rotate_left
  · intro w'
    go_simp
    with_reducible rfl
  rotate_left
  · simp only [Act.put, List.setIfInBounds_toArray, List.set_cons_zero, List.set_cons_succ, i64_w, i32_w]
    rfl
  refine pure_ (i := 10) (N := some 67) (v := ?_) (a' := ?_) #[true, true, true, true, false, true, true, true, false, true, true, false, false, false, false, false, false, false] rfl rfl (by kernel_rfl) (fun _ _ _ h => h) (Or.inl ⟨by rfl, ?_⟩) ?_ ?_
  rotate_left
  · intro w'
    go_simp
    with_reducible rfl
  rotate_left
  · simp only [Act.put, List.setIfInBounds_toArray, List.set_cons_zero, List.set_cons_succ, i64_w, i32_w]
    rfl
  refine take_ (i := 11) (N := some 68) (v := ?_) (a' := ?_) #[true, true, true, true, false, true, true, true, false, true, true, true, false, false, false, false, false, false] rfl rfl (by kernel_rfl) (fun _ _ _ h => h) (Or.inl ⟨by rfl, ?_⟩) (by assumption) ?_ ?_
  rotate_left
  · intro w' hSw
    try dsimp only at hSw
    go_simp
    with_reducible rfl
  rotate_left
  · simp only [Act.put, List.setIfInBounds_toArray, List.set_cons_zero, List.set_cons_succ, i64_w, i32_w]
    rfl
  refine pure_ (i := 13) (N := some 70) (v := ?_) (a' := ?_) #[true, true, true, true, false, true, true, true, false, true, true, true, false, true, false, false, false, false] rfl rfl (by kernel_rfl) (fun _ _ _ h => h) (Or.inl ⟨by rfl, ?_⟩) ?_ ?_
  rotate_left
  · intro w'
    go_simp
    with_reducible rfl
  rotate_left
  · simp only [Act.put, List.setIfInBounds_toArray, List.set_cons_zero, List.set_cons_succ, i64_w, i32_w]
    rfl
  refine pure_ (i := 14) (N := some 71) (v := ?_) (a' := ?_) #[true, true, true, true, false, true, true, true, false, true, true, true, false, true, true, false, false, false] rfl rfl (by kernel_rfl) (fun _ _ _ h => h) (Or.inl ⟨by rfl, ?_⟩) ?_ ?_
  rotate_left
  · intro w'
    go_simp
    with_reducible rfl
  rotate_left
  · simp only [Act.put, List.setIfInBounds_toArray, List.set_cons_zero, List.set_cons_succ, i64_w, i32_w]
    rfl
  refine take_ (i := 15) (N := some 72) (v := ?_) (a' := ?_) #[true, true, true, true, false, true, true, true, false, true, true, true, false, true, true, true, false, false] rfl rfl (by kernel_rfl) (fun _ _ _ h => h) (Or.inl ⟨by rfl, ?_⟩) (by assumption) ?_ ?_
  rotate_left
  · intro w' hSw
    try dsimp only at hSw
    go_simp
    with_reducible rfl
  rotate_left
  · simp only [Act.put, List.setIfInBounds_toArray, List.set_cons_zero, List.set_cons_succ, i64_w, i32_w]
    rfl
  refine one_ (i := 4) (N := some 61) #[true, true, true, true, true, true, true, true, false, true, true, true, false, true, true, true, false, false] rfl rfl (by kernel_rfl) (by decide) (fun K hK => ?_)
  refine goes_ Tryz.func52 (by kernel_rfl) rfl #[.int .i64 e0] (by rfl) rfl rfl (by (try simp only [List.map_toArray, List.map_cons, List.map_nil]); first | done | rfl) ?_
  refine (Tryz.strconv_Itoa e0 HF.out.trig.1.1 HF.out.trig.1.2 V0 (HE.out.later HBa.out).tab).mono ?_
  rintro e V1 ⟨rfl, hv⟩
  refine ⟨_, rfl, ?_⟩
  have hb : Below V0.heap.size V0 V1 := by obtain ⟨kk, os, hv⟩ := hv; rw [hv]; exact below_grow2 V0 kk os
  have HX11 := Lib.hid ((hb.block _ (blk_lt HXa.out)).trans HXa.out)
  have HB11 := Lib.hid (HBa.out.trans (hb.mono HBa.out.size))
  clear hb hv HXa HBa
  have hS1 : V1.cell? ⟨w.heap.size, 3, none⟩ = some (.string tx) ∧ V1.cell? ⟨w.heap.size, 10, none⟩ = some (.int .i64 e0) ∧ V1.cell? ⟨w.heap.size, 11, none⟩ = some (.int .i64 e1) ∧ V1.cell? ⟨w.heap.size, 12, none⟩ = some (.int .i64 e2) := ⟨(blk_cell (w := V1) HX11.out 3).trans rfl, (blk_cell (w := V1) HX11.out 10).trans rfl, (blk_cell (w := V1) HX11.out 11).trans rfl, (blk_cell (w := V1) HX11.out 12).trans rfl⟩
  refine hK.out _ _ hS1 (fun hHeld => ?_)
  clear hK K
  refine norm_ (a' := ?_) ?_ ?_
  rotate_left
  · show Act.put _ (some 61) _ = _
    simp only [Act.put, List.setIfInBounds_toArray, List.set_cons_zero, List.set_cons_succ, i64_w, i32_w]
    rfl
  refine one_ (i := 8) (N := some 65) #[true, true, true, true, true, true, true, true, true, true, true, true, false, true, true, true, false, false] rfl rfl (by kernel_rfl) (by decide) (fun K hK => ?_)
  refine goes_ Tryz.func52 (by kernel_rfl) rfl #[.int .i64 e1] (by rfl) rfl rfl (by (try simp only [List.map_toArray, List.map_cons, List.map_nil]); first | done | rfl) ?_
  refine (Tryz.strconv_Itoa e1 HF.out.trig.2.1.1 HF.out.trig.2.1.2 V1 (HE.out.later HB11.out).tab).mono ?_
  rintro e V2 ⟨rfl, hv⟩
  refine ⟨_, rfl, ?_⟩
  have hb : Below V1.heap.size V1 V2 := by obtain ⟨kk, os, hv⟩ := hv; rw [hv]; exact below_grow2 V1 kk os
  have HX12 := Lib.hid ((hb.block _ (blk_lt HX11.out)).trans HX11.out)
  have HB12 := Lib.hid (HB11.out.trans (hb.mono HB11.out.size))
  clear hb hv HX11 HB11
  have hS2 : V2.cell? ⟨w.heap.size, 3, none⟩ = some (.string tx) ∧ V2.cell? ⟨w.heap.size, 10, none⟩ = some (.int .i64 e0) ∧ V2.cell? ⟨w.heap.size, 11, none⟩ = some (.int .i64 e1) ∧ V2.cell? ⟨w.heap.size, 12, none⟩ = some (.int .i64 e2) := ⟨(blk_cell (w := V2) HX12.out 3).trans rfl, (blk_cell (w := V2) HX12.out 10).trans rfl, (blk_cell (w := V2) HX12.out 11).trans rfl, (blk_cell (w := V2) HX12.out 12).trans rfl⟩
  refine hK.out _ _ hS2 (fun hHeld => ?_)
  clear hK K
  refine norm_ (a' := ?_) ?_ ?_
  rotate_left
  · show Act.put _ (some 65) _ = _
    simp only [Act.put, List.setIfInBounds_toArray, List.set_cons_zero, List.set_cons_succ, i64_w, i32_w]
    rfl
  refine one_ (i := 12) (N := some 69) #[true, true, true, true, true, true, true, true, true, true, true, true, true, true, true, true, false, false] rfl rfl (by kernel_rfl) (by decide) (fun K hK => ?_)
  refine goes_ Tryz.func52 (by kernel_rfl) rfl #[.int .i64 e2] (by rfl) rfl rfl (by (try simp only [List.map_toArray, List.map_cons, List.map_nil]); first | done | rfl) ?_
  refine (Tryz.strconv_Itoa e2 HF.out.trig.2.2.1 HF.out.trig.2.2.2 V2 (HE.out.later HB12.out).tab).mono ?_
  rintro e V3 ⟨rfl, hv⟩
  refine ⟨_, rfl, ?_⟩
  have hb : Below V2.heap.size V2 V3 := by obtain ⟨kk, os, hv⟩ := hv; rw [hv]; exact below_grow2 V2 kk os
  have HX13 := Lib.hid ((hb.block _ (blk_lt HX12.out)).trans HX12.out)
  have HB13 := Lib.hid (HB12.out.trans (hb.mono HB12.out.size))
  clear hb hv HX12 HB12
  have hS3 : V3.cell? ⟨w.heap.size, 3, none⟩ = some (.string tx) ∧ V3.cell? ⟨w.heap.size, 10, none⟩ = some (.int .i64 e0) ∧ V3.cell? ⟨w.heap.size, 11, none⟩ = some (.int .i64 e1) ∧ V3.cell? ⟨w.heap.size, 12, none⟩ = some (.int .i64 e2) := ⟨(blk_cell (w := V3) HX13.out 3).trans rfl, (blk_cell (w := V3) HX13.out 10).trans rfl, (blk_cell (w := V3) HX13.out 11).trans rfl, (blk_cell (w := V3) HX13.out 12).trans rfl⟩
  refine hK.out _ _ hS3 (fun hHeld => ?_)
  clear hK K
  refine norm_ (a' := ?_) ?_ ?_
  rotate_left
  · show Act.put _ (some 69) _ = _
    simp only [Act.put, List.setIfInBounds_toArray, List.set_cons_zero, List.set_cons_succ, i64_w, i32_w]
    rfl
  refine one_ (i := 16) (N := some 73) #[true, true, true, true, true, true, true, true, true, true, true, true, true, true, true, true, true, false] rfl rfl (by kernel_rfl) (by decide) (fun K hK => ?_)
  refine value_ (w1 := ?_) (v := ?_) (by rfl) rfl ?_ ?_
  rotate_left 2
  · go_simp
    constructor
    · rfl
    · rfl
  have hSb : (V3.alloc (.cells #[.string ⟨#[103, 114, 111, 117, 112]⟩, .string ⟨(placesT ins).toArray⟩, .string ⟨(Lib.itoa e0).toArray⟩, .string ⟨(Lib.itoa e1).toArray⟩, .string ⟨(Lib.itoa e2).toArray⟩, .string ⟨#[100, 105, 115]⟩, .string tx] 9)).cell? ⟨w.heap.size, 3, none⟩ = some (.string tx) ∧ (V3.alloc (.cells #[.string ⟨#[103, 114, 111, 117, 112]⟩, .string ⟨(placesT ins).toArray⟩, .string ⟨(Lib.itoa e0).toArray⟩, .string ⟨(Lib.itoa e1).toArray⟩, .string ⟨(Lib.itoa e2).toArray⟩, .string ⟨#[100, 105, 115]⟩, .string tx] 9)).cell? ⟨w.heap.size, 10, none⟩ = some (.int .i64 e0) ∧ (V3.alloc (.cells #[.string ⟨#[103, 114, 111, 117, 112]⟩, .string ⟨(placesT ins).toArray⟩, .string ⟨(Lib.itoa e0).toArray⟩, .string ⟨(Lib.itoa e1).toArray⟩, .string ⟨(Lib.itoa e2).toArray⟩, .string ⟨#[100, 105, 115]⟩, .string tx] 9)).cell? ⟨w.heap.size, 11, none⟩ = some (.int .i64 e1) ∧ (V3.alloc (.cells #[.string ⟨#[103, 114, 111, 117, 112]⟩, .string ⟨(placesT ins).toArray⟩, .string ⟨(Lib.itoa e0).toArray⟩, .string ⟨(Lib.itoa e1).toArray⟩, .string ⟨(Lib.itoa e2).toArray⟩, .string ⟨#[100, 105, 115]⟩, .string tx] 9)).cell? ⟨w.heap.size, 12, none⟩ = some (.int .i64 e2) := ⟨(blk_cell (w := (V3.alloc (.cells #[.string ⟨#[103, 114, 111, 117, 112]⟩, .string ⟨(placesT ins).toArray⟩, .string ⟨(Lib.itoa e0).toArray⟩, .string ⟨(Lib.itoa e1).toArray⟩, .string ⟨(Lib.itoa e2).toArray⟩, .string ⟨#[100, 105, 115]⟩, .string tx] 9))) (Lib.hid (blk_alloc HX13.out _)).out 3).trans rfl, (blk_cell (w := (V3.alloc (.cells #[.string ⟨#[103, 114, 111, 117, 112]⟩, .string ⟨(placesT ins).toArray⟩, .string ⟨(Lib.itoa e0).toArray⟩, .string ⟨(Lib.itoa e1).toArray⟩, .string ⟨(Lib.itoa e2).toArray⟩, .string ⟨#[100, 105, 115]⟩, .string tx] 9))) (Lib.hid (blk_alloc HX13.out _)).out 10).trans rfl, (blk_cell (w := (V3.alloc (.cells #[.string ⟨#[103, 114, 111, 117, 112]⟩, .string ⟨(placesT ins).toArray⟩, .string ⟨(Lib.itoa e0).toArray⟩, .string ⟨(Lib.itoa e1).toArray⟩, .string ⟨(Lib.itoa e2).toArray⟩, .string ⟨#[100, 105, 115]⟩, .string tx] 9))) (Lib.hid (blk_alloc HX13.out _)).out 11).trans rfl, (blk_cell (w := (V3.alloc (.cells #[.string ⟨#[103, 114, 111, 117, 112]⟩, .string ⟨(placesT ins).toArray⟩, .string ⟨(Lib.itoa e0).toArray⟩, .string ⟨(Lib.itoa e1).toArray⟩, .string ⟨(Lib.itoa e2).toArray⟩, .string ⟨#[100, 105, 115]⟩, .string tx] 9))) (Lib.hid (blk_alloc HX13.out _)).out 12).trans rfl⟩
  refine hK.out _ _ hSb (fun hHeld => ?_)
  clear hK K
  refine norm_ (a' := ?_) ?_ ?_
  rotate_left
  · show Act.put _ (some 73) _ = _
    simp only [Act.put, List.setIfInBounds_toArray, List.set_cons_zero, List.set_cons_succ, i64_w, i32_w]
    rfl
  refine pure_ (i := 17) (N := some 4) (v := ?_) (a' := ?_) #[true, true, true, true, true, true, true, true, true, true, true, true, true, true, true, true, true, true] rfl rfl (by kernel_rfl) (fun _ _ _ h => h) (Or.inl ⟨by rfl, ?_⟩) ?_ ?_
  rotate_left
  · intro w'
    go_simp
    with_reducible rfl
  rotate_left
  · simp only [Act.put, List.setIfInBounds_toArray, List.set_cons_zero, List.set_cons_succ, i64_w, i32_w]
    rfl
  refine done_ (by kernel_rfl) ?_
  clear hHeld hSb
  have hz := blk_lt HX13.out
  go_wp2_with fail
  have hS := row_join V3.heap.size [⟨#[103, 114, 111, 117, 112]⟩, ⟨(placesT ins).toArray⟩, ⟨(Lib.itoa e0).toArray⟩, ⟨(Lib.itoa e1).toArray⟩, ⟨(Lib.itoa e2).toArray⟩, ⟨#[100, 105, 115]⟩, tx] 7 rfl 32 (V3.alloc (.cells #[.string ⟨#[103, 114, 111, 117, 112]⟩, .string ⟨(placesT ins).toArray⟩, .string ⟨(Lib.itoa e0).toArray⟩, .string ⟨(Lib.itoa e1).toArray⟩, .string ⟨(Lib.itoa e2).toArray⟩, .string ⟨#[100, 105, 115]⟩, .string tx] 9)) (heap_alloc_new V3 _) (by show (7 : Nat) ≤ 100; decide) ?_
  rotate_left
  · have hpl := HPL.out
    have HFX := HF.out
    intro x hx
    simp only [List.mem_cons, List.not_mem_nil, or_false] at hx
    rcases hx with rfl | rfl | rfl | rfl | rfl | rfl | rfl
    · decide
    · show (placesT ins).length ≤ _; omega
    · have := Lib.itoa_length_le e0 HFX.trig.1.1 HFX.trig.1.2; show (Lib.itoa e0).length ≤ _; omega
    · have := Lib.itoa_length_le e1 HFX.trig.2.1.1 HFX.trig.2.1.2; show (Lib.itoa e1).length ≤ _; omega
    · have := Lib.itoa_length_le e2 HFX.trig.2.2.1 HFX.trig.2.2.2; show (Lib.itoa e2).length ≤ _; omega
    · decide
    · exact HFX.text
  have HS := Lib.hid hS
  have hba := below_alloc HB13.out (.cells #[.string ⟨#[103, 114, 111, 117, 112]⟩, .string ⟨(placesT ins).toArray⟩, .string ⟨(Lib.itoa e0).toArray⟩, .string ⟨(Lib.itoa e1).toArray⟩, .string ⟨(Lib.itoa e2).toArray⟩, .string ⟨#[100, 105, 115]⟩, .string tx] 9)
  have HBA := Lib.hid hba
  clear hS hba hz
  generalize V3.heap.size = Nr at HS ⊢
  generalize V3.alloc (.cells #[.string ⟨#[103, 114, 111, 117, 112]⟩, .string ⟨(placesT ins).toArray⟩, .string ⟨(Lib.itoa e0).toArray⟩, .string ⟨(Lib.itoa e1).toArray⟩, .string ⟨(Lib.itoa e2).toArray⟩, .string ⟨#[100, 105, 115]⟩, .string tx] 9) = wr at *
  refine HS.out.mono ?_
  rintro e wj ⟨⟨sj, rfl, hsj, hsz⟩, hbj⟩
  have HSJ := Lib.hid hsj
  clear hsj
  have HBJ := Lib.hid (HB0.out.trans ((HBA.out.trans (hbj.mono HBA.out.size)).mono HB0.out.size))
  clear hbj
  go_wp2_with fail
  exact bodyPost_ret (v := .string (sj ++ ⟨#[10]⟩)) (by simp [results, Tryz.results28, go_sem]) rfl ⟨by rw [HSJ.out, put_end]; rfl, HBJ.out⟩

set_option maxHeartbeats 1000000 in
set_option maxRecDepth 100000 in
theorem line_5 (ins sides : List Int) (tx : ByteArray) (kd : Int) (kids : List S59) (a b c d e0 e1 e2 : Int) (e3 : Bool) (A1 A2 A5 : Option Addr) (c1 c2 c5 : Nat) (w : World) (hE : Env w) (hF : Fit ⟨5, ins, sides, tx, ⟨kd, kids⟩, ⟨a, b, c, d⟩, ⟨e0, e1, e2, e3⟩⟩) (h1 : ins.length ≤ c1) (k1 : Kd.C (Kd.int .i64) w A1 ins.length ins) (h2 : sides.length ≤ c2) (k2 : Kd.C (Kd.int .i64) w A2 sides.length sides) (h5 : kids.length ≤ c5) (k5 : k59.C w A5 kids.length kids) :
    Calls Tryz.prog 28 #[.agg #[.int .i64 5, .slice A1 ins.length c1, .slice A2 sides.length c2, .string tx, .int .i64 kd, .slice A5 kids.length c5, .int .i64 a, .int .i64 b, .int .i64 c, .int .i64 d, .int .i64 e0, .int .i64 e1, .int .i64 e2, .bool e3]] w fun e w' => e = .returned (.string ⟨(lineT ⟨5, ins, sides, tx, ⟨kd, kids⟩, ⟨a, b, c, d⟩, ⟨e0, e1, e2, e3⟩⟩).toArray⟩) ∧ Below w.heap.size w w' := by
  have hb0 := below_alloc (Below.refl w.heap.size w) (.cells #[.int .i64 5, .slice A1 ins.length c1, .slice A2 sides.length c2, .string tx, .int .i64 kd, .slice A5 kids.length c5, .int .i64 a, .int .i64 b, .int .i64 c, .int .i64 d, .int .i64 e0, .int .i64 e1, .int .i64 e2, .bool e3] 63)
  have HX0 := Lib.hid (heap_alloc_new w (.cells #[.int .i64 5, .slice A1 ins.length c1, .slice A2 sides.length c2, .string tx, .int .i64 kd, .slice A5 kids.length c5, .int .i64 a, .int .i64 b, .int .i64 c, .int .i64 d, .int .i64 e0, .int .i64 e1, .int .i64 e2, .bool e3] 63))
  have HE := Lib.hid (hE.later hb0); have HF := Lib.hid hF
  have K1 := Lib.hid (Kd.C_below k1 hb0); have K2 := Lib.hid (Kd.C_below k2 hb0); have K5 := Lib.hid (Kd.C_below k5 hb0)
  have HB0 := Lib.hid hb0
  have hpl := placesT_len ins hF.ins.1 hF.ins.2
  have HPL := Lib.hid hpl
  clear hb0 hE hF k1 k2 k5 hpl
  go_enter Tryz.func28, Tryz.ntmps28
  go_wp2_with fail
  generalize w.alloc (.cells #[.int .i64 5, .slice A1 ins.length c1, .slice A2 sides.length c2, .string tx, .int .i64 kd, .slice A5 kids.length c5, .int .i64 a, .int .i64 b, .int .i64 c, .int .i64 d, .int .i64 e0, .int .i64 e1, .int .i64 e2, .bool e3] 63) = w0 at *
  refine (places_show ins A1 c1 w0 HE.out HF.out.ins.1 h1 HF.out.ins.2 K1.out).mono ?_
  rintro e w1 ⟨rfl, hb1⟩
  have HX := Lib.hid ((hb1.block _ (blk_lt HX0.out)).trans HX0.out)
  have HB := Lib.hid hb1
  clear hb1 HX0
  have m0 : w1.cell? ⟨w.heap.size, 0, none⟩ = some (.int .i64 5) := (blk_cell HX.out 0).trans rfl
  have hz := blk_lt HX.out
  go_wp2_with fail
  have hS := row_join w1.heap.size [⟨#[102, 108, 97, 116, 116, 101, 110]⟩, ⟨(placesT ins).toArray⟩] 2 rfl 32 (w1.alloc (.cells #[.string ⟨#[102, 108, 97, 116, 116, 101, 110]⟩, .string ⟨(placesT ins).toArray⟩] 9)) (heap_alloc_new w1 _) (by show (2 : Nat) ≤ 100; decide) ?_
  rotate_left
  · have hpl := HPL.out
    have HFX := HF.out
    intro x hx
    simp only [List.mem_cons, List.not_mem_nil, or_false] at hx
    rcases hx with rfl | rfl
    · decide
    · show (placesT ins).length ≤ _; omega
  have HS := Lib.hid hS
  have hba := below_alloc HB.out (.cells #[.string ⟨#[102, 108, 97, 116, 116, 101, 110]⟩, .string ⟨(placesT ins).toArray⟩] 9)
  have HBA := Lib.hid hba
  clear hS hba hz
  generalize w1.heap.size = Nr at HS ⊢
  generalize w1.alloc (.cells #[.string ⟨#[102, 108, 97, 116, 116, 101, 110]⟩, .string ⟨(placesT ins).toArray⟩] 9) = wr at *
  refine HS.out.mono ?_
  rintro e wj ⟨⟨sj, rfl, hsj, hsz⟩, hbj⟩
  have HSJ := Lib.hid hsj
  clear hsj
  have HBJ := Lib.hid (HB0.out.trans ((HBA.out.trans (hbj.mono HBA.out.size)).mono HB0.out.size))
  clear hbj
  go_wp2_with fail
  exact bodyPost_ret (v := .string (sj ++ ⟨#[10]⟩)) (by simp [results, Tryz.results28, go_sem]) rfl ⟨by rw [HSJ.out, put_end]; rfl, HBJ.out⟩

set_option maxHeartbeats 1000000 in
set_option maxRecDepth 100000 in
theorem line_6 (ins sides : List Int) (tx : ByteArray) (kd : Int) (kids : List S59) (a b c d e0 e1 e2 : Int) (e3 : Bool) (A1 A2 A5 : Option Addr) (c1 c2 c5 : Nat) (w : World) (hE : Env w) (hF : Fit ⟨6, ins, sides, tx, ⟨kd, kids⟩, ⟨a, b, c, d⟩, ⟨e0, e1, e2, e3⟩⟩) (h1 : ins.length ≤ c1) (k1 : Kd.C (Kd.int .i64) w A1 ins.length ins) (h2 : sides.length ≤ c2) (k2 : Kd.C (Kd.int .i64) w A2 sides.length sides) (h5 : kids.length ≤ c5) (k5 : k59.C w A5 kids.length kids) :
    Calls Tryz.prog 28 #[.agg #[.int .i64 6, .slice A1 ins.length c1, .slice A2 sides.length c2, .string tx, .int .i64 kd, .slice A5 kids.length c5, .int .i64 a, .int .i64 b, .int .i64 c, .int .i64 d, .int .i64 e0, .int .i64 e1, .int .i64 e2, .bool e3]] w fun e w' => e = .returned (.string ⟨(lineT ⟨6, ins, sides, tx, ⟨kd, kids⟩, ⟨a, b, c, d⟩, ⟨e0, e1, e2, e3⟩⟩).toArray⟩) ∧ Below w.heap.size w w' := by
  have hb0 := below_alloc (Below.refl w.heap.size w) (.cells #[.int .i64 6, .slice A1 ins.length c1, .slice A2 sides.length c2, .string tx, .int .i64 kd, .slice A5 kids.length c5, .int .i64 a, .int .i64 b, .int .i64 c, .int .i64 d, .int .i64 e0, .int .i64 e1, .int .i64 e2, .bool e3] 63)
  have HX0 := Lib.hid (heap_alloc_new w (.cells #[.int .i64 6, .slice A1 ins.length c1, .slice A2 sides.length c2, .string tx, .int .i64 kd, .slice A5 kids.length c5, .int .i64 a, .int .i64 b, .int .i64 c, .int .i64 d, .int .i64 e0, .int .i64 e1, .int .i64 e2, .bool e3] 63))
  have HE := Lib.hid (hE.later hb0); have HF := Lib.hid hF
  have K1 := Lib.hid (Kd.C_below k1 hb0); have K2 := Lib.hid (Kd.C_below k2 hb0); have K5 := Lib.hid (Kd.C_below k5 hb0)
  have HB0 := Lib.hid hb0
  have hpl := placesT_len ins hF.ins.1 hF.ins.2
  have HPL := Lib.hid hpl
  clear hb0 hE hF k1 k2 k5 hpl
  go_enter Tryz.func28, Tryz.ntmps28
  go_wp2_with fail
  generalize w.alloc (.cells #[.int .i64 6, .slice A1 ins.length c1, .slice A2 sides.length c2, .string tx, .int .i64 kd, .slice A5 kids.length c5, .int .i64 a, .int .i64 b, .int .i64 c, .int .i64 d, .int .i64 e0, .int .i64 e1, .int .i64 e2, .bool e3] 63) = w0 at *
  refine (places_show ins A1 c1 w0 HE.out HF.out.ins.1 h1 HF.out.ins.2 K1.out).mono ?_
  rintro e w1 ⟨rfl, hb1⟩
  have HX := Lib.hid ((hb1.block _ (blk_lt HX0.out)).trans HX0.out)
  have HB := Lib.hid hb1
  clear hb1 HX0
  have m0 : w1.cell? ⟨w.heap.size, 0, none⟩ = some (.int .i64 6) := (blk_cell HX.out 0).trans rfl
  have hz := blk_lt HX.out
  go_wp2_with fail
  have hS := row_join w1.heap.size [⟨#[115, 105, 110, 107]⟩, ⟨(placesT ins).toArray⟩] 2 rfl 32 (w1.alloc (.cells #[.string ⟨#[115, 105, 110, 107]⟩, .string ⟨(placesT ins).toArray⟩] 9)) (heap_alloc_new w1 _) (by show (2 : Nat) ≤ 100; decide) ?_
  rotate_left
  · have hpl := HPL.out
    have HFX := HF.out
    intro x hx
    simp only [List.mem_cons, List.not_mem_nil, or_false] at hx
    rcases hx with rfl | rfl
    · decide
    · show (placesT ins).length ≤ _; omega
  have HS := Lib.hid hS
  have hba := below_alloc HB.out (.cells #[.string ⟨#[115, 105, 110, 107]⟩, .string ⟨(placesT ins).toArray⟩] 9)
  have HBA := Lib.hid hba
  clear hS hba hz
  generalize w1.heap.size = Nr at HS ⊢
  generalize w1.alloc (.cells #[.string ⟨#[115, 105, 110, 107]⟩, .string ⟨(placesT ins).toArray⟩] 9) = wr at *
  refine HS.out.mono ?_
  rintro e wj ⟨⟨sj, rfl, hsj, hsz⟩, hbj⟩
  have HSJ := Lib.hid hsj
  clear hsj
  have HBJ := Lib.hid (HB0.out.trans ((HBA.out.trans (hbj.mono HBA.out.size)).mono HB0.out.size))
  clear hbj
  go_wp2_with fail
  exact bodyPost_ret (v := .string (sj ++ ⟨#[10]⟩)) (by simp [results, Tryz.results28, go_sem]) rfl ⟨by rw [HSJ.out, put_end]; rfl, HBJ.out⟩

theorem line_show (x : S63) (A1 A2 A5 : Option Addr) (c1 c2 c5 : Nat) (w : World) (hE : Env w) (hF : Fit x) (h1 : x.f1.length ≤ c1) (k1 : Kd.C (Kd.int .i64) w A1 x.f1.length x.f1) (h2 : x.f2.length ≤ c2) (k2 : Kd.C (Kd.int .i64) w A2 x.f2.length x.f2) (h5 : x.f4.f1.length ≤ c5) (k5 : k59.C w A5 x.f4.f1.length x.f4.f1) :
    Calls Tryz.prog 28 #[.agg #[.int .i64 x.f0, .slice A1 x.f1.length c1, .slice A2 x.f2.length c2, .string x.f3, .int .i64 x.f4.f0, .slice A5 x.f4.f1.length c5, .int .i64 x.f5.f0, .int .i64 x.f5.f1, .int .i64 x.f5.f2, .int .i64 x.f5.f3, .int .i64 x.f6.f0, .int .i64 x.f6.f1, .int .i64 x.f6.f2, .bool x.f6.f3]] w fun e w' => e = .returned (.string ⟨(lineT x).toArray⟩) ∧ Below w.heap.size w w' := by
  obtain ⟨op, ins, sides, tx, ⟨kd, kids⟩, ⟨a, b, c, d⟩, ⟨e0, e1, e2, e3⟩⟩ := x
  have h := hF.op
  dsimp only at *
  have hop : op = 1 ∨ op = 2 ∨ op = 3 ∨ op = 4 ∨ op = 5 ∨ op = 6 := by omega
  rcases hop with rfl | rfl | rfl | rfl | rfl | rfl
  · exact line_1 ins sides tx kd kids a b c d e0 e1 e2 e3 A1 A2 A5 c1 c2 c5 w hE hF h1 k1 h2 k2 h5 k5
  · exact line_2 ins sides tx kd kids a b c d e0 e1 e2 e3 A1 A2 A5 c1 c2 c5 w hE hF h1 k1 h2 k2 h5 k5
  · exact line_3 ins sides tx kd kids a b c d e0 e1 e2 e3 A1 A2 A5 c1 c2 c5 w hE hF h1 k1 h2 k2 h5 k5
  · cases e3
    · exact line_4dis ins sides tx kd kids a b c d e0 e1 e2 A1 A2 A5 c1 c2 c5 w hE hF h1 k1 h2 k2 h5 k5
    · exact line_4acc ins sides tx kd kids a b c d e0 e1 e2 A1 A2 A5 c1 c2 c5 w hE hF h1 k1 h2 k2 h5 k5
  · exact line_5 ins sides tx kd kids a b c d e0 e1 e2 e3 A1 A2 A5 c1 c2 c5 w hE hF h1 k1 h2 k2 h5 k5
  · exact line_6 ins sides tx kd kids a b c d e0 e1 e2 e3 A1 A2 A5 c1 c2 c5 w hE hF h1 k1 h2 k2 h5 k5

theorem join_parts_le (x : S63) (hF : Fit x) : (lineT x).length ≤ 7000008 := by
  have hpl := placesT_len x.f1 hF.ins.1 hF.ins.2
  have hps := placesT_len x.f2 hF.sides.1 hF.sides.2
  have htx : x.f3.data.toList.length ≤ 1000000 := by simpa using hF.text
  have ia := fun n (h : I64 n) => Lib.itoa_length_le n h.1 h.2
  have key : ∀ y ∈ partsT x, y.length ≤ 1000000 := by
    intro y hy
    unfold partsT at hy
    by_cases h1 : x.f0 = 1
    · rw [if_pos h1] at hy
      simp only [List.mem_cons, List.not_mem_nil, or_false] at hy
      rcases hy with rfl | rfl
      · decide
      · have := (showT_len 6 x.f4 (hF.type h1)).1; omega
    rw [if_neg h1] at hy
    split at hy
    · simp only [List.mem_cons, List.not_mem_nil, or_false] at hy
      rcases hy with rfl | rfl | rfl | rfl
      · decide
      · omega
      · omega
      · exact htx
    split at hy
    · simp only [List.mem_cons, List.not_mem_nil, or_false] at hy
      rcases hy with rfl | rfl | rfl | rfl | rfl | rfl
      · decide
      · omega
      · have := ia _ hF.fn.1; omega
      · have := ia _ hF.fn.2.1; omega
      · have := ia _ hF.fn.2.2.1; omega
      · have := ia _ hF.fn.2.2.2; omega
    split at hy
    · simp only [List.mem_cons, List.not_mem_nil, or_false] at hy
      rcases hy with rfl | rfl | rfl | rfl | rfl | rfl | rfl
      · decide
      · omega
      · have := ia _ hF.trig.1; omega
      · have := ia _ hF.trig.2.1; omega
      · have := ia _ hF.trig.2.2; omega
      · split <;> decide
      · exact htx
    split at hy
    · simp only [List.mem_cons, List.not_mem_nil, or_false] at hy
      rcases hy with rfl | rfl
      · decide
      · omega
    · simp only [List.mem_cons, List.not_mem_nil, or_false] at hy
      rcases hy with rfl | rfl
      · decide
      · omega
  have h7 : (partsT x).length ≤ 7 := by
    unfold partsT
    repeat' split
    all_goals (simp only [List.length_cons, List.length_nil]; omega)
  have := join_le (partsT x) 32 1000000 key
  have h8 := Nat.mul_le_mul_right 1000001 h7
  unfold lineT bodyT
  rw [List.length_append, List.length_singleton]
  omega

end Go.Proofs.YtamfloegflejnaaGreatDoor
