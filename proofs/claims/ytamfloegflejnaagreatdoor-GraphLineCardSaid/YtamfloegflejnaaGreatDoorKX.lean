/-
 kind.Parse: the type of a text.
-/
import Derived.Test.YtamfloegflejnaaGreatDoorH1
import Derived.Test.YtamfloegflejnaaGreatDoorKW
import Derived.RegionTactic
set_option linter.unusedVariables false
set_option linter.unusedSimpArgs false
set_option maxHeartbeats 2000000
set_option maxRecDepth 100000
namespace Go.Proofs.YtamfloegflejnaaGreatDoor
open Lib (hid)
open Go.RowKit Go.Proofs.YtamfloegflejnaaGreatDoorW.PrintWords Go.Proofs.YtamfloegflejnaaGreatDoorW.PrintLast Go.Proofs.YtamfloegflejnaaGreatDoorW.PrintMore PGraphLines
/-- The type that a text is. -/
def parseV (s : ByteArray) : Option S59 := if (readF 6 s 0).2 < s.size then none else (readF 6 s 0).1
def ParsePost (s : ByteArray) (w : World) (e : Ending) (w' : World) : Prop := (∃ (A : Option Addr) (n c : Nat) (at_ : Int), e = .returned (.tuple #[.agg #[.int .i64 ((parseV s).getD z59).f0, .slice A n c], .int .i64 at_, .int .i64 (if (parseV s).isSome = true then 0 else 40)]) ∧ k59.R 59 w' w.heap.size (fun _ => True) (.slice A n c) ((parseV s).getD z59).f1) ∧ Below w.heap.size w w'
theorem parse_no {s : ByteArray} {w W : World} {q : Int} (h : parseV s = none) (hb : Below w.heap.size w W) : ParsePost s w (.returned (.tuple #[.agg #[.int .i64 0, .slice none 0 0], .int .i64 q, .int .i64 40])) W :=
 ⟨⟨none, 0, 0, q, by rw [h]; rfl, by rw [h]; exact Kd.R_nil _ _ _ _ _⟩, hb⟩
theorem parse_yes {s : ByteArray} {w W : World} {kd : Int} {l : List S59} {A : Option Addr} {n c : Nat} (h : parseV s = some ⟨kd, l⟩) (hR : k59.R 59 W w.heap.size (fun _ => True) (.slice A n c) l) (hb : Below w.heap.size w W) : ParsePost s w (.returned (.tuple #[.agg #[.int .i64 kd, .slice A n c], .int .i64 0, .int .i64 0])) W :=
 ⟨⟨A, n, c, 0, by rw [h]; rfl, by rw [h]; exact hR⟩, hb⟩
theorem kind_parse (s : ByteArray) (hs : s.size <= 1000000) (w : World) :
  Calls Tryz.prog 37 #[.string s] w (ParsePost s w) := by
 have hB := below_alloc (below_alloc (Below.refl w.heap.size w) (.cells #[.int .i64 0, .slice none 0 0] 59)) (.cells #[.string s, .int .i64 0] 118)
 have hR := blk_alloc (heap_alloc_new w (.cells #[.int .i64 0, .slice none 0 0] 59)) (.cells #[.string s, .int .i64 0] 118)
 have hI := IsS118.new w (w.alloc (.cells #[.int .i64 0, .slice none 0 0] 59)) s 0 (below_alloc (Below.refl w.heap.size w) _)
 rw [World.size_alloc] at hI
 have hK : Calls Tryz.prog 59 #[.pointer (some ⟨w.heap.size + 1, 0, none⟩), .int .i64 6] _ (ReadPost w _ (w.heap.size + 1) s (readF 6 s 0)) := read_any (w.heap.size + 1) s hs 6 (by omega) (by omega) 0 w _ hI hB
 have HK := hid hK; have HB := hid hB; have HR := hid hR
 have HPV : Hid (parseV s = if (readF 6 s 0).2 < s.size then none else (readF 6 s 0).1) := rfl
 clear hK hB hR hI
 go_enter Tryz.func37, Tryz.ntmps37
 go_wp2_with fail
 generalize (w.alloc (.cells #[.int .i64 0, .slice none 0 0] 59)).alloc (.cells #[.string s, .int .i64 0] 118) = W at *
 refine HK.out.mono ?_
 rintro e w2 ⟨⟨kd, A, n, c, ok, rfl, hok, hno⟩, hI2, hB2, hk2⟩
 have hb2 := hk2.blk HR.out (by omega) (by simp)
 have r0 : w2.cell? ⟨w.heap.size, 0, none⟩ = some (.int .i64 0) := (blk_cell hb2 0).trans rfl
 have r1 : w2.cell? ⟨w.heap.size, 1, none⟩ = some (.slice none 0 0) := (blk_cell hb2 1).trans rfl
 have z0 : w2.frozen? ⟨w.heap.size, 0, none⟩ = false := blk_frozen hb2 0
 have z1 : w2.frozen? ⟨w.heap.size, 1, none⟩ = false := blk_frozen hb2 1
 have d0 : w2.cell? ⟨w.heap.size + 1, 1, none⟩ = some (.int .i64 (readF 6 s 0).2) := cellS118_1 hI2.1
 generalize (readF 6 s 0).2 = q at *
 generalize (readF 6 s 0).1 = t at *
 have HI2 := hid hI2; have HB2 := hid hB2; have HOK := hid hok; have HNO := hid hno; have HX := hid hb2
 clear hI2 hB2 hok hno hk2 hb2
 cases ok with
 | false =>
  have HN : Hid (parseV s = none) := by
   unfold Hid
   rw [HPV.out, HNO.out rfl]
   split <;> rfl
  go_wp2_with fail
  have hx3 : ((w2.setCell ⟨w.heap.size, 0, none⟩ (.int .i64 kd)).setCell ⟨w.heap.size, 1, none⟩ (.slice A n c)).heap[w.heap.size]? = some (.cells #[.int .i64 kd, .slice A n c] 59 (0, 0)) := by
   have := blk_set (blk_set HX.out 0 (.int .i64 kd)) 1 (.slice A n c)
   simpa using this
  have HX3 := hid hx3
  have HB3 := hid ((HB2.out.setCell (p := ⟨w.heap.size, 0, none⟩) (Nat.le_refl _) (.int .i64 kd)).setCell (p := ⟨w.heap.size, 1, none⟩) (Nat.le_refl _) (.slice A n c))
  have HI3 := hid ((HI2.out.far (p := ⟨w.heap.size, 0, none⟩) (by show w.heap.size + 1 ≠ w.heap.size; omega) (.int .i64 kd)).far (p := ⟨w.heap.size, 1, none⟩) (by show w.heap.size + 1 ≠ w.heap.size; omega) (.slice A n c))
  clear HX r0 r1 z0 z1 d0 hx3
  generalize (w2.setCell ⟨w.heap.size, 0, none⟩ (.int .i64 kd)).setCell ⟨w.heap.size, 1, none⟩ (.slice A n c) = W1 at *
  refine start_ (n := 8) (S := fun w' => w'.cell? ⟨w.heap.size + 1, 1, none⟩ = some (.int .i64 (q : Int))) (ds := []) (bts 8 0) (by kernel_rfl) rfl rfl ((blk_cell (w := W1.drew) HI3.out.1 1).trans rfl) (fun hHeld => ?_)
  have HX4 : Hid (W1.drew.heap[w.heap.size]? = some (.cells #[.int .i64 kd, .slice A n c] 59 (0, 0))) := HX3.out
  have HB4 := hid (Below.drew HB3.out)
  have HI4 := hid (HI3.out.drew)
  clear HX3 HB3 HI3
  generalize W1.drew = W2 at HX4 HB4 HI4 hHeld ⊢
  refine pure_ (i := 0) (N := some 26) (bts 8 1) rfl rfl (by kernel_rfl) (fun _ _ _ h => h) (Or.inl ⟨by rfl, by intro w'; go_simp; with_reducible rfl⟩) (by simp only [Act.put, pq1, pq2, pq3, i64_w, i32_w]; rfl) ?_
  refine pure_ (i := 1) (N := some 27) (bts 8 3) rfl rfl (by kernel_rfl) (fun _ _ _ h => h) (Or.inl ⟨by rfl, by intro w'; go_simp; with_reducible rfl⟩) (by simp only [Act.put, pq1, pq2, pq3, i64_w, i32_w]; rfl) ?_
  refine pure_ (i := 2) (N := some 28) (bts 8 7) rfl rfl (by kernel_rfl) (fun _ _ _ h => h) (Or.inl ⟨by rfl, by intro w'; go_simp; with_reducible rfl⟩) (by simp only [Act.put, pq1, pq2, pq3, i64_w, i32_w]; rfl) ?_
  refine pure_ (i := 3) (N := some 29) (bts 8 15) rfl rfl (by kernel_rfl) (fun _ _ _ h => h) (Or.inl ⟨by rfl, by intro w'; go_simp; with_reducible rfl⟩) (by simp only [Act.put, pq1, pq2, pq3, i64_w, i32_w]; rfl) ?_
  refine take_ (i := 4) (N := some 30) (bts 8 31) rfl rfl (by kernel_rfl) (fun _ _ _ h => h) (Or.inl ⟨by rfl, by intro w' hSw; (try dsimp only at hSw); go_simp; with_reducible rfl⟩) (by assumption) (by simp only [Act.put, pq1, pq2, pq3, i64_w, i32_w]; rfl) ?_
  have z0 : W2.cell? ⟨w.heap.size, 0, none⟩ = some (.int .i64 kd) := (blk_cell HX4.out 0).trans rfl
  have z1 : W2.cell? ⟨w.heap.size, 1, none⟩ = some (.slice A n c) := (blk_cell HX4.out 1).trans rfl
  have y0 : W2.frozen? ⟨w.heap.size, 0, none⟩ = false := blk_frozen HX4.out 0
  have y1 : W2.frozen? ⟨w.heap.size, 1, none⟩ = false := blk_frozen HX4.out 1
  refine one_ (i := 5) (N := none) (bts 8 63) rfl rfl (by kernel_rfl) (by decide) (fun K hK => ?_)
  refine skip_ (w1 := ?_) (by rfl) rfl ?_ ?_
  rotate_left
  ·go_simp
   rfl
  have hS5 : ((W2.setCell ⟨w.heap.size, 0, none⟩ (.int .i64 0)).setCell ⟨w.heap.size, 1, none⟩ (.slice none 0 0)).cell? ⟨w.heap.size + 1, 1, none⟩ = some (.int .i64 (q : Int)) :=
   (blk_cell ((HI4.out.far (p := ⟨w.heap.size, 0, none⟩) (by show w.heap.size + 1 ≠ w.heap.size; omega) (.int .i64 0)).far (p := ⟨w.heap.size, 1, none⟩) (by show w.heap.size + 1 ≠ w.heap.size; omega) (.slice none 0 0)).1 1).trans rfl
  refine hK.out _ _ hS5 (fun hHeld2 => ?_)
  clear hK K hHeld z0 z1 y0 y1
  refine pure_ (i := 6) (N := some 3) (bts 8 127) rfl rfl (by kernel_rfl) (fun _ _ _ h => h) (Or.inl ⟨by rfl, by intro w'; go_simp; with_reducible rfl⟩) (by simp only [Act.put, pq1, pq2, pq3, i64_w, i32_w]; rfl) ?_
  refine pure_ (i := 7) (N := some 4) (bts 8 255) rfl rfl (by kernel_rfl) (fun _ _ _ h => h) (Or.inl ⟨by rfl, by intro w'; go_simp; with_reducible rfl⟩) (by simp only [Act.put, pq1, pq2, pq3, i64_w, i32_w]; rfl) ?_
  refine done_ (by kernel_rfl) ?_
  have hx5 : ((W2.setCell ⟨w.heap.size, 0, none⟩ (.int .i64 0)).setCell ⟨w.heap.size, 1, none⟩ (.slice none 0 0)).heap[w.heap.size]? = some (.cells #[.int .i64 0, .slice none 0 0] 59 (0, 0)) := by
   have := blk_set (blk_set HX4.out 0 (.int .i64 0)) 1 (.slice none 0 0)
   simpa using this
  have HX5 := hid hx5
  clear hx5
  have HB5 := hid ((HB4.out.setCell (p := ⟨w.heap.size, 0, none⟩) (Nat.le_refl _) (.int .i64 0)).setCell (p := ⟨w.heap.size, 1, none⟩) (Nat.le_refl _) (.slice none 0 0))
  generalize (W2.setCell ⟨w.heap.size, 0, none⟩ (.int .i64 0)).setCell ⟨w.heap.size, 1, none⟩ (.slice none 0 0) = W3 at HX5 HB5 ⊢
  go_wp2_with fail
  exact bodyPost_ret (results_ctt (p := 2) (u := 3) (v := 4) (ty := 59) rfl _ _ w.heap.size 59 _ (0, 0) _ rfl HX5.out Tryz.underlying59 rfl (by kernel_rfl)) rfl (parse_no HN.out HB5.out)
 | true =>
  obtain ⟨l, hl, hRl⟩ := HOK.out rfl
  have HL := hid hl; have HRL := hid hRl
  clear hl hRl
  by_cases hq : q < s.size
  ·have t0 : decide (q < s.size) = true := by rw [decide_eq_true_iff]; exact hq
   have HN : Hid (parseV s = none) := by
    unfold Hid
    rw [HPV.out, if_pos hq]
   clear hq
   go_wp2_with fail
   have hx3 : ((w2.setCell ⟨w.heap.size, 0, none⟩ (.int .i64 kd)).setCell ⟨w.heap.size, 1, none⟩ (.slice A n c)).heap[w.heap.size]? = some (.cells #[.int .i64 kd, .slice A n c] 59 (0, 0)) := by
    have := blk_set (blk_set HX.out 0 (.int .i64 kd)) 1 (.slice A n c)
    simpa using this
   have HX3 := hid hx3
   have HB3 := hid ((HB2.out.setCell (p := ⟨w.heap.size, 0, none⟩) (Nat.le_refl _) (.int .i64 kd)).setCell (p := ⟨w.heap.size, 1, none⟩) (Nat.le_refl _) (.slice A n c))
   have HI3 := hid ((HI2.out.far (p := ⟨w.heap.size, 0, none⟩) (by show w.heap.size + 1 ≠ w.heap.size; omega) (.int .i64 kd)).far (p := ⟨w.heap.size, 1, none⟩) (by show w.heap.size + 1 ≠ w.heap.size; omega) (.slice A n c))
   clear HX r0 r1 z0 z1 d0 hx3
   generalize (w2.setCell ⟨w.heap.size, 0, none⟩ (.int .i64 kd)).setCell ⟨w.heap.size, 1, none⟩ (.slice A n c) = W1 at *
   refine start_ (n := 8) (S := fun w' => w'.cell? ⟨w.heap.size + 1, 1, none⟩ = some (.int .i64 (q : Int))) (ds := []) (bts 8 0) (by kernel_rfl) rfl rfl ((blk_cell (w := W1.drew) HI3.out.1 1).trans rfl) (fun hHeld => ?_)
   have HX4 : Hid (W1.drew.heap[w.heap.size]? = some (.cells #[.int .i64 kd, .slice A n c] 59 (0, 0))) := HX3.out
   have HB4 := hid (Below.drew HB3.out)
   have HI4 := hid (HI3.out.drew)
   clear HX3 HB3 HI3
   generalize W1.drew = W2 at HX4 HB4 HI4 hHeld ⊢
   refine pure_ (i := 0) (N := some 26) (bts 8 1) rfl rfl (by kernel_rfl) (fun _ _ _ h => h) (Or.inl ⟨by rfl, by intro w'; go_simp; with_reducible rfl⟩) (by simp only [Act.put, pq1, pq2, pq3, i64_w, i32_w]; rfl) ?_
   refine pure_ (i := 1) (N := some 27) (bts 8 3) rfl rfl (by kernel_rfl) (fun _ _ _ h => h) (Or.inl ⟨by rfl, by intro w'; go_simp; with_reducible rfl⟩) (by simp only [Act.put, pq1, pq2, pq3, i64_w, i32_w]; rfl) ?_
   refine pure_ (i := 2) (N := some 28) (bts 8 7) rfl rfl (by kernel_rfl) (fun _ _ _ h => h) (Or.inl ⟨by rfl, by intro w'; go_simp; with_reducible rfl⟩) (by simp only [Act.put, pq1, pq2, pq3, i64_w, i32_w]; rfl) ?_
   refine pure_ (i := 3) (N := some 29) (bts 8 15) rfl rfl (by kernel_rfl) (fun _ _ _ h => h) (Or.inl ⟨by rfl, by intro w'; go_simp; with_reducible rfl⟩) (by simp only [Act.put, pq1, pq2, pq3, i64_w, i32_w]; rfl) ?_
   refine take_ (i := 4) (N := some 30) (bts 8 31) rfl rfl (by kernel_rfl) (fun _ _ _ h => h) (Or.inl ⟨by rfl, by intro w' hSw; (try dsimp only at hSw); go_simp; with_reducible rfl⟩) (by assumption) (by simp only [Act.put, pq1, pq2, pq3, i64_w, i32_w]; rfl) ?_
   have z0 : W2.cell? ⟨w.heap.size, 0, none⟩ = some (.int .i64 kd) := (blk_cell HX4.out 0).trans rfl
   have z1 : W2.cell? ⟨w.heap.size, 1, none⟩ = some (.slice A n c) := (blk_cell HX4.out 1).trans rfl
   have y0 : W2.frozen? ⟨w.heap.size, 0, none⟩ = false := blk_frozen HX4.out 0
   have y1 : W2.frozen? ⟨w.heap.size, 1, none⟩ = false := blk_frozen HX4.out 1
   refine one_ (i := 5) (N := none) (bts 8 63) rfl rfl (by kernel_rfl) (by decide) (fun K hK => ?_)
   refine skip_ (w1 := ?_) (by rfl) rfl ?_ ?_
   rotate_left
   ·go_simp
    rfl
   have hS5 : ((W2.setCell ⟨w.heap.size, 0, none⟩ (.int .i64 0)).setCell ⟨w.heap.size, 1, none⟩ (.slice none 0 0)).cell? ⟨w.heap.size + 1, 1, none⟩ = some (.int .i64 (q : Int)) :=
    (blk_cell ((HI4.out.far (p := ⟨w.heap.size, 0, none⟩) (by show w.heap.size + 1 ≠ w.heap.size; omega) (.int .i64 0)).far (p := ⟨w.heap.size, 1, none⟩) (by show w.heap.size + 1 ≠ w.heap.size; omega) (.slice none 0 0)).1 1).trans rfl
   refine hK.out _ _ hS5 (fun hHeld2 => ?_)
   clear hK K hHeld z0 z1 y0 y1
   refine pure_ (i := 6) (N := some 3) (bts 8 127) rfl rfl (by kernel_rfl) (fun _ _ _ h => h) (Or.inl ⟨by rfl, by intro w'; go_simp; with_reducible rfl⟩) (by simp only [Act.put, pq1, pq2, pq3, i64_w, i32_w]; rfl) ?_
   refine pure_ (i := 7) (N := some 4) (bts 8 255) rfl rfl (by kernel_rfl) (fun _ _ _ h => h) (Or.inl ⟨by rfl, by intro w'; go_simp; with_reducible rfl⟩) (by simp only [Act.put, pq1, pq2, pq3, i64_w, i32_w]; rfl) ?_
   refine done_ (by kernel_rfl) ?_
   have hx5 : ((W2.setCell ⟨w.heap.size, 0, none⟩ (.int .i64 0)).setCell ⟨w.heap.size, 1, none⟩ (.slice none 0 0)).heap[w.heap.size]? = some (.cells #[.int .i64 0, .slice none 0 0] 59 (0, 0)) := by
    have := blk_set (blk_set HX4.out 0 (.int .i64 0)) 1 (.slice none 0 0)
    simpa using this
   have HX5 := hid hx5
   clear hx5
   have HB5 := hid ((HB4.out.setCell (p := ⟨w.heap.size, 0, none⟩) (Nat.le_refl _) (.int .i64 0)).setCell (p := ⟨w.heap.size, 1, none⟩) (Nat.le_refl _) (.slice none 0 0))
   generalize (W2.setCell ⟨w.heap.size, 0, none⟩ (.int .i64 0)).setCell ⟨w.heap.size, 1, none⟩ (.slice none 0 0) = W3 at HX5 HB5 ⊢
   go_wp2_with fail
   exact bodyPost_ret (results_ctt (p := 2) (u := 3) (v := 4) (ty := 59) rfl _ _ w.heap.size 59 _ (0, 0) _ rfl HX5.out Tryz.underlying59 rfl (by kernel_rfl)) rfl (parse_no HN.out HB5.out)
  ·have t0 : decide (q < s.size) = false := by rw [decide_eq_false_iff_not]; exact hq
   have HN : Hid (parseV s = some ⟨kd, l⟩) := by
    unfold Hid
    rw [HPV.out, if_neg hq, HL.out]
   clear hq
   go_wp2_with fail
   have hx5 : ((((w2.setCell ⟨w.heap.size, 0, none⟩ (.int .i64 kd)).setCell ⟨w.heap.size, 1, none⟩ (.slice A n c)).setCell ⟨w.heap.size, 0, none⟩ (.int .i64 kd)).setCell ⟨w.heap.size, 1, none⟩ (.slice A n c)).heap[w.heap.size]? = some (.cells #[.int .i64 kd, .slice A n c] 59 (0, 0)) := by
    have := blk_set (blk_set (blk_set (blk_set HX.out 0 (.int .i64 kd)) 1 (.slice A n c)) 0 (.int .i64 kd)) 1 (.slice A n c)
    simpa using this
   have HX5 := hid hx5
   have HB5 := hid ((((HB2.out.setCell (p := ⟨w.heap.size, 0, none⟩) (Nat.le_refl _) (.int .i64 kd)).setCell (p := ⟨w.heap.size, 1, none⟩) (Nat.le_refl _) (.slice A n c)).setCell (p := ⟨w.heap.size, 0, none⟩) (Nat.le_refl _) (.int .i64 kd)).setCell (p := ⟨w.heap.size, 1, none⟩) (Nat.le_refl _) (.slice A n c))
   have hkW := HB.out.size
   have hkW2 := blk_lt HR.out
   have hr2 := Kd.R_bound HRL.out
   have hr3 := Kd.R_mono (ok' := fun k => k ≠ w.heap.size) hr2 (fun k hk => by have := hk.2.1; omega)
   have HR5 := hid (Kd.R_mono (ok' := fun _ => True) (Kd.R_lower (Kd.R_far (Kd.R_far (Kd.R_far (Kd.R_far hr3 (p := ⟨w.heap.size, 0, none⟩) (fun _ h => h) (.int .i64 kd)) (p := ⟨w.heap.size, 1, none⟩) (fun _ h => h) (.slice A n c)) (p := ⟨w.heap.size, 0, none⟩) (fun _ h => h) (.int .i64 kd)) (p := ⟨w.heap.size, 1, none⟩) (fun _ h => h) (.slice A n c)) hkW) (fun _ _ => trivial))
   clear hx5 hr2 hr3
   generalize (((w2.setCell ⟨w.heap.size, 0, none⟩ (.int .i64 kd)).setCell ⟨w.heap.size, 1, none⟩ (.slice A n c)).setCell ⟨w.heap.size, 0, none⟩ (.int .i64 kd)).setCell ⟨w.heap.size, 1, none⟩ (.slice A n c) = W3 at HX5 HB5 HR5 ⊢
   exact bodyPost_ret (results_ctt (p := 2) (u := 3) (v := 4) (ty := 59) rfl _ _ w.heap.size 59 _ (0, 0) _ rfl HX5.out Tryz.underlying59 rfl (by kernel_rfl)) rfl (parse_yes HN.out HR5.out HB5.out)
end Go.Proofs.YtamfloegflejnaaGreatDoor
