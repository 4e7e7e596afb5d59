/-
  graph's read of a line: the rest of the words.
-/
import Derived.Test.YtamfloegflejnaaGreatDoorKY
set_option linter.unusedVariables false
set_option linter.unusedSimpArgs false
namespace Go.Proofs.YtamfloegflejnaaGreatDoor
open Go.RowKit Go.Proofs.YtamfloegflejnaaGreatDoorW.PrintWords Go.Proofs.YtamfloegflejnaaGreatDoorW.PrintLast Go.Proofs.YtamfloegflejnaaGreatDoorW.PrintMore PGraphLines

set_option maxHeartbeats 1000000 in
set_option maxRecDepth 100000 in
theorem read_win (s : ByteArray) (hs : s.size ≤ 900000) (w : World) (hE : Env w) (n0 : howL s ≠ [115, 111, 117, 114, 99, 101]) (n1 : howL s ≠ [101, 97, 99, 104]) (y : howL s = [119, 105, 110, 100, 111, 119]) :
    Calls Tryz.prog 18 #[.string s] w (NodePost (winV (tlS s) (!okS s)) w) := by
  obtain ⟨m, hm⟩ := hE.maxLen
  have HC := Lib.hid (Tryz.strings_Cut s ⟨#[32]⟩ m (w.alloc (.cells #[.int .i64 0, .slice none 0 0, .slice none 0 0, .string ⟨#[]⟩, .int .i64 0, .slice none 0 0, .int .i64 0, .int .i64 0, .int .i64 0, .int .i64 0, .int .i64 0, .int .i64 0, .int .i64 0, .bool false] 63)) (by omega) (cell_later (below_alloc (Below.refl _ _) _) hm))
  have HCS : Hid (cutS s = Lib.cut s.data.toList (⟨#[32]⟩ : ByteArray).data.toList) := rfl
  have HE := Lib.hid hE
  rw [← HCS.out] at HC
  have c0 : ((hdS s).toList == [115, 111, 117, 114, 99, 101]) = false := by rw [beq_eq_false_iff_ne, ByteArray.toList_eq]; exact n0
  have c1 : ((hdS s).toList == [101, 97, 99, 104]) = false := by rw [beq_eq_false_iff_ne, ByteArray.toList_eq]; exact n1
  have cy : ((hdS s).toList == [119, 105, 110, 100, 111, 119]) = true := by rw [beq_iff_eq, ByteArray.toList_eq]; exact y
  have htl : (tlS s).size ≤ 900000 := by have := (cut_size s).2; unfold tlS; omega
  clear hm hE HCS n0 n1 y
  go_enter Tryz.func18, Tryz.ntmps18
  go_wp2_with fail
  refine HC.out.mono ?_
  rintro e wc ⟨rfl, nd, hwc⟩
  have hb1 : Below w.heap.size w wc := by rw [hwc]; exact pw_below_drewN (below_alloc (Below.refl _ _) _) nd
  have h21 : wc.heap[w.heap.size]? = some (.cells #[.int .i64 0, .slice none 0 0, .slice none 0 0, .string ⟨#[]⟩, .int .i64 0, .slice none 0 0, .int .i64 0, .int .i64 0, .int .i64 0, .int .i64 0, .int .i64 0, .int .i64 0, .int .i64 0, .bool false] 63 (0, 0)) := by rw [hwc]; exact blk_drewN (heap_alloc_new w _) nd
  have hsz : wc.heap.size = w.heap.size + 1 := by rw [hwc]; exact World.size_alloc w _
  have hws : (⟨(cutS s).1.toArray⟩ : ByteArray) = hdS s := rfl
  have hwt : (⟨(cutS s).2.1.toArray⟩ : ByteArray) = tlS s := rfl
  have hwo : (cutS s).2.2 = okS s := rfl
  rw [hws, hwt, hwo]
  clear hws hwt hwo hwc HC
  generalize tlS s = r0 at *
  generalize okS s = o0 at *
  generalize hdS s = wd at *
  have hg1 := blk_alloc (heap_alloc_new wc (.cells #[.string r0, .bool !o0] 96)) (.cells #[.int .i64 0, .slice none 0 0, .slice none 0 0, .string ⟨#[]⟩, .int .i64 0, .slice none 0 0, .int .i64 0, .int .i64 0, .int .i64 0, .int .i64 0, .int .i64 0, .int .i64 0, .int .i64 0, .bool false] 63)
  have h81 := heap_alloc_new (wc.alloc (.cells #[.string r0, .bool !o0] 96)) (.cells #[.int .i64 0, .slice none 0 0, .slice none 0 0, .string ⟨#[]⟩, .int .i64 0, .slice none 0 0, .int .i64 0, .int .i64 0, .int .i64 0, .int .i64 0, .int .i64 0, .int .i64 0, .int .i64 0, .bool false] 63)
  have h22 := blk_alloc (blk_alloc h21 (.cells #[.string r0, .bool !o0] 96)) (.cells #[.int .i64 0, .slice none 0 0, .slice none 0 0, .string ⟨#[]⟩, .int .i64 0, .slice none 0 0, .int .i64 0, .int .i64 0, .int .i64 0, .int .i64 0, .int .i64 0, .int .i64 0, .int .i64 0, .bool false] 63)
  have hb2 := below_alloc (below_alloc hb1 (.cells #[.string r0, .bool !o0] 96)) (.cells #[.int .i64 0, .slice none 0 0, .slice none 0 0, .string ⟨#[]⟩, .int .i64 0, .slice none 0 0, .int .i64 0, .int .i64 0, .int .i64 0, .int .i64 0, .int .i64 0, .int .i64 0, .int .i64 0, .bool false] 63)
  rw [World.size_alloc, hsz] at h81
  rw [hsz] at hg1
  have HS0 : Hid (RdStep w ((wc.alloc (.cells #[.string r0, .bool !o0] 96)).alloc (.cells #[.int .i64 0, .slice none 0 0, .slice none 0 0, .string ⟨#[]⟩, .int .i64 0, .slice none 0 0, .int .i64 0, .int .i64 0, .int .i64 0, .int .i64 0, .int .i64 0, .int .i64 0, .int .i64 0, .bool false] 63)) ((wc.alloc (.cells #[.string r0, .bool !o0] 96)).alloc (.cells #[.int .i64 0, .slice none 0 0, .slice none 0 0, .string ⟨#[]⟩, .int .i64 0, .slice none 0 0, .int .i64 0, .int .i64 0, .int .i64 0, .int .i64 0, .int .i64 0, .int .i64 0, .int .i64 0, .bool false] 63)) (w.heap.size + 1) r0 (!o0)) := RdStep.refl ⟨hg1, by omega, hb2⟩
  have HB8 := Lib.hid h81; have HB2 := Lib.hid h22
  clear hb1 h21 hg1 h81 h22 hb2
  go_wp2_with fail
  clear hsz
  generalize (wc.alloc (.cells #[.string r0, .bool !o0] 96)).alloc (.cells #[.int .i64 0, .slice none 0 0, .slice none 0 0, .string ⟨#[]⟩, .int .i64 0, .slice none 0 0, .int .i64 0, .int .i64 0, .int .i64 0, .int .i64 0, .int .i64 0, .int .i64 0, .int .i64 0, .bool false] 63) = W0 at *
  have H0 : Hid (RN w W0 r0 (!o0) #[.int .i64 0, .slice none 0 0, .slice none 0 0, .string ⟨#[]⟩, .int .i64 0, .slice none 0 0, .int .i64 0, .int .i64 0, .int .i64 0, .int .i64 0, .int .i64 0, .int .i64 0, .int .i64 0, .bool false]) := ⟨HS0.out.1, HB2.out, HB8.out⟩
  clear HS0 HB8 HB2
  have hg0 := blk_lt H0.out.b8
  obtain ⟨⟨y1, r1, b1⟩, hq⟩ : ∃ t : Int × ByteArray × Bool, t = numC 3 r0 (!o0) := ⟨_, rfl⟩
  obtain ⟨q1, q2, q3⟩ := numC_parts hq
  have HN1 := Lib.hid hq
  refine (one_cut w W0 (w.heap.size + 1) r0 _ HE.out H0.out.rd (by omega)).mono ?_
  rintro e w1 ⟨⟨N, rfl, hN, hNs⟩, s1⟩
  rw [q2, q3] at s1
  rw [q1] at hN
  have H1 := Lib.hid (H0.out.step s1)
  have I_1 : Hid ((Kd.int .i64).R 3 w1 w.heap.size (fun k => k ≠ w.heap.size + 1) (.slice (some ⟨N, 0, none⟩) 1 1) [y1]) := one_R hN (by omega) (by omega)
  have hz1 : r1.size ≤ 900000 := by have := (cut_size r0).2; rw [q2] at this; omega
  clear hN hNs s1 q1 q2 q3 hq H0
  go_wp2_with fail
  obtain ⟨⟨y2, r2, b2⟩, hq⟩ : ∃ t : Int × ByteArray × Bool, t = numC 7 r1 b1 := ⟨_, rfl⟩
  obtain ⟨q1, q2, q3⟩ := numC_parts hq
  have HN2 := Lib.hid hq
  refine (num_cut w w1 (w.heap.size + 1) r1 _ HE.out H1.out.rd (by omega)).mono ?_
  rintro e w2 ⟨rfl, s1⟩
  rw [q2, q3] at s1
  rw [q1]
  have H2 := Lib.hid (H1.out.step s1)
  have I_2 := Lib.hid (Kd.R_keep I_1.out s1.2 (fun _ h => h))
  have hz2 : r2.size ≤ 900000 := by have := (cut_size r1).2; rw [q2] at this; omega
  clear s1 q1 q2 q3 hq H1 I_1
  go_wp2_with fail
  obtain ⟨⟨y3, r3, b3⟩, hq⟩ : ∃ t : Int × ByteArray × Bool, t = numC 7 r2 b2 := ⟨_, rfl⟩
  obtain ⟨q1, q2, q3⟩ := numC_parts hq
  have HN3 := Lib.hid hq
  refine (num_cut w w2 (w.heap.size + 1) r2 _ HE.out H2.out.rd (by omega)).mono ?_
  rintro e w3 ⟨rfl, s1⟩
  rw [q2, q3] at s1
  rw [q1]
  have H3 := Lib.hid (H2.out.step s1)
  have I_3 := Lib.hid (Kd.R_keep I_2.out s1.2 (fun _ h => h))
  have hz3 : r3.size ≤ 900000 := by have := (cut_size r2).2; rw [q2] at this; omega
  clear s1 q1 q2 q3 hq H2 I_2
  go_wp2_with fail
  obtain ⟨⟨y4, r4, b4⟩, hq⟩ : ∃ t : Int × ByteArray × Bool, t = numC 7 r3 b3 := ⟨_, rfl⟩
  obtain ⟨q1, q2, q3⟩ := numC_parts hq
  have HN4 := Lib.hid hq
  refine (num_cut w w3 (w.heap.size + 1) r3 _ HE.out H3.out.rd (by omega)).mono ?_
  rintro e w4 ⟨rfl, s1⟩
  rw [q2, q3] at s1
  rw [q1]
  have H4 := Lib.hid (H3.out.step s1)
  have I_4 := Lib.hid (Kd.R_keep I_3.out s1.2 (fun _ h => h))
  have hz4 : r4.size ≤ 900000 := by have := (cut_size r3).2; rw [q2] at this; omega
  clear s1 q1 q2 q3 hq H3 I_3
  go_wp2_with fail
  obtain ⟨y5, hq⟩ : ∃ y, y = (numV r4 7).getD 0 := ⟨_, rfl⟩
  obtain ⟨b5, hq3⟩ : ∃ b, b = (b4 || (numV r4 7).isNone) := ⟨_, rfl⟩
  refine (num_last w w4 (w.heap.size + 1) r4 _ HE.out H4.out.rd (by omega)).mono ?_
  rintro e w5 ⟨rfl, s1⟩
  rw [← hq3] at s1
  rw [← hq]
  have HY5 := Lib.hid hq; have HBV := Lib.hid hq3
  have H5 := Lib.hid (H4.out.step s1)
  have I_5 := Lib.hid (Kd.R_keep I_4.out s1.2 (fun _ h => h))
  clear s1 hq hq3 H4 I_4
  have se0 : w5.cell? ⟨w.heap.size + 1 + 1, 0, none⟩ = some (.int .i64 0) := (blk_cell H5.out.b8 0).trans rfl
  have sf0 : w5.frozen? ⟨w.heap.size + 1 + 1, 0, none⟩ = false := blk_frozen H5.out.b8 0
  have se1 : w5.cell? ⟨w.heap.size + 1 + 1, 1, none⟩ = some (.slice none 0 0) := (blk_cell H5.out.b8 1).trans rfl
  have sf1 : w5.frozen? ⟨w.heap.size + 1 + 1, 1, none⟩ = false := blk_frozen H5.out.b8 1
  have se2 : w5.cell? ⟨w.heap.size + 1 + 1, 2, none⟩ = some (.slice none 0 0) := (blk_cell H5.out.b8 2).trans rfl
  have sf2 : w5.frozen? ⟨w.heap.size + 1 + 1, 2, none⟩ = false := blk_frozen H5.out.b8 2
  have se3 : w5.cell? ⟨w.heap.size + 1 + 1, 3, none⟩ = some (.string ⟨#[]⟩) := (blk_cell H5.out.b8 3).trans rfl
  have sf3 : w5.frozen? ⟨w.heap.size + 1 + 1, 3, none⟩ = false := blk_frozen H5.out.b8 3
  have se4 : w5.cell? ⟨w.heap.size + 1 + 1, 4, none⟩ = some (.int .i64 0) := (blk_cell H5.out.b8 4).trans rfl
  have sf4 : w5.frozen? ⟨w.heap.size + 1 + 1, 4, none⟩ = false := blk_frozen H5.out.b8 4
  have se5 : w5.cell? ⟨w.heap.size + 1 + 1, 5, none⟩ = some (.slice none 0 0) := (blk_cell H5.out.b8 5).trans rfl
  have sf5 : w5.frozen? ⟨w.heap.size + 1 + 1, 5, none⟩ = false := blk_frozen H5.out.b8 5
  have se6 : w5.cell? ⟨w.heap.size + 1 + 1, 6, none⟩ = some (.int .i64 0) := (blk_cell H5.out.b8 6).trans rfl
  have sf6 : w5.frozen? ⟨w.heap.size + 1 + 1, 6, none⟩ = false := blk_frozen H5.out.b8 6
  have se7 : w5.cell? ⟨w.heap.size + 1 + 1, 7, none⟩ = some (.int .i64 0) := (blk_cell H5.out.b8 7).trans rfl
  have sf7 : w5.frozen? ⟨w.heap.size + 1 + 1, 7, none⟩ = false := blk_frozen H5.out.b8 7
  have se8 : w5.cell? ⟨w.heap.size + 1 + 1, 8, none⟩ = some (.int .i64 0) := (blk_cell H5.out.b8 8).trans rfl
  have sf8 : w5.frozen? ⟨w.heap.size + 1 + 1, 8, none⟩ = false := blk_frozen H5.out.b8 8
  have se9 : w5.cell? ⟨w.heap.size + 1 + 1, 9, none⟩ = some (.int .i64 0) := (blk_cell H5.out.b8 9).trans rfl
  have sf9 : w5.frozen? ⟨w.heap.size + 1 + 1, 9, none⟩ = false := blk_frozen H5.out.b8 9
  have se10 : w5.cell? ⟨w.heap.size + 1 + 1, 10, none⟩ = some (.int .i64 0) := (blk_cell H5.out.b8 10).trans rfl
  have sf10 : w5.frozen? ⟨w.heap.size + 1 + 1, 10, none⟩ = false := blk_frozen H5.out.b8 10
  have se11 : w5.cell? ⟨w.heap.size + 1 + 1, 11, none⟩ = some (.int .i64 0) := (blk_cell H5.out.b8 11).trans rfl
  have sf11 : w5.frozen? ⟨w.heap.size + 1 + 1, 11, none⟩ = false := blk_frozen H5.out.b8 11
  have se12 : w5.cell? ⟨w.heap.size + 1 + 1, 12, none⟩ = some (.int .i64 0) := (blk_cell H5.out.b8 12).trans rfl
  have sf12 : w5.frozen? ⟨w.heap.size + 1 + 1, 12, none⟩ = false := blk_frozen H5.out.b8 12
  have se13 : w5.cell? ⟨w.heap.size + 1 + 1, 13, none⟩ = some (.bool false) := (blk_cell H5.out.b8 13).trans rfl
  have sf13 : w5.frozen? ⟨w.heap.size + 1 + 1, 13, none⟩ = false := blk_frozen H5.out.b8 13
  go_wp2_with fail
  have H6 := Lib.hid (H5.out.put (.int .i64 3) (.slice (some ⟨N, 0, none⟩) 1 1) (.slice none 0 0) (.string ⟨#[]⟩) (.int .i64 0) (.slice none 0 0) (.int .i64 y2) (.int .i64 y3) (.int .i64 y4) (.int .i64 y5) (.int .i64 0) (.int .i64 0) (.int .i64 0) (.bool false))
  have I6 := Lib.hid (R_put I_5.out H5.out.b8 (by decide) (keepS14 w5 (w.heap.size + 1 + 1) (.int .i64 3) (.slice (some ⟨N, 0, none⟩) 1 1) (.slice none 0 0) (.string ⟨#[]⟩) (.int .i64 0) (.slice none 0 0) (.int .i64 y2) (.int .i64 y3) (.int .i64 y4) (.int .i64 y5) (.int .i64 0) (.int .i64 0) (.int .i64 0) (.bool false)))
  clear se0 sf0 se1 sf1 se2 sf2 se3 sf3 se4 sf4 se5 sf5 se6 sf6 se7 sf7 se8 sf8 se9 sf9 se10 sf10 se11 sf11 se12 sf12 se13 sf13
  generalize ((((((((((((((w5.setCell ⟨w.heap.size + 1 + 1, 0, none⟩ (.int .i64 3)).setCell ⟨w.heap.size + 1 + 1, 1, none⟩ (.slice (some ⟨N, 0, none⟩) 1 1)).setCell ⟨w.heap.size + 1 + 1, 2, none⟩ (.slice none 0 0)).setCell ⟨w.heap.size + 1 + 1, 3, none⟩ (.string ⟨#[]⟩)).setCell ⟨w.heap.size + 1 + 1, 4, none⟩ (.int .i64 0)).setCell ⟨w.heap.size + 1 + 1, 5, none⟩ (.slice none 0 0)).setCell ⟨w.heap.size + 1 + 1, 6, none⟩ (.int .i64 y2)).setCell ⟨w.heap.size + 1 + 1, 7, none⟩ (.int .i64 y3)).setCell ⟨w.heap.size + 1 + 1, 8, none⟩ (.int .i64 y4)).setCell ⟨w.heap.size + 1 + 1, 9, none⟩ (.int .i64 y5)).setCell ⟨w.heap.size + 1 + 1, 10, none⟩ (.int .i64 0)).setCell ⟨w.heap.size + 1 + 1, 11, none⟩ (.int .i64 0)).setCell ⟨w.heap.size + 1 + 1, 12, none⟩ (.int .i64 0)).setCell ⟨w.heap.size + 1 + 1, 13, none⟩ (.bool false)) = w6 at *
  clear H5 I_5
  refine start_ (n := 8) (S := fun w' => w'.cell? ⟨w.heap.size + 1 + 1, 0, none⟩ = some (.int .i64 3) ∧ w'.cell? ⟨w.heap.size + 1 + 1, 1, none⟩ = some (.slice (some ⟨N, 0, none⟩) 1 1) ∧ w'.cell? ⟨w.heap.size + 1 + 1, 2, none⟩ = some (.slice none 0 0) ∧ w'.cell? ⟨w.heap.size + 1 + 1, 3, none⟩ = some (.string ⟨#[]⟩) ∧ w'.cell? ⟨w.heap.size + 1 + 1, 4, none⟩ = some (.int .i64 0) ∧ w'.cell? ⟨w.heap.size + 1 + 1, 5, none⟩ = some (.slice none 0 0) ∧ w'.cell? ⟨w.heap.size + 1 + 1, 6, none⟩ = some (.int .i64 y2) ∧ w'.cell? ⟨w.heap.size + 1 + 1, 7, none⟩ = some (.int .i64 y3) ∧ w'.cell? ⟨w.heap.size + 1 + 1, 8, none⟩ = some (.int .i64 y4) ∧ w'.cell? ⟨w.heap.size + 1 + 1, 9, none⟩ = some (.int .i64 y5) ∧ w'.cell? ⟨w.heap.size + 1 + 1, 10, none⟩ = some (.int .i64 0) ∧ w'.cell? ⟨w.heap.size + 1 + 1, 11, none⟩ = some (.int .i64 0) ∧ w'.cell? ⟨w.heap.size + 1 + 1, 12, none⟩ = some (.int .i64 0) ∧ w'.cell? ⟨w.heap.size + 1 + 1, 13, none⟩ = some (.bool false) ∧ w'.cell? ⟨w.heap.size + 1, 1, none⟩ = some (.bool b5)) (ds := []) #[false, false, false, false, false, false, false, false] (by kernel_rfl) rfl rfl ⟨(blk_cell (w := w6.drew) H6.out.b8 0).trans rfl, (blk_cell (w := w6.drew) H6.out.b8 1).trans rfl, (blk_cell (w := w6.drew) H6.out.b8 2).trans rfl, (blk_cell (w := w6.drew) H6.out.b8 3).trans rfl, (blk_cell (w := w6.drew) H6.out.b8 4).trans rfl, (blk_cell (w := w6.drew) H6.out.b8 5).trans rfl, (blk_cell (w := w6.drew) H6.out.b8 6).trans rfl, (blk_cell (w := w6.drew) H6.out.b8 7).trans rfl, (blk_cell (w := w6.drew) H6.out.b8 8).trans rfl, (blk_cell (w := w6.drew) H6.out.b8 9).trans rfl, (blk_cell (w := w6.drew) H6.out.b8 10).trans rfl, (blk_cell (w := w6.drew) H6.out.b8 11).trans rfl, (blk_cell (w := w6.drew) H6.out.b8 12).trans rfl, (blk_cell (w := w6.drew) H6.out.b8 13).trans rfl, (blk_cell (w := w6.drew) H6.out.rd.blk 1).trans rfl⟩ (fun hHeld => ?_)
  have HT := Lib.hid (H6.out.on (Below.drew (Below.refl _ _)))
  have T0 := Lib.hid (Kd.R_drew I6.out)
  clear H6 I6
  generalize w6.drew = WT at *
  refine take_ (i := 0) (N := some 118) (v := ?_) (a' := ?_) #[true, false, false, false, false, false, false, false] rfl rfl (by kernel_rfl) (fun _ _ _ h => h) (Or.inl ⟨by rfl, ?_⟩) (by assumption) ?_ ?_
  rotate_left
  · intro w' hSw
    try dsimp only at hSw
    go_simp
    with_reducible rfl
  rotate_left
  · simp only [Act.put, List.setIfInBounds_toArray, List.set_cons_zero, List.set_cons_succ, i64_w, i32_w]
    rfl
  refine pure_ (i := 1) (N := some 119) (v := ?_) (a' := ?_) #[true, true, false, false, false, false, false, false] rfl rfl (by kernel_rfl) (fun _ _ _ h => h) (Or.inl ⟨by rfl, ?_⟩) ?_ ?_
  rotate_left
  · intro w'
    go_simp
    with_reducible rfl
  rotate_left
  · simp only [Act.put, List.setIfInBounds_toArray, List.set_cons_zero, List.set_cons_succ, i64_w, i32_w]
    rfl
  refine pure_ (i := 2) (N := some 120) (v := ?_) (a' := ?_) #[true, true, true, false, false, false, false, false] rfl rfl (by kernel_rfl) (fun _ _ _ h => h) (Or.inl ⟨by rfl, ?_⟩) ?_ ?_
  rotate_left
  · intro w'
    go_simp
    with_reducible rfl
  rotate_left
  · simp only [Act.put, List.setIfInBounds_toArray, List.set_cons_zero, List.set_cons_succ, i64_w, i32_w]
    rfl
  refine pure_ (i := 3) (N := some 121) (v := ?_) (a' := ?_) #[true, true, true, true, false, false, false, false] rfl rfl (by kernel_rfl) (fun _ _ _ h => h) (Or.inl ⟨by rfl, ?_⟩) ?_ ?_
  rotate_left
  · intro w'
    go_simp
    with_reducible rfl
  rotate_left
  · simp only [Act.put, List.setIfInBounds_toArray, List.set_cons_zero, List.set_cons_succ, i64_w, i32_w]
    rfl
  refine take_ (i := 4) (N := some 122) (v := ?_) (a' := ?_) #[true, true, true, true, true, false, false, false] rfl rfl (by kernel_rfl) (fun _ _ _ h => h) (Or.inl ⟨by rfl, ?_⟩) (by assumption) ?_ ?_
  rotate_left
  · intro w' hSw
    try dsimp only at hSw
    go_simp
    with_reducible rfl
  rotate_left
  · simp only [Act.put, List.setIfInBounds_toArray, List.set_cons_zero, List.set_cons_succ, i64_w, i32_w]
    rfl
  refine pure_ (i := 5) (N := some 123) (v := ?_) (a' := ?_) #[true, true, true, true, true, true, false, false] rfl rfl (by kernel_rfl) (fun _ _ _ h => h) (Or.inl ⟨by rfl, ?_⟩) ?_ ?_
  rotate_left
  · intro w'
    go_simp
    with_reducible rfl
  rotate_left
  · simp only [Act.put, List.setIfInBounds_toArray, List.set_cons_zero, List.set_cons_succ, i64_w, i32_w]
    rfl
  have se0 : WT.cell? ⟨w.heap.size, 0, none⟩ = some (.int .i64 0) := (blk_cell HT.out.b2 0).trans rfl
  have sf0 : WT.frozen? ⟨w.heap.size, 0, none⟩ = false := blk_frozen HT.out.b2 0
  have se1 : WT.cell? ⟨w.heap.size, 1, none⟩ = some (.slice none 0 0) := (blk_cell HT.out.b2 1).trans rfl
  have sf1 : WT.frozen? ⟨w.heap.size, 1, none⟩ = false := blk_frozen HT.out.b2 1
  have se2 : WT.cell? ⟨w.heap.size, 2, none⟩ = some (.slice none 0 0) := (blk_cell HT.out.b2 2).trans rfl
  have sf2 : WT.frozen? ⟨w.heap.size, 2, none⟩ = false := blk_frozen HT.out.b2 2
  have se3 : WT.cell? ⟨w.heap.size, 3, none⟩ = some (.string ⟨#[]⟩) := (blk_cell HT.out.b2 3).trans rfl
  have sf3 : WT.frozen? ⟨w.heap.size, 3, none⟩ = false := blk_frozen HT.out.b2 3
  have se4 : WT.cell? ⟨w.heap.size, 4, none⟩ = some (.int .i64 0) := (blk_cell HT.out.b2 4).trans rfl
  have sf4 : WT.frozen? ⟨w.heap.size, 4, none⟩ = false := blk_frozen HT.out.b2 4
  have se5 : WT.cell? ⟨w.heap.size, 5, none⟩ = some (.slice none 0 0) := (blk_cell HT.out.b2 5).trans rfl
  have sf5 : WT.frozen? ⟨w.heap.size, 5, none⟩ = false := blk_frozen HT.out.b2 5
  have se6 : WT.cell? ⟨w.heap.size, 6, none⟩ = some (.int .i64 0) := (blk_cell HT.out.b2 6).trans rfl
  have sf6 : WT.frozen? ⟨w.heap.size, 6, none⟩ = false := blk_frozen HT.out.b2 6
  have se7 : WT.cell? ⟨w.heap.size, 7, none⟩ = some (.int .i64 0) := (blk_cell HT.out.b2 7).trans rfl
  have sf7 : WT.frozen? ⟨w.heap.size, 7, none⟩ = false := blk_frozen HT.out.b2 7
  have se8 : WT.cell? ⟨w.heap.size, 8, none⟩ = some (.int .i64 0) := (blk_cell HT.out.b2 8).trans rfl
  have sf8 : WT.frozen? ⟨w.heap.size, 8, none⟩ = false := blk_frozen HT.out.b2 8
  have se9 : WT.cell? ⟨w.heap.size, 9, none⟩ = some (.int .i64 0) := (blk_cell HT.out.b2 9).trans rfl
  have sf9 : WT.frozen? ⟨w.heap.size, 9, none⟩ = false := blk_frozen HT.out.b2 9
  have se10 : WT.cell? ⟨w.heap.size, 10, none⟩ = some (.int .i64 0) := (blk_cell HT.out.b2 10).trans rfl
  have sf10 : WT.frozen? ⟨w.heap.size, 10, none⟩ = false := blk_frozen HT.out.b2 10
  have se11 : WT.cell? ⟨w.heap.size, 11, none⟩ = some (.int .i64 0) := (blk_cell HT.out.b2 11).trans rfl
  have sf11 : WT.frozen? ⟨w.heap.size, 11, none⟩ = false := blk_frozen HT.out.b2 11
  have se12 : WT.cell? ⟨w.heap.size, 12, none⟩ = some (.int .i64 0) := (blk_cell HT.out.b2 12).trans rfl
  have sf12 : WT.frozen? ⟨w.heap.size, 12, none⟩ = false := blk_frozen HT.out.b2 12
  have se13 : WT.cell? ⟨w.heap.size, 13, none⟩ = some (.bool false) := (blk_cell HT.out.b2 13).trans rfl
  have sf13 : WT.frozen? ⟨w.heap.size, 13, none⟩ = false := blk_frozen HT.out.b2 13
  refine one_ (i := 6) (N := none) #[true, true, true, true, true, true, true, false] rfl rfl (by kernel_rfl) (by decide) (fun K hK => ?_)
  refine skip_ (w1 := ?_) (by rfl) rfl ?_ ?_
  rotate_left
  · go_simp
    rfl
  have hkE := keepS14 WT (w.heap.size) (.int .i64 3) (.slice (some ⟨N, 0, none⟩) 1 1) (.slice none 0 0) (.string ⟨#[]⟩) (.int .i64 0) (.slice none 0 0) (.int .i64 y2) (.int .i64 y3) (.int .i64 y4) (.int .i64 y5) (.int .i64 0) (.int .i64 0) (.int .i64 0) (.bool false)
  have hSE : (((((((((((((((WT.setCell ⟨w.heap.size, 0, none⟩ (.int .i64 3)).setCell ⟨w.heap.size, 1, none⟩ (.slice (some ⟨N, 0, none⟩) 1 1)).setCell ⟨w.heap.size, 2, none⟩ (.slice none 0 0)).setCell ⟨w.heap.size, 3, none⟩ (.string ⟨#[]⟩)).setCell ⟨w.heap.size, 4, none⟩ (.int .i64 0)).setCell ⟨w.heap.size, 5, none⟩ (.slice none 0 0)).setCell ⟨w.heap.size, 6, none⟩ (.int .i64 y2)).setCell ⟨w.heap.size, 7, none⟩ (.int .i64 y3)).setCell ⟨w.heap.size, 8, none⟩ (.int .i64 y4)).setCell ⟨w.heap.size, 9, none⟩ (.int .i64 y5)).setCell ⟨w.heap.size, 10, none⟩ (.int .i64 0)).setCell ⟨w.heap.size, 11, none⟩ (.int .i64 0)).setCell ⟨w.heap.size, 12, none⟩ (.int .i64 0)).setCell ⟨w.heap.size, 13, none⟩ (.bool false))).cell? ⟨w.heap.size + 1 + 1, 0, none⟩ = some (.int .i64 3) ∧ (((((((((((((((WT.setCell ⟨w.heap.size, 0, none⟩ (.int .i64 3)).setCell ⟨w.heap.size, 1, none⟩ (.slice (some ⟨N, 0, none⟩) 1 1)).setCell ⟨w.heap.size, 2, none⟩ (.slice none 0 0)).setCell ⟨w.heap.size, 3, none⟩ (.string ⟨#[]⟩)).setCell ⟨w.heap.size, 4, none⟩ (.int .i64 0)).setCell ⟨w.heap.size, 5, none⟩ (.slice none 0 0)).setCell ⟨w.heap.size, 6, none⟩ (.int .i64 y2)).setCell ⟨w.heap.size, 7, none⟩ (.int .i64 y3)).setCell ⟨w.heap.size, 8, none⟩ (.int .i64 y4)).setCell ⟨w.heap.size, 9, none⟩ (.int .i64 y5)).setCell ⟨w.heap.size, 10, none⟩ (.int .i64 0)).setCell ⟨w.heap.size, 11, none⟩ (.int .i64 0)).setCell ⟨w.heap.size, 12, none⟩ (.int .i64 0)).setCell ⟨w.heap.size, 13, none⟩ (.bool false))).cell? ⟨w.heap.size + 1 + 1, 1, none⟩ = some (.slice (some ⟨N, 0, none⟩) 1 1) ∧ (((((((((((((((WT.setCell ⟨w.heap.size, 0, none⟩ (.int .i64 3)).setCell ⟨w.heap.size, 1, none⟩ (.slice (some ⟨N, 0, none⟩) 1 1)).setCell ⟨w.heap.size, 2, none⟩ (.slice none 0 0)).setCell ⟨w.heap.size, 3, none⟩ (.string ⟨#[]⟩)).setCell ⟨w.heap.size, 4, none⟩ (.int .i64 0)).setCell ⟨w.heap.size, 5, none⟩ (.slice none 0 0)).setCell ⟨w.heap.size, 6, none⟩ (.int .i64 y2)).setCell ⟨w.heap.size, 7, none⟩ (.int .i64 y3)).setCell ⟨w.heap.size, 8, none⟩ (.int .i64 y4)).setCell ⟨w.heap.size, 9, none⟩ (.int .i64 y5)).setCell ⟨w.heap.size, 10, none⟩ (.int .i64 0)).setCell ⟨w.heap.size, 11, none⟩ (.int .i64 0)).setCell ⟨w.heap.size, 12, none⟩ (.int .i64 0)).setCell ⟨w.heap.size, 13, none⟩ (.bool false))).cell? ⟨w.heap.size + 1 + 1, 2, none⟩ = some (.slice none 0 0) ∧ (((((((((((((((WT.setCell ⟨w.heap.size, 0, none⟩ (.int .i64 3)).setCell ⟨w.heap.size, 1, none⟩ (.slice (some ⟨N, 0, none⟩) 1 1)).setCell ⟨w.heap.size, 2, none⟩ (.slice none 0 0)).setCell ⟨w.heap.size, 3, none⟩ (.string ⟨#[]⟩)).setCell ⟨w.heap.size, 4, none⟩ (.int .i64 0)).setCell ⟨w.heap.size, 5, none⟩ (.slice none 0 0)).setCell ⟨w.heap.size, 6, none⟩ (.int .i64 y2)).setCell ⟨w.heap.size, 7, none⟩ (.int .i64 y3)).setCell ⟨w.heap.size, 8, none⟩ (.int .i64 y4)).setCell ⟨w.heap.size, 9, none⟩ (.int .i64 y5)).setCell ⟨w.heap.size, 10, none⟩ (.int .i64 0)).setCell ⟨w.heap.size, 11, none⟩ (.int .i64 0)).setCell ⟨w.heap.size, 12, none⟩ (.int .i64 0)).setCell ⟨w.heap.size, 13, none⟩ (.bool false))).cell? ⟨w.heap.size + 1 + 1, 3, none⟩ = some (.string ⟨#[]⟩) ∧ (((((((((((((((WT.setCell ⟨w.heap.size, 0, none⟩ (.int .i64 3)).setCell ⟨w.heap.size, 1, none⟩ (.slice (some ⟨N, 0, none⟩) 1 1)).setCell ⟨w.heap.size, 2, none⟩ (.slice none 0 0)).setCell ⟨w.heap.size, 3, none⟩ (.string ⟨#[]⟩)).setCell ⟨w.heap.size, 4, none⟩ (.int .i64 0)).setCell ⟨w.heap.size, 5, none⟩ (.slice none 0 0)).setCell ⟨w.heap.size, 6, none⟩ (.int .i64 y2)).setCell ⟨w.heap.size, 7, none⟩ (.int .i64 y3)).setCell ⟨w.heap.size, 8, none⟩ (.int .i64 y4)).setCell ⟨w.heap.size, 9, none⟩ (.int .i64 y5)).setCell ⟨w.heap.size, 10, none⟩ (.int .i64 0)).setCell ⟨w.heap.size, 11, none⟩ (.int .i64 0)).setCell ⟨w.heap.size, 12, none⟩ (.int .i64 0)).setCell ⟨w.heap.size, 13, none⟩ (.bool false))).cell? ⟨w.heap.size + 1 + 1, 4, none⟩ = some (.int .i64 0) ∧ (((((((((((((((WT.setCell ⟨w.heap.size, 0, none⟩ (.int .i64 3)).setCell ⟨w.heap.size, 1, none⟩ (.slice (some ⟨N, 0, none⟩) 1 1)).setCell ⟨w.heap.size, 2, none⟩ (.slice none 0 0)).setCell ⟨w.heap.size, 3, none⟩ (.string ⟨#[]⟩)).setCell ⟨w.heap.size, 4, none⟩ (.int .i64 0)).setCell ⟨w.heap.size, 5, none⟩ (.slice none 0 0)).setCell ⟨w.heap.size, 6, none⟩ (.int .i64 y2)).setCell ⟨w.heap.size, 7, none⟩ (.int .i64 y3)).setCell ⟨w.heap.size, 8, none⟩ (.int .i64 y4)).setCell ⟨w.heap.size, 9, none⟩ (.int .i64 y5)).setCell ⟨w.heap.size, 10, none⟩ (.int .i64 0)).setCell ⟨w.heap.size, 11, none⟩ (.int .i64 0)).setCell ⟨w.heap.size, 12, none⟩ (.int .i64 0)).setCell ⟨w.heap.size, 13, none⟩ (.bool false))).cell? ⟨w.heap.size + 1 + 1, 5, none⟩ = some (.slice none 0 0) ∧ (((((((((((((((WT.setCell ⟨w.heap.size, 0, none⟩ (.int .i64 3)).setCell ⟨w.heap.size, 1, none⟩ (.slice (some ⟨N, 0, none⟩) 1 1)).setCell ⟨w.heap.size, 2, none⟩ (.slice none 0 0)).setCell ⟨w.heap.size, 3, none⟩ (.string ⟨#[]⟩)).setCell ⟨w.heap.size, 4, none⟩ (.int .i64 0)).setCell ⟨w.heap.size, 5, none⟩ (.slice none 0 0)).setCell ⟨w.heap.size, 6, none⟩ (.int .i64 y2)).setCell ⟨w.heap.size, 7, none⟩ (.int .i64 y3)).setCell ⟨w.heap.size, 8, none⟩ (.int .i64 y4)).setCell ⟨w.heap.size, 9, none⟩ (.int .i64 y5)).setCell ⟨w.heap.size, 10, none⟩ (.int .i64 0)).setCell ⟨w.heap.size, 11, none⟩ (.int .i64 0)).setCell ⟨w.heap.size, 12, none⟩ (.int .i64 0)).setCell ⟨w.heap.size, 13, none⟩ (.bool false))).cell? ⟨w.heap.size + 1 + 1, 6, none⟩ = some (.int .i64 y2) ∧ (((((((((((((((WT.setCell ⟨w.heap.size, 0, none⟩ (.int .i64 3)).setCell ⟨w.heap.size, 1, none⟩ (.slice (some ⟨N, 0, none⟩) 1 1)).setCell ⟨w.heap.size, 2, none⟩ (.slice none 0 0)).setCell ⟨w.heap.size, 3, none⟩ (.string ⟨#[]⟩)).setCell ⟨w.heap.size, 4, none⟩ (.int .i64 0)).setCell ⟨w.heap.size, 5, none⟩ (.slice none 0 0)).setCell ⟨w.heap.size, 6, none⟩ (.int .i64 y2)).setCell ⟨w.heap.size, 7, none⟩ (.int .i64 y3)).setCell ⟨w.heap.size, 8, none⟩ (.int .i64 y4)).setCell ⟨w.heap.size, 9, none⟩ (.int .i64 y5)).setCell ⟨w.heap.size, 10, none⟩ (.int .i64 0)).setCell ⟨w.heap.size, 11, none⟩ (.int .i64 0)).setCell ⟨w.heap.size, 12, none⟩ (.int .i64 0)).setCell ⟨w.heap.size, 13, none⟩ (.bool false))).cell? ⟨w.heap.size + 1 + 1, 7, none⟩ = some (.int .i64 y3) ∧ (((((((((((((((WT.setCell ⟨w.heap.size, 0, none⟩ (.int .i64 3)).setCell ⟨w.heap.size, 1, none⟩ (.slice (some ⟨N, 0, none⟩) 1 1)).setCell ⟨w.heap.size, 2, none⟩ (.slice none 0 0)).setCell ⟨w.heap.size, 3, none⟩ (.string ⟨#[]⟩)).setCell ⟨w.heap.size, 4, none⟩ (.int .i64 0)).setCell ⟨w.heap.size, 5, none⟩ (.slice none 0 0)).setCell ⟨w.heap.size, 6, none⟩ (.int .i64 y2)).setCell ⟨w.heap.size, 7, none⟩ (.int .i64 y3)).setCell ⟨w.heap.size, 8, none⟩ (.int .i64 y4)).setCell ⟨w.heap.size, 9, none⟩ (.int .i64 y5)).setCell ⟨w.heap.size, 10, none⟩ (.int .i64 0)).setCell ⟨w.heap.size, 11, none⟩ (.int .i64 0)).setCell ⟨w.heap.size, 12, none⟩ (.int .i64 0)).setCell ⟨w.heap.size, 13, none⟩ (.bool false))).cell? ⟨w.heap.size + 1 + 1, 8, none⟩ = some (.int .i64 y4) ∧ (((((((((((((((WT.setCell ⟨w.heap.size, 0, none⟩ (.int .i64 3)).setCell ⟨w.heap.size, 1, none⟩ (.slice (some ⟨N, 0, none⟩) 1 1)).setCell ⟨w.heap.size, 2, none⟩ (.slice none 0 0)).setCell ⟨w.heap.size, 3, none⟩ (.string ⟨#[]⟩)).setCell ⟨w.heap.size, 4, none⟩ (.int .i64 0)).setCell ⟨w.heap.size, 5, none⟩ (.slice none 0 0)).setCell ⟨w.heap.size, 6, none⟩ (.int .i64 y2)).setCell ⟨w.heap.size, 7, none⟩ (.int .i64 y3)).setCell ⟨w.heap.size, 8, none⟩ (.int .i64 y4)).setCell ⟨w.heap.size, 9, none⟩ (.int .i64 y5)).setCell ⟨w.heap.size, 10, none⟩ (.int .i64 0)).setCell ⟨w.heap.size, 11, none⟩ (.int .i64 0)).setCell ⟨w.heap.size, 12, none⟩ (.int .i64 0)).setCell ⟨w.heap.size, 13, none⟩ (.bool false))).cell? ⟨w.heap.size + 1 + 1, 9, none⟩ = some (.int .i64 y5) ∧ (((((((((((((((WT.setCell ⟨w.heap.size, 0, none⟩ (.int .i64 3)).setCell ⟨w.heap.size, 1, none⟩ (.slice (some ⟨N, 0, none⟩) 1 1)).setCell ⟨w.heap.size, 2, none⟩ (.slice none 0 0)).setCell ⟨w.heap.size, 3, none⟩ (.string ⟨#[]⟩)).setCell ⟨w.heap.size, 4, none⟩ (.int .i64 0)).setCell ⟨w.heap.size, 5, none⟩ (.slice none 0 0)).setCell ⟨w.heap.size, 6, none⟩ (.int .i64 y2)).setCell ⟨w.heap.size, 7, none⟩ (.int .i64 y3)).setCell ⟨w.heap.size, 8, none⟩ (.int .i64 y4)).setCell ⟨w.heap.size, 9, none⟩ (.int .i64 y5)).setCell ⟨w.heap.size, 10, none⟩ (.int .i64 0)).setCell ⟨w.heap.size, 11, none⟩ (.int .i64 0)).setCell ⟨w.heap.size, 12, none⟩ (.int .i64 0)).setCell ⟨w.heap.size, 13, none⟩ (.bool false))).cell? ⟨w.heap.size + 1 + 1, 10, none⟩ = some (.int .i64 0) ∧ (((((((((((((((WT.setCell ⟨w.heap.size, 0, none⟩ (.int .i64 3)).setCell ⟨w.heap.size, 1, none⟩ (.slice (some ⟨N, 0, none⟩) 1 1)).setCell ⟨w.heap.size, 2, none⟩ (.slice none 0 0)).setCell ⟨w.heap.size, 3, none⟩ (.string ⟨#[]⟩)).setCell ⟨w.heap.size, 4, none⟩ (.int .i64 0)).setCell ⟨w.heap.size, 5, none⟩ (.slice none 0 0)).setCell ⟨w.heap.size, 6, none⟩ (.int .i64 y2)).setCell ⟨w.heap.size, 7, none⟩ (.int .i64 y3)).setCell ⟨w.heap.size, 8, none⟩ (.int .i64 y4)).setCell ⟨w.heap.size, 9, none⟩ (.int .i64 y5)).setCell ⟨w.heap.size, 10, none⟩ (.int .i64 0)).setCell ⟨w.heap.size, 11, none⟩ (.int .i64 0)).setCell ⟨w.heap.size, 12, none⟩ (.int .i64 0)).setCell ⟨w.heap.size, 13, none⟩ (.bool false))).cell? ⟨w.heap.size + 1 + 1, 11, none⟩ = some (.int .i64 0) ∧ (((((((((((((((WT.setCell ⟨w.heap.size, 0, none⟩ (.int .i64 3)).setCell ⟨w.heap.size, 1, none⟩ (.slice (some ⟨N, 0, none⟩) 1 1)).setCell ⟨w.heap.size, 2, none⟩ (.slice none 0 0)).setCell ⟨w.heap.size, 3, none⟩ (.string ⟨#[]⟩)).setCell ⟨w.heap.size, 4, none⟩ (.int .i64 0)).setCell ⟨w.heap.size, 5, none⟩ (.slice none 0 0)).setCell ⟨w.heap.size, 6, none⟩ (.int .i64 y2)).setCell ⟨w.heap.size, 7, none⟩ (.int .i64 y3)).setCell ⟨w.heap.size, 8, none⟩ (.int .i64 y4)).setCell ⟨w.heap.size, 9, none⟩ (.int .i64 y5)).setCell ⟨w.heap.size, 10, none⟩ (.int .i64 0)).setCell ⟨w.heap.size, 11, none⟩ (.int .i64 0)).setCell ⟨w.heap.size, 12, none⟩ (.int .i64 0)).setCell ⟨w.heap.size, 13, none⟩ (.bool false))).cell? ⟨w.heap.size + 1 + 1, 12, none⟩ = some (.int .i64 0) ∧ (((((((((((((((WT.setCell ⟨w.heap.size, 0, none⟩ (.int .i64 3)).setCell ⟨w.heap.size, 1, none⟩ (.slice (some ⟨N, 0, none⟩) 1 1)).setCell ⟨w.heap.size, 2, none⟩ (.slice none 0 0)).setCell ⟨w.heap.size, 3, none⟩ (.string ⟨#[]⟩)).setCell ⟨w.heap.size, 4, none⟩ (.int .i64 0)).setCell ⟨w.heap.size, 5, none⟩ (.slice none 0 0)).setCell ⟨w.heap.size, 6, none⟩ (.int .i64 y2)).setCell ⟨w.heap.size, 7, none⟩ (.int .i64 y3)).setCell ⟨w.heap.size, 8, none⟩ (.int .i64 y4)).setCell ⟨w.heap.size, 9, none⟩ (.int .i64 y5)).setCell ⟨w.heap.size, 10, none⟩ (.int .i64 0)).setCell ⟨w.heap.size, 11, none⟩ (.int .i64 0)).setCell ⟨w.heap.size, 12, none⟩ (.int .i64 0)).setCell ⟨w.heap.size, 13, none⟩ (.bool false))).cell? ⟨w.heap.size + 1 + 1, 13, none⟩ = some (.bool false) ∧ (((((((((((((((WT.setCell ⟨w.heap.size, 0, none⟩ (.int .i64 3)).setCell ⟨w.heap.size, 1, none⟩ (.slice (some ⟨N, 0, none⟩) 1 1)).setCell ⟨w.heap.size, 2, none⟩ (.slice none 0 0)).setCell ⟨w.heap.size, 3, none⟩ (.string ⟨#[]⟩)).setCell ⟨w.heap.size, 4, none⟩ (.int .i64 0)).setCell ⟨w.heap.size, 5, none⟩ (.slice none 0 0)).setCell ⟨w.heap.size, 6, none⟩ (.int .i64 y2)).setCell ⟨w.heap.size, 7, none⟩ (.int .i64 y3)).setCell ⟨w.heap.size, 8, none⟩ (.int .i64 y4)).setCell ⟨w.heap.size, 9, none⟩ (.int .i64 y5)).setCell ⟨w.heap.size, 10, none⟩ (.int .i64 0)).setCell ⟨w.heap.size, 11, none⟩ (.int .i64 0)).setCell ⟨w.heap.size, 12, none⟩ (.int .i64 0)).setCell ⟨w.heap.size, 13, none⟩ (.bool false))).cell? ⟨w.heap.size + 1, 1, none⟩ = some (.bool b5) := ⟨(blk_cell (hkE.blk HT.out.b8 (by omega) (by simp)) 0).trans rfl, (blk_cell (hkE.blk HT.out.b8 (by omega) (by simp)) 1).trans rfl, (blk_cell (hkE.blk HT.out.b8 (by omega) (by simp)) 2).trans rfl, (blk_cell (hkE.blk HT.out.b8 (by omega) (by simp)) 3).trans rfl, (blk_cell (hkE.blk HT.out.b8 (by omega) (by simp)) 4).trans rfl, (blk_cell (hkE.blk HT.out.b8 (by omega) (by simp)) 5).trans rfl, (blk_cell (hkE.blk HT.out.b8 (by omega) (by simp)) 6).trans rfl, (blk_cell (hkE.blk HT.out.b8 (by omega) (by simp)) 7).trans rfl, (blk_cell (hkE.blk HT.out.b8 (by omega) (by simp)) 8).trans rfl, (blk_cell (hkE.blk HT.out.b8 (by omega) (by simp)) 9).trans rfl, (blk_cell (hkE.blk HT.out.b8 (by omega) (by simp)) 10).trans rfl, (blk_cell (hkE.blk HT.out.b8 (by omega) (by simp)) 11).trans rfl, (blk_cell (hkE.blk HT.out.b8 (by omega) (by simp)) 12).trans rfl, (blk_cell (hkE.blk HT.out.b8 (by omega) (by simp)) 13).trans rfl, (blk_cell (hkE.blk HT.out.rd.blk (by omega) (by simp)) 1).trans rfl⟩
  refine hK.out _ _ hSE (fun hHeld2 => ?_)
  clear hK K hSE hHeld
  refine pure_ (i := 7) (N := some 3) (v := ?_) (a' := ?_) #[true, true, true, true, true, true, true, true] rfl rfl (by kernel_rfl) (fun _ _ _ h => h) (Or.inl ⟨by rfl, ?_⟩) ?_ ?_
  rotate_left
  · intro w'
    go_simp
    with_reducible rfl
  rotate_left
  · simp only [Act.put, List.setIfInBounds_toArray, List.set_cons_zero, List.set_cons_succ, i64_w, i32_w]
    rfl
  refine done_ (by kernel_rfl) ?_
  have HF := Lib.hid (HT.out.fin (.int .i64 3) (.slice (some ⟨N, 0, none⟩) 1 1) (.slice none 0 0) (.string ⟨#[]⟩) (.int .i64 0) (.slice none 0 0) (.int .i64 y2) (.int .i64 y3) (.int .i64 y4) (.int .i64 y5) (.int .i64 0) (.int .i64 0) (.int .i64 0) (.bool false))
  have U0 := Lib.hid (R_put T0.out HT.out.b2 (by decide) hkE)
  clear hkE
  clear se0 sf0 se1 sf1 se2 sf2 se3 sf3 se4 sf4 se5 sf5 se6 sf6 se7 sf7 se8 sf8 se9 sf9 se10 sf10 se11 sf11 se12 sf12 se13 sf13
  generalize ((((((((((((((WT.setCell ⟨w.heap.size, 0, none⟩ (.int .i64 3)).setCell ⟨w.heap.size, 1, none⟩ (.slice (some ⟨N, 0, none⟩) 1 1)).setCell ⟨w.heap.size, 2, none⟩ (.slice none 0 0)).setCell ⟨w.heap.size, 3, none⟩ (.string ⟨#[]⟩)).setCell ⟨w.heap.size, 4, none⟩ (.int .i64 0)).setCell ⟨w.heap.size, 5, none⟩ (.slice none 0 0)).setCell ⟨w.heap.size, 6, none⟩ (.int .i64 y2)).setCell ⟨w.heap.size, 7, none⟩ (.int .i64 y3)).setCell ⟨w.heap.size, 8, none⟩ (.int .i64 y4)).setCell ⟨w.heap.size, 9, none⟩ (.int .i64 y5)).setCell ⟨w.heap.size, 10, none⟩ (.int .i64 0)).setCell ⟨w.heap.size, 11, none⟩ (.int .i64 0)).setCell ⟨w.heap.size, 12, none⟩ (.int .i64 0)).setCell ⟨w.heap.size, 13, none⟩ (.bool false)) = WF at *
  go_wp2_with fail
  exact bodyPost_ret (results_ct (p := 2) (u := 3) (ty := 63) rfl _ _ w.heap.size 63 _ (0, 0) _ rfl HF.out.b2 Tryz.underlying63 rfl (by kernel_rfl)) rfl (node_post (ok := fun k => k ≠ w.heap.size + 1) HF.out U0.out (Kd.R_nil _ _ _ _ _) (Kd.R_nil _ _ _ _ _) (by unfold winV; rw [← HN1.out]; dsimp only; rw [← HN2.out]; dsimp only; rw [← HN3.out]; dsimp only; rw [← HN4.out]; dsimp only; rw [HBV.out, HY5.out]; rfl))

set_option maxHeartbeats 1000000 in
set_option maxRecDepth 100000 in
theorem read_grp (s : ByteArray) (hs : s.size ≤ 900000) (w : World) (hE : Env w) (n0 : howL s ≠ [115, 111, 117, 114, 99, 101]) (n1 : howL s ≠ [101, 97, 99, 104]) (n2 : howL s ≠ [119, 105, 110, 100, 111, 119]) (y : howL s = [103, 114, 111, 117, 112]) :
    Calls Tryz.prog 18 #[.string s] w (NodePost (grpV (tlS s) (!okS s)) w) := by
  obtain ⟨m, hm⟩ := hE.maxLen
  have HC := Lib.hid (Tryz.strings_Cut s ⟨#[32]⟩ m (w.alloc (.cells #[.int .i64 0, .slice none 0 0, .slice none 0 0, .string ⟨#[]⟩, .int .i64 0, .slice none 0 0, .int .i64 0, .int .i64 0, .int .i64 0, .int .i64 0, .int .i64 0, .int .i64 0, .int .i64 0, .bool false] 63)) (by omega) (cell_later (below_alloc (Below.refl _ _) _) hm))
  have HCS : Hid (cutS s = Lib.cut s.data.toList (⟨#[32]⟩ : ByteArray).data.toList) := rfl
  have HE := Lib.hid hE
  rw [← HCS.out] at HC
  have c0 : ((hdS s).toList == [115, 111, 117, 114, 99, 101]) = false := by rw [beq_eq_false_iff_ne, ByteArray.toList_eq]; exact n0
  have c1 : ((hdS s).toList == [101, 97, 99, 104]) = false := by rw [beq_eq_false_iff_ne, ByteArray.toList_eq]; exact n1
  have c2 : ((hdS s).toList == [119, 105, 110, 100, 111, 119]) = false := by rw [beq_eq_false_iff_ne, ByteArray.toList_eq]; exact n2
  have cy : ((hdS s).toList == [103, 114, 111, 117, 112]) = true := by rw [beq_iff_eq, ByteArray.toList_eq]; exact y
  have htl : (tlS s).size ≤ 900000 := by have := (cut_size s).2; unfold tlS; omega
  clear hm hE HCS n0 n1 n2 y
  go_enter Tryz.func18, Tryz.ntmps18
  go_wp2_with fail
  refine HC.out.mono ?_
  rintro e wc ⟨rfl, nd, hwc⟩
  have hb1 : Below w.heap.size w wc := by rw [hwc]; exact pw_below_drewN (below_alloc (Below.refl _ _) _) nd
  have h21 : wc.heap[w.heap.size]? = some (.cells #[.int .i64 0, .slice none 0 0, .slice none 0 0, .string ⟨#[]⟩, .int .i64 0, .slice none 0 0, .int .i64 0, .int .i64 0, .int .i64 0, .int .i64 0, .int .i64 0, .int .i64 0, .int .i64 0, .bool false] 63 (0, 0)) := by rw [hwc]; exact blk_drewN (heap_alloc_new w _) nd
  have hsz : wc.heap.size = w.heap.size + 1 := by rw [hwc]; exact World.size_alloc w _
  have hws : (⟨(cutS s).1.toArray⟩ : ByteArray) = hdS s := rfl
  have hwt : (⟨(cutS s).2.1.toArray⟩ : ByteArray) = tlS s := rfl
  have hwo : (cutS s).2.2 = okS s := rfl
  rw [hws, hwt, hwo]
  clear hws hwt hwo hwc HC
  generalize tlS s = r0 at *
  generalize okS s = o0 at *
  generalize hdS s = wd at *
  have hg1 := blk_alloc (heap_alloc_new wc (.cells #[.string r0, .bool !o0] 96)) (.cells #[.int .i64 0, .slice none 0 0, .slice none 0 0, .string ⟨#[]⟩, .int .i64 0, .slice none 0 0, .int .i64 0, .int .i64 0, .int .i64 0, .int .i64 0, .int .i64 0, .int .i64 0, .int .i64 0, .bool false] 63)
  have h81 := heap_alloc_new (wc.alloc (.cells #[.string r0, .bool !o0] 96)) (.cells #[.int .i64 0, .slice none 0 0, .slice none 0 0, .string ⟨#[]⟩, .int .i64 0, .slice none 0 0, .int .i64 0, .int .i64 0, .int .i64 0, .int .i64 0, .int .i64 0, .int .i64 0, .int .i64 0, .bool false] 63)
  have h22 := blk_alloc (blk_alloc h21 (.cells #[.string r0, .bool !o0] 96)) (.cells #[.int .i64 0, .slice none 0 0, .slice none 0 0, .string ⟨#[]⟩, .int .i64 0, .slice none 0 0, .int .i64 0, .int .i64 0, .int .i64 0, .int .i64 0, .int .i64 0, .int .i64 0, .int .i64 0, .bool false] 63)
  have hb2 := below_alloc (below_alloc hb1 (.cells #[.string r0, .bool !o0] 96)) (.cells #[.int .i64 0, .slice none 0 0, .slice none 0 0, .string ⟨#[]⟩, .int .i64 0, .slice none 0 0, .int .i64 0, .int .i64 0, .int .i64 0, .int .i64 0, .int .i64 0, .int .i64 0, .int .i64 0, .bool false] 63)
  rw [World.size_alloc, hsz] at h81
  rw [hsz] at hg1
  have HS0 : Hid (RdStep w ((wc.alloc (.cells #[.string r0, .bool !o0] 96)).alloc (.cells #[.int .i64 0, .slice none 0 0, .slice none 0 0, .string ⟨#[]⟩, .int .i64 0, .slice none 0 0, .int .i64 0, .int .i64 0, .int .i64 0, .int .i64 0, .int .i64 0, .int .i64 0, .int .i64 0, .bool false] 63)) ((wc.alloc (.cells #[.string r0, .bool !o0] 96)).alloc (.cells #[.int .i64 0, .slice none 0 0, .slice none 0 0, .string ⟨#[]⟩, .int .i64 0, .slice none 0 0, .int .i64 0, .int .i64 0, .int .i64 0, .int .i64 0, .int .i64 0, .int .i64 0, .int .i64 0, .bool false] 63)) (w.heap.size + 1) r0 (!o0)) := RdStep.refl ⟨hg1, by omega, hb2⟩
  have HB8 := Lib.hid h81; have HB2 := Lib.hid h22
  clear hb1 h21 hg1 h81 h22 hb2
  go_wp2_with fail
  clear hsz
  generalize (wc.alloc (.cells #[.string r0, .bool !o0] 96)).alloc (.cells #[.int .i64 0, .slice none 0 0, .slice none 0 0, .string ⟨#[]⟩, .int .i64 0, .slice none 0 0, .int .i64 0, .int .i64 0, .int .i64 0, .int .i64 0, .int .i64 0, .int .i64 0, .int .i64 0, .bool false] 63) = W0 at *
  have H0 : Hid (RN w W0 r0 (!o0) #[.int .i64 0, .slice none 0 0, .slice none 0 0, .string ⟨#[]⟩, .int .i64 0, .slice none 0 0, .int .i64 0, .int .i64 0, .int .i64 0, .int .i64 0, .int .i64 0, .int .i64 0, .int .i64 0, .bool false]) := ⟨HS0.out.1, HB2.out, HB8.out⟩
  clear HS0 HB8 HB2
  have hg0 := blk_lt H0.out.b8
  obtain ⟨⟨y1, r1, b1⟩, hq⟩ : ∃ t : Int × ByteArray × Bool, t = numC 3 r0 (!o0) := ⟨_, rfl⟩
  obtain ⟨q1, q2, q3⟩ := numC_parts hq
  have HN1 := Lib.hid hq
  refine (one_cut w W0 (w.heap.size + 1) r0 _ HE.out H0.out.rd (by omega)).mono ?_
  rintro e w1 ⟨⟨N, rfl, hN, hNs⟩, s1⟩
  rw [q2, q3] at s1
  rw [q1] at hN
  have H1 := Lib.hid (H0.out.step s1)
  have I_1 : Hid ((Kd.int .i64).R 3 w1 w.heap.size (fun k => k ≠ w.heap.size + 1) (.slice (some ⟨N, 0, none⟩) 1 1) [y1]) := one_R hN (by omega) (by omega)
  have hz1 : r1.size ≤ 900000 := by have := (cut_size r0).2; rw [q2] at this; omega
  clear hN hNs s1 q1 q2 q3 hq H0
  go_wp2_with fail
  obtain ⟨⟨y2, r2, b2⟩, hq⟩ : ∃ t : Int × ByteArray × Bool, t = numC 7 r1 b1 := ⟨_, rfl⟩
  obtain ⟨q1, q2, q3⟩ := numC_parts hq
  have HN2 := Lib.hid hq
  refine (num_cut w w1 (w.heap.size + 1) r1 _ HE.out H1.out.rd (by omega)).mono ?_
  rintro e w2 ⟨rfl, s1⟩
  rw [q2, q3] at s1
  rw [q1]
  have H2 := Lib.hid (H1.out.step s1)
  have I_2 := Lib.hid (Kd.R_keep I_1.out s1.2 (fun _ h => h))
  have hz2 : r2.size ≤ 900000 := by have := (cut_size r1).2; rw [q2] at this; omega
  clear s1 q1 q2 q3 hq H1 I_1
  go_wp2_with fail
  obtain ⟨⟨y3, r3, b3⟩, hq⟩ : ∃ t : Int × ByteArray × Bool, t = numC 7 r2 b2 := ⟨_, rfl⟩
  obtain ⟨q1, q2, q3⟩ := numC_parts hq
  have HN3 := Lib.hid hq
  refine (num_cut w w2 (w.heap.size + 1) r2 _ HE.out H2.out.rd (by omega)).mono ?_
  rintro e w3 ⟨rfl, s1⟩
  rw [q2, q3] at s1
  rw [q1]
  have H3 := Lib.hid (H2.out.step s1)
  have I_3 := Lib.hid (Kd.R_keep I_2.out s1.2 (fun _ h => h))
  have hz3 : r3.size ≤ 900000 := by have := (cut_size r2).2; rw [q2] at this; omega
  clear s1 q1 q2 q3 hq H2 I_2
  go_wp2_with fail
  obtain ⟨⟨y4, r4, b4⟩, hq⟩ : ∃ t : Int × ByteArray × Bool, t = numC 7 r3 b3 := ⟨_, rfl⟩
  obtain ⟨q1, q2, q3⟩ := numC_parts hq
  have HN4 := Lib.hid hq
  refine (num_cut w w3 (w.heap.size + 1) r3 _ HE.out H3.out.rd (by omega)).mono ?_
  rintro e w4 ⟨rfl, s1⟩
  rw [q2, q3] at s1
  rw [q1]
  have H4 := Lib.hid (H3.out.step s1)
  have I_4 := Lib.hid (Kd.R_keep I_3.out s1.2 (fun _ h => h))
  have hz4 : r4.size ≤ 900000 := by have := (cut_size r3).2; rw [q2] at this; omega
  clear s1 q1 q2 q3 hq H3 I_3
  have se0 : w4.cell? ⟨w.heap.size + 1 + 1, 0, none⟩ = some (.int .i64 0) := (blk_cell H4.out.b8 0).trans rfl
  have sf0 : w4.frozen? ⟨w.heap.size + 1 + 1, 0, none⟩ = false := blk_frozen H4.out.b8 0
  have se1 : w4.cell? ⟨w.heap.size + 1 + 1, 1, none⟩ = some (.slice none 0 0) := (blk_cell H4.out.b8 1).trans rfl
  have sf1 : w4.frozen? ⟨w.heap.size + 1 + 1, 1, none⟩ = false := blk_frozen H4.out.b8 1
  have se2 : w4.cell? ⟨w.heap.size + 1 + 1, 2, none⟩ = some (.slice none 0 0) := (blk_cell H4.out.b8 2).trans rfl
  have sf2 : w4.frozen? ⟨w.heap.size + 1 + 1, 2, none⟩ = false := blk_frozen H4.out.b8 2
  have se3 : w4.cell? ⟨w.heap.size + 1 + 1, 3, none⟩ = some (.string ⟨#[]⟩) := (blk_cell H4.out.b8 3).trans rfl
  have sf3 : w4.frozen? ⟨w.heap.size + 1 + 1, 3, none⟩ = false := blk_frozen H4.out.b8 3
  have se4 : w4.cell? ⟨w.heap.size + 1 + 1, 4, none⟩ = some (.int .i64 0) := (blk_cell H4.out.b8 4).trans rfl
  have sf4 : w4.frozen? ⟨w.heap.size + 1 + 1, 4, none⟩ = false := blk_frozen H4.out.b8 4
  have se5 : w4.cell? ⟨w.heap.size + 1 + 1, 5, none⟩ = some (.slice none 0 0) := (blk_cell H4.out.b8 5).trans rfl
  have sf5 : w4.frozen? ⟨w.heap.size + 1 + 1, 5, none⟩ = false := blk_frozen H4.out.b8 5
  have se6 : w4.cell? ⟨w.heap.size + 1 + 1, 6, none⟩ = some (.int .i64 0) := (blk_cell H4.out.b8 6).trans rfl
  have sf6 : w4.frozen? ⟨w.heap.size + 1 + 1, 6, none⟩ = false := blk_frozen H4.out.b8 6
  have se7 : w4.cell? ⟨w.heap.size + 1 + 1, 7, none⟩ = some (.int .i64 0) := (blk_cell H4.out.b8 7).trans rfl
  have sf7 : w4.frozen? ⟨w.heap.size + 1 + 1, 7, none⟩ = false := blk_frozen H4.out.b8 7
  have se8 : w4.cell? ⟨w.heap.size + 1 + 1, 8, none⟩ = some (.int .i64 0) := (blk_cell H4.out.b8 8).trans rfl
  have sf8 : w4.frozen? ⟨w.heap.size + 1 + 1, 8, none⟩ = false := blk_frozen H4.out.b8 8
  have se9 : w4.cell? ⟨w.heap.size + 1 + 1, 9, none⟩ = some (.int .i64 0) := (blk_cell H4.out.b8 9).trans rfl
  have sf9 : w4.frozen? ⟨w.heap.size + 1 + 1, 9, none⟩ = false := blk_frozen H4.out.b8 9
  have se10 : w4.cell? ⟨w.heap.size + 1 + 1, 10, none⟩ = some (.int .i64 0) := (blk_cell H4.out.b8 10).trans rfl
  have sf10 : w4.frozen? ⟨w.heap.size + 1 + 1, 10, none⟩ = false := blk_frozen H4.out.b8 10
  have se11 : w4.cell? ⟨w.heap.size + 1 + 1, 11, none⟩ = some (.int .i64 0) := (blk_cell H4.out.b8 11).trans rfl
  have sf11 : w4.frozen? ⟨w.heap.size + 1 + 1, 11, none⟩ = false := blk_frozen H4.out.b8 11
  have se12 : w4.cell? ⟨w.heap.size + 1 + 1, 12, none⟩ = some (.int .i64 0) := (blk_cell H4.out.b8 12).trans rfl
  have sf12 : w4.frozen? ⟨w.heap.size + 1 + 1, 12, none⟩ = false := blk_frozen H4.out.b8 12
  have se13 : w4.cell? ⟨w.heap.size + 1 + 1, 13, none⟩ = some (.bool false) := (blk_cell H4.out.b8 13).trans rfl
  have sf13 : w4.frozen? ⟨w.heap.size + 1 + 1, 13, none⟩ = false := blk_frozen H4.out.b8 13
  go_upto_region 16 with fail
  have H5 := Lib.hid (H4.out.put (.int .i64 4) (.slice (some ⟨N, 0, none⟩) 1 1) (.slice none 0 0) (.string ⟨#[]⟩) (.int .i64 0) (.slice none 0 0) (.int .i64 0) (.int .i64 0) (.int .i64 0) (.int .i64 0) (.int .i64 y2) (.int .i64 y3) (.int .i64 y4) (.bool false))
  have I_5 := Lib.hid (R_put I_4.out H4.out.b8 (by decide) (keepS14 w4 (w.heap.size + 1 + 1) (.int .i64 4) (.slice (some ⟨N, 0, none⟩) 1 1) (.slice none 0 0) (.string ⟨#[]⟩) (.int .i64 0) (.slice none 0 0) (.int .i64 0) (.int .i64 0) (.int .i64 0) (.int .i64 0) (.int .i64 y2) (.int .i64 y3) (.int .i64 y4) (.bool false)))
  clear se0 sf0 se1 sf1 se2 sf2 se3 sf3 se4 sf4 se5 sf5 se6 sf6 se7 sf7 se8 sf8 se9 sf9 se10 sf10 se11 sf11 se12 sf12 se13 sf13
  generalize ((((((((((((((w4.setCell ⟨w.heap.size + 1 + 1, 0, none⟩ (.int .i64 4)).setCell ⟨w.heap.size + 1 + 1, 1, none⟩ (.slice (some ⟨N, 0, none⟩) 1 1)).setCell ⟨w.heap.size + 1 + 1, 2, none⟩ (.slice none 0 0)).setCell ⟨w.heap.size + 1 + 1, 3, none⟩ (.string ⟨#[]⟩)).setCell ⟨w.heap.size + 1 + 1, 4, none⟩ (.int .i64 0)).setCell ⟨w.heap.size + 1 + 1, 5, none⟩ (.slice none 0 0)).setCell ⟨w.heap.size + 1 + 1, 6, none⟩ (.int .i64 0)).setCell ⟨w.heap.size + 1 + 1, 7, none⟩ (.int .i64 0)).setCell ⟨w.heap.size + 1 + 1, 8, none⟩ (.int .i64 0)).setCell ⟨w.heap.size + 1 + 1, 9, none⟩ (.int .i64 0)).setCell ⟨w.heap.size + 1 + 1, 10, none⟩ (.int .i64 y2)).setCell ⟨w.heap.size + 1 + 1, 11, none⟩ (.int .i64 y3)).setCell ⟨w.heap.size + 1 + 1, 12, none⟩ (.int .i64 y4)).setCell ⟨w.heap.size + 1 + 1, 13, none⟩ (.bool false)) = w5 at *
  clear H4 I_4
  obtain ⟨r5, hr5⟩ : ∃ r : ByteArray, r = ⟨(cutS r4).2.1.toArray⟩ := ⟨_, rfl⟩
  obtain ⟨b5, hb5⟩ : ∃ b, b = (b4 || !(cutS r4).2.2) := ⟨_, rfl⟩
  have hz5 : r5.size ≤ 900000 := by have := (cut_size r4).2; rw [hr5]; omega
  go_wp2_with fail
  refine (part_cut w w5 (w.heap.size + 1) r4 _ HE.out H5.out.rd (by omega)).mono ?_
  rintro e w6 ⟨rfl, s1⟩
  rw [← hr5, ← hb5] at s1
  have H6 := Lib.hid (H5.out.step s1)
  have I_6 := Lib.hid (Kd.R_keep I_5.out s1.2 (fun _ h => h))
  obtain ⟨hw, hhw⟩ : ∃ h : ByteArray, h = ⟨(cutS r4).1.toArray⟩ := ⟨_, rfl⟩
  rw [← hhw]
  have hwl : hw.toList = howL r4 := by rw [hhw, ByteArray.toList_eq]; rfl
  have HR5 : Hid (r5 = tlS r4) := hr5
  have HB5 : Hid (b5 = (b4 || !okS r4)) := hb5
  have HWL := Lib.hid hwl
  clear hr5 hb5 s1 H5 I_5 hhw hwl
  have se0 : w6.cell? ⟨w.heap.size + 1 + 1, 0, none⟩ = some (.int .i64 4) := (blk_cell H6.out.b8 0).trans rfl
  have sf0 : w6.frozen? ⟨w.heap.size + 1 + 1, 0, none⟩ = false := blk_frozen H6.out.b8 0
  have se1 : w6.cell? ⟨w.heap.size + 1 + 1, 1, none⟩ = some (.slice (some ⟨N, 0, none⟩) 1 1) := (blk_cell H6.out.b8 1).trans rfl
  have sf1 : w6.frozen? ⟨w.heap.size + 1 + 1, 1, none⟩ = false := blk_frozen H6.out.b8 1
  have se2 : w6.cell? ⟨w.heap.size + 1 + 1, 2, none⟩ = some (.slice none 0 0) := (blk_cell H6.out.b8 2).trans rfl
  have sf2 : w6.frozen? ⟨w.heap.size + 1 + 1, 2, none⟩ = false := blk_frozen H6.out.b8 2
  have se3 : w6.cell? ⟨w.heap.size + 1 + 1, 3, none⟩ = some (.string ⟨#[]⟩) := (blk_cell H6.out.b8 3).trans rfl
  have sf3 : w6.frozen? ⟨w.heap.size + 1 + 1, 3, none⟩ = false := blk_frozen H6.out.b8 3
  have se4 : w6.cell? ⟨w.heap.size + 1 + 1, 4, none⟩ = some (.int .i64 0) := (blk_cell H6.out.b8 4).trans rfl
  have sf4 : w6.frozen? ⟨w.heap.size + 1 + 1, 4, none⟩ = false := blk_frozen H6.out.b8 4
  have se5 : w6.cell? ⟨w.heap.size + 1 + 1, 5, none⟩ = some (.slice none 0 0) := (blk_cell H6.out.b8 5).trans rfl
  have sf5 : w6.frozen? ⟨w.heap.size + 1 + 1, 5, none⟩ = false := blk_frozen H6.out.b8 5
  have se6 : w6.cell? ⟨w.heap.size + 1 + 1, 6, none⟩ = some (.int .i64 0) := (blk_cell H6.out.b8 6).trans rfl
  have sf6 : w6.frozen? ⟨w.heap.size + 1 + 1, 6, none⟩ = false := blk_frozen H6.out.b8 6
  have se7 : w6.cell? ⟨w.heap.size + 1 + 1, 7, none⟩ = some (.int .i64 0) := (blk_cell H6.out.b8 7).trans rfl
  have sf7 : w6.frozen? ⟨w.heap.size + 1 + 1, 7, none⟩ = false := blk_frozen H6.out.b8 7
  have se8 : w6.cell? ⟨w.heap.size + 1 + 1, 8, none⟩ = some (.int .i64 0) := (blk_cell H6.out.b8 8).trans rfl
  have sf8 : w6.frozen? ⟨w.heap.size + 1 + 1, 8, none⟩ = false := blk_frozen H6.out.b8 8
  have se9 : w6.cell? ⟨w.heap.size + 1 + 1, 9, none⟩ = some (.int .i64 0) := (blk_cell H6.out.b8 9).trans rfl
  have sf9 : w6.frozen? ⟨w.heap.size + 1 + 1, 9, none⟩ = false := blk_frozen H6.out.b8 9
  have se10 : w6.cell? ⟨w.heap.size + 1 + 1, 10, none⟩ = some (.int .i64 y2) := (blk_cell H6.out.b8 10).trans rfl
  have sf10 : w6.frozen? ⟨w.heap.size + 1 + 1, 10, none⟩ = false := blk_frozen H6.out.b8 10
  have se11 : w6.cell? ⟨w.heap.size + 1 + 1, 11, none⟩ = some (.int .i64 y3) := (blk_cell H6.out.b8 11).trans rfl
  have sf11 : w6.frozen? ⟨w.heap.size + 1 + 1, 11, none⟩ = false := blk_frozen H6.out.b8 11
  have se12 : w6.cell? ⟨w.heap.size + 1 + 1, 12, none⟩ = some (.int .i64 y4) := (blk_cell H6.out.b8 12).trans rfl
  have sf12 : w6.frozen? ⟨w.heap.size + 1 + 1, 12, none⟩ = false := blk_frozen H6.out.b8 12
  have se13 : w6.cell? ⟨w.heap.size + 1 + 1, 13, none⟩ = some (.bool false) := (blk_cell H6.out.b8 13).trans rfl
  have sf13 : w6.frozen? ⟨w.heap.size + 1 + 1, 13, none⟩ = false := blk_frozen H6.out.b8 13
  go_upto_region 18 with fail
  obtain ⟨ac, hac⟩ : ∃ ac, ac = (hw.toList == [97, 99, 99]) := ⟨_, rfl⟩
  have HAC : Hid (ac = (howL r4 == [97, 99, 99])) := by rw [hac, HWL.out]; exact Lib.hid rfl
  rw [← hac]
  have H7 : Hid (RN w (w6.setCell ⟨w.heap.size + 1 + 1, 13, none⟩ (.bool ac)) r5 b5 #[.int .i64 4, .slice (some ⟨N, 0, none⟩) 1 1, .slice none 0 0, .string ⟨#[]⟩, .int .i64 0, .slice none 0 0, .int .i64 0, .int .i64 0, .int .i64 0, .int .i64 0, .int .i64 y2, .int .i64 y3, .int .i64 y4, .bool ac]) := by
    have := H6.out.set8 13 (.bool ac)
    simpa [Hid] using this
  have I_7 := Lib.hid (R_put I_6.out H6.out.b8 (by decide) ((KeepBut.refl w6 (w.heap.size + 1 + 1) none).set_ 13 (.bool ac)))
  clear H6 I_6
  clear se0 sf0 se1 sf1 se2 sf2 se3 sf3 se4 sf4 se5 sf5 se6 sf6 se7 sf7 se8 sf8 se9 sf9 se10 sf10 se11 sf11 se12 sf12 se13 sf13
  generalize w6.setCell ⟨w.heap.size + 1 + 1, 13, none⟩ (.bool ac) = w7 at *
  have d1 : w7.cell? ⟨w.heap.size + 1, 1, none⟩ = some (.bool b5) := (blk_cell H7.out.rd.blk 1).trans rfl
  have f1 : w7.frozen? ⟨w.heap.size + 1, 1, none⟩ = false := blk_frozen H7.out.rd.blk 1
  clear hac
  cases b5 with
  | true =>
    go_upto_region 19 with fail
    have H8 := Lib.hid (H7.out.bad true)
    have I_8 := Lib.hid (Kd.R_far I_7.out (p := ⟨w.heap.size + 1, 1, none⟩) (fun _ h => h) (.bool true))
    clear H7 I_7 d1 f1
    generalize w7.setCell ⟨w.heap.size + 1, 1, none⟩ (.bool true) = w8 at *
    go_wp2_with fail
    obtain ⟨b9, hq3⟩ : ∃ b, b = (true || !textB r5) := ⟨_, rfl⟩
    refine (rd_text w w8 (w.heap.size + 1) r5 _ H8.out.rd (by omega)).mono ?_
    rintro e w9 ⟨rfl, s1⟩
    rw [← hq3] at s1
    have HBV := Lib.hid hq3
    have H9 := Lib.hid (H8.out.step s1)
    have I_9 := Lib.hid (Kd.R_keep I_8.out s1.2 (fun _ h => h))
    clear s1 hq3 H8 I_8
    have se0 : w9.cell? ⟨w.heap.size + 1 + 1, 0, none⟩ = some (.int .i64 4) := (blk_cell H9.out.b8 0).trans rfl
    have sf0 : w9.frozen? ⟨w.heap.size + 1 + 1, 0, none⟩ = false := blk_frozen H9.out.b8 0
    have se1 : w9.cell? ⟨w.heap.size + 1 + 1, 1, none⟩ = some (.slice (some ⟨N, 0, none⟩) 1 1) := (blk_cell H9.out.b8 1).trans rfl
    have sf1 : w9.frozen? ⟨w.heap.size + 1 + 1, 1, none⟩ = false := blk_frozen H9.out.b8 1
    have se2 : w9.cell? ⟨w.heap.size + 1 + 1, 2, none⟩ = some (.slice none 0 0) := (blk_cell H9.out.b8 2).trans rfl
    have sf2 : w9.frozen? ⟨w.heap.size + 1 + 1, 2, none⟩ = false := blk_frozen H9.out.b8 2
    have se3 : w9.cell? ⟨w.heap.size + 1 + 1, 3, none⟩ = some (.string ⟨#[]⟩) := (blk_cell H9.out.b8 3).trans rfl
    have sf3 : w9.frozen? ⟨w.heap.size + 1 + 1, 3, none⟩ = false := blk_frozen H9.out.b8 3
    have se4 : w9.cell? ⟨w.heap.size + 1 + 1, 4, none⟩ = some (.int .i64 0) := (blk_cell H9.out.b8 4).trans rfl
    have sf4 : w9.frozen? ⟨w.heap.size + 1 + 1, 4, none⟩ = false := blk_frozen H9.out.b8 4
    have se5 : w9.cell? ⟨w.heap.size + 1 + 1, 5, none⟩ = some (.slice none 0 0) := (blk_cell H9.out.b8 5).trans rfl
    have sf5 : w9.frozen? ⟨w.heap.size + 1 + 1, 5, none⟩ = false := blk_frozen H9.out.b8 5
    have se6 : w9.cell? ⟨w.heap.size + 1 + 1, 6, none⟩ = some (.int .i64 0) := (blk_cell H9.out.b8 6).trans rfl
    have sf6 : w9.frozen? ⟨w.heap.size + 1 + 1, 6, none⟩ = false := blk_frozen H9.out.b8 6
    have se7 : w9.cell? ⟨w.heap.size + 1 + 1, 7, none⟩ = some (.int .i64 0) := (blk_cell H9.out.b8 7).trans rfl
    have sf7 : w9.frozen? ⟨w.heap.size + 1 + 1, 7, none⟩ = false := blk_frozen H9.out.b8 7
    have se8 : w9.cell? ⟨w.heap.size + 1 + 1, 8, none⟩ = some (.int .i64 0) := (blk_cell H9.out.b8 8).trans rfl
    have sf8 : w9.frozen? ⟨w.heap.size + 1 + 1, 8, none⟩ = false := blk_frozen H9.out.b8 8
    have se9 : w9.cell? ⟨w.heap.size + 1 + 1, 9, none⟩ = some (.int .i64 0) := (blk_cell H9.out.b8 9).trans rfl
    have sf9 : w9.frozen? ⟨w.heap.size + 1 + 1, 9, none⟩ = false := blk_frozen H9.out.b8 9
    have se10 : w9.cell? ⟨w.heap.size + 1 + 1, 10, none⟩ = some (.int .i64 y2) := (blk_cell H9.out.b8 10).trans rfl
    have sf10 : w9.frozen? ⟨w.heap.size + 1 + 1, 10, none⟩ = false := blk_frozen H9.out.b8 10
    have se11 : w9.cell? ⟨w.heap.size + 1 + 1, 11, none⟩ = some (.int .i64 y3) := (blk_cell H9.out.b8 11).trans rfl
    have sf11 : w9.frozen? ⟨w.heap.size + 1 + 1, 11, none⟩ = false := blk_frozen H9.out.b8 11
    have se12 : w9.cell? ⟨w.heap.size + 1 + 1, 12, none⟩ = some (.int .i64 y4) := (blk_cell H9.out.b8 12).trans rfl
    have sf12 : w9.frozen? ⟨w.heap.size + 1 + 1, 12, none⟩ = false := blk_frozen H9.out.b8 12
    have se13 : w9.cell? ⟨w.heap.size + 1 + 1, 13, none⟩ = some (.bool ac) := (blk_cell H9.out.b8 13).trans rfl
    have sf13 : w9.frozen? ⟨w.heap.size + 1 + 1, 13, none⟩ = false := blk_frozen H9.out.b8 13
    go_wp2_with fail
    have H10 : Hid (RN w (w9.setCell ⟨w.heap.size + 1 + 1, 3, none⟩ (.string r5)) r5 b9 #[.int .i64 4, .slice (some ⟨N, 0, none⟩) 1 1, .slice none 0 0, .string r5, .int .i64 0, .slice none 0 0, .int .i64 0, .int .i64 0, .int .i64 0, .int .i64 0, .int .i64 y2, .int .i64 y3, .int .i64 y4, .bool ac]) := by
      have := H9.out.set8 3 (.string r5)
      simpa [Hid] using this
    have I_10 := Lib.hid (R_put I_9.out H9.out.b8 (by decide) ((KeepBut.refl w9 (w.heap.size + 1 + 1) none).set_ 3 (.string r5)))
    clear H9 I_9
    clear se0 sf0 se1 sf1 se2 sf2 se3 sf3 se4 sf4 se5 sf5 se6 sf6 se7 sf7 se8 sf8 se9 sf9 se10 sf10 se11 sf11 se12 sf12 se13 sf13
    generalize w9.setCell ⟨w.heap.size + 1 + 1, 3, none⟩ (.string r5) = w10 at *
    refine start_ (n := 8) (S := fun w' => w'.cell? ⟨w.heap.size + 1 + 1, 0, none⟩ = some (.int .i64 4) ∧ w'.cell? ⟨w.heap.size + 1 + 1, 1, none⟩ = some (.slice (some ⟨N, 0, none⟩) 1 1) ∧ w'.cell? ⟨w.heap.size + 1 + 1, 2, none⟩ = some (.slice none 0 0) ∧ w'.cell? ⟨w.heap.size + 1 + 1, 3, none⟩ = some (.string r5) ∧ w'.cell? ⟨w.heap.size + 1 + 1, 4, none⟩ = some (.int .i64 0) ∧ w'.cell? ⟨w.heap.size + 1 + 1, 5, none⟩ = some (.slice none 0 0) ∧ w'.cell? ⟨w.heap.size + 1 + 1, 6, none⟩ = some (.int .i64 0) ∧ w'.cell? ⟨w.heap.size + 1 + 1, 7, none⟩ = some (.int .i64 0) ∧ w'.cell? ⟨w.heap.size + 1 + 1, 8, none⟩ = some (.int .i64 0) ∧ w'.cell? ⟨w.heap.size + 1 + 1, 9, none⟩ = some (.int .i64 0) ∧ w'.cell? ⟨w.heap.size + 1 + 1, 10, none⟩ = some (.int .i64 y2) ∧ w'.cell? ⟨w.heap.size + 1 + 1, 11, none⟩ = some (.int .i64 y3) ∧ w'.cell? ⟨w.heap.size + 1 + 1, 12, none⟩ = some (.int .i64 y4) ∧ w'.cell? ⟨w.heap.size + 1 + 1, 13, none⟩ = some (.bool ac) ∧ w'.cell? ⟨w.heap.size + 1, 1, none⟩ = some (.bool b9)) (ds := []) #[false, false, false, false, false, false, false, false] (by kernel_rfl) rfl rfl ⟨(blk_cell (w := w10.drew) H10.out.b8 0).trans rfl, (blk_cell (w := w10.drew) H10.out.b8 1).trans rfl, (blk_cell (w := w10.drew) H10.out.b8 2).trans rfl, (blk_cell (w := w10.drew) H10.out.b8 3).trans rfl, (blk_cell (w := w10.drew) H10.out.b8 4).trans rfl, (blk_cell (w := w10.drew) H10.out.b8 5).trans rfl, (blk_cell (w := w10.drew) H10.out.b8 6).trans rfl, (blk_cell (w := w10.drew) H10.out.b8 7).trans rfl, (blk_cell (w := w10.drew) H10.out.b8 8).trans rfl, (blk_cell (w := w10.drew) H10.out.b8 9).trans rfl, (blk_cell (w := w10.drew) H10.out.b8 10).trans rfl, (blk_cell (w := w10.drew) H10.out.b8 11).trans rfl, (blk_cell (w := w10.drew) H10.out.b8 12).trans rfl, (blk_cell (w := w10.drew) H10.out.b8 13).trans rfl, (blk_cell (w := w10.drew) H10.out.rd.blk 1).trans rfl⟩ (fun hHeld => ?_)
    have HT := Lib.hid (H10.out.on (Below.drew (Below.refl _ _)))
    have T0 := Lib.hid (Kd.R_drew I_10.out)
    clear H10 I_10
    generalize w10.drew = WT at *
    refine take_ (i := 0) (N := some 118) (v := ?_) (a' := ?_) #[true, false, false, false, false, false, false, false] rfl rfl (by kernel_rfl) (fun _ _ _ h => h) (Or.inl ⟨by rfl, ?_⟩) (by assumption) ?_ ?_
    rotate_left
    · intro w' hSw
      try dsimp only at hSw
      go_simp
      with_reducible rfl
    rotate_left
    · simp only [Act.put, List.setIfInBounds_toArray, List.set_cons_zero, List.set_cons_succ, i64_w, i32_w]
      rfl
    refine pure_ (i := 1) (N := some 119) (v := ?_) (a' := ?_) #[true, true, false, false, false, false, false, false] rfl rfl (by kernel_rfl) (fun _ _ _ h => h) (Or.inl ⟨by rfl, ?_⟩) ?_ ?_
    rotate_left
    · intro w'
      go_simp
      with_reducible rfl
    rotate_left
    · simp only [Act.put, List.setIfInBounds_toArray, List.set_cons_zero, List.set_cons_succ, i64_w, i32_w]
      rfl
    refine pure_ (i := 2) (N := some 120) (v := ?_) (a' := ?_) #[true, true, true, false, false, false, false, false] rfl rfl (by kernel_rfl) (fun _ _ _ h => h) (Or.inl ⟨by rfl, ?_⟩) ?_ ?_
    rotate_left
    · intro w'
      go_simp
      with_reducible rfl
    rotate_left
    · simp only [Act.put, List.setIfInBounds_toArray, List.set_cons_zero, List.set_cons_succ, i64_w, i32_w]
      rfl
    refine pure_ (i := 3) (N := some 121) (v := ?_) (a' := ?_) #[true, true, true, true, false, false, false, false] rfl rfl (by kernel_rfl) (fun _ _ _ h => h) (Or.inl ⟨by rfl, ?_⟩) ?_ ?_
    rotate_left
    · intro w'
      go_simp
      with_reducible rfl
    rotate_left
    · simp only [Act.put, List.setIfInBounds_toArray, List.set_cons_zero, List.set_cons_succ, i64_w, i32_w]
      rfl
    refine take_ (i := 4) (N := some 122) (v := ?_) (a' := ?_) #[true, true, true, true, true, false, false, false] rfl rfl (by kernel_rfl) (fun _ _ _ h => h) (Or.inl ⟨by rfl, ?_⟩) (by assumption) ?_ ?_
    rotate_left
    · intro w' hSw
      try dsimp only at hSw
      go_simp
      with_reducible rfl
    rotate_left
    · simp only [Act.put, List.setIfInBounds_toArray, List.set_cons_zero, List.set_cons_succ, i64_w, i32_w]
      rfl
    refine pure_ (i := 5) (N := some 123) (v := ?_) (a' := ?_) #[true, true, true, true, true, true, false, false] rfl rfl (by kernel_rfl) (fun _ _ _ h => h) (Or.inl ⟨by rfl, ?_⟩) ?_ ?_
    rotate_left
    · intro w'
      go_simp
      with_reducible rfl
    rotate_left
    · simp only [Act.put, List.setIfInBounds_toArray, List.set_cons_zero, List.set_cons_succ, i64_w, i32_w]
      rfl
    have se0 : WT.cell? ⟨w.heap.size, 0, none⟩ = some (.int .i64 0) := (blk_cell HT.out.b2 0).trans rfl
    have sf0 : WT.frozen? ⟨w.heap.size, 0, none⟩ = false := blk_frozen HT.out.b2 0
    have se1 : WT.cell? ⟨w.heap.size, 1, none⟩ = some (.slice none 0 0) := (blk_cell HT.out.b2 1).trans rfl
    have sf1 : WT.frozen? ⟨w.heap.size, 1, none⟩ = false := blk_frozen HT.out.b2 1
    have se2 : WT.cell? ⟨w.heap.size, 2, none⟩ = some (.slice none 0 0) := (blk_cell HT.out.b2 2).trans rfl
    have sf2 : WT.frozen? ⟨w.heap.size, 2, none⟩ = false := blk_frozen HT.out.b2 2
    have se3 : WT.cell? ⟨w.heap.size, 3, none⟩ = some (.string ⟨#[]⟩) := (blk_cell HT.out.b2 3).trans rfl
    have sf3 : WT.frozen? ⟨w.heap.size, 3, none⟩ = false := blk_frozen HT.out.b2 3
    have se4 : WT.cell? ⟨w.heap.size, 4, none⟩ = some (.int .i64 0) := (blk_cell HT.out.b2 4).trans rfl
    have sf4 : WT.frozen? ⟨w.heap.size, 4, none⟩ = false := blk_frozen HT.out.b2 4
    have se5 : WT.cell? ⟨w.heap.size, 5, none⟩ = some (.slice none 0 0) := (blk_cell HT.out.b2 5).trans rfl
    have sf5 : WT.frozen? ⟨w.heap.size, 5, none⟩ = false := blk_frozen HT.out.b2 5
    have se6 : WT.cell? ⟨w.heap.size, 6, none⟩ = some (.int .i64 0) := (blk_cell HT.out.b2 6).trans rfl
    have sf6 : WT.frozen? ⟨w.heap.size, 6, none⟩ = false := blk_frozen HT.out.b2 6
    have se7 : WT.cell? ⟨w.heap.size, 7, none⟩ = some (.int .i64 0) := (blk_cell HT.out.b2 7).trans rfl
    have sf7 : WT.frozen? ⟨w.heap.size, 7, none⟩ = false := blk_frozen HT.out.b2 7
    have se8 : WT.cell? ⟨w.heap.size, 8, none⟩ = some (.int .i64 0) := (blk_cell HT.out.b2 8).trans rfl
    have sf8 : WT.frozen? ⟨w.heap.size, 8, none⟩ = false := blk_frozen HT.out.b2 8
    have se9 : WT.cell? ⟨w.heap.size, 9, none⟩ = some (.int .i64 0) := (blk_cell HT.out.b2 9).trans rfl
    have sf9 : WT.frozen? ⟨w.heap.size, 9, none⟩ = false := blk_frozen HT.out.b2 9
    have se10 : WT.cell? ⟨w.heap.size, 10, none⟩ = some (.int .i64 0) := (blk_cell HT.out.b2 10).trans rfl
    have sf10 : WT.frozen? ⟨w.heap.size, 10, none⟩ = false := blk_frozen HT.out.b2 10
    have se11 : WT.cell? ⟨w.heap.size, 11, none⟩ = some (.int .i64 0) := (blk_cell HT.out.b2 11).trans rfl
    have sf11 : WT.frozen? ⟨w.heap.size, 11, none⟩ = false := blk_frozen HT.out.b2 11
    have se12 : WT.cell? ⟨w.heap.size, 12, none⟩ = some (.int .i64 0) := (blk_cell HT.out.b2 12).trans rfl
    have sf12 : WT.frozen? ⟨w.heap.size, 12, none⟩ = false := blk_frozen HT.out.b2 12
    have se13 : WT.cell? ⟨w.heap.size, 13, none⟩ = some (.bool false) := (blk_cell HT.out.b2 13).trans rfl
    have sf13 : WT.frozen? ⟨w.heap.size, 13, none⟩ = false := blk_frozen HT.out.b2 13
    refine one_ (i := 6) (N := none) #[true, true, true, true, true, true, true, false] rfl rfl (by kernel_rfl) (by decide) (fun K hK => ?_)
    refine skip_ (w1 := ?_) (by rfl) rfl ?_ ?_
    rotate_left
    · go_simp
      rfl
    have hkE := keepS14 WT (w.heap.size) (.int .i64 4) (.slice (some ⟨N, 0, none⟩) 1 1) (.slice none 0 0) (.string r5) (.int .i64 0) (.slice none 0 0) (.int .i64 0) (.int .i64 0) (.int .i64 0) (.int .i64 0) (.int .i64 y2) (.int .i64 y3) (.int .i64 y4) (.bool ac)
    have hSE : (((((((((((((((WT.setCell ⟨w.heap.size, 0, none⟩ (.int .i64 4)).setCell ⟨w.heap.size, 1, none⟩ (.slice (some ⟨N, 0, none⟩) 1 1)).setCell ⟨w.heap.size, 2, none⟩ (.slice none 0 0)).setCell ⟨w.heap.size, 3, none⟩ (.string r5)).setCell ⟨w.heap.size, 4, none⟩ (.int .i64 0)).setCell ⟨w.heap.size, 5, none⟩ (.slice none 0 0)).setCell ⟨w.heap.size, 6, none⟩ (.int .i64 0)).setCell ⟨w.heap.size, 7, none⟩ (.int .i64 0)).setCell ⟨w.heap.size, 8, none⟩ (.int .i64 0)).setCell ⟨w.heap.size, 9, none⟩ (.int .i64 0)).setCell ⟨w.heap.size, 10, none⟩ (.int .i64 y2)).setCell ⟨w.heap.size, 11, none⟩ (.int .i64 y3)).setCell ⟨w.heap.size, 12, none⟩ (.int .i64 y4)).setCell ⟨w.heap.size, 13, none⟩ (.bool ac))).cell? ⟨w.heap.size + 1 + 1, 0, none⟩ = some (.int .i64 4) ∧ (((((((((((((((WT.setCell ⟨w.heap.size, 0, none⟩ (.int .i64 4)).setCell ⟨w.heap.size, 1, none⟩ (.slice (some ⟨N, 0, none⟩) 1 1)).setCell ⟨w.heap.size, 2, none⟩ (.slice none 0 0)).setCell ⟨w.heap.size, 3, none⟩ (.string r5)).setCell ⟨w.heap.size, 4, none⟩ (.int .i64 0)).setCell ⟨w.heap.size, 5, none⟩ (.slice none 0 0)).setCell ⟨w.heap.size, 6, none⟩ (.int .i64 0)).setCell ⟨w.heap.size, 7, none⟩ (.int .i64 0)).setCell ⟨w.heap.size, 8, none⟩ (.int .i64 0)).setCell ⟨w.heap.size, 9, none⟩ (.int .i64 0)).setCell ⟨w.heap.size, 10, none⟩ (.int .i64 y2)).setCell ⟨w.heap.size, 11, none⟩ (.int .i64 y3)).setCell ⟨w.heap.size, 12, none⟩ (.int .i64 y4)).setCell ⟨w.heap.size, 13, none⟩ (.bool ac))).cell? ⟨w.heap.size + 1 + 1, 1, none⟩ = some (.slice (some ⟨N, 0, none⟩) 1 1) ∧ (((((((((((((((WT.setCell ⟨w.heap.size, 0, none⟩ (.int .i64 4)).setCell ⟨w.heap.size, 1, none⟩ (.slice (some ⟨N, 0, none⟩) 1 1)).setCell ⟨w.heap.size, 2, none⟩ (.slice none 0 0)).setCell ⟨w.heap.size, 3, none⟩ (.string r5)).setCell ⟨w.heap.size, 4, none⟩ (.int .i64 0)).setCell ⟨w.heap.size, 5, none⟩ (.slice none 0 0)).setCell ⟨w.heap.size, 6, none⟩ (.int .i64 0)).setCell ⟨w.heap.size, 7, none⟩ (.int .i64 0)).setCell ⟨w.heap.size, 8, none⟩ (.int .i64 0)).setCell ⟨w.heap.size, 9, none⟩ (.int .i64 0)).setCell ⟨w.heap.size, 10, none⟩ (.int .i64 y2)).setCell ⟨w.heap.size, 11, none⟩ (.int .i64 y3)).setCell ⟨w.heap.size, 12, none⟩ (.int .i64 y4)).setCell ⟨w.heap.size, 13, none⟩ (.bool ac))).cell? ⟨w.heap.size + 1 + 1, 2, none⟩ = some (.slice none 0 0) ∧ (((((((((((((((WT.setCell ⟨w.heap.size, 0, none⟩ (.int .i64 4)).setCell ⟨w.heap.size, 1, none⟩ (.slice (some ⟨N, 0, none⟩) 1 1)).setCell ⟨w.heap.size, 2, none⟩ (.slice none 0 0)).setCell ⟨w.heap.size, 3, none⟩ (.string r5)).setCell ⟨w.heap.size, 4, none⟩ (.int .i64 0)).setCell ⟨w.heap.size, 5, none⟩ (.slice none 0 0)).setCell ⟨w.heap.size, 6, none⟩ (.int .i64 0)).setCell ⟨w.heap.size, 7, none⟩ (.int .i64 0)).setCell ⟨w.heap.size, 8, none⟩ (.int .i64 0)).setCell ⟨w.heap.size, 9, none⟩ (.int .i64 0)).setCell ⟨w.heap.size, 10, none⟩ (.int .i64 y2)).setCell ⟨w.heap.size, 11, none⟩ (.int .i64 y3)).setCell ⟨w.heap.size, 12, none⟩ (.int .i64 y4)).setCell ⟨w.heap.size, 13, none⟩ (.bool ac))).cell? ⟨w.heap.size + 1 + 1, 3, none⟩ = some (.string r5) ∧ (((((((((((((((WT.setCell ⟨w.heap.size, 0, none⟩ (.int .i64 4)).setCell ⟨w.heap.size, 1, none⟩ (.slice (some ⟨N, 0, none⟩) 1 1)).setCell ⟨w.heap.size, 2, none⟩ (.slice none 0 0)).setCell ⟨w.heap.size, 3, none⟩ (.string r5)).setCell ⟨w.heap.size, 4, none⟩ (.int .i64 0)).setCell ⟨w.heap.size, 5, none⟩ (.slice none 0 0)).setCell ⟨w.heap.size, 6, none⟩ (.int .i64 0)).setCell ⟨w.heap.size, 7, none⟩ (.int .i64 0)).setCell ⟨w.heap.size, 8, none⟩ (.int .i64 0)).setCell ⟨w.heap.size, 9, none⟩ (.int .i64 0)).setCell ⟨w.heap.size, 10, none⟩ (.int .i64 y2)).setCell ⟨w.heap.size, 11, none⟩ (.int .i64 y3)).setCell ⟨w.heap.size, 12, none⟩ (.int .i64 y4)).setCell ⟨w.heap.size, 13, none⟩ (.bool ac))).cell? ⟨w.heap.size + 1 + 1, 4, none⟩ = some (.int .i64 0) ∧ (((((((((((((((WT.setCell ⟨w.heap.size, 0, none⟩ (.int .i64 4)).setCell ⟨w.heap.size, 1, none⟩ (.slice (some ⟨N, 0, none⟩) 1 1)).setCell ⟨w.heap.size, 2, none⟩ (.slice none 0 0)).setCell ⟨w.heap.size, 3, none⟩ (.string r5)).setCell ⟨w.heap.size, 4, none⟩ (.int .i64 0)).setCell ⟨w.heap.size, 5, none⟩ (.slice none 0 0)).setCell ⟨w.heap.size, 6, none⟩ (.int .i64 0)).setCell ⟨w.heap.size, 7, none⟩ (.int .i64 0)).setCell ⟨w.heap.size, 8, none⟩ (.int .i64 0)).setCell ⟨w.heap.size, 9, none⟩ (.int .i64 0)).setCell ⟨w.heap.size, 10, none⟩ (.int .i64 y2)).setCell ⟨w.heap.size, 11, none⟩ (.int .i64 y3)).setCell ⟨w.heap.size, 12, none⟩ (.int .i64 y4)).setCell ⟨w.heap.size, 13, none⟩ (.bool ac))).cell? ⟨w.heap.size + 1 + 1, 5, none⟩ = some (.slice none 0 0) ∧ (((((((((((((((WT.setCell ⟨w.heap.size, 0, none⟩ (.int .i64 4)).setCell ⟨w.heap.size, 1, none⟩ (.slice (some ⟨N, 0, none⟩) 1 1)).setCell ⟨w.heap.size, 2, none⟩ (.slice none 0 0)).setCell ⟨w.heap.size, 3, none⟩ (.string r5)).setCell ⟨w.heap.size, 4, none⟩ (.int .i64 0)).setCell ⟨w.heap.size, 5, none⟩ (.slice none 0 0)).setCell ⟨w.heap.size, 6, none⟩ (.int .i64 0)).setCell ⟨w.heap.size, 7, none⟩ (.int .i64 0)).setCell ⟨w.heap.size, 8, none⟩ (.int .i64 0)).setCell ⟨w.heap.size, 9, none⟩ (.int .i64 0)).setCell ⟨w.heap.size, 10, none⟩ (.int .i64 y2)).setCell ⟨w.heap.size, 11, none⟩ (.int .i64 y3)).setCell ⟨w.heap.size, 12, none⟩ (.int .i64 y4)).setCell ⟨w.heap.size, 13, none⟩ (.bool ac))).cell? ⟨w.heap.size + 1 + 1, 6, none⟩ = some (.int .i64 0) ∧ (((((((((((((((WT.setCell ⟨w.heap.size, 0, none⟩ (.int .i64 4)).setCell ⟨w.heap.size, 1, none⟩ (.slice (some ⟨N, 0, none⟩) 1 1)).setCell ⟨w.heap.size, 2, none⟩ (.slice none 0 0)).setCell ⟨w.heap.size, 3, none⟩ (.string r5)).setCell ⟨w.heap.size, 4, none⟩ (.int .i64 0)).setCell ⟨w.heap.size, 5, none⟩ (.slice none 0 0)).setCell ⟨w.heap.size, 6, none⟩ (.int .i64 0)).setCell ⟨w.heap.size, 7, none⟩ (.int .i64 0)).setCell ⟨w.heap.size, 8, none⟩ (.int .i64 0)).setCell ⟨w.heap.size, 9, none⟩ (.int .i64 0)).setCell ⟨w.heap.size, 10, none⟩ (.int .i64 y2)).setCell ⟨w.heap.size, 11, none⟩ (.int .i64 y3)).setCell ⟨w.heap.size, 12, none⟩ (.int .i64 y4)).setCell ⟨w.heap.size, 13, none⟩ (.bool ac))).cell? ⟨w.heap.size + 1 + 1, 7, none⟩ = some (.int .i64 0) ∧ (((((((((((((((WT.setCell ⟨w.heap.size, 0, none⟩ (.int .i64 4)).setCell ⟨w.heap.size, 1, none⟩ (.slice (some ⟨N, 0, none⟩) 1 1)).setCell ⟨w.heap.size, 2, none⟩ (.slice none 0 0)).setCell ⟨w.heap.size, 3, none⟩ (.string r5)).setCell ⟨w.heap.size, 4, none⟩ (.int .i64 0)).setCell ⟨w.heap.size, 5, none⟩ (.slice none 0 0)).setCell ⟨w.heap.size, 6, none⟩ (.int .i64 0)).setCell ⟨w.heap.size, 7, none⟩ (.int .i64 0)).setCell ⟨w.heap.size, 8, none⟩ (.int .i64 0)).setCell ⟨w.heap.size, 9, none⟩ (.int .i64 0)).setCell ⟨w.heap.size, 10, none⟩ (.int .i64 y2)).setCell ⟨w.heap.size, 11, none⟩ (.int .i64 y3)).setCell ⟨w.heap.size, 12, none⟩ (.int .i64 y4)).setCell ⟨w.heap.size, 13, none⟩ (.bool ac))).cell? ⟨w.heap.size + 1 + 1, 8, none⟩ = some (.int .i64 0) ∧ (((((((((((((((WT.setCell ⟨w.heap.size, 0, none⟩ (.int .i64 4)).setCell ⟨w.heap.size, 1, none⟩ (.slice (some ⟨N, 0, none⟩) 1 1)).setCell ⟨w.heap.size, 2, none⟩ (.slice none 0 0)).setCell ⟨w.heap.size, 3, none⟩ (.string r5)).setCell ⟨w.heap.size, 4, none⟩ (.int .i64 0)).setCell ⟨w.heap.size, 5, none⟩ (.slice none 0 0)).setCell ⟨w.heap.size, 6, none⟩ (.int .i64 0)).setCell ⟨w.heap.size, 7, none⟩ (.int .i64 0)).setCell ⟨w.heap.size, 8, none⟩ (.int .i64 0)).setCell ⟨w.heap.size, 9, none⟩ (.int .i64 0)).setCell ⟨w.heap.size, 10, none⟩ (.int .i64 y2)).setCell ⟨w.heap.size, 11, none⟩ (.int .i64 y3)).setCell ⟨w.heap.size, 12, none⟩ (.int .i64 y4)).setCell ⟨w.heap.size, 13, none⟩ (.bool ac))).cell? ⟨w.heap.size + 1 + 1, 9, none⟩ = some (.int .i64 0) ∧ (((((((((((((((WT.setCell ⟨w.heap.size, 0, none⟩ (.int .i64 4)).setCell ⟨w.heap.size, 1, none⟩ (.slice (some ⟨N, 0, none⟩) 1 1)).setCell ⟨w.heap.size, 2, none⟩ (.slice none 0 0)).setCell ⟨w.heap.size, 3, none⟩ (.string r5)).setCell ⟨w.heap.size, 4, none⟩ (.int .i64 0)).setCell ⟨w.heap.size, 5, none⟩ (.slice none 0 0)).setCell ⟨w.heap.size, 6, none⟩ (.int .i64 0)).setCell ⟨w.heap.size, 7, none⟩ (.int .i64 0)).setCell ⟨w.heap.size, 8, none⟩ (.int .i64 0)).setCell ⟨w.heap.size, 9, none⟩ (.int .i64 0)).setCell ⟨w.heap.size, 10, none⟩ (.int .i64 y2)).setCell ⟨w.heap.size, 11, none⟩ (.int .i64 y3)).setCell ⟨w.heap.size, 12, none⟩ (.int .i64 y4)).setCell ⟨w.heap.size, 13, none⟩ (.bool ac))).cell? ⟨w.heap.size + 1 + 1, 10, none⟩ = some (.int .i64 y2) ∧ (((((((((((((((WT.setCell ⟨w.heap.size, 0, none⟩ (.int .i64 4)).setCell ⟨w.heap.size, 1, none⟩ (.slice (some ⟨N, 0, none⟩) 1 1)).setCell ⟨w.heap.size, 2, none⟩ (.slice none 0 0)).setCell ⟨w.heap.size, 3, none⟩ (.string r5)).setCell ⟨w.heap.size, 4, none⟩ (.int .i64 0)).setCell ⟨w.heap.size, 5, none⟩ (.slice none 0 0)).setCell ⟨w.heap.size, 6, none⟩ (.int .i64 0)).setCell ⟨w.heap.size, 7, none⟩ (.int .i64 0)).setCell ⟨w.heap.size, 8, none⟩ (.int .i64 0)).setCell ⟨w.heap.size, 9, none⟩ (.int .i64 0)).setCell ⟨w.heap.size, 10, none⟩ (.int .i64 y2)).setCell ⟨w.heap.size, 11, none⟩ (.int .i64 y3)).setCell ⟨w.heap.size, 12, none⟩ (.int .i64 y4)).setCell ⟨w.heap.size, 13, none⟩ (.bool ac))).cell? ⟨w.heap.size + 1 + 1, 11, none⟩ = some (.int .i64 y3) ∧ (((((((((((((((WT.setCell ⟨w.heap.size, 0, none⟩ (.int .i64 4)).setCell ⟨w.heap.size, 1, none⟩ (.slice (some ⟨N, 0, none⟩) 1 1)).setCell ⟨w.heap.size, 2, none⟩ (.slice none 0 0)).setCell ⟨w.heap.size, 3, none⟩ (.string r5)).setCell ⟨w.heap.size, 4, none⟩ (.int .i64 0)).setCell ⟨w.heap.size, 5, none⟩ (.slice none 0 0)).setCell ⟨w.heap.size, 6, none⟩ (.int .i64 0)).setCell ⟨w.heap.size, 7, none⟩ (.int .i64 0)).setCell ⟨w.heap.size, 8, none⟩ (.int .i64 0)).setCell ⟨w.heap.size, 9, none⟩ (.int .i64 0)).setCell ⟨w.heap.size, 10, none⟩ (.int .i64 y2)).setCell ⟨w.heap.size, 11, none⟩ (.int .i64 y3)).setCell ⟨w.heap.size, 12, none⟩ (.int .i64 y4)).setCell ⟨w.heap.size, 13, none⟩ (.bool ac))).cell? ⟨w.heap.size + 1 + 1, 12, none⟩ = some (.int .i64 y4) ∧ (((((((((((((((WT.setCell ⟨w.heap.size, 0, none⟩ (.int .i64 4)).setCell ⟨w.heap.size, 1, none⟩ (.slice (some ⟨N, 0, none⟩) 1 1)).setCell ⟨w.heap.size, 2, none⟩ (.slice none 0 0)).setCell ⟨w.heap.size, 3, none⟩ (.string r5)).setCell ⟨w.heap.size, 4, none⟩ (.int .i64 0)).setCell ⟨w.heap.size, 5, none⟩ (.slice none 0 0)).setCell ⟨w.heap.size, 6, none⟩ (.int .i64 0)).setCell ⟨w.heap.size, 7, none⟩ (.int .i64 0)).setCell ⟨w.heap.size, 8, none⟩ (.int .i64 0)).setCell ⟨w.heap.size, 9, none⟩ (.int .i64 0)).setCell ⟨w.heap.size, 10, none⟩ (.int .i64 y2)).setCell ⟨w.heap.size, 11, none⟩ (.int .i64 y3)).setCell ⟨w.heap.size, 12, none⟩ (.int .i64 y4)).setCell ⟨w.heap.size, 13, none⟩ (.bool ac))).cell? ⟨w.heap.size + 1 + 1, 13, none⟩ = some (.bool ac) ∧ (((((((((((((((WT.setCell ⟨w.heap.size, 0, none⟩ (.int .i64 4)).setCell ⟨w.heap.size, 1, none⟩ (.slice (some ⟨N, 0, none⟩) 1 1)).setCell ⟨w.heap.size, 2, none⟩ (.slice none 0 0)).setCell ⟨w.heap.size, 3, none⟩ (.string r5)).setCell ⟨w.heap.size, 4, none⟩ (.int .i64 0)).setCell ⟨w.heap.size, 5, none⟩ (.slice none 0 0)).setCell ⟨w.heap.size, 6, none⟩ (.int .i64 0)).setCell ⟨w.heap.size, 7, none⟩ (.int .i64 0)).setCell ⟨w.heap.size, 8, none⟩ (.int .i64 0)).setCell ⟨w.heap.size, 9, none⟩ (.int .i64 0)).setCell ⟨w.heap.size, 10, none⟩ (.int .i64 y2)).setCell ⟨w.heap.size, 11, none⟩ (.int .i64 y3)).setCell ⟨w.heap.size, 12, none⟩ (.int .i64 y4)).setCell ⟨w.heap.size, 13, none⟩ (.bool ac))).cell? ⟨w.heap.size + 1, 1, none⟩ = some (.bool b9) := ⟨(blk_cell (hkE.blk HT.out.b8 (by omega) (by simp)) 0).trans rfl, (blk_cell (hkE.blk HT.out.b8 (by omega) (by simp)) 1).trans rfl, (blk_cell (hkE.blk HT.out.b8 (by omega) (by simp)) 2).trans rfl, (blk_cell (hkE.blk HT.out.b8 (by omega) (by simp)) 3).trans rfl, (blk_cell (hkE.blk HT.out.b8 (by omega) (by simp)) 4).trans rfl, (blk_cell (hkE.blk HT.out.b8 (by omega) (by simp)) 5).trans rfl, (blk_cell (hkE.blk HT.out.b8 (by omega) (by simp)) 6).trans rfl, (blk_cell (hkE.blk HT.out.b8 (by omega) (by simp)) 7).trans rfl, (blk_cell (hkE.blk HT.out.b8 (by omega) (by simp)) 8).trans rfl, (blk_cell (hkE.blk HT.out.b8 (by omega) (by simp)) 9).trans rfl, (blk_cell (hkE.blk HT.out.b8 (by omega) (by simp)) 10).trans rfl, (blk_cell (hkE.blk HT.out.b8 (by omega) (by simp)) 11).trans rfl, (blk_cell (hkE.blk HT.out.b8 (by omega) (by simp)) 12).trans rfl, (blk_cell (hkE.blk HT.out.b8 (by omega) (by simp)) 13).trans rfl, (blk_cell (hkE.blk HT.out.rd.blk (by omega) (by simp)) 1).trans rfl⟩
    refine hK.out _ _ hSE (fun hHeld2 => ?_)
    clear hK K hSE hHeld
    refine pure_ (i := 7) (N := some 3) (v := ?_) (a' := ?_) #[true, true, true, true, true, true, true, true] rfl rfl (by kernel_rfl) (fun _ _ _ h => h) (Or.inl ⟨by rfl, ?_⟩) ?_ ?_
    rotate_left
    · intro w'
      go_simp
      with_reducible rfl
    rotate_left
    · simp only [Act.put, List.setIfInBounds_toArray, List.set_cons_zero, List.set_cons_succ, i64_w, i32_w]
      rfl
    refine done_ (by kernel_rfl) ?_
    have HF := Lib.hid (HT.out.fin (.int .i64 4) (.slice (some ⟨N, 0, none⟩) 1 1) (.slice none 0 0) (.string r5) (.int .i64 0) (.slice none 0 0) (.int .i64 0) (.int .i64 0) (.int .i64 0) (.int .i64 0) (.int .i64 y2) (.int .i64 y3) (.int .i64 y4) (.bool ac))
    have U0 := Lib.hid (R_put T0.out HT.out.b2 (by decide) hkE)
    clear hkE
    clear se0 sf0 se1 sf1 se2 sf2 se3 sf3 se4 sf4 se5 sf5 se6 sf6 se7 sf7 se8 sf8 se9 sf9 se10 sf10 se11 sf11 se12 sf12 se13 sf13
    generalize ((((((((((((((WT.setCell ⟨w.heap.size, 0, none⟩ (.int .i64 4)).setCell ⟨w.heap.size, 1, none⟩ (.slice (some ⟨N, 0, none⟩) 1 1)).setCell ⟨w.heap.size, 2, none⟩ (.slice none 0 0)).setCell ⟨w.heap.size, 3, none⟩ (.string r5)).setCell ⟨w.heap.size, 4, none⟩ (.int .i64 0)).setCell ⟨w.heap.size, 5, none⟩ (.slice none 0 0)).setCell ⟨w.heap.size, 6, none⟩ (.int .i64 0)).setCell ⟨w.heap.size, 7, none⟩ (.int .i64 0)).setCell ⟨w.heap.size, 8, none⟩ (.int .i64 0)).setCell ⟨w.heap.size, 9, none⟩ (.int .i64 0)).setCell ⟨w.heap.size, 10, none⟩ (.int .i64 y2)).setCell ⟨w.heap.size, 11, none⟩ (.int .i64 y3)).setCell ⟨w.heap.size, 12, none⟩ (.int .i64 y4)).setCell ⟨w.heap.size, 13, none⟩ (.bool ac)) = WF at *
    go_wp2_with fail
    exact bodyPost_ret (results_ct (p := 2) (u := 3) (ty := 63) rfl _ _ w.heap.size 63 _ (0, 0) _ rfl HF.out.b2 Tryz.underlying63 rfl (by kernel_rfl)) rfl (node_post (ok := fun k => k ≠ w.heap.size + 1) HF.out U0.out (Kd.R_nil _ _ _ _ _) (Kd.R_nil _ _ _ _ _) (by unfold grpV; rw [← HN1.out]; dsimp only; rw [← HN2.out]; dsimp only; rw [← HN3.out]; dsimp only; rw [← HN4.out]; dsimp only; exact grp_eq HR5.out HB5.out HAC.out HBV.out (.inl ⟨rfl, rfl⟩)))
  | false =>
    by_cases ha : hw.toList = [97, 99, 99]
    · have x1 : (hw.toList == [97, 99, 99]) = true := by rw [beq_iff_eq]; exact ha
      have HA : Hid (howL r4 = [97, 99, 99]) := by rw [← HWL.out]; exact Lib.hid ha
      clear ha
      go_upto_region 19 with fail
      clear x1
      have H8 := Lib.hid (H7.out.bad false)
      have I_8 := Lib.hid (Kd.R_far I_7.out (p := ⟨w.heap.size + 1, 1, none⟩) (fun _ h => h) (.bool false))
      clear H7 I_7 d1 f1
      generalize w7.setCell ⟨w.heap.size + 1, 1, none⟩ (.bool false) = w8 at *
      go_wp2_with fail
      obtain ⟨b9, hq3⟩ : ∃ b, b = (false || !textB r5) := ⟨_, rfl⟩
      refine (rd_text w w8 (w.heap.size + 1) r5 _ H8.out.rd (by omega)).mono ?_
      rintro e w9 ⟨rfl, s1⟩
      rw [← hq3] at s1
      have HBV := Lib.hid hq3
      have H9 := Lib.hid (H8.out.step s1)
      have I_9 := Lib.hid (Kd.R_keep I_8.out s1.2 (fun _ h => h))
      clear s1 hq3 H8 I_8
      have se0 : w9.cell? ⟨w.heap.size + 1 + 1, 0, none⟩ = some (.int .i64 4) := (blk_cell H9.out.b8 0).trans rfl
      have sf0 : w9.frozen? ⟨w.heap.size + 1 + 1, 0, none⟩ = false := blk_frozen H9.out.b8 0
      have se1 : w9.cell? ⟨w.heap.size + 1 + 1, 1, none⟩ = some (.slice (some ⟨N, 0, none⟩) 1 1) := (blk_cell H9.out.b8 1).trans rfl
      have sf1 : w9.frozen? ⟨w.heap.size + 1 + 1, 1, none⟩ = false := blk_frozen H9.out.b8 1
      have se2 : w9.cell? ⟨w.heap.size + 1 + 1, 2, none⟩ = some (.slice none 0 0) := (blk_cell H9.out.b8 2).trans rfl
      have sf2 : w9.frozen? ⟨w.heap.size + 1 + 1, 2, none⟩ = false := blk_frozen H9.out.b8 2
      have se3 : w9.cell? ⟨w.heap.size + 1 + 1, 3, none⟩ = some (.string ⟨#[]⟩) := (blk_cell H9.out.b8 3).trans rfl
      have sf3 : w9.frozen? ⟨w.heap.size + 1 + 1, 3, none⟩ = false := blk_frozen H9.out.b8 3
      have se4 : w9.cell? ⟨w.heap.size + 1 + 1, 4, none⟩ = some (.int .i64 0) := (blk_cell H9.out.b8 4).trans rfl
      have sf4 : w9.frozen? ⟨w.heap.size + 1 + 1, 4, none⟩ = false := blk_frozen H9.out.b8 4
      have se5 : w9.cell? ⟨w.heap.size + 1 + 1, 5, none⟩ = some (.slice none 0 0) := (blk_cell H9.out.b8 5).trans rfl
      have sf5 : w9.frozen? ⟨w.heap.size + 1 + 1, 5, none⟩ = false := blk_frozen H9.out.b8 5
      have se6 : w9.cell? ⟨w.heap.size + 1 + 1, 6, none⟩ = some (.int .i64 0) := (blk_cell H9.out.b8 6).trans rfl
      have sf6 : w9.frozen? ⟨w.heap.size + 1 + 1, 6, none⟩ = false := blk_frozen H9.out.b8 6
      have se7 : w9.cell? ⟨w.heap.size + 1 + 1, 7, none⟩ = some (.int .i64 0) := (blk_cell H9.out.b8 7).trans rfl
      have sf7 : w9.frozen? ⟨w.heap.size + 1 + 1, 7, none⟩ = false := blk_frozen H9.out.b8 7
      have se8 : w9.cell? ⟨w.heap.size + 1 + 1, 8, none⟩ = some (.int .i64 0) := (blk_cell H9.out.b8 8).trans rfl
      have sf8 : w9.frozen? ⟨w.heap.size + 1 + 1, 8, none⟩ = false := blk_frozen H9.out.b8 8
      have se9 : w9.cell? ⟨w.heap.size + 1 + 1, 9, none⟩ = some (.int .i64 0) := (blk_cell H9.out.b8 9).trans rfl
      have sf9 : w9.frozen? ⟨w.heap.size + 1 + 1, 9, none⟩ = false := blk_frozen H9.out.b8 9
      have se10 : w9.cell? ⟨w.heap.size + 1 + 1, 10, none⟩ = some (.int .i64 y2) := (blk_cell H9.out.b8 10).trans rfl
      have sf10 : w9.frozen? ⟨w.heap.size + 1 + 1, 10, none⟩ = false := blk_frozen H9.out.b8 10
      have se11 : w9.cell? ⟨w.heap.size + 1 + 1, 11, none⟩ = some (.int .i64 y3) := (blk_cell H9.out.b8 11).trans rfl
      have sf11 : w9.frozen? ⟨w.heap.size + 1 + 1, 11, none⟩ = false := blk_frozen H9.out.b8 11
      have se12 : w9.cell? ⟨w.heap.size + 1 + 1, 12, none⟩ = some (.int .i64 y4) := (blk_cell H9.out.b8 12).trans rfl
      have sf12 : w9.frozen? ⟨w.heap.size + 1 + 1, 12, none⟩ = false := blk_frozen H9.out.b8 12
      have se13 : w9.cell? ⟨w.heap.size + 1 + 1, 13, none⟩ = some (.bool ac) := (blk_cell H9.out.b8 13).trans rfl
      have sf13 : w9.frozen? ⟨w.heap.size + 1 + 1, 13, none⟩ = false := blk_frozen H9.out.b8 13
      go_wp2_with fail
      have H10 : Hid (RN w (w9.setCell ⟨w.heap.size + 1 + 1, 3, none⟩ (.string r5)) r5 b9 #[.int .i64 4, .slice (some ⟨N, 0, none⟩) 1 1, .slice none 0 0, .string r5, .int .i64 0, .slice none 0 0, .int .i64 0, .int .i64 0, .int .i64 0, .int .i64 0, .int .i64 y2, .int .i64 y3, .int .i64 y4, .bool ac]) := by
        have := H9.out.set8 3 (.string r5)
        simpa [Hid] using this
      have I_10 := Lib.hid (R_put I_9.out H9.out.b8 (by decide) ((KeepBut.refl w9 (w.heap.size + 1 + 1) none).set_ 3 (.string r5)))
      clear H9 I_9
      clear se0 sf0 se1 sf1 se2 sf2 se3 sf3 se4 sf4 se5 sf5 se6 sf6 se7 sf7 se8 sf8 se9 sf9 se10 sf10 se11 sf11 se12 sf12 se13 sf13
      generalize w9.setCell ⟨w.heap.size + 1 + 1, 3, none⟩ (.string r5) = w10 at *
      refine start_ (n := 8) (S := fun w' => w'.cell? ⟨w.heap.size + 1 + 1, 0, none⟩ = some (.int .i64 4) ∧ w'.cell? ⟨w.heap.size + 1 + 1, 1, none⟩ = some (.slice (some ⟨N, 0, none⟩) 1 1) ∧ w'.cell? ⟨w.heap.size + 1 + 1, 2, none⟩ = some (.slice none 0 0) ∧ w'.cell? ⟨w.heap.size + 1 + 1, 3, none⟩ = some (.string r5) ∧ w'.cell? ⟨w.heap.size + 1 + 1, 4, none⟩ = some (.int .i64 0) ∧ w'.cell? ⟨w.heap.size + 1 + 1, 5, none⟩ = some (.slice none 0 0) ∧ w'.cell? ⟨w.heap.size + 1 + 1, 6, none⟩ = some (.int .i64 0) ∧ w'.cell? ⟨w.heap.size + 1 + 1, 7, none⟩ = some (.int .i64 0) ∧ w'.cell? ⟨w.heap.size + 1 + 1, 8, none⟩ = some (.int .i64 0) ∧ w'.cell? ⟨w.heap.size + 1 + 1, 9, none⟩ = some (.int .i64 0) ∧ w'.cell? ⟨w.heap.size + 1 + 1, 10, none⟩ = some (.int .i64 y2) ∧ w'.cell? ⟨w.heap.size + 1 + 1, 11, none⟩ = some (.int .i64 y3) ∧ w'.cell? ⟨w.heap.size + 1 + 1, 12, none⟩ = some (.int .i64 y4) ∧ w'.cell? ⟨w.heap.size + 1 + 1, 13, none⟩ = some (.bool ac) ∧ w'.cell? ⟨w.heap.size + 1, 1, none⟩ = some (.bool b9)) (ds := []) #[false, false, false, false, false, false, false, false] (by kernel_rfl) rfl rfl ⟨(blk_cell (w := w10.drew) H10.out.b8 0).trans rfl, (blk_cell (w := w10.drew) H10.out.b8 1).trans rfl, (blk_cell (w := w10.drew) H10.out.b8 2).trans rfl, (blk_cell (w := w10.drew) H10.out.b8 3).trans rfl, (blk_cell (w := w10.drew) H10.out.b8 4).trans rfl, (blk_cell (w := w10.drew) H10.out.b8 5).trans rfl, (blk_cell (w := w10.drew) H10.out.b8 6).trans rfl, (blk_cell (w := w10.drew) H10.out.b8 7).trans rfl, (blk_cell (w := w10.drew) H10.out.b8 8).trans rfl, (blk_cell (w := w10.drew) H10.out.b8 9).trans rfl, (blk_cell (w := w10.drew) H10.out.b8 10).trans rfl, (blk_cell (w := w10.drew) H10.out.b8 11).trans rfl, (blk_cell (w := w10.drew) H10.out.b8 12).trans rfl, (blk_cell (w := w10.drew) H10.out.b8 13).trans rfl, (blk_cell (w := w10.drew) H10.out.rd.blk 1).trans rfl⟩ (fun hHeld => ?_)
      have HT := Lib.hid (H10.out.on (Below.drew (Below.refl _ _)))
      have T0 := Lib.hid (Kd.R_drew I_10.out)
      clear H10 I_10
      generalize w10.drew = WT at *
      refine take_ (i := 0) (N := some 118) (v := ?_) (a' := ?_) #[true, false, false, false, false, false, false, false] rfl rfl (by kernel_rfl) (fun _ _ _ h => h) (Or.inl ⟨by rfl, ?_⟩) (by assumption) ?_ ?_
      rotate_left
      · intro w' hSw
        try dsimp only at hSw
        go_simp
        with_reducible rfl
      rotate_left
      · simp only [Act.put, List.setIfInBounds_toArray, List.set_cons_zero, List.set_cons_succ, i64_w, i32_w]
        rfl
      refine pure_ (i := 1) (N := some 119) (v := ?_) (a' := ?_) #[true, true, false, false, false, false, false, false] rfl rfl (by kernel_rfl) (fun _ _ _ h => h) (Or.inl ⟨by rfl, ?_⟩) ?_ ?_
      rotate_left
      · intro w'
        go_simp
        with_reducible rfl
      rotate_left
      · simp only [Act.put, List.setIfInBounds_toArray, List.set_cons_zero, List.set_cons_succ, i64_w, i32_w]
        rfl
      refine pure_ (i := 2) (N := some 120) (v := ?_) (a' := ?_) #[true, true, true, false, false, false, false, false] rfl rfl (by kernel_rfl) (fun _ _ _ h => h) (Or.inl ⟨by rfl, ?_⟩) ?_ ?_
      rotate_left
      · intro w'
        go_simp
        with_reducible rfl
      rotate_left
      · simp only [Act.put, List.setIfInBounds_toArray, List.set_cons_zero, List.set_cons_succ, i64_w, i32_w]
        rfl
      refine pure_ (i := 3) (N := some 121) (v := ?_) (a' := ?_) #[true, true, true, true, false, false, false, false] rfl rfl (by kernel_rfl) (fun _ _ _ h => h) (Or.inl ⟨by rfl, ?_⟩) ?_ ?_
      rotate_left
      · intro w'
        go_simp
        with_reducible rfl
      rotate_left
      · simp only [Act.put, List.setIfInBounds_toArray, List.set_cons_zero, List.set_cons_succ, i64_w, i32_w]
        rfl
      refine take_ (i := 4) (N := some 122) (v := ?_) (a' := ?_) #[true, true, true, true, true, false, false, false] rfl rfl (by kernel_rfl) (fun _ _ _ h => h) (Or.inl ⟨by rfl, ?_⟩) (by assumption) ?_ ?_
      rotate_left
      · intro w' hSw
        try dsimp only at hSw
        go_simp
        with_reducible rfl
      rotate_left
      · simp only [Act.put, List.setIfInBounds_toArray, List.set_cons_zero, List.set_cons_succ, i64_w, i32_w]
        rfl
      refine pure_ (i := 5) (N := some 123) (v := ?_) (a' := ?_) #[true, true, true, true, true, true, false, false] rfl rfl (by kernel_rfl) (fun _ _ _ h => h) (Or.inl ⟨by rfl, ?_⟩) ?_ ?_
      rotate_left
      · intro w'
        go_simp
        with_reducible rfl
      rotate_left
      · simp only [Act.put, List.setIfInBounds_toArray, List.set_cons_zero, List.set_cons_succ, i64_w, i32_w]
        rfl
      have se0 : WT.cell? ⟨w.heap.size, 0, none⟩ = some (.int .i64 0) := (blk_cell HT.out.b2 0).trans rfl
      have sf0 : WT.frozen? ⟨w.heap.size, 0, none⟩ = false := blk_frozen HT.out.b2 0
      have se1 : WT.cell? ⟨w.heap.size, 1, none⟩ = some (.slice none 0 0) := (blk_cell HT.out.b2 1).trans rfl
      have sf1 : WT.frozen? ⟨w.heap.size, 1, none⟩ = false := blk_frozen HT.out.b2 1
      have se2 : WT.cell? ⟨w.heap.size, 2, none⟩ = some (.slice none 0 0) := (blk_cell HT.out.b2 2).trans rfl
      have sf2 : WT.frozen? ⟨w.heap.size, 2, none⟩ = false := blk_frozen HT.out.b2 2
      have se3 : WT.cell? ⟨w.heap.size, 3, none⟩ = some (.string ⟨#[]⟩) := (blk_cell HT.out.b2 3).trans rfl
      have sf3 : WT.frozen? ⟨w.heap.size, 3, none⟩ = false := blk_frozen HT.out.b2 3
      have se4 : WT.cell? ⟨w.heap.size, 4, none⟩ = some (.int .i64 0) := (blk_cell HT.out.b2 4).trans rfl
      have sf4 : WT.frozen? ⟨w.heap.size, 4, none⟩ = false := blk_frozen HT.out.b2 4
      have se5 : WT.cell? ⟨w.heap.size, 5, none⟩ = some (.slice none 0 0) := (blk_cell HT.out.b2 5).trans rfl
      have sf5 : WT.frozen? ⟨w.heap.size, 5, none⟩ = false := blk_frozen HT.out.b2 5
      have se6 : WT.cell? ⟨w.heap.size, 6, none⟩ = some (.int .i64 0) := (blk_cell HT.out.b2 6).trans rfl
      have sf6 : WT.frozen? ⟨w.heap.size, 6, none⟩ = false := blk_frozen HT.out.b2 6
      have se7 : WT.cell? ⟨w.heap.size, 7, none⟩ = some (.int .i64 0) := (blk_cell HT.out.b2 7).trans rfl
      have sf7 : WT.frozen? ⟨w.heap.size, 7, none⟩ = false := blk_frozen HT.out.b2 7
      have se8 : WT.cell? ⟨w.heap.size, 8, none⟩ = some (.int .i64 0) := (blk_cell HT.out.b2 8).trans rfl
      have sf8 : WT.frozen? ⟨w.heap.size, 8, none⟩ = false := blk_frozen HT.out.b2 8
      have se9 : WT.cell? ⟨w.heap.size, 9, none⟩ = some (.int .i64 0) := (blk_cell HT.out.b2 9).trans rfl
      have sf9 : WT.frozen? ⟨w.heap.size, 9, none⟩ = false := blk_frozen HT.out.b2 9
      have se10 : WT.cell? ⟨w.heap.size, 10, none⟩ = some (.int .i64 0) := (blk_cell HT.out.b2 10).trans rfl
      have sf10 : WT.frozen? ⟨w.heap.size, 10, none⟩ = false := blk_frozen HT.out.b2 10
      have se11 : WT.cell? ⟨w.heap.size, 11, none⟩ = some (.int .i64 0) := (blk_cell HT.out.b2 11).trans rfl
      have sf11 : WT.frozen? ⟨w.heap.size, 11, none⟩ = false := blk_frozen HT.out.b2 11
      have se12 : WT.cell? ⟨w.heap.size, 12, none⟩ = some (.int .i64 0) := (blk_cell HT.out.b2 12).trans rfl
      have sf12 : WT.frozen? ⟨w.heap.size, 12, none⟩ = false := blk_frozen HT.out.b2 12
      have se13 : WT.cell? ⟨w.heap.size, 13, none⟩ = some (.bool false) := (blk_cell HT.out.b2 13).trans rfl
      have sf13 : WT.frozen? ⟨w.heap.size, 13, none⟩ = false := blk_frozen HT.out.b2 13
      refine one_ (i := 6) (N := none) #[true, true, true, true, true, true, true, false] rfl rfl (by kernel_rfl) (by decide) (fun K hK => ?_)
      refine skip_ (w1 := ?_) (by rfl) rfl ?_ ?_
      rotate_left
      · go_simp
        rfl
      have hkE := keepS14 WT (w.heap.size) (.int .i64 4) (.slice (some ⟨N, 0, none⟩) 1 1) (.slice none 0 0) (.string r5) (.int .i64 0) (.slice none 0 0) (.int .i64 0) (.int .i64 0) (.int .i64 0) (.int .i64 0) (.int .i64 y2) (.int .i64 y3) (.int .i64 y4) (.bool ac)
      have hSE : (((((((((((((((WT.setCell ⟨w.heap.size, 0, none⟩ (.int .i64 4)).setCell ⟨w.heap.size, 1, none⟩ (.slice (some ⟨N, 0, none⟩) 1 1)).setCell ⟨w.heap.size, 2, none⟩ (.slice none 0 0)).setCell ⟨w.heap.size, 3, none⟩ (.string r5)).setCell ⟨w.heap.size, 4, none⟩ (.int .i64 0)).setCell ⟨w.heap.size, 5, none⟩ (.slice none 0 0)).setCell ⟨w.heap.size, 6, none⟩ (.int .i64 0)).setCell ⟨w.heap.size, 7, none⟩ (.int .i64 0)).setCell ⟨w.heap.size, 8, none⟩ (.int .i64 0)).setCell ⟨w.heap.size, 9, none⟩ (.int .i64 0)).setCell ⟨w.heap.size, 10, none⟩ (.int .i64 y2)).setCell ⟨w.heap.size, 11, none⟩ (.int .i64 y3)).setCell ⟨w.heap.size, 12, none⟩ (.int .i64 y4)).setCell ⟨w.heap.size, 13, none⟩ (.bool ac))).cell? ⟨w.heap.size + 1 + 1, 0, none⟩ = some (.int .i64 4) ∧ (((((((((((((((WT.setCell ⟨w.heap.size, 0, none⟩ (.int .i64 4)).setCell ⟨w.heap.size, 1, none⟩ (.slice (some ⟨N, 0, none⟩) 1 1)).setCell ⟨w.heap.size, 2, none⟩ (.slice none 0 0)).setCell ⟨w.heap.size, 3, none⟩ (.string r5)).setCell ⟨w.heap.size, 4, none⟩ (.int .i64 0)).setCell ⟨w.heap.size, 5, none⟩ (.slice none 0 0)).setCell ⟨w.heap.size, 6, none⟩ (.int .i64 0)).setCell ⟨w.heap.size, 7, none⟩ (.int .i64 0)).setCell ⟨w.heap.size, 8, none⟩ (.int .i64 0)).setCell ⟨w.heap.size, 9, none⟩ (.int .i64 0)).setCell ⟨w.heap.size, 10, none⟩ (.int .i64 y2)).setCell ⟨w.heap.size, 11, none⟩ (.int .i64 y3)).setCell ⟨w.heap.size, 12, none⟩ (.int .i64 y4)).setCell ⟨w.heap.size, 13, none⟩ (.bool ac))).cell? ⟨w.heap.size + 1 + 1, 1, none⟩ = some (.slice (some ⟨N, 0, none⟩) 1 1) ∧ (((((((((((((((WT.setCell ⟨w.heap.size, 0, none⟩ (.int .i64 4)).setCell ⟨w.heap.size, 1, none⟩ (.slice (some ⟨N, 0, none⟩) 1 1)).setCell ⟨w.heap.size, 2, none⟩ (.slice none 0 0)).setCell ⟨w.heap.size, 3, none⟩ (.string r5)).setCell ⟨w.heap.size, 4, none⟩ (.int .i64 0)).setCell ⟨w.heap.size, 5, none⟩ (.slice none 0 0)).setCell ⟨w.heap.size, 6, none⟩ (.int .i64 0)).setCell ⟨w.heap.size, 7, none⟩ (.int .i64 0)).setCell ⟨w.heap.size, 8, none⟩ (.int .i64 0)).setCell ⟨w.heap.size, 9, none⟩ (.int .i64 0)).setCell ⟨w.heap.size, 10, none⟩ (.int .i64 y2)).setCell ⟨w.heap.size, 11, none⟩ (.int .i64 y3)).setCell ⟨w.heap.size, 12, none⟩ (.int .i64 y4)).setCell ⟨w.heap.size, 13, none⟩ (.bool ac))).cell? ⟨w.heap.size + 1 + 1, 2, none⟩ = some (.slice none 0 0) ∧ (((((((((((((((WT.setCell ⟨w.heap.size, 0, none⟩ (.int .i64 4)).setCell ⟨w.heap.size, 1, none⟩ (.slice (some ⟨N, 0, none⟩) 1 1)).setCell ⟨w.heap.size, 2, none⟩ (.slice none 0 0)).setCell ⟨w.heap.size, 3, none⟩ (.string r5)).setCell ⟨w.heap.size, 4, none⟩ (.int .i64 0)).setCell ⟨w.heap.size, 5, none⟩ (.slice none 0 0)).setCell ⟨w.heap.size, 6, none⟩ (.int .i64 0)).setCell ⟨w.heap.size, 7, none⟩ (.int .i64 0)).setCell ⟨w.heap.size, 8, none⟩ (.int .i64 0)).setCell ⟨w.heap.size, 9, none⟩ (.int .i64 0)).setCell ⟨w.heap.size, 10, none⟩ (.int .i64 y2)).setCell ⟨w.heap.size, 11, none⟩ (.int .i64 y3)).setCell ⟨w.heap.size, 12, none⟩ (.int .i64 y4)).setCell ⟨w.heap.size, 13, none⟩ (.bool ac))).cell? ⟨w.heap.size + 1 + 1, 3, none⟩ = some (.string r5) ∧ (((((((((((((((WT.setCell ⟨w.heap.size, 0, none⟩ (.int .i64 4)).setCell ⟨w.heap.size, 1, none⟩ (.slice (some ⟨N, 0, none⟩) 1 1)).setCell ⟨w.heap.size, 2, none⟩ (.slice none 0 0)).setCell ⟨w.heap.size, 3, none⟩ (.string r5)).setCell ⟨w.heap.size, 4, none⟩ (.int .i64 0)).setCell ⟨w.heap.size, 5, none⟩ (.slice none 0 0)).setCell ⟨w.heap.size, 6, none⟩ (.int .i64 0)).setCell ⟨w.heap.size, 7, none⟩ (.int .i64 0)).setCell ⟨w.heap.size, 8, none⟩ (.int .i64 0)).setCell ⟨w.heap.size, 9, none⟩ (.int .i64 0)).setCell ⟨w.heap.size, 10, none⟩ (.int .i64 y2)).setCell ⟨w.heap.size, 11, none⟩ (.int .i64 y3)).setCell ⟨w.heap.size, 12, none⟩ (.int .i64 y4)).setCell ⟨w.heap.size, 13, none⟩ (.bool ac))).cell? ⟨w.heap.size + 1 + 1, 4, none⟩ = some (.int .i64 0) ∧ (((((((((((((((WT.setCell ⟨w.heap.size, 0, none⟩ (.int .i64 4)).setCell ⟨w.heap.size, 1, none⟩ (.slice (some ⟨N, 0, none⟩) 1 1)).setCell ⟨w.heap.size, 2, none⟩ (.slice none 0 0)).setCell ⟨w.heap.size, 3, none⟩ (.string r5)).setCell ⟨w.heap.size, 4, none⟩ (.int .i64 0)).setCell ⟨w.heap.size, 5, none⟩ (.slice none 0 0)).setCell ⟨w.heap.size, 6, none⟩ (.int .i64 0)).setCell ⟨w.heap.size, 7, none⟩ (.int .i64 0)).setCell ⟨w.heap.size, 8, none⟩ (.int .i64 0)).setCell ⟨w.heap.size, 9, none⟩ (.int .i64 0)).setCell ⟨w.heap.size, 10, none⟩ (.int .i64 y2)).setCell ⟨w.heap.size, 11, none⟩ (.int .i64 y3)).setCell ⟨w.heap.size, 12, none⟩ (.int .i64 y4)).setCell ⟨w.heap.size, 13, none⟩ (.bool ac))).cell? ⟨w.heap.size + 1 + 1, 5, none⟩ = some (.slice none 0 0) ∧ (((((((((((((((WT.setCell ⟨w.heap.size, 0, none⟩ (.int .i64 4)).setCell ⟨w.heap.size, 1, none⟩ (.slice (some ⟨N, 0, none⟩) 1 1)).setCell ⟨w.heap.size, 2, none⟩ (.slice none 0 0)).setCell ⟨w.heap.size, 3, none⟩ (.string r5)).setCell ⟨w.heap.size, 4, none⟩ (.int .i64 0)).setCell ⟨w.heap.size, 5, none⟩ (.slice none 0 0)).setCell ⟨w.heap.size, 6, none⟩ (.int .i64 0)).setCell ⟨w.heap.size, 7, none⟩ (.int .i64 0)).setCell ⟨w.heap.size, 8, none⟩ (.int .i64 0)).setCell ⟨w.heap.size, 9, none⟩ (.int .i64 0)).setCell ⟨w.heap.size, 10, none⟩ (.int .i64 y2)).setCell ⟨w.heap.size, 11, none⟩ (.int .i64 y3)).setCell ⟨w.heap.size, 12, none⟩ (.int .i64 y4)).setCell ⟨w.heap.size, 13, none⟩ (.bool ac))).cell? ⟨w.heap.size + 1 + 1, 6, none⟩ = some (.int .i64 0) ∧ (((((((((((((((WT.setCell ⟨w.heap.size, 0, none⟩ (.int .i64 4)).setCell ⟨w.heap.size, 1, none⟩ (.slice (some ⟨N, 0, none⟩) 1 1)).setCell ⟨w.heap.size, 2, none⟩ (.slice none 0 0)).setCell ⟨w.heap.size, 3, none⟩ (.string r5)).setCell ⟨w.heap.size, 4, none⟩ (.int .i64 0)).setCell ⟨w.heap.size, 5, none⟩ (.slice none 0 0)).setCell ⟨w.heap.size, 6, none⟩ (.int .i64 0)).setCell ⟨w.heap.size, 7, none⟩ (.int .i64 0)).setCell ⟨w.heap.size, 8, none⟩ (.int .i64 0)).setCell ⟨w.heap.size, 9, none⟩ (.int .i64 0)).setCell ⟨w.heap.size, 10, none⟩ (.int .i64 y2)).setCell ⟨w.heap.size, 11, none⟩ (.int .i64 y3)).setCell ⟨w.heap.size, 12, none⟩ (.int .i64 y4)).setCell ⟨w.heap.size, 13, none⟩ (.bool ac))).cell? ⟨w.heap.size + 1 + 1, 7, none⟩ = some (.int .i64 0) ∧ (((((((((((((((WT.setCell ⟨w.heap.size, 0, none⟩ (.int .i64 4)).setCell ⟨w.heap.size, 1, none⟩ (.slice (some ⟨N, 0, none⟩) 1 1)).setCell ⟨w.heap.size, 2, none⟩ (.slice none 0 0)).setCell ⟨w.heap.size, 3, none⟩ (.string r5)).setCell ⟨w.heap.size, 4, none⟩ (.int .i64 0)).setCell ⟨w.heap.size, 5, none⟩ (.slice none 0 0)).setCell ⟨w.heap.size, 6, none⟩ (.int .i64 0)).setCell ⟨w.heap.size, 7, none⟩ (.int .i64 0)).setCell ⟨w.heap.size, 8, none⟩ (.int .i64 0)).setCell ⟨w.heap.size, 9, none⟩ (.int .i64 0)).setCell ⟨w.heap.size, 10, none⟩ (.int .i64 y2)).setCell ⟨w.heap.size, 11, none⟩ (.int .i64 y3)).setCell ⟨w.heap.size, 12, none⟩ (.int .i64 y4)).setCell ⟨w.heap.size, 13, none⟩ (.bool ac))).cell? ⟨w.heap.size + 1 + 1, 8, none⟩ = some (.int .i64 0) ∧ (((((((((((((((WT.setCell ⟨w.heap.size, 0, none⟩ (.int .i64 4)).setCell ⟨w.heap.size, 1, none⟩ (.slice (some ⟨N, 0, none⟩) 1 1)).setCell ⟨w.heap.size, 2, none⟩ (.slice none 0 0)).setCell ⟨w.heap.size, 3, none⟩ (.string r5)).setCell ⟨w.heap.size, 4, none⟩ (.int .i64 0)).setCell ⟨w.heap.size, 5, none⟩ (.slice none 0 0)).setCell ⟨w.heap.size, 6, none⟩ (.int .i64 0)).setCell ⟨w.heap.size, 7, none⟩ (.int .i64 0)).setCell ⟨w.heap.size, 8, none⟩ (.int .i64 0)).setCell ⟨w.heap.size, 9, none⟩ (.int .i64 0)).setCell ⟨w.heap.size, 10, none⟩ (.int .i64 y2)).setCell ⟨w.heap.size, 11, none⟩ (.int .i64 y3)).setCell ⟨w.heap.size, 12, none⟩ (.int .i64 y4)).setCell ⟨w.heap.size, 13, none⟩ (.bool ac))).cell? ⟨w.heap.size + 1 + 1, 9, none⟩ = some (.int .i64 0) ∧ (((((((((((((((WT.setCell ⟨w.heap.size, 0, none⟩ (.int .i64 4)).setCell ⟨w.heap.size, 1, none⟩ (.slice (some ⟨N, 0, none⟩) 1 1)).setCell ⟨w.heap.size, 2, none⟩ (.slice none 0 0)).setCell ⟨w.heap.size, 3, none⟩ (.string r5)).setCell ⟨w.heap.size, 4, none⟩ (.int .i64 0)).setCell ⟨w.heap.size, 5, none⟩ (.slice none 0 0)).setCell ⟨w.heap.size, 6, none⟩ (.int .i64 0)).setCell ⟨w.heap.size, 7, none⟩ (.int .i64 0)).setCell ⟨w.heap.size, 8, none⟩ (.int .i64 0)).setCell ⟨w.heap.size, 9, none⟩ (.int .i64 0)).setCell ⟨w.heap.size, 10, none⟩ (.int .i64 y2)).setCell ⟨w.heap.size, 11, none⟩ (.int .i64 y3)).setCell ⟨w.heap.size, 12, none⟩ (.int .i64 y4)).setCell ⟨w.heap.size, 13, none⟩ (.bool ac))).cell? ⟨w.heap.size + 1 + 1, 10, none⟩ = some (.int .i64 y2) ∧ (((((((((((((((WT.setCell ⟨w.heap.size, 0, none⟩ (.int .i64 4)).setCell ⟨w.heap.size, 1, none⟩ (.slice (some ⟨N, 0, none⟩) 1 1)).setCell ⟨w.heap.size, 2, none⟩ (.slice none 0 0)).setCell ⟨w.heap.size, 3, none⟩ (.string r5)).setCell ⟨w.heap.size, 4, none⟩ (.int .i64 0)).setCell ⟨w.heap.size, 5, none⟩ (.slice none 0 0)).setCell ⟨w.heap.size, 6, none⟩ (.int .i64 0)).setCell ⟨w.heap.size, 7, none⟩ (.int .i64 0)).setCell ⟨w.heap.size, 8, none⟩ (.int .i64 0)).setCell ⟨w.heap.size, 9, none⟩ (.int .i64 0)).setCell ⟨w.heap.size, 10, none⟩ (.int .i64 y2)).setCell ⟨w.heap.size, 11, none⟩ (.int .i64 y3)).setCell ⟨w.heap.size, 12, none⟩ (.int .i64 y4)).setCell ⟨w.heap.size, 13, none⟩ (.bool ac))).cell? ⟨w.heap.size + 1 + 1, 11, none⟩ = some (.int .i64 y3) ∧ (((((((((((((((WT.setCell ⟨w.heap.size, 0, none⟩ (.int .i64 4)).setCell ⟨w.heap.size, 1, none⟩ (.slice (some ⟨N, 0, none⟩) 1 1)).setCell ⟨w.heap.size, 2, none⟩ (.slice none 0 0)).setCell ⟨w.heap.size, 3, none⟩ (.string r5)).setCell ⟨w.heap.size, 4, none⟩ (.int .i64 0)).setCell ⟨w.heap.size, 5, none⟩ (.slice none 0 0)).setCell ⟨w.heap.size, 6, none⟩ (.int .i64 0)).setCell ⟨w.heap.size, 7, none⟩ (.int .i64 0)).setCell ⟨w.heap.size, 8, none⟩ (.int .i64 0)).setCell ⟨w.heap.size, 9, none⟩ (.int .i64 0)).setCell ⟨w.heap.size, 10, none⟩ (.int .i64 y2)).setCell ⟨w.heap.size, 11, none⟩ (.int .i64 y3)).setCell ⟨w.heap.size, 12, none⟩ (.int .i64 y4)).setCell ⟨w.heap.size, 13, none⟩ (.bool ac))).cell? ⟨w.heap.size + 1 + 1, 12, none⟩ = some (.int .i64 y4) ∧ (((((((((((((((WT.setCell ⟨w.heap.size, 0, none⟩ (.int .i64 4)).setCell ⟨w.heap.size, 1, none⟩ (.slice (some ⟨N, 0, none⟩) 1 1)).setCell ⟨w.heap.size, 2, none⟩ (.slice none 0 0)).setCell ⟨w.heap.size, 3, none⟩ (.string r5)).setCell ⟨w.heap.size, 4, none⟩ (.int .i64 0)).setCell ⟨w.heap.size, 5, none⟩ (.slice none 0 0)).setCell ⟨w.heap.size, 6, none⟩ (.int .i64 0)).setCell ⟨w.heap.size, 7, none⟩ (.int .i64 0)).setCell ⟨w.heap.size, 8, none⟩ (.int .i64 0)).setCell ⟨w.heap.size, 9, none⟩ (.int .i64 0)).setCell ⟨w.heap.size, 10, none⟩ (.int .i64 y2)).setCell ⟨w.heap.size, 11, none⟩ (.int .i64 y3)).setCell ⟨w.heap.size, 12, none⟩ (.int .i64 y4)).setCell ⟨w.heap.size, 13, none⟩ (.bool ac))).cell? ⟨w.heap.size + 1 + 1, 13, none⟩ = some (.bool ac) ∧ (((((((((((((((WT.setCell ⟨w.heap.size, 0, none⟩ (.int .i64 4)).setCell ⟨w.heap.size, 1, none⟩ (.slice (some ⟨N, 0, none⟩) 1 1)).setCell ⟨w.heap.size, 2, none⟩ (.slice none 0 0)).setCell ⟨w.heap.size, 3, none⟩ (.string r5)).setCell ⟨w.heap.size, 4, none⟩ (.int .i64 0)).setCell ⟨w.heap.size, 5, none⟩ (.slice none 0 0)).setCell ⟨w.heap.size, 6, none⟩ (.int .i64 0)).setCell ⟨w.heap.size, 7, none⟩ (.int .i64 0)).setCell ⟨w.heap.size, 8, none⟩ (.int .i64 0)).setCell ⟨w.heap.size, 9, none⟩ (.int .i64 0)).setCell ⟨w.heap.size, 10, none⟩ (.int .i64 y2)).setCell ⟨w.heap.size, 11, none⟩ (.int .i64 y3)).setCell ⟨w.heap.size, 12, none⟩ (.int .i64 y4)).setCell ⟨w.heap.size, 13, none⟩ (.bool ac))).cell? ⟨w.heap.size + 1, 1, none⟩ = some (.bool b9) := ⟨(blk_cell (hkE.blk HT.out.b8 (by omega) (by simp)) 0).trans rfl, (blk_cell (hkE.blk HT.out.b8 (by omega) (by simp)) 1).trans rfl, (blk_cell (hkE.blk HT.out.b8 (by omega) (by simp)) 2).trans rfl, (blk_cell (hkE.blk HT.out.b8 (by omega) (by simp)) 3).trans rfl, (blk_cell (hkE.blk HT.out.b8 (by omega) (by simp)) 4).trans rfl, (blk_cell (hkE.blk HT.out.b8 (by omega) (by simp)) 5).trans rfl, (blk_cell (hkE.blk HT.out.b8 (by omega) (by simp)) 6).trans rfl, (blk_cell (hkE.blk HT.out.b8 (by omega) (by simp)) 7).trans rfl, (blk_cell (hkE.blk HT.out.b8 (by omega) (by simp)) 8).trans rfl, (blk_cell (hkE.blk HT.out.b8 (by omega) (by simp)) 9).trans rfl, (blk_cell (hkE.blk HT.out.b8 (by omega) (by simp)) 10).trans rfl, (blk_cell (hkE.blk HT.out.b8 (by omega) (by simp)) 11).trans rfl, (blk_cell (hkE.blk HT.out.b8 (by omega) (by simp)) 12).trans rfl, (blk_cell (hkE.blk HT.out.b8 (by omega) (by simp)) 13).trans rfl, (blk_cell (hkE.blk HT.out.rd.blk (by omega) (by simp)) 1).trans rfl⟩
      refine hK.out _ _ hSE (fun hHeld2 => ?_)
      clear hK K hSE hHeld
      refine pure_ (i := 7) (N := some 3) (v := ?_) (a' := ?_) #[true, true, true, true, true, true, true, true] rfl rfl (by kernel_rfl) (fun _ _ _ h => h) (Or.inl ⟨by rfl, ?_⟩) ?_ ?_
      rotate_left
      · intro w'
        go_simp
        with_reducible rfl
      rotate_left
      · simp only [Act.put, List.setIfInBounds_toArray, List.set_cons_zero, List.set_cons_succ, i64_w, i32_w]
        rfl
      refine done_ (by kernel_rfl) ?_
      have HF := Lib.hid (HT.out.fin (.int .i64 4) (.slice (some ⟨N, 0, none⟩) 1 1) (.slice none 0 0) (.string r5) (.int .i64 0) (.slice none 0 0) (.int .i64 0) (.int .i64 0) (.int .i64 0) (.int .i64 0) (.int .i64 y2) (.int .i64 y3) (.int .i64 y4) (.bool ac))
      have U0 := Lib.hid (R_put T0.out HT.out.b2 (by decide) hkE)
      clear hkE
      clear se0 sf0 se1 sf1 se2 sf2 se3 sf3 se4 sf4 se5 sf5 se6 sf6 se7 sf7 se8 sf8 se9 sf9 se10 sf10 se11 sf11 se12 sf12 se13 sf13
      generalize ((((((((((((((WT.setCell ⟨w.heap.size, 0, none⟩ (.int .i64 4)).setCell ⟨w.heap.size, 1, none⟩ (.slice (some ⟨N, 0, none⟩) 1 1)).setCell ⟨w.heap.size, 2, none⟩ (.slice none 0 0)).setCell ⟨w.heap.size, 3, none⟩ (.string r5)).setCell ⟨w.heap.size, 4, none⟩ (.int .i64 0)).setCell ⟨w.heap.size, 5, none⟩ (.slice none 0 0)).setCell ⟨w.heap.size, 6, none⟩ (.int .i64 0)).setCell ⟨w.heap.size, 7, none⟩ (.int .i64 0)).setCell ⟨w.heap.size, 8, none⟩ (.int .i64 0)).setCell ⟨w.heap.size, 9, none⟩ (.int .i64 0)).setCell ⟨w.heap.size, 10, none⟩ (.int .i64 y2)).setCell ⟨w.heap.size, 11, none⟩ (.int .i64 y3)).setCell ⟨w.heap.size, 12, none⟩ (.int .i64 y4)).setCell ⟨w.heap.size, 13, none⟩ (.bool ac)) = WF at *
      go_wp2_with fail
      exact bodyPost_ret (results_ct (p := 2) (u := 3) (ty := 63) rfl _ _ w.heap.size 63 _ (0, 0) _ rfl HF.out.b2 Tryz.underlying63 rfl (by kernel_rfl)) rfl (node_post (ok := fun k => k ≠ w.heap.size + 1) HF.out U0.out (Kd.R_nil _ _ _ _ _) (Kd.R_nil _ _ _ _ _) (by unfold grpV; rw [← HN1.out]; dsimp only; rw [← HN2.out]; dsimp only; rw [← HN3.out]; dsimp only; rw [← HN4.out]; dsimp only; exact grp_eq HR5.out HB5.out HAC.out HBV.out (.inr (.inl ⟨rfl, HA.out, rfl⟩))))
    · have x1 : (hw.toList == [97, 99, 99]) = false := by rw [beq_eq_false_iff_ne]; exact ha
      have HA : Hid (howL r4 ≠ [97, 99, 99]) := by rw [← HWL.out]; exact Lib.hid ha
      clear ha
      go_upto_region 19 with fail
      obtain ⟨dz, hdz⟩ : ∃ dz, dz = (!(hw.toList == [100, 105, 115])) := ⟨_, rfl⟩
      have HDZ : Hid (dz = (howL r4 != [100, 105, 115])) := by rw [hdz, HWL.out]; exact Lib.hid rfl
      rw [← hdz]
      clear x1 hdz
      have H8 := Lib.hid (H7.out.bad dz)
      have I_8 := Lib.hid (Kd.R_far I_7.out (p := ⟨w.heap.size + 1, 1, none⟩) (fun _ h => h) (.bool dz))
      clear H7 I_7 d1 f1
      generalize w7.setCell ⟨w.heap.size + 1, 1, none⟩ (.bool dz) = w8 at *
      go_wp2_with fail
      obtain ⟨b9, hq3⟩ : ∃ b, b = (dz || !textB r5) := ⟨_, rfl⟩
      refine (rd_text w w8 (w.heap.size + 1) r5 _ H8.out.rd (by omega)).mono ?_
      rintro e w9 ⟨rfl, s1⟩
      rw [← hq3] at s1
      have HBV := Lib.hid hq3
      have H9 := Lib.hid (H8.out.step s1)
      have I_9 := Lib.hid (Kd.R_keep I_8.out s1.2 (fun _ h => h))
      clear s1 hq3 H8 I_8
      have se0 : w9.cell? ⟨w.heap.size + 1 + 1, 0, none⟩ = some (.int .i64 4) := (blk_cell H9.out.b8 0).trans rfl
      have sf0 : w9.frozen? ⟨w.heap.size + 1 + 1, 0, none⟩ = false := blk_frozen H9.out.b8 0
      have se1 : w9.cell? ⟨w.heap.size + 1 + 1, 1, none⟩ = some (.slice (some ⟨N, 0, none⟩) 1 1) := (blk_cell H9.out.b8 1).trans rfl
      have sf1 : w9.frozen? ⟨w.heap.size + 1 + 1, 1, none⟩ = false := blk_frozen H9.out.b8 1
      have se2 : w9.cell? ⟨w.heap.size + 1 + 1, 2, none⟩ = some (.slice none 0 0) := (blk_cell H9.out.b8 2).trans rfl
      have sf2 : w9.frozen? ⟨w.heap.size + 1 + 1, 2, none⟩ = false := blk_frozen H9.out.b8 2
      have se3 : w9.cell? ⟨w.heap.size + 1 + 1, 3, none⟩ = some (.string ⟨#[]⟩) := (blk_cell H9.out.b8 3).trans rfl
      have sf3 : w9.frozen? ⟨w.heap.size + 1 + 1, 3, none⟩ = false := blk_frozen H9.out.b8 3
      have se4 : w9.cell? ⟨w.heap.size + 1 + 1, 4, none⟩ = some (.int .i64 0) := (blk_cell H9.out.b8 4).trans rfl
      have sf4 : w9.frozen? ⟨w.heap.size + 1 + 1, 4, none⟩ = false := blk_frozen H9.out.b8 4
      have se5 : w9.cell? ⟨w.heap.size + 1 + 1, 5, none⟩ = some (.slice none 0 0) := (blk_cell H9.out.b8 5).trans rfl
      have sf5 : w9.frozen? ⟨w.heap.size + 1 + 1, 5, none⟩ = false := blk_frozen H9.out.b8 5
      have se6 : w9.cell? ⟨w.heap.size + 1 + 1, 6, none⟩ = some (.int .i64 0) := (blk_cell H9.out.b8 6).trans rfl
      have sf6 : w9.frozen? ⟨w.heap.size + 1 + 1, 6, none⟩ = false := blk_frozen H9.out.b8 6
      have se7 : w9.cell? ⟨w.heap.size + 1 + 1, 7, none⟩ = some (.int .i64 0) := (blk_cell H9.out.b8 7).trans rfl
      have sf7 : w9.frozen? ⟨w.heap.size + 1 + 1, 7, none⟩ = false := blk_frozen H9.out.b8 7
      have se8 : w9.cell? ⟨w.heap.size + 1 + 1, 8, none⟩ = some (.int .i64 0) := (blk_cell H9.out.b8 8).trans rfl
      have sf8 : w9.frozen? ⟨w.heap.size + 1 + 1, 8, none⟩ = false := blk_frozen H9.out.b8 8
      have se9 : w9.cell? ⟨w.heap.size + 1 + 1, 9, none⟩ = some (.int .i64 0) := (blk_cell H9.out.b8 9).trans rfl
      have sf9 : w9.frozen? ⟨w.heap.size + 1 + 1, 9, none⟩ = false := blk_frozen H9.out.b8 9
      have se10 : w9.cell? ⟨w.heap.size + 1 + 1, 10, none⟩ = some (.int .i64 y2) := (blk_cell H9.out.b8 10).trans rfl
      have sf10 : w9.frozen? ⟨w.heap.size + 1 + 1, 10, none⟩ = false := blk_frozen H9.out.b8 10
      have se11 : w9.cell? ⟨w.heap.size + 1 + 1, 11, none⟩ = some (.int .i64 y3) := (blk_cell H9.out.b8 11).trans rfl
      have sf11 : w9.frozen? ⟨w.heap.size + 1 + 1, 11, none⟩ = false := blk_frozen H9.out.b8 11
      have se12 : w9.cell? ⟨w.heap.size + 1 + 1, 12, none⟩ = some (.int .i64 y4) := (blk_cell H9.out.b8 12).trans rfl
      have sf12 : w9.frozen? ⟨w.heap.size + 1 + 1, 12, none⟩ = false := blk_frozen H9.out.b8 12
      have se13 : w9.cell? ⟨w.heap.size + 1 + 1, 13, none⟩ = some (.bool ac) := (blk_cell H9.out.b8 13).trans rfl
      have sf13 : w9.frozen? ⟨w.heap.size + 1 + 1, 13, none⟩ = false := blk_frozen H9.out.b8 13
      go_wp2_with fail
      have H10 : Hid (RN w (w9.setCell ⟨w.heap.size + 1 + 1, 3, none⟩ (.string r5)) r5 b9 #[.int .i64 4, .slice (some ⟨N, 0, none⟩) 1 1, .slice none 0 0, .string r5, .int .i64 0, .slice none 0 0, .int .i64 0, .int .i64 0, .int .i64 0, .int .i64 0, .int .i64 y2, .int .i64 y3, .int .i64 y4, .bool ac]) := by
        have := H9.out.set8 3 (.string r5)
        simpa [Hid] using this
      have I_10 := Lib.hid (R_put I_9.out H9.out.b8 (by decide) ((KeepBut.refl w9 (w.heap.size + 1 + 1) none).set_ 3 (.string r5)))
      clear H9 I_9
      clear se0 sf0 se1 sf1 se2 sf2 se3 sf3 se4 sf4 se5 sf5 se6 sf6 se7 sf7 se8 sf8 se9 sf9 se10 sf10 se11 sf11 se12 sf12 se13 sf13
      generalize w9.setCell ⟨w.heap.size + 1 + 1, 3, none⟩ (.string r5) = w10 at *
      refine start_ (n := 8) (S := fun w' => w'.cell? ⟨w.heap.size + 1 + 1, 0, none⟩ = some (.int .i64 4) ∧ w'.cell? ⟨w.heap.size + 1 + 1, 1, none⟩ = some (.slice (some ⟨N, 0, none⟩) 1 1) ∧ w'.cell? ⟨w.heap.size + 1 + 1, 2, none⟩ = some (.slice none 0 0) ∧ w'.cell? ⟨w.heap.size + 1 + 1, 3, none⟩ = some (.string r5) ∧ w'.cell? ⟨w.heap.size + 1 + 1, 4, none⟩ = some (.int .i64 0) ∧ w'.cell? ⟨w.heap.size + 1 + 1, 5, none⟩ = some (.slice none 0 0) ∧ w'.cell? ⟨w.heap.size + 1 + 1, 6, none⟩ = some (.int .i64 0) ∧ w'.cell? ⟨w.heap.size + 1 + 1, 7, none⟩ = some (.int .i64 0) ∧ w'.cell? ⟨w.heap.size + 1 + 1, 8, none⟩ = some (.int .i64 0) ∧ w'.cell? ⟨w.heap.size + 1 + 1, 9, none⟩ = some (.int .i64 0) ∧ w'.cell? ⟨w.heap.size + 1 + 1, 10, none⟩ = some (.int .i64 y2) ∧ w'.cell? ⟨w.heap.size + 1 + 1, 11, none⟩ = some (.int .i64 y3) ∧ w'.cell? ⟨w.heap.size + 1 + 1, 12, none⟩ = some (.int .i64 y4) ∧ w'.cell? ⟨w.heap.size + 1 + 1, 13, none⟩ = some (.bool ac) ∧ w'.cell? ⟨w.heap.size + 1, 1, none⟩ = some (.bool b9)) (ds := []) #[false, false, false, false, false, false, false, false] (by kernel_rfl) rfl rfl ⟨(blk_cell (w := w10.drew) H10.out.b8 0).trans rfl, (blk_cell (w := w10.drew) H10.out.b8 1).trans rfl, (blk_cell (w := w10.drew) H10.out.b8 2).trans rfl, (blk_cell (w := w10.drew) H10.out.b8 3).trans rfl, (blk_cell (w := w10.drew) H10.out.b8 4).trans rfl, (blk_cell (w := w10.drew) H10.out.b8 5).trans rfl, (blk_cell (w := w10.drew) H10.out.b8 6).trans rfl, (blk_cell (w := w10.drew) H10.out.b8 7).trans rfl, (blk_cell (w := w10.drew) H10.out.b8 8).trans rfl, (blk_cell (w := w10.drew) H10.out.b8 9).trans rfl, (blk_cell (w := w10.drew) H10.out.b8 10).trans rfl, (blk_cell (w := w10.drew) H10.out.b8 11).trans rfl, (blk_cell (w := w10.drew) H10.out.b8 12).trans rfl, (blk_cell (w := w10.drew) H10.out.b8 13).trans rfl, (blk_cell (w := w10.drew) H10.out.rd.blk 1).trans rfl⟩ (fun hHeld => ?_)
      have HT := Lib.hid (H10.out.on (Below.drew (Below.refl _ _)))
      have T0 := Lib.hid (Kd.R_drew I_10.out)
      clear H10 I_10
      generalize w10.drew = WT at *
      refine take_ (i := 0) (N := some 118) (v := ?_) (a' := ?_) #[true, false, false, false, false, false, false, false] rfl rfl (by kernel_rfl) (fun _ _ _ h => h) (Or.inl ⟨by rfl, ?_⟩) (by assumption) ?_ ?_
      rotate_left
      · intro w' hSw
        try dsimp only at hSw
        go_simp
        with_reducible rfl
      rotate_left
      · simp only [Act.put, List.setIfInBounds_toArray, List.set_cons_zero, List.set_cons_succ, i64_w, i32_w]
        rfl
      refine pure_ (i := 1) (N := some 119) (v := ?_) (a' := ?_) #[true, true, false, false, false, false, false, false] rfl rfl (by kernel_rfl) (fun _ _ _ h => h) (Or.inl ⟨by rfl, ?_⟩) ?_ ?_
      rotate_left
      · intro w'
        go_simp
        with_reducible rfl
      rotate_left
      · simp only [Act.put, List.setIfInBounds_toArray, List.set_cons_zero, List.set_cons_succ, i64_w, i32_w]
        rfl
      refine pure_ (i := 2) (N := some 120) (v := ?_) (a' := ?_) #[true, true, true, false, false, false, false, false] rfl rfl (by kernel_rfl) (fun _ _ _ h => h) (Or.inl ⟨by rfl, ?_⟩) ?_ ?_
      rotate_left
      · intro w'
        go_simp
        with_reducible rfl
      rotate_left
      · simp only [Act.put, List.setIfInBounds_toArray, List.set_cons_zero, List.set_cons_succ, i64_w, i32_w]
        rfl
      refine pure_ (i := 3) (N := some 121) (v := ?_) (a' := ?_) #[true, true, true, true, false, false, false, false] rfl rfl (by kernel_rfl) (fun _ _ _ h => h) (Or.inl ⟨by rfl, ?_⟩) ?_ ?_
      rotate_left
      · intro w'
        go_simp
        with_reducible rfl
      rotate_left
      · simp only [Act.put, List.setIfInBounds_toArray, List.set_cons_zero, List.set_cons_succ, i64_w, i32_w]
        rfl
      refine take_ (i := 4) (N := some 122) (v := ?_) (a' := ?_) #[true, true, true, true, true, false, false, false] rfl rfl (by kernel_rfl) (fun _ _ _ h => h) (Or.inl ⟨by rfl, ?_⟩) (by assumption) ?_ ?_
      rotate_left
      · intro w' hSw
        try dsimp only at hSw
        go_simp
        with_reducible rfl
      rotate_left
      · simp only [Act.put, List.setIfInBounds_toArray, List.set_cons_zero, List.set_cons_succ, i64_w, i32_w]
        rfl
      refine pure_ (i := 5) (N := some 123) (v := ?_) (a' := ?_) #[true, true, true, true, true, true, false, false] rfl rfl (by kernel_rfl) (fun _ _ _ h => h) (Or.inl ⟨by rfl, ?_⟩) ?_ ?_
      rotate_left
      · intro w'
        go_simp
        with_reducible rfl
      rotate_left
      · simp only [Act.put, List.setIfInBounds_toArray, List.set_cons_zero, List.set_cons_succ, i64_w, i32_w]
        rfl
      have se0 : WT.cell? ⟨w.heap.size, 0, none⟩ = some (.int .i64 0) := (blk_cell HT.out.b2 0).trans rfl
      have sf0 : WT.frozen? ⟨w.heap.size, 0, none⟩ = false := blk_frozen HT.out.b2 0
      have se1 : WT.cell? ⟨w.heap.size, 1, none⟩ = some (.slice none 0 0) := (blk_cell HT.out.b2 1).trans rfl
      have sf1 : WT.frozen? ⟨w.heap.size, 1, none⟩ = false := blk_frozen HT.out.b2 1
      have se2 : WT.cell? ⟨w.heap.size, 2, none⟩ = some (.slice none 0 0) := (blk_cell HT.out.b2 2).trans rfl
      have sf2 : WT.frozen? ⟨w.heap.size, 2, none⟩ = false := blk_frozen HT.out.b2 2
      have se3 : WT.cell? ⟨w.heap.size, 3, none⟩ = some (.string ⟨#[]⟩) := (blk_cell HT.out.b2 3).trans rfl
      have sf3 : WT.frozen? ⟨w.heap.size, 3, none⟩ = false := blk_frozen HT.out.b2 3
      have se4 : WT.cell? ⟨w.heap.size, 4, none⟩ = some (.int .i64 0) := (blk_cell HT.out.b2 4).trans rfl
      have sf4 : WT.frozen? ⟨w.heap.size, 4, none⟩ = false := blk_frozen HT.out.b2 4
      have se5 : WT.cell? ⟨w.heap.size, 5, none⟩ = some (.slice none 0 0) := (blk_cell HT.out.b2 5).trans rfl
      have sf5 : WT.frozen? ⟨w.heap.size, 5, none⟩ = false := blk_frozen HT.out.b2 5
      have se6 : WT.cell? ⟨w.heap.size, 6, none⟩ = some (.int .i64 0) := (blk_cell HT.out.b2 6).trans rfl
      have sf6 : WT.frozen? ⟨w.heap.size, 6, none⟩ = false := blk_frozen HT.out.b2 6
      have se7 : WT.cell? ⟨w.heap.size, 7, none⟩ = some (.int .i64 0) := (blk_cell HT.out.b2 7).trans rfl
      have sf7 : WT.frozen? ⟨w.heap.size, 7, none⟩ = false := blk_frozen HT.out.b2 7
      have se8 : WT.cell? ⟨w.heap.size, 8, none⟩ = some (.int .i64 0) := (blk_cell HT.out.b2 8).trans rfl
      have sf8 : WT.frozen? ⟨w.heap.size, 8, none⟩ = false := blk_frozen HT.out.b2 8
      have se9 : WT.cell? ⟨w.heap.size, 9, none⟩ = some (.int .i64 0) := (blk_cell HT.out.b2 9).trans rfl
      have sf9 : WT.frozen? ⟨w.heap.size, 9, none⟩ = false := blk_frozen HT.out.b2 9
      have se10 : WT.cell? ⟨w.heap.size, 10, none⟩ = some (.int .i64 0) := (blk_cell HT.out.b2 10).trans rfl
      have sf10 : WT.frozen? ⟨w.heap.size, 10, none⟩ = false := blk_frozen HT.out.b2 10
      have se11 : WT.cell? ⟨w.heap.size, 11, none⟩ = some (.int .i64 0) := (blk_cell HT.out.b2 11).trans rfl
      have sf11 : WT.frozen? ⟨w.heap.size, 11, none⟩ = false := blk_frozen HT.out.b2 11
      have se12 : WT.cell? ⟨w.heap.size, 12, none⟩ = some (.int .i64 0) := (blk_cell HT.out.b2 12).trans rfl
      have sf12 : WT.frozen? ⟨w.heap.size, 12, none⟩ = false := blk_frozen HT.out.b2 12
      have se13 : WT.cell? ⟨w.heap.size, 13, none⟩ = some (.bool false) := (blk_cell HT.out.b2 13).trans rfl
      have sf13 : WT.frozen? ⟨w.heap.size, 13, none⟩ = false := blk_frozen HT.out.b2 13
      refine one_ (i := 6) (N := none) #[true, true, true, true, true, true, true, false] rfl rfl (by kernel_rfl) (by decide) (fun K hK => ?_)
      refine skip_ (w1 := ?_) (by rfl) rfl ?_ ?_
      rotate_left
      · go_simp
        rfl
      have hkE := keepS14 WT (w.heap.size) (.int .i64 4) (.slice (some ⟨N, 0, none⟩) 1 1) (.slice none 0 0) (.string r5) (.int .i64 0) (.slice none 0 0) (.int .i64 0) (.int .i64 0) (.int .i64 0) (.int .i64 0) (.int .i64 y2) (.int .i64 y3) (.int .i64 y4) (.bool ac)
      have hSE : (((((((((((((((WT.setCell ⟨w.heap.size, 0, none⟩ (.int .i64 4)).setCell ⟨w.heap.size, 1, none⟩ (.slice (some ⟨N, 0, none⟩) 1 1)).setCell ⟨w.heap.size, 2, none⟩ (.slice none 0 0)).setCell ⟨w.heap.size, 3, none⟩ (.string r5)).setCell ⟨w.heap.size, 4, none⟩ (.int .i64 0)).setCell ⟨w.heap.size, 5, none⟩ (.slice none 0 0)).setCell ⟨w.heap.size, 6, none⟩ (.int .i64 0)).setCell ⟨w.heap.size, 7, none⟩ (.int .i64 0)).setCell ⟨w.heap.size, 8, none⟩ (.int .i64 0)).setCell ⟨w.heap.size, 9, none⟩ (.int .i64 0)).setCell ⟨w.heap.size, 10, none⟩ (.int .i64 y2)).setCell ⟨w.heap.size, 11, none⟩ (.int .i64 y3)).setCell ⟨w.heap.size, 12, none⟩ (.int .i64 y4)).setCell ⟨w.heap.size, 13, none⟩ (.bool ac))).cell? ⟨w.heap.size + 1 + 1, 0, none⟩ = some (.int .i64 4) ∧ (((((((((((((((WT.setCell ⟨w.heap.size, 0, none⟩ (.int .i64 4)).setCell ⟨w.heap.size, 1, none⟩ (.slice (some ⟨N, 0, none⟩) 1 1)).setCell ⟨w.heap.size, 2, none⟩ (.slice none 0 0)).setCell ⟨w.heap.size, 3, none⟩ (.string r5)).setCell ⟨w.heap.size, 4, none⟩ (.int .i64 0)).setCell ⟨w.heap.size, 5, none⟩ (.slice none 0 0)).setCell ⟨w.heap.size, 6, none⟩ (.int .i64 0)).setCell ⟨w.heap.size, 7, none⟩ (.int .i64 0)).setCell ⟨w.heap.size, 8, none⟩ (.int .i64 0)).setCell ⟨w.heap.size, 9, none⟩ (.int .i64 0)).setCell ⟨w.heap.size, 10, none⟩ (.int .i64 y2)).setCell ⟨w.heap.size, 11, none⟩ (.int .i64 y3)).setCell ⟨w.heap.size, 12, none⟩ (.int .i64 y4)).setCell ⟨w.heap.size, 13, none⟩ (.bool ac))).cell? ⟨w.heap.size + 1 + 1, 1, none⟩ = some (.slice (some ⟨N, 0, none⟩) 1 1) ∧ (((((((((((((((WT.setCell ⟨w.heap.size, 0, none⟩ (.int .i64 4)).setCell ⟨w.heap.size, 1, none⟩ (.slice (some ⟨N, 0, none⟩) 1 1)).setCell ⟨w.heap.size, 2, none⟩ (.slice none 0 0)).setCell ⟨w.heap.size, 3, none⟩ (.string r5)).setCell ⟨w.heap.size, 4, none⟩ (.int .i64 0)).setCell ⟨w.heap.size, 5, none⟩ (.slice none 0 0)).setCell ⟨w.heap.size, 6, none⟩ (.int .i64 0)).setCell ⟨w.heap.size, 7, none⟩ (.int .i64 0)).setCell ⟨w.heap.size, 8, none⟩ (.int .i64 0)).setCell ⟨w.heap.size, 9, none⟩ (.int .i64 0)).setCell ⟨w.heap.size, 10, none⟩ (.int .i64 y2)).setCell ⟨w.heap.size, 11, none⟩ (.int .i64 y3)).setCell ⟨w.heap.size, 12, none⟩ (.int .i64 y4)).setCell ⟨w.heap.size, 13, none⟩ (.bool ac))).cell? ⟨w.heap.size + 1 + 1, 2, none⟩ = some (.slice none 0 0) ∧ (((((((((((((((WT.setCell ⟨w.heap.size, 0, none⟩ (.int .i64 4)).setCell ⟨w.heap.size, 1, none⟩ (.slice (some ⟨N, 0, none⟩) 1 1)).setCell ⟨w.heap.size, 2, none⟩ (.slice none 0 0)).setCell ⟨w.heap.size, 3, none⟩ (.string r5)).setCell ⟨w.heap.size, 4, none⟩ (.int .i64 0)).setCell ⟨w.heap.size, 5, none⟩ (.slice none 0 0)).setCell ⟨w.heap.size, 6, none⟩ (.int .i64 0)).setCell ⟨w.heap.size, 7, none⟩ (.int .i64 0)).setCell ⟨w.heap.size, 8, none⟩ (.int .i64 0)).setCell ⟨w.heap.size, 9, none⟩ (.int .i64 0)).setCell ⟨w.heap.size, 10, none⟩ (.int .i64 y2)).setCell ⟨w.heap.size, 11, none⟩ (.int .i64 y3)).setCell ⟨w.heap.size, 12, none⟩ (.int .i64 y4)).setCell ⟨w.heap.size, 13, none⟩ (.bool ac))).cell? ⟨w.heap.size + 1 + 1, 3, none⟩ = some (.string r5) ∧ (((((((((((((((WT.setCell ⟨w.heap.size, 0, none⟩ (.int .i64 4)).setCell ⟨w.heap.size, 1, none⟩ (.slice (some ⟨N, 0, none⟩) 1 1)).setCell ⟨w.heap.size, 2, none⟩ (.slice none 0 0)).setCell ⟨w.heap.size, 3, none⟩ (.string r5)).setCell ⟨w.heap.size, 4, none⟩ (.int .i64 0)).setCell ⟨w.heap.size, 5, none⟩ (.slice none 0 0)).setCell ⟨w.heap.size, 6, none⟩ (.int .i64 0)).setCell ⟨w.heap.size, 7, none⟩ (.int .i64 0)).setCell ⟨w.heap.size, 8, none⟩ (.int .i64 0)).setCell ⟨w.heap.size, 9, none⟩ (.int .i64 0)).setCell ⟨w.heap.size, 10, none⟩ (.int .i64 y2)).setCell ⟨w.heap.size, 11, none⟩ (.int .i64 y3)).setCell ⟨w.heap.size, 12, none⟩ (.int .i64 y4)).setCell ⟨w.heap.size, 13, none⟩ (.bool ac))).cell? ⟨w.heap.size + 1 + 1, 4, none⟩ = some (.int .i64 0) ∧ (((((((((((((((WT.setCell ⟨w.heap.size, 0, none⟩ (.int .i64 4)).setCell ⟨w.heap.size, 1, none⟩ (.slice (some ⟨N, 0, none⟩) 1 1)).setCell ⟨w.heap.size, 2, none⟩ (.slice none 0 0)).setCell ⟨w.heap.size, 3, none⟩ (.string r5)).setCell ⟨w.heap.size, 4, none⟩ (.int .i64 0)).setCell ⟨w.heap.size, 5, none⟩ (.slice none 0 0)).setCell ⟨w.heap.size, 6, none⟩ (.int .i64 0)).setCell ⟨w.heap.size, 7, none⟩ (.int .i64 0)).setCell ⟨w.heap.size, 8, none⟩ (.int .i64 0)).setCell ⟨w.heap.size, 9, none⟩ (.int .i64 0)).setCell ⟨w.heap.size, 10, none⟩ (.int .i64 y2)).setCell ⟨w.heap.size, 11, none⟩ (.int .i64 y3)).setCell ⟨w.heap.size, 12, none⟩ (.int .i64 y4)).setCell ⟨w.heap.size, 13, none⟩ (.bool ac))).cell? ⟨w.heap.size + 1 + 1, 5, none⟩ = some (.slice none 0 0) ∧ (((((((((((((((WT.setCell ⟨w.heap.size, 0, none⟩ (.int .i64 4)).setCell ⟨w.heap.size, 1, none⟩ (.slice (some ⟨N, 0, none⟩) 1 1)).setCell ⟨w.heap.size, 2, none⟩ (.slice none 0 0)).setCell ⟨w.heap.size, 3, none⟩ (.string r5)).setCell ⟨w.heap.size, 4, none⟩ (.int .i64 0)).setCell ⟨w.heap.size, 5, none⟩ (.slice none 0 0)).setCell ⟨w.heap.size, 6, none⟩ (.int .i64 0)).setCell ⟨w.heap.size, 7, none⟩ (.int .i64 0)).setCell ⟨w.heap.size, 8, none⟩ (.int .i64 0)).setCell ⟨w.heap.size, 9, none⟩ (.int .i64 0)).setCell ⟨w.heap.size, 10, none⟩ (.int .i64 y2)).setCell ⟨w.heap.size, 11, none⟩ (.int .i64 y3)).setCell ⟨w.heap.size, 12, none⟩ (.int .i64 y4)).setCell ⟨w.heap.size, 13, none⟩ (.bool ac))).cell? ⟨w.heap.size + 1 + 1, 6, none⟩ = some (.int .i64 0) ∧ (((((((((((((((WT.setCell ⟨w.heap.size, 0, none⟩ (.int .i64 4)).setCell ⟨w.heap.size, 1, none⟩ (.slice (some ⟨N, 0, none⟩) 1 1)).setCell ⟨w.heap.size, 2, none⟩ (.slice none 0 0)).setCell ⟨w.heap.size, 3, none⟩ (.string r5)).setCell ⟨w.heap.size, 4, none⟩ (.int .i64 0)).setCell ⟨w.heap.size, 5, none⟩ (.slice none 0 0)).setCell ⟨w.heap.size, 6, none⟩ (.int .i64 0)).setCell ⟨w.heap.size, 7, none⟩ (.int .i64 0)).setCell ⟨w.heap.size, 8, none⟩ (.int .i64 0)).setCell ⟨w.heap.size, 9, none⟩ (.int .i64 0)).setCell ⟨w.heap.size, 10, none⟩ (.int .i64 y2)).setCell ⟨w.heap.size, 11, none⟩ (.int .i64 y3)).setCell ⟨w.heap.size, 12, none⟩ (.int .i64 y4)).setCell ⟨w.heap.size, 13, none⟩ (.bool ac))).cell? ⟨w.heap.size + 1 + 1, 7, none⟩ = some (.int .i64 0) ∧ (((((((((((((((WT.setCell ⟨w.heap.size, 0, none⟩ (.int .i64 4)).setCell ⟨w.heap.size, 1, none⟩ (.slice (some ⟨N, 0, none⟩) 1 1)).setCell ⟨w.heap.size, 2, none⟩ (.slice none 0 0)).setCell ⟨w.heap.size, 3, none⟩ (.string r5)).setCell ⟨w.heap.size, 4, none⟩ (.int .i64 0)).setCell ⟨w.heap.size, 5, none⟩ (.slice none 0 0)).setCell ⟨w.heap.size, 6, none⟩ (.int .i64 0)).setCell ⟨w.heap.size, 7, none⟩ (.int .i64 0)).setCell ⟨w.heap.size, 8, none⟩ (.int .i64 0)).setCell ⟨w.heap.size, 9, none⟩ (.int .i64 0)).setCell ⟨w.heap.size, 10, none⟩ (.int .i64 y2)).setCell ⟨w.heap.size, 11, none⟩ (.int .i64 y3)).setCell ⟨w.heap.size, 12, none⟩ (.int .i64 y4)).setCell ⟨w.heap.size, 13, none⟩ (.bool ac))).cell? ⟨w.heap.size + 1 + 1, 8, none⟩ = some (.int .i64 0) ∧ (((((((((((((((WT.setCell ⟨w.heap.size, 0, none⟩ (.int .i64 4)).setCell ⟨w.heap.size, 1, none⟩ (.slice (some ⟨N, 0, none⟩) 1 1)).setCell ⟨w.heap.size, 2, none⟩ (.slice none 0 0)).setCell ⟨w.heap.size, 3, none⟩ (.string r5)).setCell ⟨w.heap.size, 4, none⟩ (.int .i64 0)).setCell ⟨w.heap.size, 5, none⟩ (.slice none 0 0)).setCell ⟨w.heap.size, 6, none⟩ (.int .i64 0)).setCell ⟨w.heap.size, 7, none⟩ (.int .i64 0)).setCell ⟨w.heap.size, 8, none⟩ (.int .i64 0)).setCell ⟨w.heap.size, 9, none⟩ (.int .i64 0)).setCell ⟨w.heap.size, 10, none⟩ (.int .i64 y2)).setCell ⟨w.heap.size, 11, none⟩ (.int .i64 y3)).setCell ⟨w.heap.size, 12, none⟩ (.int .i64 y4)).setCell ⟨w.heap.size, 13, none⟩ (.bool ac))).cell? ⟨w.heap.size + 1 + 1, 9, none⟩ = some (.int .i64 0) ∧ (((((((((((((((WT.setCell ⟨w.heap.size, 0, none⟩ (.int .i64 4)).setCell ⟨w.heap.size, 1, none⟩ (.slice (some ⟨N, 0, none⟩) 1 1)).setCell ⟨w.heap.size, 2, none⟩ (.slice none 0 0)).setCell ⟨w.heap.size, 3, none⟩ (.string r5)).setCell ⟨w.heap.size, 4, none⟩ (.int .i64 0)).setCell ⟨w.heap.size, 5, none⟩ (.slice none 0 0)).setCell ⟨w.heap.size, 6, none⟩ (.int .i64 0)).setCell ⟨w.heap.size, 7, none⟩ (.int .i64 0)).setCell ⟨w.heap.size, 8, none⟩ (.int .i64 0)).setCell ⟨w.heap.size, 9, none⟩ (.int .i64 0)).setCell ⟨w.heap.size, 10, none⟩ (.int .i64 y2)).setCell ⟨w.heap.size, 11, none⟩ (.int .i64 y3)).setCell ⟨w.heap.size, 12, none⟩ (.int .i64 y4)).setCell ⟨w.heap.size, 13, none⟩ (.bool ac))).cell? ⟨w.heap.size + 1 + 1, 10, none⟩ = some (.int .i64 y2) ∧ (((((((((((((((WT.setCell ⟨w.heap.size, 0, none⟩ (.int .i64 4)).setCell ⟨w.heap.size, 1, none⟩ (.slice (some ⟨N, 0, none⟩) 1 1)).setCell ⟨w.heap.size, 2, none⟩ (.slice none 0 0)).setCell ⟨w.heap.size, 3, none⟩ (.string r5)).setCell ⟨w.heap.size, 4, none⟩ (.int .i64 0)).setCell ⟨w.heap.size, 5, none⟩ (.slice none 0 0)).setCell ⟨w.heap.size, 6, none⟩ (.int .i64 0)).setCell ⟨w.heap.size, 7, none⟩ (.int .i64 0)).setCell ⟨w.heap.size, 8, none⟩ (.int .i64 0)).setCell ⟨w.heap.size, 9, none⟩ (.int .i64 0)).setCell ⟨w.heap.size, 10, none⟩ (.int .i64 y2)).setCell ⟨w.heap.size, 11, none⟩ (.int .i64 y3)).setCell ⟨w.heap.size, 12, none⟩ (.int .i64 y4)).setCell ⟨w.heap.size, 13, none⟩ (.bool ac))).cell? ⟨w.heap.size + 1 + 1, 11, none⟩ = some (.int .i64 y3) ∧ (((((((((((((((WT.setCell ⟨w.heap.size, 0, none⟩ (.int .i64 4)).setCell ⟨w.heap.size, 1, none⟩ (.slice (some ⟨N, 0, none⟩) 1 1)).setCell ⟨w.heap.size, 2, none⟩ (.slice none 0 0)).setCell ⟨w.heap.size, 3, none⟩ (.string r5)).setCell ⟨w.heap.size, 4, none⟩ (.int .i64 0)).setCell ⟨w.heap.size, 5, none⟩ (.slice none 0 0)).setCell ⟨w.heap.size, 6, none⟩ (.int .i64 0)).setCell ⟨w.heap.size, 7, none⟩ (.int .i64 0)).setCell ⟨w.heap.size, 8, none⟩ (.int .i64 0)).setCell ⟨w.heap.size, 9, none⟩ (.int .i64 0)).setCell ⟨w.heap.size, 10, none⟩ (.int .i64 y2)).setCell ⟨w.heap.size, 11, none⟩ (.int .i64 y3)).setCell ⟨w.heap.size, 12, none⟩ (.int .i64 y4)).setCell ⟨w.heap.size, 13, none⟩ (.bool ac))).cell? ⟨w.heap.size + 1 + 1, 12, none⟩ = some (.int .i64 y4) ∧ (((((((((((((((WT.setCell ⟨w.heap.size, 0, none⟩ (.int .i64 4)).setCell ⟨w.heap.size, 1, none⟩ (.slice (some ⟨N, 0, none⟩) 1 1)).setCell ⟨w.heap.size, 2, none⟩ (.slice none 0 0)).setCell ⟨w.heap.size, 3, none⟩ (.string r5)).setCell ⟨w.heap.size, 4, none⟩ (.int .i64 0)).setCell ⟨w.heap.size, 5, none⟩ (.slice none 0 0)).setCell ⟨w.heap.size, 6, none⟩ (.int .i64 0)).setCell ⟨w.heap.size, 7, none⟩ (.int .i64 0)).setCell ⟨w.heap.size, 8, none⟩ (.int .i64 0)).setCell ⟨w.heap.size, 9, none⟩ (.int .i64 0)).setCell ⟨w.heap.size, 10, none⟩ (.int .i64 y2)).setCell ⟨w.heap.size, 11, none⟩ (.int .i64 y3)).setCell ⟨w.heap.size, 12, none⟩ (.int .i64 y4)).setCell ⟨w.heap.size, 13, none⟩ (.bool ac))).cell? ⟨w.heap.size + 1 + 1, 13, none⟩ = some (.bool ac) ∧ (((((((((((((((WT.setCell ⟨w.heap.size, 0, none⟩ (.int .i64 4)).setCell ⟨w.heap.size, 1, none⟩ (.slice (some ⟨N, 0, none⟩) 1 1)).setCell ⟨w.heap.size, 2, none⟩ (.slice none 0 0)).setCell ⟨w.heap.size, 3, none⟩ (.string r5)).setCell ⟨w.heap.size, 4, none⟩ (.int .i64 0)).setCell ⟨w.heap.size, 5, none⟩ (.slice none 0 0)).setCell ⟨w.heap.size, 6, none⟩ (.int .i64 0)).setCell ⟨w.heap.size, 7, none⟩ (.int .i64 0)).setCell ⟨w.heap.size, 8, none⟩ (.int .i64 0)).setCell ⟨w.heap.size, 9, none⟩ (.int .i64 0)).setCell ⟨w.heap.size, 10, none⟩ (.int .i64 y2)).setCell ⟨w.heap.size, 11, none⟩ (.int .i64 y3)).setCell ⟨w.heap.size, 12, none⟩ (.int .i64 y4)).setCell ⟨w.heap.size, 13, none⟩ (.bool ac))).cell? ⟨w.heap.size + 1, 1, none⟩ = some (.bool b9) := ⟨(blk_cell (hkE.blk HT.out.b8 (by omega) (by simp)) 0).trans rfl, (blk_cell (hkE.blk HT.out.b8 (by omega) (by simp)) 1).trans rfl, (blk_cell (hkE.blk HT.out.b8 (by omega) (by simp)) 2).trans rfl, (blk_cell (hkE.blk HT.out.b8 (by omega) (by simp)) 3).trans rfl, (blk_cell (hkE.blk HT.out.b8 (by omega) (by simp)) 4).trans rfl, (blk_cell (hkE.blk HT.out.b8 (by omega) (by simp)) 5).trans rfl, (blk_cell (hkE.blk HT.out.b8 (by omega) (by simp)) 6).trans rfl, (blk_cell (hkE.blk HT.out.b8 (by omega) (by simp)) 7).trans rfl, (blk_cell (hkE.blk HT.out.b8 (by omega) (by simp)) 8).trans rfl, (blk_cell (hkE.blk HT.out.b8 (by omega) (by simp)) 9).trans rfl, (blk_cell (hkE.blk HT.out.b8 (by omega) (by simp)) 10).trans rfl, (blk_cell (hkE.blk HT.out.b8 (by omega) (by simp)) 11).trans rfl, (blk_cell (hkE.blk HT.out.b8 (by omega) (by simp)) 12).trans rfl, (blk_cell (hkE.blk HT.out.b8 (by omega) (by simp)) 13).trans rfl, (blk_cell (hkE.blk HT.out.rd.blk (by omega) (by simp)) 1).trans rfl⟩
      refine hK.out _ _ hSE (fun hHeld2 => ?_)
      clear hK K hSE hHeld
      refine pure_ (i := 7) (N := some 3) (v := ?_) (a' := ?_) #[true, true, true, true, true, true, true, true] rfl rfl (by kernel_rfl) (fun _ _ _ h => h) (Or.inl ⟨by rfl, ?_⟩) ?_ ?_
      rotate_left
      · intro w'
        go_simp
        with_reducible rfl
      rotate_left
      · simp only [Act.put, List.setIfInBounds_toArray, List.set_cons_zero, List.set_cons_succ, i64_w, i32_w]
        rfl
      refine done_ (by kernel_rfl) ?_
      have HF := Lib.hid (HT.out.fin (.int .i64 4) (.slice (some ⟨N, 0, none⟩) 1 1) (.slice none 0 0) (.string r5) (.int .i64 0) (.slice none 0 0) (.int .i64 0) (.int .i64 0) (.int .i64 0) (.int .i64 0) (.int .i64 y2) (.int .i64 y3) (.int .i64 y4) (.bool ac))
      have U0 := Lib.hid (R_put T0.out HT.out.b2 (by decide) hkE)
      clear hkE
      clear se0 sf0 se1 sf1 se2 sf2 se3 sf3 se4 sf4 se5 sf5 se6 sf6 se7 sf7 se8 sf8 se9 sf9 se10 sf10 se11 sf11 se12 sf12 se13 sf13
      generalize ((((((((((((((WT.setCell ⟨w.heap.size, 0, none⟩ (.int .i64 4)).setCell ⟨w.heap.size, 1, none⟩ (.slice (some ⟨N, 0, none⟩) 1 1)).setCell ⟨w.heap.size, 2, none⟩ (.slice none 0 0)).setCell ⟨w.heap.size, 3, none⟩ (.string r5)).setCell ⟨w.heap.size, 4, none⟩ (.int .i64 0)).setCell ⟨w.heap.size, 5, none⟩ (.slice none 0 0)).setCell ⟨w.heap.size, 6, none⟩ (.int .i64 0)).setCell ⟨w.heap.size, 7, none⟩ (.int .i64 0)).setCell ⟨w.heap.size, 8, none⟩ (.int .i64 0)).setCell ⟨w.heap.size, 9, none⟩ (.int .i64 0)).setCell ⟨w.heap.size, 10, none⟩ (.int .i64 y2)).setCell ⟨w.heap.size, 11, none⟩ (.int .i64 y3)).setCell ⟨w.heap.size, 12, none⟩ (.int .i64 y4)).setCell ⟨w.heap.size, 13, none⟩ (.bool ac)) = WF at *
      go_wp2_with fail
      exact bodyPost_ret (results_ct (p := 2) (u := 3) (ty := 63) rfl _ _ w.heap.size 63 _ (0, 0) _ rfl HF.out.b2 Tryz.underlying63 rfl (by kernel_rfl)) rfl (node_post (ok := fun k => k ≠ w.heap.size + 1) HF.out U0.out (Kd.R_nil _ _ _ _ _) (Kd.R_nil _ _ _ _ _) (by unfold grpV; rw [← HN1.out]; dsimp only; rw [← HN2.out]; dsimp only; rw [← HN3.out]; dsimp only; rw [← HN4.out]; dsimp only; exact grp_eq HR5.out HB5.out HAC.out HBV.out (.inr (.inr ⟨rfl, HA.out, HDZ.out⟩))))

theorem read_node (s : ByteArray) (hs : s.size ≤ 900000) (w : World) (hE : Env w) : Calls Tryz.prog 18 #[.string s] w (NodePost (readV s) w) := by
  unfold readV
  split
  · rename_i y; exact read_src s hs w hE y
  split
  · rename_i n0 y; exact read_each s hs w hE n0 y
  split
  · rename_i n0 n1 y; exact read_win s hs w hE n0 n1 y
  split
  · rename_i n0 n1 n2 y; exact read_grp s hs w hE n0 n1 n2 y
  split
  · rename_i n0 n1 n2 n3 y; exact read_flat s hs w hE n0 n1 n2 n3 y
  split
  · rename_i n0 n1 n2 n3 n4 y; exact read_sink s hs w hE n0 n1 n2 n3 n4 y
  · rename_i n0 n1 n2 n3 n4 n5; exact read_def s hs w hE n0 n1 n2 n3 n4 n5


end Go.Proofs.YtamfloegflejnaaGreatDoor
