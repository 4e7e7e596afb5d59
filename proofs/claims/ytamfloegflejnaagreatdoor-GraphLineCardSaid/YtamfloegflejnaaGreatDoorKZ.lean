/-
 graph's read of a line: the rest of the words.
-/
import Derived.Test.YtamfloegflejnaaGreatDoorH1
import Derived.Test.YtamfloegflejnaaGreatDoorKY
set_option linter.unusedVariables false
set_option linter.unusedSimpArgs false
set_option maxHeartbeats 1000000
set_option maxRecDepth 100000
namespace Go.Proofs.YtamfloegflejnaaGreatDoor
open Lib (hid)
open Go.RowKit Go.Proofs.YtamfloegflejnaaGreatDoorW.PrintWords Go.Proofs.YtamfloegflejnaaGreatDoorW.PrintLast Go.Proofs.YtamfloegflejnaaGreatDoorW.PrintMore PGraphLines
theorem read_win (s : ByteArray) (hs : s.size <= 900000) (w : World) (hE : Env w) (n0 : howL s ≠ [115, 111, 117, 114, 99, 101]) (n1 : howL s ≠ [101, 97, 99, 104]) (y : howL s = [119, 105, 110, 100, 111, 119]) :
  Calls Tryz.prog 18 #[.string s] w (NodePost (winV (tlS s) (!okS s)) w) := by
 obtain ⟨m, hm⟩ := hE.maxLen
 have HC := hid (Tryz.strings_Cut s ⟨#[32]⟩ m (w.alloc (.cells #[.int .i64 0, .slice none 0 0, .slice none 0 0, .string ⟨#[]⟩, .int .i64 0, .slice none 0 0, .int .i64 0, .int .i64 0, .int .i64 0, .int .i64 0, .int .i64 0, .int .i64 0, .int .i64 0, .bool false] 63)) (by omega) (cell_later (below_alloc (Below.refl _ _) _) hm))
 have HCS : Hid (cutS s = Lib.cut s.data.toList (⟨#[32]⟩ : ByteArray).data.toList) := rfl
 have HE := hid hE
 rw [<- HCS.out] at HC
 have c0 : ((hdS s).toList == [115, 111, 117, 114, 99, 101]) = false := by rw [beq_eq_false_iff_ne, ByteArray.toList_eq]; exact n0
 have c1 : ((hdS s).toList == [101, 97, 99, 104]) = false := by rw [beq_eq_false_iff_ne, ByteArray.toList_eq]; exact n1
 have cy : ((hdS s).toList == [119, 105, 110, 100, 111, 119]) = true := by rw [beq_iff_eq, ByteArray.toList_eq]; exact y
 have htl : (tlS s).size <= 900000 := by have := (cut_size s).2; unfold tlS; omega
 clear hm hE HCS n0 n1 y
 go_enter Tryz.func18, Tryz.ntmps18
 go_wp2_with fail
 refine HC.out.mono ?_
 rintro e wc ⟨rfl, nd, hwc⟩
 have hb1 : Below w.heap.size w wc := by rw [hwc]; exact pw_below_drewN (below_alloc (Below.refl _ _) _) nd
 have h21 : wc.heap[w.heap.size]? = some (.cells #[.int .i64 0, .slice none 0 0, .slice none 0 0, .string ⟨#[]⟩, .int .i64 0, .slice none 0 0, .int .i64 0, .int .i64 0, .int .i64 0, .int .i64 0, .int .i64 0, .int .i64 0, .int .i64 0, .bool false] 63 (0, 0)) := by rw [hwc]; exact blk_drewN (heap_alloc_new w _) nd
 have hsz : wc.heap.size = w.heap.size + 1 := by rw [hwc]; exact World.size_alloc w _
 have hws : (⟨(cutS s).1.toArray⟩ : ByteArray) = hdS s := rfl
 have hwt : (⟨(cutS s).2.1.toArray⟩ : ByteArray) = tlS s := rfl
 have hwo : (cutS s).2.2 = okS s := rfl
 rw [hws, hwt, hwo]
 clear hws hwt hwo hwc HC
 generalize tlS s = r0 at *
 generalize okS s = o0 at *
 generalize hdS s = wd at *
 have hg1 := blk_alloc (heap_alloc_new wc (.cells #[.string r0, .bool !o0] 96)) (.cells #[.int .i64 0, .slice none 0 0, .slice none 0 0, .string ⟨#[]⟩, .int .i64 0, .slice none 0 0, .int .i64 0, .int .i64 0, .int .i64 0, .int .i64 0, .int .i64 0, .int .i64 0, .int .i64 0, .bool false] 63)
 have h81 := heap_alloc_new (wc.alloc (.cells #[.string r0, .bool !o0] 96)) (.cells #[.int .i64 0, .slice none 0 0, .slice none 0 0, .string ⟨#[]⟩, .int .i64 0, .slice none 0 0, .int .i64 0, .int .i64 0, .int .i64 0, .int .i64 0, .int .i64 0, .int .i64 0, .int .i64 0, .bool false] 63)
 have h22 := blk_alloc (blk_alloc h21 (.cells #[.string r0, .bool !o0] 96)) (.cells #[.int .i64 0, .slice none 0 0, .slice none 0 0, .string ⟨#[]⟩, .int .i64 0, .slice none 0 0, .int .i64 0, .int .i64 0, .int .i64 0, .int .i64 0, .int .i64 0, .int .i64 0, .int .i64 0, .bool false] 63)
 have hb2 := below_alloc (below_alloc hb1 (.cells #[.string r0, .bool !o0] 96)) (.cells #[.int .i64 0, .slice none 0 0, .slice none 0 0, .string ⟨#[]⟩, .int .i64 0, .slice none 0 0, .int .i64 0, .int .i64 0, .int .i64 0, .int .i64 0, .int .i64 0, .int .i64 0, .int .i64 0, .bool false] 63)
 rw [World.size_alloc, hsz] at h81
 rw [hsz] at hg1
 have HS0 : Hid (RdStep w ((wc.alloc (.cells #[.string r0, .bool !o0] 96)).alloc (.cells #[.int .i64 0, .slice none 0 0, .slice none 0 0, .string ⟨#[]⟩, .int .i64 0, .slice none 0 0, .int .i64 0, .int .i64 0, .int .i64 0, .int .i64 0, .int .i64 0, .int .i64 0, .int .i64 0, .bool false] 63)) ((wc.alloc (.cells #[.string r0, .bool !o0] 96)).alloc (.cells #[.int .i64 0, .slice none 0 0, .slice none 0 0, .string ⟨#[]⟩, .int .i64 0, .slice none 0 0, .int .i64 0, .int .i64 0, .int .i64 0, .int .i64 0, .int .i64 0, .int .i64 0, .int .i64 0, .bool false] 63)) (w.heap.size + 1) r0 (!o0)) := RdStep.refl ⟨hg1, by omega, hb2⟩
 have HB8 := hid h81; have HB2 := hid h22
 clear hb1 h21 hg1 h81 h22 hb2
 go_wp2_with fail
 clear hsz
 generalize (wc.alloc (.cells #[.string r0, .bool !o0] 96)).alloc (.cells #[.int .i64 0, .slice none 0 0, .slice none 0 0, .string ⟨#[]⟩, .int .i64 0, .slice none 0 0, .int .i64 0, .int .i64 0, .int .i64 0, .int .i64 0, .int .i64 0, .int .i64 0, .int .i64 0, .bool false] 63) = W0 at *
 have H0 : Hid (RN w W0 r0 (!o0) #[.int .i64 0, .slice none 0 0, .slice none 0 0, .string ⟨#[]⟩, .int .i64 0, .slice none 0 0, .int .i64 0, .int .i64 0, .int .i64 0, .int .i64 0, .int .i64 0, .int .i64 0, .int .i64 0, .bool false]) := ⟨HS0.out.1, HB2.out, HB8.out⟩
 clear HS0 HB8 HB2
 have hg0 := blk_lt H0.out.b8
 obtain ⟨⟨y1, r1, b1⟩, hq⟩ : ∃ t : Int × ByteArray × Bool, t = numC 3 r0 (!o0) := ⟨_, rfl⟩
 obtain ⟨q1, q2, q3⟩ := numC_parts hq
 have HN1 := hid hq
 refine (one_cut w W0 (w.heap.size + 1) r0 _ HE.out H0.out.rd (by omega)).mono ?_
 rintro e w1 ⟨⟨N, rfl, hN, hNs⟩, s1⟩
 rw [q2, q3] at s1
 rw [q1] at hN
 have H1 := hid (H0.out.step s1)
 have I_1 : Hid ((Kd.int .i64).R 3 w1 w.heap.size (fun k => k ≠ w.heap.size + 1) (.slice (some ⟨N, 0, none⟩) 1 1) [y1]) := one_R hN (by omega) (by omega)
 have hz1 : r1.size <= 900000 := by have := (cut_size r0).2; rw [q2] at this; omega
 clear hN hNs s1 q1 q2 q3 hq H0
 go_wp2_with fail
 obtain ⟨⟨y2, r2, b2⟩, hq⟩ : ∃ t : Int × ByteArray × Bool, t = numC 7 r1 b1 := ⟨_, rfl⟩
 obtain ⟨q1, q2, q3⟩ := numC_parts hq
 have HN2 := hid hq
 refine (num_cut w w1 (w.heap.size + 1) r1 _ HE.out H1.out.rd (by omega)).mono ?_
 rintro e w2 ⟨rfl, s1⟩
 rw [q2, q3] at s1
 rw [q1]
 have H2 := hid (H1.out.step s1)
 have I_2 := hid (Kd.R_keep I_1.out s1.2 (fun _ h => h))
 have hz2 : r2.size <= 900000 := by have := (cut_size r1).2; rw [q2] at this; omega
 clear s1 q1 q2 q3 hq H1 I_1
 go_wp2_with fail
 obtain ⟨⟨y3, r3, b3⟩, hq⟩ : ∃ t : Int × ByteArray × Bool, t = numC 7 r2 b2 := ⟨_, rfl⟩
 obtain ⟨q1, q2, q3⟩ := numC_parts hq
 have HN3 := hid hq
 refine (num_cut w w2 (w.heap.size + 1) r2 _ HE.out H2.out.rd (by omega)).mono ?_
 rintro e w3 ⟨rfl, s1⟩
 rw [q2, q3] at s1
 rw [q1]
 have H3 := hid (H2.out.step s1)
 have I_3 := hid (Kd.R_keep I_2.out s1.2 (fun _ h => h))
 have hz3 : r3.size <= 900000 := by have := (cut_size r2).2; rw [q2] at this; omega
 clear s1 q1 q2 q3 hq H2 I_2
 go_wp2_with fail
 obtain ⟨⟨y4, r4, b4⟩, hq⟩ : ∃ t : Int × ByteArray × Bool, t = numC 7 r3 b3 := ⟨_, rfl⟩
 obtain ⟨q1, q2, q3⟩ := numC_parts hq
 have HN4 := hid hq
 refine (num_cut w w3 (w.heap.size + 1) r3 _ HE.out H3.out.rd (by omega)).mono ?_
 rintro e w4 ⟨rfl, s1⟩
 rw [q2, q3] at s1
 rw [q1]
 have H4 := hid (H3.out.step s1)
 have I_4 := hid (Kd.R_keep I_3.out s1.2 (fun _ h => h))
 have hz4 : r4.size <= 900000 := by have := (cut_size r3).2; rw [q2] at this; omega
 clear s1 q1 q2 q3 hq H3 I_3
 go_wp2_with fail
 obtain ⟨y5, hq⟩ : ∃ y, y = (numV r4 7).getD 0 := ⟨_, rfl⟩
 obtain ⟨b5, hq3⟩ : ∃ b, b = (b4 || (numV r4 7).isNone) := ⟨_, rfl⟩
 refine (num_last w w4 (w.heap.size + 1) r4 _ HE.out H4.out.rd (by omega)).mono ?_
 rintro e w5 ⟨rfl, s1⟩
 rw [<- hq3] at s1
 rw [<- hq]
 have HY5 := hid hq; have HBV := hid hq3
 have H5 := hid (H4.out.step s1)
 have I_5 := hid (Kd.R_keep I_4.out s1.2 (fun _ h => h))
 clear s1 hq hq3 H4 I_4
 obtain ⟨se0, se1, se2, se3, se4, se5, se6, se7, se8, se9, se10, se11, se12, se13⟩ := cl14 H5.out.b8
 obtain ⟨sf0, sf1, sf2, sf3, sf4, sf5, sf6, sf7, sf8, sf9, sf10, sf11, sf12, sf13⟩ := fz14 H5.out.b8
 go_wp2_with fail
 have H6 := hid (H5.out.put (.int .i64 3) (.slice (some ⟨N, 0, none⟩) 1 1) (.slice none 0 0) (.string ⟨#[]⟩) (.int .i64 0) (.slice none 0 0) (.int .i64 y2) (.int .i64 y3) (.int .i64 y4) (.int .i64 y5) (.int .i64 0) (.int .i64 0) (.int .i64 0) (.bool false))
 have I6 := hid (R_put I_5.out H5.out.b8 (by decide) (keepS14 w5 (w.heap.size + 1 + 1) (.int .i64 3) (.slice (some ⟨N, 0, none⟩) 1 1) (.slice none 0 0) (.string ⟨#[]⟩) (.int .i64 0) (.slice none 0 0) (.int .i64 y2) (.int .i64 y3) (.int .i64 y4) (.int .i64 y5) (.int .i64 0) (.int .i64 0) (.int .i64 0) (.bool false)))
 clear se0 sf0 se1 sf1 se2 sf2 se3 sf3 se4 sf4 se5 sf5 se6 sf6 se7 sf7 se8 sf8 se9 sf9 se10 sf10 se11 sf11 se12 sf12 se13 sf13
 generalize ((((((((((((((w5.setCell ⟨w.heap.size + 1 + 1, 0, none⟩ (.int .i64 3)).setCell ⟨w.heap.size + 1 + 1, 1, none⟩ (.slice (some ⟨N, 0, none⟩) 1 1)).setCell ⟨w.heap.size + 1 + 1, 2, none⟩ (.slice none 0 0)).setCell ⟨w.heap.size + 1 + 1, 3, none⟩ (.string ⟨#[]⟩)).setCell ⟨w.heap.size + 1 + 1, 4, none⟩ (.int .i64 0)).setCell ⟨w.heap.size + 1 + 1, 5, none⟩ (.slice none 0 0)).setCell ⟨w.heap.size + 1 + 1, 6, none⟩ (.int .i64 y2)).setCell ⟨w.heap.size + 1 + 1, 7, none⟩ (.int .i64 y3)).setCell ⟨w.heap.size + 1 + 1, 8, none⟩ (.int .i64 y4)).setCell ⟨w.heap.size + 1 + 1, 9, none⟩ (.int .i64 y5)).setCell ⟨w.heap.size + 1 + 1, 10, none⟩ (.int .i64 0)).setCell ⟨w.heap.size + 1 + 1, 11, none⟩ (.int .i64 0)).setCell ⟨w.heap.size + 1 + 1, 12, none⟩ (.int .i64 0)).setCell ⟨w.heap.size + 1 + 1, 13, none⟩ (.bool false)) = w6 at *
 clear H5 I_5
 refine start_ (n := 8) (S := Held8 w (.int .i64 3) (.slice (some ⟨N, 0, none⟩) 1 1) (.slice none 0 0) (.string ⟨#[]⟩) (.int .i64 0) (.slice none 0 0) (.int .i64 y2) (.int .i64 y3) (.int .i64 y4) (.int .i64 y5) (.int .i64 0) (.int .i64 0) (.int .i64 0) (.bool false) b5) (ds := []) (bts 8 0) (by kernel_rfl) rfl rfl (H6.out.on (Below.drew (Below.refl _ _))).held (fun hHeld => ?_)
 have HT := hid (H6.out.on (Below.drew (Below.refl _ _)))
 have T0 := hid (Kd.R_drew I6.out)
 clear H6 I6
 generalize w6.drew = WT at *
 refine take_ (i := 0) (N := some 118) (bts 8 1) rfl rfl (by kernel_rfl) (fun _ _ _ h => h) (Or.inl ⟨by rfl, by intro w' hSw; unfold Held8 at hSw; go_simp; with_reducible rfl⟩) (by assumption) (by simp only [Act.put, pq1, pq2, pq3, i64_w, i32_w]; rfl) ?_
 refine pure_ (i := 1) (N := some 119) (bts 8 3) rfl rfl (by kernel_rfl) (fun _ _ _ h => h) (Or.inl ⟨by rfl, by intro w'; go_simp; with_reducible rfl⟩) (by simp only [Act.put, pq1, pq2, pq3, i64_w, i32_w]; rfl) ?_
 refine pure_ (i := 2) (N := some 120) (bts 8 7) rfl rfl (by kernel_rfl) (fun _ _ _ h => h) (Or.inl ⟨by rfl, by intro w'; go_simp; with_reducible rfl⟩) (by simp only [Act.put, pq1, pq2, pq3, i64_w, i32_w]; rfl) ?_
 refine pure_ (i := 3) (N := some 121) (bts 8 15) rfl rfl (by kernel_rfl) (fun _ _ _ h => h) (Or.inl ⟨by rfl, by intro w'; go_simp; with_reducible rfl⟩) (by simp only [Act.put, pq1, pq2, pq3, i64_w, i32_w]; rfl) ?_
 refine take_ (i := 4) (N := some 122) (bts 8 31) rfl rfl (by kernel_rfl) (fun _ _ _ h => h) (Or.inl ⟨by rfl, by intro w' hSw; unfold Held8 at hSw; go_simp; with_reducible rfl⟩) (by assumption) (by simp only [Act.put, pq1, pq2, pq3, i64_w, i32_w]; rfl) ?_
 refine pure_ (i := 5) (N := some 123) (bts 8 63) rfl rfl (by kernel_rfl) (fun _ _ _ h => h) (Or.inl ⟨by rfl, by intro w'; go_simp; with_reducible rfl⟩) (by simp only [Act.put, pq1, pq2, pq3, i64_w, i32_w]; rfl) ?_
 obtain ⟨se0, se1, se2, se3, se4, se5, se6, se7, se8, se9, se10, se11, se12, se13⟩ := cl14 HT.out.b2
 obtain ⟨sf0, sf1, sf2, sf3, sf4, sf5, sf6, sf7, sf8, sf9, sf10, sf11, sf12, sf13⟩ := fz14 HT.out.b2
 refine one_ (i := 6) (N := none) (bts 8 127) rfl rfl (by kernel_rfl) (by decide) (fun K hK => ?_)
 refine skip_ (w1 := ?_) (by rfl) rfl ?_ ?_
 rotate_left
 ·go_simp
  rfl
 have hkE := keepS14 WT (w.heap.size) (.int .i64 3) (.slice (some ⟨N, 0, none⟩) 1 1) (.slice none 0 0) (.string ⟨#[]⟩) (.int .i64 0) (.slice none 0 0) (.int .i64 y2) (.int .i64 y3) (.int .i64 y4) (.int .i64 y5) (.int .i64 0) (.int .i64 0) (.int .i64 0) (.bool false)
 refine hK.out _ _ (HT.out.heldS hkE) (fun hHeld2 => ?_)
 clear hK K hHeld
 refine pure_ (i := 7) (N := some 3) (bts 8 255) rfl rfl (by kernel_rfl) (fun _ _ _ h => h) (Or.inl ⟨by rfl, by intro w'; go_simp; with_reducible rfl⟩) (by simp only [Act.put, pq1, pq2, pq3, i64_w, i32_w]; rfl) ?_
 refine done_ (by kernel_rfl) ?_
 have HF := hid (HT.out.fin (.int .i64 3) (.slice (some ⟨N, 0, none⟩) 1 1) (.slice none 0 0) (.string ⟨#[]⟩) (.int .i64 0) (.slice none 0 0) (.int .i64 y2) (.int .i64 y3) (.int .i64 y4) (.int .i64 y5) (.int .i64 0) (.int .i64 0) (.int .i64 0) (.bool false))
 have U0 := hid (R_put T0.out HT.out.b2 (by decide) hkE)
 clear hkE
 clear se0 sf0 se1 sf1 se2 sf2 se3 sf3 se4 sf4 se5 sf5 se6 sf6 se7 sf7 se8 sf8 se9 sf9 se10 sf10 se11 sf11 se12 sf12 se13 sf13
 go_wp2_with fail
 exact bodyPost_ret (results_ct (p := 2) (u := 3) (ty := 63) rfl _ _ w.heap.size 63 _ (0, 0) _ rfl HF.out.b2 Tryz.underlying63 rfl (by kernel_rfl)) rfl (node_post (ok := fun k => k ≠ w.heap.size + 1) HF.out U0.out (Kd.R_nil _ _ _ _ _) (Kd.R_nil _ _ _ _ _) (by unfold winV; rw [<- HN1.out]; dsimp only; rw [<- HN2.out]; dsimp only; rw [<- HN3.out]; dsimp only; rw [<- HN4.out]; dsimp only; rw [HBV.out, HY5.out]; rfl))
theorem read_grp (s : ByteArray) (hs : s.size <= 900000) (w : World) (hE : Env w) (n0 : howL s ≠ [115, 111, 117, 114, 99, 101]) (n1 : howL s ≠ [101, 97, 99, 104]) (n2 : howL s ≠ [119, 105, 110, 100, 111, 119]) (y : howL s = [103, 114, 111, 117, 112]) :
  Calls Tryz.prog 18 #[.string s] w (NodePost (grpV (tlS s) (!okS s)) w) := by
 obtain ⟨m, hm⟩ := hE.maxLen
 have HC := hid (Tryz.strings_Cut s ⟨#[32]⟩ m (w.alloc (.cells #[.int .i64 0, .slice none 0 0, .slice none 0 0, .string ⟨#[]⟩, .int .i64 0, .slice none 0 0, .int .i64 0, .int .i64 0, .int .i64 0, .int .i64 0, .int .i64 0, .int .i64 0, .int .i64 0, .bool false] 63)) (by omega) (cell_later (below_alloc (Below.refl _ _) _) hm))
 have HCS : Hid (cutS s = Lib.cut s.data.toList (⟨#[32]⟩ : ByteArray).data.toList) := rfl
 have HE := hid hE
 rw [<- HCS.out] at HC
 have c0 : ((hdS s).toList == [115, 111, 117, 114, 99, 101]) = false := by rw [beq_eq_false_iff_ne, ByteArray.toList_eq]; exact n0
 have c1 : ((hdS s).toList == [101, 97, 99, 104]) = false := by rw [beq_eq_false_iff_ne, ByteArray.toList_eq]; exact n1
 have c2 : ((hdS s).toList == [119, 105, 110, 100, 111, 119]) = false := by rw [beq_eq_false_iff_ne, ByteArray.toList_eq]; exact n2
 have cy : ((hdS s).toList == [103, 114, 111, 117, 112]) = true := by rw [beq_iff_eq, ByteArray.toList_eq]; exact y
 have htl : (tlS s).size <= 900000 := by have := (cut_size s).2; unfold tlS; omega
 clear hm hE HCS n0 n1 n2 y
 go_enter Tryz.func18, Tryz.ntmps18
 go_wp2_with fail
 refine HC.out.mono ?_
 rintro e wc ⟨rfl, nd, hwc⟩
 have hb1 : Below w.heap.size w wc := by rw [hwc]; exact pw_below_drewN (below_alloc (Below.refl _ _) _) nd
 have h21 : wc.heap[w.heap.size]? = some (.cells #[.int .i64 0, .slice none 0 0, .slice none 0 0, .string ⟨#[]⟩, .int .i64 0, .slice none 0 0, .int .i64 0, .int .i64 0, .int .i64 0, .int .i64 0, .int .i64 0, .int .i64 0, .int .i64 0, .bool false] 63 (0, 0)) := by rw [hwc]; exact blk_drewN (heap_alloc_new w _) nd
 have hsz : wc.heap.size = w.heap.size + 1 := by rw [hwc]; exact World.size_alloc w _
 have hws : (⟨(cutS s).1.toArray⟩ : ByteArray) = hdS s := rfl
 have hwt : (⟨(cutS s).2.1.toArray⟩ : ByteArray) = tlS s := rfl
 have hwo : (cutS s).2.2 = okS s := rfl
 rw [hws, hwt, hwo]
 clear hws hwt hwo hwc HC
 generalize tlS s = r0 at *
 generalize okS s = o0 at *
 generalize hdS s = wd at *
 have hg1 := blk_alloc (heap_alloc_new wc (.cells #[.string r0, .bool !o0] 96)) (.cells #[.int .i64 0, .slice none 0 0, .slice none 0 0, .string ⟨#[]⟩, .int .i64 0, .slice none 0 0, .int .i64 0, .int .i64 0, .int .i64 0, .int .i64 0, .int .i64 0, .int .i64 0, .int .i64 0, .bool false] 63)
 have h81 := heap_alloc_new (wc.alloc (.cells #[.string r0, .bool !o0] 96)) (.cells #[.int .i64 0, .slice none 0 0, .slice none 0 0, .string ⟨#[]⟩, .int .i64 0, .slice none 0 0, .int .i64 0, .int .i64 0, .int .i64 0, .int .i64 0, .int .i64 0, .int .i64 0, .int .i64 0, .bool false] 63)
 have h22 := blk_alloc (blk_alloc h21 (.cells #[.string r0, .bool !o0] 96)) (.cells #[.int .i64 0, .slice none 0 0, .slice none 0 0, .string ⟨#[]⟩, .int .i64 0, .slice none 0 0, .int .i64 0, .int .i64 0, .int .i64 0, .int .i64 0, .int .i64 0, .int .i64 0, .int .i64 0, .bool false] 63)
 have hb2 := below_alloc (below_alloc hb1 (.cells #[.string r0, .bool !o0] 96)) (.cells #[.int .i64 0, .slice none 0 0, .slice none 0 0, .string ⟨#[]⟩, .int .i64 0, .slice none 0 0, .int .i64 0, .int .i64 0, .int .i64 0, .int .i64 0, .int .i64 0, .int .i64 0, .int .i64 0, .bool false] 63)
 rw [World.size_alloc, hsz] at h81
 rw [hsz] at hg1
 have HS0 : Hid (RdStep w ((wc.alloc (.cells #[.string r0, .bool !o0] 96)).alloc (.cells #[.int .i64 0, .slice none 0 0, .slice none 0 0, .string ⟨#[]⟩, .int .i64 0, .slice none 0 0, .int .i64 0, .int .i64 0, .int .i64 0, .int .i64 0, .int .i64 0, .int .i64 0, .int .i64 0, .bool false] 63)) ((wc.alloc (.cells #[.string r0, .bool !o0] 96)).alloc (.cells #[.int .i64 0, .slice none 0 0, .slice none 0 0, .string ⟨#[]⟩, .int .i64 0, .slice none 0 0, .int .i64 0, .int .i64 0, .int .i64 0, .int .i64 0, .int .i64 0, .int .i64 0, .int .i64 0, .bool false] 63)) (w.heap.size + 1) r0 (!o0)) := RdStep.refl ⟨hg1, by omega, hb2⟩
 have HB8 := hid h81; have HB2 := hid h22
 clear hb1 h21 hg1 h81 h22 hb2
 go_wp2_with fail
 clear hsz
 generalize (wc.alloc (.cells #[.string r0, .bool !o0] 96)).alloc (.cells #[.int .i64 0, .slice none 0 0, .slice none 0 0, .string ⟨#[]⟩, .int .i64 0, .slice none 0 0, .int .i64 0, .int .i64 0, .int .i64 0, .int .i64 0, .int .i64 0, .int .i64 0, .int .i64 0, .bool false] 63) = W0 at *
 have H0 : Hid (RN w W0 r0 (!o0) #[.int .i64 0, .slice none 0 0, .slice none 0 0, .string ⟨#[]⟩, .int .i64 0, .slice none 0 0, .int .i64 0, .int .i64 0, .int .i64 0, .int .i64 0, .int .i64 0, .int .i64 0, .int .i64 0, .bool false]) := ⟨HS0.out.1, HB2.out, HB8.out⟩
 clear HS0 HB8 HB2
 have hg0 := blk_lt H0.out.b8
 obtain ⟨⟨y1, r1, b1⟩, hq⟩ : ∃ t : Int × ByteArray × Bool, t = numC 3 r0 (!o0) := ⟨_, rfl⟩
 obtain ⟨q1, q2, q3⟩ := numC_parts hq
 have HN1 := hid hq
 refine (one_cut w W0 (w.heap.size + 1) r0 _ HE.out H0.out.rd (by omega)).mono ?_
 rintro e w1 ⟨⟨N, rfl, hN, hNs⟩, s1⟩
 rw [q2, q3] at s1
 rw [q1] at hN
 have H1 := hid (H0.out.step s1)
 have I_1 : Hid ((Kd.int .i64).R 3 w1 w.heap.size (fun k => k ≠ w.heap.size + 1) (.slice (some ⟨N, 0, none⟩) 1 1) [y1]) := one_R hN (by omega) (by omega)
 have hz1 : r1.size <= 900000 := by have := (cut_size r0).2; rw [q2] at this; omega
 clear hN hNs s1 q1 q2 q3 hq H0
 go_wp2_with fail
 obtain ⟨⟨y2, r2, b2⟩, hq⟩ : ∃ t : Int × ByteArray × Bool, t = numC 7 r1 b1 := ⟨_, rfl⟩
 obtain ⟨q1, q2, q3⟩ := numC_parts hq
 have HN2 := hid hq
 refine (num_cut w w1 (w.heap.size + 1) r1 _ HE.out H1.out.rd (by omega)).mono ?_
 rintro e w2 ⟨rfl, s1⟩
 rw [q2, q3] at s1
 rw [q1]
 have H2 := hid (H1.out.step s1)
 have I_2 := hid (Kd.R_keep I_1.out s1.2 (fun _ h => h))
 have hz2 : r2.size <= 900000 := by have := (cut_size r1).2; rw [q2] at this; omega
 clear s1 q1 q2 q3 hq H1 I_1
 go_wp2_with fail
 obtain ⟨⟨y3, r3, b3⟩, hq⟩ : ∃ t : Int × ByteArray × Bool, t = numC 7 r2 b2 := ⟨_, rfl⟩
 obtain ⟨q1, q2, q3⟩ := numC_parts hq
 have HN3 := hid hq
 refine (num_cut w w2 (w.heap.size + 1) r2 _ HE.out H2.out.rd (by omega)).mono ?_
 rintro e w3 ⟨rfl, s1⟩
 rw [q2, q3] at s1
 rw [q1]
 have H3 := hid (H2.out.step s1)
 have I_3 := hid (Kd.R_keep I_2.out s1.2 (fun _ h => h))
 have hz3 : r3.size <= 900000 := by have := (cut_size r2).2; rw [q2] at this; omega
 clear s1 q1 q2 q3 hq H2 I_2
 go_wp2_with fail
 obtain ⟨⟨y4, r4, b4⟩, hq⟩ : ∃ t : Int × ByteArray × Bool, t = numC 7 r3 b3 := ⟨_, rfl⟩
 obtain ⟨q1, q2, q3⟩ := numC_parts hq
 have HN4 := hid hq
 refine (num_cut w w3 (w.heap.size + 1) r3 _ HE.out H3.out.rd (by omega)).mono ?_
 rintro e w4 ⟨rfl, s1⟩
 rw [q2, q3] at s1
 rw [q1]
 have H4 := hid (H3.out.step s1)
 have I_4 := hid (Kd.R_keep I_3.out s1.2 (fun _ h => h))
 have hz4 : r4.size <= 900000 := by have := (cut_size r3).2; rw [q2] at this; omega
 clear s1 q1 q2 q3 hq H3 I_3
 obtain ⟨se0, se1, se2, se3, se4, se5, se6, se7, se8, se9, se10, se11, se12, se13⟩ := cl14 H4.out.b8
 obtain ⟨sf0, sf1, sf2, sf3, sf4, sf5, sf6, sf7, sf8, sf9, sf10, sf11, sf12, sf13⟩ := fz14 H4.out.b8
 go_upto_region 16 with fail
 have H5 := hid (H4.out.put (.int .i64 4) (.slice (some ⟨N, 0, none⟩) 1 1) (.slice none 0 0) (.string ⟨#[]⟩) (.int .i64 0) (.slice none 0 0) (.int .i64 0) (.int .i64 0) (.int .i64 0) (.int .i64 0) (.int .i64 y2) (.int .i64 y3) (.int .i64 y4) (.bool false))
 have I_5 := hid (R_put I_4.out H4.out.b8 (by decide) (keepS14 w4 (w.heap.size + 1 + 1) (.int .i64 4) (.slice (some ⟨N, 0, none⟩) 1 1) (.slice none 0 0) (.string ⟨#[]⟩) (.int .i64 0) (.slice none 0 0) (.int .i64 0) (.int .i64 0) (.int .i64 0) (.int .i64 0) (.int .i64 y2) (.int .i64 y3) (.int .i64 y4) (.bool false)))
 clear se0 sf0 se1 sf1 se2 sf2 se3 sf3 se4 sf4 se5 sf5 se6 sf6 se7 sf7 se8 sf8 se9 sf9 se10 sf10 se11 sf11 se12 sf12 se13 sf13
 generalize ((((((((((((((w4.setCell ⟨w.heap.size + 1 + 1, 0, none⟩ (.int .i64 4)).setCell ⟨w.heap.size + 1 + 1, 1, none⟩ (.slice (some ⟨N, 0, none⟩) 1 1)).setCell ⟨w.heap.size + 1 + 1, 2, none⟩ (.slice none 0 0)).setCell ⟨w.heap.size + 1 + 1, 3, none⟩ (.string ⟨#[]⟩)).setCell ⟨w.heap.size + 1 + 1, 4, none⟩ (.int .i64 0)).setCell ⟨w.heap.size + 1 + 1, 5, none⟩ (.slice none 0 0)).setCell ⟨w.heap.size + 1 + 1, 6, none⟩ (.int .i64 0)).setCell ⟨w.heap.size + 1 + 1, 7, none⟩ (.int .i64 0)).setCell ⟨w.heap.size + 1 + 1, 8, none⟩ (.int .i64 0)).setCell ⟨w.heap.size + 1 + 1, 9, none⟩ (.int .i64 0)).setCell ⟨w.heap.size + 1 + 1, 10, none⟩ (.int .i64 y2)).setCell ⟨w.heap.size + 1 + 1, 11, none⟩ (.int .i64 y3)).setCell ⟨w.heap.size + 1 + 1, 12, none⟩ (.int .i64 y4)).setCell ⟨w.heap.size + 1 + 1, 13, none⟩ (.bool false)) = w5 at *
 clear H4 I_4
 obtain ⟨r5, hr5⟩ : ∃ r : ByteArray, r = ⟨(cutS r4).2.1.toArray⟩ := ⟨_, rfl⟩
 obtain ⟨b5, hb5⟩ : ∃ b, b = (b4 || !(cutS r4).2.2) := ⟨_, rfl⟩
 have hz5 : r5.size <= 900000 := by have := (cut_size r4).2; rw [hr5]; omega
 go_wp2_with fail
 refine (part_cut w w5 (w.heap.size + 1) r4 _ HE.out H5.out.rd (by omega)).mono ?_
 rintro e w6 ⟨rfl, s1⟩
 rw [<- hr5, <- hb5] at s1
 have H6 := hid (H5.out.step s1)
 have I_6 := hid (Kd.R_keep I_5.out s1.2 (fun _ h => h))
 obtain ⟨hw, hhw⟩ : ∃ h : ByteArray, h = ⟨(cutS r4).1.toArray⟩ := ⟨_, rfl⟩
 rw [<- hhw]
 have hwl : hw.toList = howL r4 := by rw [hhw, ByteArray.toList_eq]; rfl
 have HR5 : Hid (r5 = tlS r4) := hr5
 have HB5 : Hid (b5 = (b4 || !okS r4)) := hb5
 have HWL := hid hwl
 clear hr5 hb5 s1 H5 I_5 hhw hwl
 obtain ⟨se0, se1, se2, se3, se4, se5, se6, se7, se8, se9, se10, se11, se12, se13⟩ := cl14 H6.out.b8
 obtain ⟨sf0, sf1, sf2, sf3, sf4, sf5, sf6, sf7, sf8, sf9, sf10, sf11, sf12, sf13⟩ := fz14 H6.out.b8
 go_upto_region 18 with fail
 obtain ⟨ac, hac⟩ : ∃ ac, ac = (hw.toList == [97, 99, 99]) := ⟨_, rfl⟩
 have HAC : Hid (ac = (howL r4 == [97, 99, 99])) := by rw [hac, HWL.out]; exact hid rfl
 rw [<- hac]
 have H7 : Hid (RN w (w6.setCell ⟨w.heap.size + 1 + 1, 13, none⟩ (.bool ac)) r5 b5 #[.int .i64 4, .slice (some ⟨N, 0, none⟩) 1 1, .slice none 0 0, .string ⟨#[]⟩, .int .i64 0, .slice none 0 0, .int .i64 0, .int .i64 0, .int .i64 0, .int .i64 0, .int .i64 y2, .int .i64 y3, .int .i64 y4, .bool ac]) := by
  have := H6.out.set8 13 (.bool ac)
  simpa [Hid] using this
 have I_7 := hid (R_put I_6.out H6.out.b8 (by decide) ((KeepBut.refl w6 (w.heap.size + 1 + 1) none).set_ 13 (.bool ac)))
 clear H6 I_6
 clear se0 sf0 se1 sf1 se2 sf2 se3 sf3 se4 sf4 se5 sf5 se6 sf6 se7 sf7 se8 sf8 se9 sf9 se10 sf10 se11 sf11 se12 sf12 se13 sf13
 generalize w6.setCell ⟨w.heap.size + 1 + 1, 13, none⟩ (.bool ac) = w7 at *
 have d1 : w7.cell? ⟨w.heap.size + 1, 1, none⟩ = some (.bool b5) := (blk_cell H7.out.rd.blk 1).trans rfl
 have f1 : w7.frozen? ⟨w.heap.size + 1, 1, none⟩ = false := blk_frozen H7.out.rd.blk 1
 clear hac
 cases b5 with
 | true =>
  go_upto_region 19 with fail
  have H8 := hid (H7.out.bad true)
  have I_8 := hid (Kd.R_far I_7.out (p := ⟨w.heap.size + 1, 1, none⟩) (fun _ h => h) (.bool true))
  clear H7 I_7 d1 f1
  generalize w7.setCell ⟨w.heap.size + 1, 1, none⟩ (.bool true) = w8 at *
  go_wp2_with fail
  obtain ⟨b9, hq3⟩ : ∃ b, b = (true || !textB r5) := ⟨_, rfl⟩
  refine (rd_text w w8 (w.heap.size + 1) r5 _ H8.out.rd (by omega)).mono ?_
  rintro e w9 ⟨rfl, s1⟩
  rw [<- hq3] at s1
  have HBV := hid hq3
  have H9 := hid (H8.out.step s1)
  have I_9 := hid (Kd.R_keep I_8.out s1.2 (fun _ h => h))
  clear s1 hq3 H8 I_8
  obtain ⟨se0, se1, se2, se3, se4, se5, se6, se7, se8, se9, se10, se11, se12, se13⟩ := cl14 H9.out.b8
  obtain ⟨sf0, sf1, sf2, sf3, sf4, sf5, sf6, sf7, sf8, sf9, sf10, sf11, sf12, sf13⟩ := fz14 H9.out.b8
  go_wp2_with fail
  have H10 : Hid (RN w (w9.setCell ⟨w.heap.size + 1 + 1, 3, none⟩ (.string r5)) r5 b9 #[.int .i64 4, .slice (some ⟨N, 0, none⟩) 1 1, .slice none 0 0, .string r5, .int .i64 0, .slice none 0 0, .int .i64 0, .int .i64 0, .int .i64 0, .int .i64 0, .int .i64 y2, .int .i64 y3, .int .i64 y4, .bool ac]) := by
   have := H9.out.set8 3 (.string r5)
   simpa [Hid] using this
  have I_10 := hid (R_put I_9.out H9.out.b8 (by decide) ((KeepBut.refl w9 (w.heap.size + 1 + 1) none).set_ 3 (.string r5)))
  clear H9 I_9
  clear se0 sf0 se1 sf1 se2 sf2 se3 sf3 se4 sf4 se5 sf5 se6 sf6 se7 sf7 se8 sf8 se9 sf9 se10 sf10 se11 sf11 se12 sf12 se13 sf13
  generalize w9.setCell ⟨w.heap.size + 1 + 1, 3, none⟩ (.string r5) = w10 at *
  refine start_ (n := 8) (S := Held8 w (.int .i64 4) (.slice (some ⟨N, 0, none⟩) 1 1) (.slice none 0 0) (.string r5) (.int .i64 0) (.slice none 0 0) (.int .i64 0) (.int .i64 0) (.int .i64 0) (.int .i64 0) (.int .i64 y2) (.int .i64 y3) (.int .i64 y4) (.bool ac) b9) (ds := []) (bts 8 0) (by kernel_rfl) rfl rfl (H10.out.on (Below.drew (Below.refl _ _))).held (fun hHeld => ?_)
  have HT := hid (H10.out.on (Below.drew (Below.refl _ _)))
  have T0 := hid (Kd.R_drew I_10.out)
  clear H10 I_10
  generalize w10.drew = WT at *
  refine take_ (i := 0) (N := some 118) (bts 8 1) rfl rfl (by kernel_rfl) (fun _ _ _ h => h) (Or.inl ⟨by rfl, by intro w' hSw; unfold Held8 at hSw; go_simp; with_reducible rfl⟩) (by assumption) (by simp only [Act.put, pq1, pq2, pq3, i64_w, i32_w]; rfl) ?_
  refine pure_ (i := 1) (N := some 119) (bts 8 3) rfl rfl (by kernel_rfl) (fun _ _ _ h => h) (Or.inl ⟨by rfl, by intro w'; go_simp; with_reducible rfl⟩) (by simp only [Act.put, pq1, pq2, pq3, i64_w, i32_w]; rfl) ?_
  refine pure_ (i := 2) (N := some 120) (bts 8 7) rfl rfl (by kernel_rfl) (fun _ _ _ h => h) (Or.inl ⟨by rfl, by intro w'; go_simp; with_reducible rfl⟩) (by simp only [Act.put, pq1, pq2, pq3, i64_w, i32_w]; rfl) ?_
  refine pure_ (i := 3) (N := some 121) (bts 8 15) rfl rfl (by kernel_rfl) (fun _ _ _ h => h) (Or.inl ⟨by rfl, by intro w'; go_simp; with_reducible rfl⟩) (by simp only [Act.put, pq1, pq2, pq3, i64_w, i32_w]; rfl) ?_
  refine take_ (i := 4) (N := some 122) (bts 8 31) rfl rfl (by kernel_rfl) (fun _ _ _ h => h) (Or.inl ⟨by rfl, by intro w' hSw; unfold Held8 at hSw; go_simp; with_reducible rfl⟩) (by assumption) (by simp only [Act.put, pq1, pq2, pq3, i64_w, i32_w]; rfl) ?_
  refine pure_ (i := 5) (N := some 123) (bts 8 63) rfl rfl (by kernel_rfl) (fun _ _ _ h => h) (Or.inl ⟨by rfl, by intro w'; go_simp; with_reducible rfl⟩) (by simp only [Act.put, pq1, pq2, pq3, i64_w, i32_w]; rfl) ?_
  obtain ⟨se0, se1, se2, se3, se4, se5, se6, se7, se8, se9, se10, se11, se12, se13⟩ := cl14 HT.out.b2
  obtain ⟨sf0, sf1, sf2, sf3, sf4, sf5, sf6, sf7, sf8, sf9, sf10, sf11, sf12, sf13⟩ := fz14 HT.out.b2
  refine one_ (i := 6) (N := none) (bts 8 127) rfl rfl (by kernel_rfl) (by decide) (fun K hK => ?_)
  refine skip_ (w1 := ?_) (by rfl) rfl ?_ ?_
  rotate_left
  ·go_simp
   rfl
  have hkE := keepS14 WT (w.heap.size) (.int .i64 4) (.slice (some ⟨N, 0, none⟩) 1 1) (.slice none 0 0) (.string r5) (.int .i64 0) (.slice none 0 0) (.int .i64 0) (.int .i64 0) (.int .i64 0) (.int .i64 0) (.int .i64 y2) (.int .i64 y3) (.int .i64 y4) (.bool ac)
  refine hK.out _ _ (HT.out.heldS hkE) (fun hHeld2 => ?_)
  clear hK K hHeld
  refine pure_ (i := 7) (N := some 3) (bts 8 255) rfl rfl (by kernel_rfl) (fun _ _ _ h => h) (Or.inl ⟨by rfl, by intro w'; go_simp; with_reducible rfl⟩) (by simp only [Act.put, pq1, pq2, pq3, i64_w, i32_w]; rfl) ?_
  refine done_ (by kernel_rfl) ?_
  have HF := hid (HT.out.fin (.int .i64 4) (.slice (some ⟨N, 0, none⟩) 1 1) (.slice none 0 0) (.string r5) (.int .i64 0) (.slice none 0 0) (.int .i64 0) (.int .i64 0) (.int .i64 0) (.int .i64 0) (.int .i64 y2) (.int .i64 y3) (.int .i64 y4) (.bool ac))
  have U0 := hid (R_put T0.out HT.out.b2 (by decide) hkE)
  clear hkE
  clear se0 sf0 se1 sf1 se2 sf2 se3 sf3 se4 sf4 se5 sf5 se6 sf6 se7 sf7 se8 sf8 se9 sf9 se10 sf10 se11 sf11 se12 sf12 se13 sf13
  go_wp2_with fail
  exact bodyPost_ret (results_ct (p := 2) (u := 3) (ty := 63) rfl _ _ w.heap.size 63 _ (0, 0) _ rfl HF.out.b2 Tryz.underlying63 rfl (by kernel_rfl)) rfl (node_post (ok := fun k => k ≠ w.heap.size + 1) HF.out U0.out (Kd.R_nil _ _ _ _ _) (Kd.R_nil _ _ _ _ _) (by unfold grpV; rw [<- HN1.out]; dsimp only; rw [<- HN2.out]; dsimp only; rw [<- HN3.out]; dsimp only; rw [<- HN4.out]; dsimp only; exact grp_eq HR5.out HB5.out HAC.out HBV.out (.inl ⟨rfl, rfl⟩)))
 | false =>
  by_cases ha : hw.toList = [97, 99, 99]
  ·have x1 : (hw.toList == [97, 99, 99]) = true := by rw [beq_iff_eq]; exact ha
   have HA : Hid (howL r4 = [97, 99, 99]) := by rw [<- HWL.out]; exact hid ha
   clear ha
   go_upto_region 19 with fail
   clear x1
   have H8 := hid (H7.out.bad false)
   have I_8 := hid (Kd.R_far I_7.out (p := ⟨w.heap.size + 1, 1, none⟩) (fun _ h => h) (.bool false))
   clear H7 I_7 d1 f1
   generalize w7.setCell ⟨w.heap.size + 1, 1, none⟩ (.bool false) = w8 at *
   go_wp2_with fail
   obtain ⟨b9, hq3⟩ : ∃ b, b = (false || !textB r5) := ⟨_, rfl⟩
   refine (rd_text w w8 (w.heap.size + 1) r5 _ H8.out.rd (by omega)).mono ?_
   rintro e w9 ⟨rfl, s1⟩
   rw [<- hq3] at s1
   have HBV := hid hq3
   have H9 := hid (H8.out.step s1)
   have I_9 := hid (Kd.R_keep I_8.out s1.2 (fun _ h => h))
   clear s1 hq3 H8 I_8
   obtain ⟨se0, se1, se2, se3, se4, se5, se6, se7, se8, se9, se10, se11, se12, se13⟩ := cl14 H9.out.b8
   obtain ⟨sf0, sf1, sf2, sf3, sf4, sf5, sf6, sf7, sf8, sf9, sf10, sf11, sf12, sf13⟩ := fz14 H9.out.b8
   go_wp2_with fail
   have H10 : Hid (RN w (w9.setCell ⟨w.heap.size + 1 + 1, 3, none⟩ (.string r5)) r5 b9 #[.int .i64 4, .slice (some ⟨N, 0, none⟩) 1 1, .slice none 0 0, .string r5, .int .i64 0, .slice none 0 0, .int .i64 0, .int .i64 0, .int .i64 0, .int .i64 0, .int .i64 y2, .int .i64 y3, .int .i64 y4, .bool ac]) := by
    have := H9.out.set8 3 (.string r5)
    simpa [Hid] using this
   have I_10 := hid (R_put I_9.out H9.out.b8 (by decide) ((KeepBut.refl w9 (w.heap.size + 1 + 1) none).set_ 3 (.string r5)))
   clear H9 I_9
   clear se0 sf0 se1 sf1 se2 sf2 se3 sf3 se4 sf4 se5 sf5 se6 sf6 se7 sf7 se8 sf8 se9 sf9 se10 sf10 se11 sf11 se12 sf12 se13 sf13
   generalize w9.setCell ⟨w.heap.size + 1 + 1, 3, none⟩ (.string r5) = w10 at *
   refine start_ (n := 8) (S := Held8 w (.int .i64 4) (.slice (some ⟨N, 0, none⟩) 1 1) (.slice none 0 0) (.string r5) (.int .i64 0) (.slice none 0 0) (.int .i64 0) (.int .i64 0) (.int .i64 0) (.int .i64 0) (.int .i64 y2) (.int .i64 y3) (.int .i64 y4) (.bool ac) b9) (ds := []) (bts 8 0) (by kernel_rfl) rfl rfl (H10.out.on (Below.drew (Below.refl _ _))).held (fun hHeld => ?_)
   have HT := hid (H10.out.on (Below.drew (Below.refl _ _)))
   have T0 := hid (Kd.R_drew I_10.out)
   clear H10 I_10
   generalize w10.drew = WT at *
   refine take_ (i := 0) (N := some 118) (bts 8 1) rfl rfl (by kernel_rfl) (fun _ _ _ h => h) (Or.inl ⟨by rfl, by intro w' hSw; unfold Held8 at hSw; go_simp; with_reducible rfl⟩) (by assumption) (by simp only [Act.put, pq1, pq2, pq3, i64_w, i32_w]; rfl) ?_
   refine pure_ (i := 1) (N := some 119) (bts 8 3) rfl rfl (by kernel_rfl) (fun _ _ _ h => h) (Or.inl ⟨by rfl, by intro w'; go_simp; with_reducible rfl⟩) (by simp only [Act.put, pq1, pq2, pq3, i64_w, i32_w]; rfl) ?_
   refine pure_ (i := 2) (N := some 120) (bts 8 7) rfl rfl (by kernel_rfl) (fun _ _ _ h => h) (Or.inl ⟨by rfl, by intro w'; go_simp; with_reducible rfl⟩) (by simp only [Act.put, pq1, pq2, pq3, i64_w, i32_w]; rfl) ?_
   refine pure_ (i := 3) (N := some 121) (bts 8 15) rfl rfl (by kernel_rfl) (fun _ _ _ h => h) (Or.inl ⟨by rfl, by intro w'; go_simp; with_reducible rfl⟩) (by simp only [Act.put, pq1, pq2, pq3, i64_w, i32_w]; rfl) ?_
   refine take_ (i := 4) (N := some 122) (bts 8 31) rfl rfl (by kernel_rfl) (fun _ _ _ h => h) (Or.inl ⟨by rfl, by intro w' hSw; unfold Held8 at hSw; go_simp; with_reducible rfl⟩) (by assumption) (by simp only [Act.put, pq1, pq2, pq3, i64_w, i32_w]; rfl) ?_
   refine pure_ (i := 5) (N := some 123) (bts 8 63) rfl rfl (by kernel_rfl) (fun _ _ _ h => h) (Or.inl ⟨by rfl, by intro w'; go_simp; with_reducible rfl⟩) (by simp only [Act.put, pq1, pq2, pq3, i64_w, i32_w]; rfl) ?_
   obtain ⟨se0, se1, se2, se3, se4, se5, se6, se7, se8, se9, se10, se11, se12, se13⟩ := cl14 HT.out.b2
   obtain ⟨sf0, sf1, sf2, sf3, sf4, sf5, sf6, sf7, sf8, sf9, sf10, sf11, sf12, sf13⟩ := fz14 HT.out.b2
   refine one_ (i := 6) (N := none) (bts 8 127) rfl rfl (by kernel_rfl) (by decide) (fun K hK => ?_)
   refine skip_ (w1 := ?_) (by rfl) rfl ?_ ?_
   rotate_left
   ·go_simp
    rfl
   have hkE := keepS14 WT (w.heap.size) (.int .i64 4) (.slice (some ⟨N, 0, none⟩) 1 1) (.slice none 0 0) (.string r5) (.int .i64 0) (.slice none 0 0) (.int .i64 0) (.int .i64 0) (.int .i64 0) (.int .i64 0) (.int .i64 y2) (.int .i64 y3) (.int .i64 y4) (.bool ac)
   refine hK.out _ _ (HT.out.heldS hkE) (fun hHeld2 => ?_)
   clear hK K hHeld
   refine pure_ (i := 7) (N := some 3) (bts 8 255) rfl rfl (by kernel_rfl) (fun _ _ _ h => h) (Or.inl ⟨by rfl, by intro w'; go_simp; with_reducible rfl⟩) (by simp only [Act.put, pq1, pq2, pq3, i64_w, i32_w]; rfl) ?_
   refine done_ (by kernel_rfl) ?_
   have HF := hid (HT.out.fin (.int .i64 4) (.slice (some ⟨N, 0, none⟩) 1 1) (.slice none 0 0) (.string r5) (.int .i64 0) (.slice none 0 0) (.int .i64 0) (.int .i64 0) (.int .i64 0) (.int .i64 0) (.int .i64 y2) (.int .i64 y3) (.int .i64 y4) (.bool ac))
   have U0 := hid (R_put T0.out HT.out.b2 (by decide) hkE)
   clear hkE
   clear se0 sf0 se1 sf1 se2 sf2 se3 sf3 se4 sf4 se5 sf5 se6 sf6 se7 sf7 se8 sf8 se9 sf9 se10 sf10 se11 sf11 se12 sf12 se13 sf13
   go_wp2_with fail
   exact bodyPost_ret (results_ct (p := 2) (u := 3) (ty := 63) rfl _ _ w.heap.size 63 _ (0, 0) _ rfl HF.out.b2 Tryz.underlying63 rfl (by kernel_rfl)) rfl (node_post (ok := fun k => k ≠ w.heap.size + 1) HF.out U0.out (Kd.R_nil _ _ _ _ _) (Kd.R_nil _ _ _ _ _) (by unfold grpV; rw [<- HN1.out]; dsimp only; rw [<- HN2.out]; dsimp only; rw [<- HN3.out]; dsimp only; rw [<- HN4.out]; dsimp only; exact grp_eq HR5.out HB5.out HAC.out HBV.out (.inr (.inl ⟨rfl, HA.out, rfl⟩))))
  ·have x1 : (hw.toList == [97, 99, 99]) = false := by rw [beq_eq_false_iff_ne]; exact ha
   have HA : Hid (howL r4 ≠ [97, 99, 99]) := by rw [<- HWL.out]; exact hid ha
   clear ha
   go_upto_region 19 with fail
   obtain ⟨dz, hdz⟩ : ∃ dz, dz = (!(hw.toList == [100, 105, 115])) := ⟨_, rfl⟩
   have HDZ : Hid (dz = (howL r4 != [100, 105, 115])) := by rw [hdz, HWL.out]; exact hid rfl
   rw [<- hdz]
   clear x1 hdz
   have H8 := hid (H7.out.bad dz)
   have I_8 := hid (Kd.R_far I_7.out (p := ⟨w.heap.size + 1, 1, none⟩) (fun _ h => h) (.bool dz))
   clear H7 I_7 d1 f1
   generalize w7.setCell ⟨w.heap.size + 1, 1, none⟩ (.bool dz) = w8 at *
   go_wp2_with fail
   obtain ⟨b9, hq3⟩ : ∃ b, b = (dz || !textB r5) := ⟨_, rfl⟩
   refine (rd_text w w8 (w.heap.size + 1) r5 _ H8.out.rd (by omega)).mono ?_
   rintro e w9 ⟨rfl, s1⟩
   rw [<- hq3] at s1
   have HBV := hid hq3
   have H9 := hid (H8.out.step s1)
   have I_9 := hid (Kd.R_keep I_8.out s1.2 (fun _ h => h))
   clear s1 hq3 H8 I_8
   obtain ⟨se0, se1, se2, se3, se4, se5, se6, se7, se8, se9, se10, se11, se12, se13⟩ := cl14 H9.out.b8
   obtain ⟨sf0, sf1, sf2, sf3, sf4, sf5, sf6, sf7, sf8, sf9, sf10, sf11, sf12, sf13⟩ := fz14 H9.out.b8
   go_wp2_with fail
   have H10 : Hid (RN w (w9.setCell ⟨w.heap.size + 1 + 1, 3, none⟩ (.string r5)) r5 b9 #[.int .i64 4, .slice (some ⟨N, 0, none⟩) 1 1, .slice none 0 0, .string r5, .int .i64 0, .slice none 0 0, .int .i64 0, .int .i64 0, .int .i64 0, .int .i64 0, .int .i64 y2, .int .i64 y3, .int .i64 y4, .bool ac]) := by
    have := H9.out.set8 3 (.string r5)
    simpa [Hid] using this
   have I_10 := hid (R_put I_9.out H9.out.b8 (by decide) ((KeepBut.refl w9 (w.heap.size + 1 + 1) none).set_ 3 (.string r5)))
   clear H9 I_9
   clear se0 sf0 se1 sf1 se2 sf2 se3 sf3 se4 sf4 se5 sf5 se6 sf6 se7 sf7 se8 sf8 se9 sf9 se10 sf10 se11 sf11 se12 sf12 se13 sf13
   generalize w9.setCell ⟨w.heap.size + 1 + 1, 3, none⟩ (.string r5) = w10 at *
   refine start_ (n := 8) (S := Held8 w (.int .i64 4) (.slice (some ⟨N, 0, none⟩) 1 1) (.slice none 0 0) (.string r5) (.int .i64 0) (.slice none 0 0) (.int .i64 0) (.int .i64 0) (.int .i64 0) (.int .i64 0) (.int .i64 y2) (.int .i64 y3) (.int .i64 y4) (.bool ac) b9) (ds := []) (bts 8 0) (by kernel_rfl) rfl rfl (H10.out.on (Below.drew (Below.refl _ _))).held (fun hHeld => ?_)
   have HT := hid (H10.out.on (Below.drew (Below.refl _ _)))
   have T0 := hid (Kd.R_drew I_10.out)
   clear H10 I_10
   generalize w10.drew = WT at *
   refine take_ (i := 0) (N := some 118) (bts 8 1) rfl rfl (by kernel_rfl) (fun _ _ _ h => h) (Or.inl ⟨by rfl, by intro w' hSw; unfold Held8 at hSw; go_simp; with_reducible rfl⟩) (by assumption) (by simp only [Act.put, pq1, pq2, pq3, i64_w, i32_w]; rfl) ?_
   refine pure_ (i := 1) (N := some 119) (bts 8 3) rfl rfl (by kernel_rfl) (fun _ _ _ h => h) (Or.inl ⟨by rfl, by intro w'; go_simp; with_reducible rfl⟩) (by simp only [Act.put, pq1, pq2, pq3, i64_w, i32_w]; rfl) ?_
   refine pure_ (i := 2) (N := some 120) (bts 8 7) rfl rfl (by kernel_rfl) (fun _ _ _ h => h) (Or.inl ⟨by rfl, by intro w'; go_simp; with_reducible rfl⟩) (by simp only [Act.put, pq1, pq2, pq3, i64_w, i32_w]; rfl) ?_
   refine pure_ (i := 3) (N := some 121) (bts 8 15) rfl rfl (by kernel_rfl) (fun _ _ _ h => h) (Or.inl ⟨by rfl, by intro w'; go_simp; with_reducible rfl⟩) (by simp only [Act.put, pq1, pq2, pq3, i64_w, i32_w]; rfl) ?_
   refine take_ (i := 4) (N := some 122) (bts 8 31) rfl rfl (by kernel_rfl) (fun _ _ _ h => h) (Or.inl ⟨by rfl, by intro w' hSw; unfold Held8 at hSw; go_simp; with_reducible rfl⟩) (by assumption) (by simp only [Act.put, pq1, pq2, pq3, i64_w, i32_w]; rfl) ?_
   refine pure_ (i := 5) (N := some 123) (bts 8 63) rfl rfl (by kernel_rfl) (fun _ _ _ h => h) (Or.inl ⟨by rfl, by intro w'; go_simp; with_reducible rfl⟩) (by simp only [Act.put, pq1, pq2, pq3, i64_w, i32_w]; rfl) ?_
   obtain ⟨se0, se1, se2, se3, se4, se5, se6, se7, se8, se9, se10, se11, se12, se13⟩ := cl14 HT.out.b2
   obtain ⟨sf0, sf1, sf2, sf3, sf4, sf5, sf6, sf7, sf8, sf9, sf10, sf11, sf12, sf13⟩ := fz14 HT.out.b2
   refine one_ (i := 6) (N := none) (bts 8 127) rfl rfl (by kernel_rfl) (by decide) (fun K hK => ?_)
   refine skip_ (w1 := ?_) (by rfl) rfl ?_ ?_
   rotate_left
   ·go_simp
    rfl
   have hkE := keepS14 WT (w.heap.size) (.int .i64 4) (.slice (some ⟨N, 0, none⟩) 1 1) (.slice none 0 0) (.string r5) (.int .i64 0) (.slice none 0 0) (.int .i64 0) (.int .i64 0) (.int .i64 0) (.int .i64 0) (.int .i64 y2) (.int .i64 y3) (.int .i64 y4) (.bool ac)
   refine hK.out _ _ (HT.out.heldS hkE) (fun hHeld2 => ?_)
   clear hK K hHeld
   refine pure_ (i := 7) (N := some 3) (bts 8 255) rfl rfl (by kernel_rfl) (fun _ _ _ h => h) (Or.inl ⟨by rfl, by intro w'; go_simp; with_reducible rfl⟩) (by simp only [Act.put, pq1, pq2, pq3, i64_w, i32_w]; rfl) ?_
   refine done_ (by kernel_rfl) ?_
   have HF := hid (HT.out.fin (.int .i64 4) (.slice (some ⟨N, 0, none⟩) 1 1) (.slice none 0 0) (.string r5) (.int .i64 0) (.slice none 0 0) (.int .i64 0) (.int .i64 0) (.int .i64 0) (.int .i64 0) (.int .i64 y2) (.int .i64 y3) (.int .i64 y4) (.bool ac))
   have U0 := hid (R_put T0.out HT.out.b2 (by decide) hkE)
   clear hkE
   clear se0 sf0 se1 sf1 se2 sf2 se3 sf3 se4 sf4 se5 sf5 se6 sf6 se7 sf7 se8 sf8 se9 sf9 se10 sf10 se11 sf11 se12 sf12 se13 sf13
   go_wp2_with fail
   exact bodyPost_ret (results_ct (p := 2) (u := 3) (ty := 63) rfl _ _ w.heap.size 63 _ (0, 0) _ rfl HF.out.b2 Tryz.underlying63 rfl (by kernel_rfl)) rfl (node_post (ok := fun k => k ≠ w.heap.size + 1) HF.out U0.out (Kd.R_nil _ _ _ _ _) (Kd.R_nil _ _ _ _ _) (by unfold grpV; rw [<- HN1.out]; dsimp only; rw [<- HN2.out]; dsimp only; rw [<- HN3.out]; dsimp only; rw [<- HN4.out]; dsimp only; exact grp_eq HR5.out HB5.out HAC.out HBV.out (.inr (.inr ⟨rfl, HA.out, HDZ.out⟩))))
theorem read_node (s : ByteArray) (hs : s.size <= 900000) (w : World) (hE : Env w) : Calls Tryz.prog 18 #[.string s] w (NodePost (readV s) w) := by
 unfold readV
 split
 ·rename_i y; exact read_src s hs w hE y
 split
 ·rename_i n0 y; exact read_each s hs w hE n0 y
 split
 ·rename_i n0 n1 y; exact read_win s hs w hE n0 n1 y
 split
 ·rename_i n0 n1 n2 y; exact read_grp s hs w hE n0 n1 n2 y
 split
 ·rename_i n0 n1 n2 n3 y; exact read_flat s hs w hE n0 n1 n2 n3 y
 split
 ·rename_i n0 n1 n2 n3 n4 y; exact read_sink s hs w hE n0 n1 n2 n3 n4 y
 ·rename_i n0 n1 n2 n3 n4 n5; exact read_def s hs w hE n0 n1 n2 n3 n4 n5
end Go.Proofs.YtamfloegflejnaaGreatDoor
