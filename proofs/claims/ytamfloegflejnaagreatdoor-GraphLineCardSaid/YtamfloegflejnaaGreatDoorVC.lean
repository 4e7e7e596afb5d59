/-
 The ref Read of a line, group.
 The ref Read of a line, joined.
-/
import Derived.Test.YtamfloegflejnaaGreatDoorH1
import Derived.Test.YtamfloegflejnaaGreatDoorVB
set_option linter.unusedVariables false
set_option linter.unusedSimpArgs false
set_option maxHeartbeats 1000000
set_option maxRecDepth 100000
namespace Go.Proofs.YtamfloegflejnaaGreatDoor
open Lib (hid)
open Go.RowKit Go.Proofs.YtamfloegflejnaaGreatDoorW.PrintWords Go.Proofs.YtamfloegflejnaaGreatDoorW.PrintLast Go.Proofs.YtamfloegflejnaaGreatDoorW.PrintMore PGraphLines
theorem rd_grp (s : ByteArray) (hs : s.size <= 900000) (w : World) (hok : okS s = true) (n0 : howL s ≠ [115, 111, 117, 114, 99, 101]) (n1 : howL s ≠ [115, 105, 110, 107]) (n2 : howL s ≠ [102, 108, 97, 116, 116, 101, 110]) (n3 : howL s ≠ [101, 97, 99, 104]) (n4 : howL s ≠ [119, 105, 110, 100, 111, 119]) (y : howL s = [103, 114, 111, 117, 112]) (h1 : (oneR (tlS s)).2.2 = true) : Calls Tryz.prog 10 #[.string s] w (RPost s w) := by
 have HF := hid (fin_start w)
 have HC := hid (cut2_any s 32 (w.alloc (.cells zero43 43)) (by omega))
 have htl : (tlS s).size <= 900000 := Nat.le_trans (tl_size s) hs
 have d0 : ((hdS s).toList == [115, 111, 117, 114, 99, 101]) = false := by rw [beq_eq_false_iff_ne, ByteArray.toList_eq]; exact n0
 have d1 : ((hdS s).toList == [115, 105, 110, 107]) = false := by rw [beq_eq_false_iff_ne, ByteArray.toList_eq]; exact n1
 have d2 : ((hdS s).toList == [102, 108, 97, 116, 116, 101, 110]) = false := by rw [beq_eq_false_iff_ne, ByteArray.toList_eq]; exact n2
 have d3 : ((hdS s).toList == [101, 97, 99, 104]) = false := by rw [beq_eq_false_iff_ne, ByteArray.toList_eq]; exact n3
 have d4 : ((hdS s).toList == [119, 105, 110, 100, 111, 119]) = false := by rw [beq_eq_false_iff_ne, ByteArray.toList_eq]; exact n4
 have d5 : ((hdS s).toList == [103, 114, 111, 117, 112]) = true := by rw [beq_iff_eq, ByteArray.toList_eq]; exact y
 have HR : Hid (readR s = grpR (oneR (tlS s)).2.1) := by unfold Hid readR; rw [if_neg (by rw [hok]; decide), if_neg n0, if_neg n1, if_neg n2, if_neg (by rw [h1]; decide), if_neg n3, if_neg n4, if_pos y]
 have hz : (oneR (tlS s)).2.1.size <= 900000 := Nat.le_trans (tl_size (tlS s)) htl
 have hok2 : (Lib.cut s.data.toList [32]).2.2 = true := hok
 have hh : (⟨(Lib.cut s.data.toList [32]).1.toArray⟩ : ByteArray) = hdS s := rfl
 have ht : (⟨(Lib.cut s.data.toList [32]).2.1.toArray⟩ : ByteArray) = tlS s := rfl
 rw [hok2, hh, ht] at HC
 generalize hdS s = wd at *
 generalize tlS s = rs at *
 clear hok hok2 hh ht n0 n1 n2 n3 n4 y
 go_enter Tryz.func10, Tryz.ntmps10
 go_wp2_with fail
 generalize w.alloc (.cells zero43 43) = W at HF HC ⊢
 refine HC.out.mono ?_
 rintro e w1 ⟨rfl, hb1⟩
 have HF1 := hid (HF.out.on hb1)
 clear hb1 HC HF
 have HK := hid (one2_any rs (by omega) w1)
 rw [h1] at HK
 clear h1
 go_wp2_with fail
 refine HK.out.mono ?_
 rintro e w2 ⟨v, rfl, hR, hb2⟩
 obtain ⟨A, c, rfl, hc, hC⟩ := Kd.R_reads hR
 have HF2 := hid (HF1.out.on hb2)
 clear hb2 hR HK HF1
 generalize (oneR rs).2.1 = q2 at *
 have HX : Hid (∀ r, threeR 3 q2 = r -> grpR q2 = match r with
  | none => false
  | some r => okS r && ((howL r == [97, 99, 99] || howL r == [100, 105, 115]) && textB (tlS r))) := by intro r hr; subst hr; rfl
 clear hC
 generalize (oneR rs).1.length = nl at *
 have hw2 : w.heap.size < w2.heap.size := by
  obtain ⟨⟨c0, c1, c2, c3, c4, c5, c6, c7, c8, c9, c10, c11, c12, c13, hx⟩, _⟩ := HF2.out
  exact blk_lt hx
 have HN := hid (blk_alloc (heap_alloc_new w2 (.cells #[.int .i64 4, .slice A nl c, .slice none 0 0, .string ⟨#[]⟩, .int .i64 0, .slice none 0 0, .int .i64 0, .int .i64 0, .int .i64 0, .int .i64 0, .int .i64 0, .int .i64 0, .int .i64 0, .bool false] 43)) (.cells #[.int .i64 0, .int .i64 0, .int .i64 0] 78))
 have HL := hid (heap_alloc_new (w2.alloc (.cells #[.int .i64 4, .slice A nl c, .slice none 0 0, .string ⟨#[]⟩, .int .i64 0, .slice none 0 0, .int .i64 0, .int .i64 0, .int .i64 0, .int .i64 0, .int .i64 0, .int .i64 0, .int .i64 0, .bool false] 43)) (.cells #[.int .i64 0, .int .i64 0, .int .i64 0] 78))
 have HFW := hid ((HF2.out.on (below_alloc (Below.refl _ _) (.cells #[.int .i64 4, .slice A nl c, .slice none 0 0, .string ⟨#[]⟩, .int .i64 0, .slice none 0 0, .int .i64 0, .int .i64 0, .int .i64 0, .int .i64 0, .int .i64 0, .int .i64 0, .int .i64 0, .bool false] 43))).on (below_alloc (Below.refl _ _) (.cells #[.int .i64 0, .int .i64 0, .int .i64 0] 78)))
 rw [World.size_alloc] at HL
 clear HF2
 go_wp2_with fail
 generalize (w2.alloc (.cells #[.int .i64 4, .slice A nl c, .slice none 0 0, .string ⟨#[]⟩, .int .i64 0, .slice none 0 0, .int .i64 0, .int .i64 0, .int .i64 0, .int .i64 0, .int .i64 0, .int .i64 0, .int .i64 0, .bool false] 43)).alloc (.cells #[.int .i64 0, .int .i64 0, .int .i64 0] 78) = w3 at *
 generalize w2.heap.size = N at *
 go_loopg [5, 24] 3 (fun n v5 v24 wr => ∃ (i : Nat) (r : ByteArray) (x0 x1 x2 : Int), n + i = 3 ∧ v5 = .string r ∧ v24 = .int .i64 i ∧ r.size <= 900000 ∧ Aside0 (threeR 3 q2 = threeR (3 - i) r) ∧ Aside0 (wr.heap[N]? = some (.cells #[.int .i64 4, .slice A nl c, .slice none 0 0, .string ⟨#[]⟩, .int .i64 0, .slice none 0 0, .int .i64 0, .int .i64 0, .int .i64 0, .int .i64 0, .int .i64 0, .int .i64 0, .int .i64 0, .bool false] 43 (0, 0))) ∧ Aside0 (wr.heap[N + 1]? = some (.cells #[.int .i64 x0, .int .i64 x1, .int .i64 x2] 78 (0, 0))) ∧ Aside0 (Fin43 w wr))
 case atStart => exact ⟨0, q2, 0, 0, 0, by omega, rfl, rfl, hz, ⟨rfl⟩, ⟨HN.out⟩, ⟨HL.out⟩, ⟨HFW.out⟩⟩
 case round =>
  obtain ⟨i, r, x0, x1, x2, hi, rfl, rfl, hr, ⟨hT⟩, ⟨hN⟩, ⟨hL⟩, ⟨hF⟩⟩ := hrel
  have HT := hid hT; have HN1 := hid hN; have HL1 := hid hL; have HF1 := hid hF
  clear hT hN hL hF HN HL HFW
  by_cases hi3 : i < 3
  ·obtain ⟨m, rfl⟩ : ∃ m, gk = m + 1 := ⟨gk - 1, by omega⟩
   have t0 : decide ((i : Int) < 3) = true := by rw [decide_eq_true_iff]; omega
   have HC2 := hid (cut2_any r 32 wr (by omega))
   have hh : (⟨(Lib.cut r.data.toList [32]).1.toArray⟩ : ByteArray) = hdS r := rfl
   have ht : (⟨(Lib.cut r.data.toList [32]).2.1.toArray⟩ : ByteArray) = tlS r := rfl
   have ho : (Lib.cut r.data.toList [32]).2.2 = okS r := rfl
   rw [hh, ht, ho] at HC2
   have hzh : (hdS r).size <= 900000 := Nat.le_trans (hd_size r) hr
   have hzt : (tlS r).size <= 900000 := Nat.le_trans (tl_size r) hr
   have hln := (numsR_len (hdS r) 32 7).2
   have HTN : Hid (threeR 3 q2 = if (okS r && (numsR (hdS r) 32 7).2) = true then threeR (3 - (i + 1)) (tlS r) else none) := by
    unfold Hid
    rw [HT.out, show 3 - i = (3 - (i + 1)) + 1 by omega]
    rfl
   generalize hdS r = x at *
   generalize tlS r = r' at *
   generalize okS r = o at *
   clear hh ht ho HT
   go_wp2_with fail
   refine HC2.out.mono ?_
   rintro e w4 ⟨rfl, hb4⟩
   have HN4 := hid (blk_below HN1.out hb4); have HL4 := hid (blk_below HL1.out hb4); have HF4 := hid (HF1.out.on hb4)
   clear hb4 HC2 HN1 HL1 HF1
   have HK := hid (nums2_any x 32 7 (by omega) (by omega) w4)
   go_wp2_with fail
   refine HK.out.mono ?_
   rintro e w5 ⟨v, rfl, hR, hb5⟩
   obtain ⟨A3, k3, rfl, hc3, hC3⟩ := Kd.R_reads hR
   have HN5 := hid (blk_below HN4.out hb5); have HL5 := hid (blk_below HL4.out hb5); have HF5 := hid (HF4.out.on hb5)
   clear hb5 hR HK HN4 HL4 HF4
   generalize (numsR x 32 7).2 = fine at *
   generalize (numsR x 32 7).1 = l at *
   cases hof : (o && fine) with
   | false =>
    have HR2 := hid (HR.out.trans (HX.out none (HTN.out.trans (by rw [hof, if_neg (by decide)]))))
    obtain ⟨⟨c0, c1, c2, c3, c4, c5, c6, c7, c8, c9, c10, c11, c12, c13, hx⟩, hbel⟩ := HF5.out
    obtain ⟨r0, r1, r2, r3, r4, r5, r6, r7, r8, r9, r10, r11, r12, r13⟩ := cells14 hx
    obtain ⟨z0, z1, z2, z3, z4, z5, z6, z7, z8, z9, z10, z11, z12, z13⟩ := froz14 hx
    have hlt := blk_lt hx
    clear hx hbel
    cases o with
    | false =>
     go_wp2_with fail
     exact fin_ret (fin14 HF5.out) rfl rfl HR2.out
    | true =>
     rw [Bool.true_and] at hof
     subst hof
     go_wp2_with fail
     exact fin_ret (fin14 HF5.out) rfl rfl HR2.out
   | true =>
    have HT2 := hid (HTN.out.trans (by rw [hof, if_pos rfl]))
    obtain ⟨h1, h2⟩ : o = true ∧ fine = true := by simpa using hof
    subst h1 h2
    have hl1 := hln rfl
    obtain ⟨y0, e0, hy0⟩ := Kd.at_int hC3 0 (by omega) (by omega)
    cases e0
    replace hy0 : w5.cell? y0 = some (.int .i64 (rd l 0)) := hy0
    generalize rd l 0 = g at *
    have hp : ((0 : Int) < (l.length : Int)) = True := eq_true (by omega)
    clear hof hln HTN hC3 hc3
    have hi012 : i = 0 ∨ i = 1 ∨ i = 2 := by omega
    rcases hi012 with rfl | rfl | rfl
    ·have l0 : w5.cell? ⟨N + 1, 0, none⟩ = some (.int .i64 x0) := (blk_cell HL5.out 0).trans rfl
     have f0 : w5.frozen? ⟨N + 1, 0, none⟩ = false := blk_frozen HL5.out 0
     go_wp2_with fail
     have HN6 := hid ((Below.heap_setCell w5 ⟨N + 1, 0, none⟩ (.int .i64 g) N (by show N ≠ N + 1; omega)).trans HN5.out)
     have HL6 : Hid ((w5.setCell ⟨N + 1, 0, none⟩ (.int .i64 g)).heap[N + 1]? = some (.cells #[.int .i64 g, .int .i64 x1, .int .i64 x2] 78 (0, 0))) := hid (by simpa using blk_set HL5.out 0 (.int .i64 g))
     have HF6 := hid (fin_far HF5.out (show w.heap.size < N + 1 by omega) 0 (.int .i64 g))
     clear l0 f0
     generalize w5.setCell ⟨N + 1, 0, none⟩ (.int .i64 g) = w6 at *
     go_roundg m
     case measure => omega
     case rel => exact ⟨0 + 1, r', g, x1, x2, by omega, rfl, rfl, hzt, ⟨HT2.out⟩, ⟨HN6.out⟩, ⟨HL6.out⟩, ⟨HF6.out⟩⟩
    ·have l0 : w5.cell? ⟨N + 1, 1, none⟩ = some (.int .i64 x1) := (blk_cell HL5.out 1).trans rfl
     have f0 : w5.frozen? ⟨N + 1, 1, none⟩ = false := blk_frozen HL5.out 1
     go_wp2_with fail
     have HN6 := hid ((Below.heap_setCell w5 ⟨N + 1, 1, none⟩ (.int .i64 g) N (by show N ≠ N + 1; omega)).trans HN5.out)
     have HL6 : Hid ((w5.setCell ⟨N + 1, 1, none⟩ (.int .i64 g)).heap[N + 1]? = some (.cells #[.int .i64 x0, .int .i64 g, .int .i64 x2] 78 (0, 0))) := hid (by simpa using blk_set HL5.out 1 (.int .i64 g))
     have HF6 := hid (fin_far HF5.out (show w.heap.size < N + 1 by omega) 1 (.int .i64 g))
     clear l0 f0
     generalize w5.setCell ⟨N + 1, 1, none⟩ (.int .i64 g) = w6 at *
     go_roundg m
     case measure => omega
     case rel => exact ⟨1 + 1, r', x0, g, x2, by omega, rfl, rfl, hzt, ⟨HT2.out⟩, ⟨HN6.out⟩, ⟨HL6.out⟩, ⟨HF6.out⟩⟩
    ·have l0 : w5.cell? ⟨N + 1, 2, none⟩ = some (.int .i64 x2) := (blk_cell HL5.out 2).trans rfl
     have f0 : w5.frozen? ⟨N + 1, 2, none⟩ = false := blk_frozen HL5.out 2
     go_wp2_with fail
     have HN6 := hid ((Below.heap_setCell w5 ⟨N + 1, 2, none⟩ (.int .i64 g) N (by show N ≠ N + 1; omega)).trans HN5.out)
     have HL6 : Hid ((w5.setCell ⟨N + 1, 2, none⟩ (.int .i64 g)).heap[N + 1]? = some (.cells #[.int .i64 x0, .int .i64 x1, .int .i64 g] 78 (0, 0))) := hid (by simpa using blk_set HL5.out 2 (.int .i64 g))
     have HF6 := hid (fin_far HF5.out (show w.heap.size < N + 1 by omega) 2 (.int .i64 g))
     clear l0 f0
     generalize w5.setCell ⟨N + 1, 2, none⟩ (.int .i64 g) = w6 at *
     go_roundg m
     case measure => omega
     case rel => exact ⟨2 + 1, r', x0, x1, g, by omega, rfl, rfl, hzt, ⟨HT2.out⟩, ⟨HN6.out⟩, ⟨HL6.out⟩, ⟨HF6.out⟩⟩
  ·have t0 : decide ((i : Int) < 3) = false := by rw [decide_eq_false_iff_not]; omega
   have hi3e : i = 3 := by omega
   subst hi3e
   have HG : Hid (grpR q2 = (okS r && ((howL r == [97, 99, 99] || howL r == [100, 105, 115]) && textB (tlS r)))) := HX.out (some r) (HT.out.trans rfl)
   have HC2 := hid (cut2_any r 32 wr (by omega))
   have hh : (⟨(Lib.cut r.data.toList [32]).1.toArray⟩ : ByteArray) = hdS r := rfl
   have ht : (⟨(Lib.cut r.data.toList [32]).2.1.toArray⟩ : ByteArray) = tlS r := rfl
   have ho : (Lib.cut r.data.toList [32]).2.2 = okS r := rfl
   rw [hh, ht, ho] at HC2
   have hzt : (tlS r).size <= 900000 := Nat.le_trans (tl_size r) hr
   have hhow : howL r = (hdS r).toList := by rw [ByteArray.toList_eq]; rfl
   rw [hhow] at HG
   generalize hdS r = how at *
   generalize tlS r = tx at *
   generalize okS r = o at *
   clear hh ht ho HT HX hhow
   go_wp2_with fail
   refine HC2.out.mono ?_
   rintro e w4 ⟨rfl, hb4⟩
   have HN4 := hid (blk_below HN1.out hb4); have HL4 := hid (blk_below HL1.out hb4); have HF4 := hid (HF1.out.on hb4)
   clear hb4 HC2 HN1 HL1 HF1
   have l0 : w4.cell? ⟨N + 1, 0, none⟩ = some (.int .i64 x0) := (blk_cell HL4.out 0).trans rfl
   have l1 : w4.cell? ⟨N + 1, 1, none⟩ = some (.int .i64 x1) := (blk_cell HL4.out 1).trans rfl
   have l2 : w4.cell? ⟨N + 1, 2, none⟩ = some (.int .i64 x2) := (blk_cell HL4.out 2).trans rfl
   have n10 : w4.cell? ⟨N, 10, none⟩ = some (.int .i64 0) := (blk_cell HN4.out 10).trans rfl
   have n11 : w4.cell? ⟨N, 11, none⟩ = some (.int .i64 0) := (blk_cell HN4.out 11).trans rfl
   have n12 : w4.cell? ⟨N, 12, none⟩ = some (.int .i64 0) := (blk_cell HN4.out 12).trans rfl
   have n13 : w4.cell? ⟨N, 13, none⟩ = some (.bool false) := (blk_cell HN4.out 13).trans rfl
   have n3' : w4.cell? ⟨N, 3, none⟩ = some (.string ⟨#[]⟩) := (blk_cell HN4.out 3).trans rfl
   have f10 : w4.frozen? ⟨N, 10, none⟩ = false := blk_frozen HN4.out 10
   have f11 : w4.frozen? ⟨N, 11, none⟩ = false := blk_frozen HN4.out 11
   have f12 : w4.frozen? ⟨N, 12, none⟩ = false := blk_frozen HN4.out 12
   have f13 : w4.frozen? ⟨N, 13, none⟩ = false := blk_frozen HN4.out 13
   have f3 : w4.frozen? ⟨N, 3, none⟩ = false := blk_frozen HN4.out 3
   cases hac : (how.toList == [97, 99, 99]) with
   | true =>
    rw [hac] at HG
    cases o with
    | false =>
     have HR2 := hid (HR.out.trans HG.out)
     go_wp2_with fail
     have HN5 : Hid ((((((w4.setCell ⟨N, 10, none⟩ (.int .i64 x0)).setCell ⟨N, 11, none⟩ (.int .i64 x1)).setCell ⟨N, 12, none⟩ (.int .i64 x2)).setCell ⟨N, 13, none⟩ (.bool true)).setCell ⟨N, 3, none⟩ (.string tx)).heap[N]? = some (.cells #[.int .i64 4, .slice A nl c, .slice none 0 0, .string tx, .int .i64 0, .slice none 0 0, .int .i64 0, .int .i64 0, .int .i64 0, .int .i64 0, .int .i64 x0, .int .i64 x1, .int .i64 x2, .bool true] 43 (0, 0))) := hid (by simpa using blk_set (blk_set (blk_set (blk_set (blk_set HN4.out 10 (.int .i64 x0)) 11 (.int .i64 x1)) 12 (.int .i64 x2)) 13 (.bool true)) 3 (.string tx))
     have HF5 := hid (fin_far (fin_far (fin_far (fin_far (fin_far HF4.out hw2 10 (.int .i64 x0)) hw2 11 (.int .i64 x1)) hw2 12 (.int .i64 x2)) hw2 13 (.bool true)) hw2 3 (.string tx))
     clear l0 l1 l2 n10 n11 n12 n13 n3' f10 f11 f12 f13 f3 HN4 HL4 HF4
     generalize ((((w4.setCell ⟨N, 10, none⟩ (.int .i64 x0)).setCell ⟨N, 11, none⟩ (.int .i64 x1)).setCell ⟨N, 12, none⟩ (.int .i64 x2)).setCell ⟨N, 13, none⟩ (.bool true)).setCell ⟨N, 3, none⟩ (.string tx) = wc at *
     refine start_ (n := 16) (S := fun w' => w'.cell? ⟨N, 0, none⟩ = some (.int .i64 4) ∧ w'.cell? ⟨N, 1, none⟩ = some (.slice A nl c) ∧ w'.cell? ⟨N, 2, none⟩ = some (.slice none 0 0) ∧ w'.cell? ⟨N, 3, none⟩ = some (.string tx) ∧ w'.cell? ⟨N, 4, none⟩ = some (.int .i64 0) ∧ w'.cell? ⟨N, 5, none⟩ = some (.slice none 0 0) ∧ w'.cell? ⟨N, 6, none⟩ = some (.int .i64 0) ∧ w'.cell? ⟨N, 7, none⟩ = some (.int .i64 0) ∧ w'.cell? ⟨N, 8, none⟩ = some (.int .i64 0) ∧ w'.cell? ⟨N, 9, none⟩ = some (.int .i64 0) ∧ w'.cell? ⟨N, 10, none⟩ = some (.int .i64 x0) ∧ w'.cell? ⟨N, 11, none⟩ = some (.int .i64 x1) ∧ w'.cell? ⟨N, 12, none⟩ = some (.int .i64 x2) ∧ w'.cell? ⟨N, 13, none⟩ = some (.bool true)) (ds := [14]) (bts 16 0) (by kernel_rfl) rfl rfl (cl14 (blk_drew HN5.out)) (fun hHeld => ?_)
     have HN6 := hid (blk_drew HN5.out); have HF6 := hid (HF5.out.on (Below.drew (Below.refl _ _)))
     clear HN5 HF5
     generalize wc.drew = W6 at *
     refine take_ (i := 0) (N := some 207) (bts 16 1) rfl rfl (by kernel_rfl) (fun _ _ _ h => h) (Or.inl ⟨by rfl, by rintro w' ⟨s0, s1, s2, s3, s4, s5, s6, s7, s8, s9, s10, s11, s12, s13⟩; go_simp; with_reducible rfl⟩) (by assumption) (by simp only [Act.put, pq1, pq2, pq3, i64_w, i32_w]; rfl) ?_
     refine pure_ (i := 1) (N := some 208) (bts 16 3) rfl rfl (by kernel_rfl) (fun _ _ _ h => h) (Or.inl ⟨by rfl, by intro w'; go_simp; with_reducible rfl⟩) (by simp only [Act.put, pq1, pq2, pq3, i64_w, i32_w]; rfl) ?_
     refine pure_ (i := 2) (N := some 209) (bts 16 7) rfl rfl (by kernel_rfl) (fun _ _ _ h => h) (Or.inl ⟨by rfl, by intro w'; go_simp; with_reducible rfl⟩) (by simp only [Act.put, pq1, pq2, pq3, i64_w, i32_w]; rfl) ?_
     refine pure_ (i := 3) (N := some 210) (v := undef) (a' := ?_) #[true, true, true, true, false, false, false, false, false, false, false, false, false, false, false, false] rfl rfl (by kernel_rfl) (fun _ _ _ h => h) (Or.inr ⟨by rfl, rfl⟩) ?_ ?_
     rotate_left
     ·simp only [Act.put, pq1, pq2, pq3, i64_w, i32_w]
      rfl
     refine pure_ (i := 4) (N := some 211) (v := undef) (a' := ?_) #[true, true, true, true, true, false, false, false, false, false, false, false, false, false, false, false] rfl rfl (by kernel_rfl) (fun _ _ _ h => h) (Or.inr ⟨by rfl, rfl⟩) ?_ ?_
     rotate_left
     ·simp only [Act.put, pq1, pq2, pq3, i64_w, i32_w]
      rfl
     refine pure_ (i := 5) (N := some 212) (v := undef) (a' := ?_) #[true, true, true, true, true, true, false, false, false, false, false, false, false, false, false, false] rfl rfl (by kernel_rfl) (fun _ _ _ h => h) (Or.inr ⟨by rfl, rfl⟩) ?_ ?_
     rotate_left
     ·simp only [Act.put, pq1, pq2, pq3, i64_w, i32_w]
      rfl
     refine pure_ (i := 6) (N := some 213) (v := undef) (a' := ?_) #[true, true, true, true, true, true, true, false, false, false, false, false, false, false, false, false] rfl rfl (by kernel_rfl) (fun _ _ _ h => h) (Or.inr ⟨by rfl, rfl⟩) ?_ ?_
     rotate_left
     ·simp only [Act.put, pq1, pq2, pq3, i64_w, i32_w]
      rfl
     refine pure_ (i := 7) (N := some 214) (v := undef) (a' := ?_) #[true, true, true, true, true, true, true, true, false, false, false, false, false, false, false, false] rfl rfl (by kernel_rfl) (fun _ _ _ h => h) (Or.inr ⟨by rfl, rfl⟩) ?_ ?_
     rotate_left
     ·simp only [Act.put, pq1, pq2, pq3, i64_w, i32_w]
      rfl
     refine pure_ (i := 8) (N := some 215) (v := undef) (a' := ?_) #[true, true, true, true, true, true, true, true, true, false, false, false, false, false, false, false] rfl rfl (by kernel_rfl) (fun _ _ _ h => h) (Or.inr ⟨by rfl, rfl⟩) ?_ ?_
     rotate_left
     ·simp only [Act.put, pq1, pq2, pq3, i64_w, i32_w]
      rfl
     refine pure_ (i := 9) (N := some 216) (bts 16 1023) rfl rfl (by kernel_rfl) (fun _ _ _ h => h) (Or.inl ⟨by rfl, by intro w'; go_simp; with_reducible rfl⟩) (by simp only [Act.put, pq1, pq2, pq3, i64_w, i32_w]; rfl) ?_
     refine pure_ (i := 10) (N := some 217) (bts 16 2047) rfl rfl (by kernel_rfl) (fun _ _ _ h => h) (Or.inl ⟨by rfl, by intro w'; go_simp; with_reducible rfl⟩) (by simp only [Act.put, pq1, pq2, pq3, i64_w, i32_w]; rfl) ?_
     refine pure_ (i := 11) (N := some 218) (v := undef) (a' := ?_) #[true, true, true, true, true, true, true, true, true, true, true, true, false, false, false, false] rfl rfl (by kernel_rfl) (fun _ _ _ h => h) (Or.inr ⟨by rfl, rfl⟩) ?_ ?_
     rotate_left
     ·simp only [Act.put, pq1, pq2, pq3, i64_w, i32_w]
      rfl
     refine pure_ (i := 12) (N := some 219) (v := undef) (a' := ?_) #[true, true, true, true, true, true, true, true, true, true, true, true, true, false, false, false] rfl rfl (by kernel_rfl) (fun _ _ _ h => h) (Or.inr ⟨by rfl, rfl⟩) ?_ ?_
     rotate_left
     ·simp only [Act.put, pq1, pq2, pq3, i64_w, i32_w]
      rfl
     refine pure_ (i := 13) (N := some 220) (bts 16 16383) rfl rfl (by kernel_rfl) (fun _ _ _ h => h) (Or.inl ⟨by rfl, by intro w'; go_simp; with_reducible rfl⟩) (by simp only [Act.put, pq1, pq2, pq3, i64_w, i32_w]; rfl) ?_
     obtain ⟨⟨c0, c1, c2, c3, c4, c5, c6, c7, c8, c9, c10, c11, c12, c13, hx⟩, hbel⟩ := HF6.out
     obtain ⟨r0, r1, rr2, r3, r4, r5, r6, r7, r8, r9, r10, r11, r12, r13⟩ := cells14 hx
     obtain ⟨z0, z1, z2, z3, z4, z5, z6, z7, z8, z9, z10, z11, z12, z13⟩ := froz14 hx
     clear hx hbel
     refine last_ (i := 14) (N := none) (bts 16 32767) rfl rfl (by kernel_rfl) (by decide) (fun K hK => ?_)
     refine skip_ (w1 := ?_) (by rfl) rfl ?_ ?_
     rotate_left
     ·go_simp
      rfl
     refine hK.out _ _ ?_
     clear hK K
     refine pure_ (i := 15) (N := some 3) (bts 16 65535) rfl rfl (by kernel_rfl) (fun _ _ _ h => h) (Or.inl ⟨by rfl, by intro w'; go_simp; with_reducible rfl⟩) (by simp only [Act.put, pq1, pq2, pq3, i64_w, i32_w]; rfl) ?_
     refine done_ (by kernel_rfl) ?_
     go_wp2_with fail
     exact fin_ret (fin14 HF6.out) rfl rfl HR2.out
    | true =>
     have HR2 := hid (HR.out.trans HG.out)
     go_wp2_with fail
     have HN5 : Hid ((((((w4.setCell ⟨N, 10, none⟩ (.int .i64 x0)).setCell ⟨N, 11, none⟩ (.int .i64 x1)).setCell ⟨N, 12, none⟩ (.int .i64 x2)).setCell ⟨N, 13, none⟩ (.bool true)).setCell ⟨N, 3, none⟩ (.string tx)).heap[N]? = some (.cells #[.int .i64 4, .slice A nl c, .slice none 0 0, .string tx, .int .i64 0, .slice none 0 0, .int .i64 0, .int .i64 0, .int .i64 0, .int .i64 0, .int .i64 x0, .int .i64 x1, .int .i64 x2, .bool true] 43 (0, 0))) := hid (by simpa using blk_set (blk_set (blk_set (blk_set (blk_set HN4.out 10 (.int .i64 x0)) 11 (.int .i64 x1)) 12 (.int .i64 x2)) 13 (.bool true)) 3 (.string tx))
     have HF5 := hid (fin_far (fin_far (fin_far (fin_far (fin_far HF4.out hw2 10 (.int .i64 x0)) hw2 11 (.int .i64 x1)) hw2 12 (.int .i64 x2)) hw2 13 (.bool true)) hw2 3 (.string tx))
     clear l0 l1 l2 n10 n11 n12 n13 n3' f10 f11 f12 f13 f3 HN4 HL4 HF4
     generalize ((((w4.setCell ⟨N, 10, none⟩ (.int .i64 x0)).setCell ⟨N, 11, none⟩ (.int .i64 x1)).setCell ⟨N, 12, none⟩ (.int .i64 x2)).setCell ⟨N, 13, none⟩ (.bool true)).setCell ⟨N, 3, none⟩ (.string tx) = wc at *
     refine start_ (n := 16) (S := fun w' => w'.cell? ⟨N, 0, none⟩ = some (.int .i64 4) ∧ w'.cell? ⟨N, 1, none⟩ = some (.slice A nl c) ∧ w'.cell? ⟨N, 2, none⟩ = some (.slice none 0 0) ∧ w'.cell? ⟨N, 3, none⟩ = some (.string tx) ∧ w'.cell? ⟨N, 4, none⟩ = some (.int .i64 0) ∧ w'.cell? ⟨N, 5, none⟩ = some (.slice none 0 0) ∧ w'.cell? ⟨N, 6, none⟩ = some (.int .i64 0) ∧ w'.cell? ⟨N, 7, none⟩ = some (.int .i64 0) ∧ w'.cell? ⟨N, 8, none⟩ = some (.int .i64 0) ∧ w'.cell? ⟨N, 9, none⟩ = some (.int .i64 0) ∧ w'.cell? ⟨N, 10, none⟩ = some (.int .i64 x0) ∧ w'.cell? ⟨N, 11, none⟩ = some (.int .i64 x1) ∧ w'.cell? ⟨N, 12, none⟩ = some (.int .i64 x2) ∧ w'.cell? ⟨N, 13, none⟩ = some (.bool true)) (ds := [14]) (bts 16 0) (by kernel_rfl) rfl rfl (cl14 (blk_drew HN5.out)) (fun hHeld => ?_)
     have HN6 := hid (blk_drew HN5.out); have HF6 := hid (HF5.out.on (Below.drew (Below.refl _ _)))
     clear HN5 HF5
     generalize wc.drew = W6 at *
     refine take_ (i := 0) (N := some 207) (bts 16 1) rfl rfl (by kernel_rfl) (fun _ _ _ h => h) (Or.inl ⟨by rfl, by rintro w' ⟨s0, s1, s2, s3, s4, s5, s6, s7, s8, s9, s10, s11, s12, s13⟩; go_simp; with_reducible rfl⟩) (by assumption) (by simp only [Act.put, pq1, pq2, pq3, i64_w, i32_w]; rfl) ?_
     refine pure_ (i := 1) (N := some 208) (bts 16 3) rfl rfl (by kernel_rfl) (fun _ _ _ h => h) (Or.inl ⟨by rfl, by intro w'; go_simp; with_reducible rfl⟩) (by simp only [Act.put, pq1, pq2, pq3, i64_w, i32_w]; rfl) ?_
     refine pure_ (i := 2) (N := some 209) (bts 16 7) rfl rfl (by kernel_rfl) (fun _ _ _ h => h) (Or.inl ⟨by rfl, by intro w'; go_simp; with_reducible rfl⟩) (by simp only [Act.put, pq1, pq2, pq3, i64_w, i32_w]; rfl) ?_
     refine pure_ (i := 3) (N := some 210) (bts 16 15) rfl rfl (by kernel_rfl) (fun _ _ _ h => h) (Or.inl ⟨by rfl, by intro w'; go_simp; with_reducible rfl⟩) (by simp only [Act.put, pq1, pq2, pq3, i64_w, i32_w]; rfl) ?_
     refine pure_ (i := 4) (N := some 211) (bts 16 31) rfl rfl (by kernel_rfl) (fun _ _ _ h => h) (Or.inl ⟨by rfl, by intro w'; go_simp; with_reducible rfl⟩) (by simp only [Act.put, pq1, pq2, pq3, i64_w, i32_w]; rfl) ?_
     refine pure_ (i := 5) (N := some 212) (bts 16 63) rfl rfl (by kernel_rfl) (fun _ _ _ h => h) (Or.inl ⟨by rfl, by intro w'; go_simp; with_reducible rfl⟩) (by simp only [Act.put, pq1, pq2, pq3, i64_w, i32_w]; rfl) ?_
     refine pure_ (i := 6) (N := some 213) (v := undef) (a' := ?_) #[true, true, true, true, true, true, true, false, false, false, false, false, false, false, false, false] rfl rfl (by kernel_rfl) (fun _ _ _ h => h) (Or.inr ⟨by rfl, rfl⟩) ?_ ?_
     rotate_left
     ·simp only [Act.put, pq1, pq2, pq3, i64_w, i32_w]
      rfl
     refine pure_ (i := 7) (N := some 214) (v := undef) (a' := ?_) #[true, true, true, true, true, true, true, true, false, false, false, false, false, false, false, false] rfl rfl (by kernel_rfl) (fun _ _ _ h => h) (Or.inr ⟨by rfl, rfl⟩) ?_ ?_
     rotate_left
     ·simp only [Act.put, pq1, pq2, pq3, i64_w, i32_w]
      rfl
     refine pure_ (i := 8) (N := some 215) (bts 16 511) rfl rfl (by kernel_rfl) (fun _ _ _ h => h) (Or.inl ⟨by rfl, by intro w'; go_simp; with_reducible rfl⟩) (by simp only [Act.put, pq1, pq2, pq3, i64_w, i32_w]; rfl) ?_
     refine pure_ (i := 9) (N := some 216) (bts 16 1023) rfl rfl (by kernel_rfl) (fun _ _ _ h => h) (Or.inl ⟨by rfl, by intro w'; go_simp; with_reducible rfl⟩) (by simp only [Act.put, pq1, pq2, pq3, i64_w, i32_w]; rfl) ?_
     refine pure_ (i := 10) (N := some 217) (bts 16 2047) rfl rfl (by kernel_rfl) (fun _ _ _ h => h) (Or.inl ⟨by rfl, by intro w'; go_simp; with_reducible rfl⟩) (by simp only [Act.put, pq1, pq2, pq3, i64_w, i32_w]; rfl) ?_
     refine pure_ (i := 11) (N := some 218) (bts 16 4095) rfl rfl (by kernel_rfl) (fun _ _ _ h => h) (Or.inl ⟨by rfl, by intro w'; go_simp; with_reducible rfl⟩) (by simp only [Act.put, pq1, pq2, pq3, i64_w, i32_w]; rfl) ?_
     refine one_ (i := 12) (N := some 219) (bts 16 8191) rfl rfl (by kernel_rfl) (by decide) (fun K hK => ?_)
     refine goes_ Tryz.func26 (by kernel_rfl) rfl #[.string tx] (by rfl) rfl rfl (by (try simp only [List.map_toArray, List.map_cons, List.map_nil]); first | done | rfl) ?_
     refine (text2_any tx W6 (by omega)).mono ?_
     rintro e W7 ⟨rfl, hb7⟩
     refine ⟨_, rfl, ?_⟩
     have HN7 := hid (blk_below HN6.out hb7); have HF7 := hid (HF6.out.on hb7)
     clear hb7
     refine hK.out _ _ (cl14 HN7.out) (fun hHeld => ?_)
     clear hK K
     refine norm_ (a' := ?_) ?_ ?_
     rotate_left
     ·show Act.put _ (some 219) _ = _
      simp only [Act.put, pq1, pq2, pq3, i64_w, i32_w]
      rfl
     refine pure_ (i := 13) (N := some 220) (bts 16 16383) rfl rfl (by kernel_rfl) (fun _ _ _ h => h) (Or.inl ⟨by rfl, by intro w'; go_simp; with_reducible rfl⟩) (by simp only [Act.put, pq1, pq2, pq3, i64_w, i32_w]; rfl) ?_
     obtain ⟨⟨c0, c1, c2, c3, c4, c5, c6, c7, c8, c9, c10, c11, c12, c13, hx⟩, hbel⟩ := HF7.out
     obtain ⟨r0, r1, rr2, r3, r4, r5, r6, r7, r8, r9, r10, r11, r12, r13⟩ := cells14 hx
     obtain ⟨z0, z1, z2, z3, z4, z5, z6, z7, z8, z9, z10, z11, z12, z13⟩ := froz14 hx
     clear hx hbel
     refine last_ (i := 14) (N := none) (bts 16 32767) rfl rfl (by kernel_rfl) (by decide) (fun K hK => ?_)
     refine skip_ (w1 := ?_) (by rfl) rfl ?_ ?_
     rotate_left
     ·go_simp
      rfl
     refine hK.out _ _ ?_
     clear hK K
     refine pure_ (i := 15) (N := some 3) (bts 16 65535) rfl rfl (by kernel_rfl) (fun _ _ _ h => h) (Or.inl ⟨by rfl, by intro w'; go_simp; with_reducible rfl⟩) (by simp only [Act.put, pq1, pq2, pq3, i64_w, i32_w]; rfl) ?_
     refine done_ (by kernel_rfl) ?_
     go_wp2_with fail
     exact fin_ret (fin14 HF7.out) rfl rfl HR2.out
   | false =>
    rw [hac] at HG
    cases o with
    | false =>
     have HR2 := hid (HR.out.trans HG.out)
     go_wp2_with fail
     have HN5 : Hid ((((((w4.setCell ⟨N, 10, none⟩ (.int .i64 x0)).setCell ⟨N, 11, none⟩ (.int .i64 x1)).setCell ⟨N, 12, none⟩ (.int .i64 x2)).setCell ⟨N, 13, none⟩ (.bool false)).setCell ⟨N, 3, none⟩ (.string tx)).heap[N]? = some (.cells #[.int .i64 4, .slice A nl c, .slice none 0 0, .string tx, .int .i64 0, .slice none 0 0, .int .i64 0, .int .i64 0, .int .i64 0, .int .i64 0, .int .i64 x0, .int .i64 x1, .int .i64 x2, .bool false] 43 (0, 0))) := hid (by simpa using blk_set (blk_set (blk_set (blk_set (blk_set HN4.out 10 (.int .i64 x0)) 11 (.int .i64 x1)) 12 (.int .i64 x2)) 13 (.bool false)) 3 (.string tx))
     have HF5 := hid (fin_far (fin_far (fin_far (fin_far (fin_far HF4.out hw2 10 (.int .i64 x0)) hw2 11 (.int .i64 x1)) hw2 12 (.int .i64 x2)) hw2 13 (.bool false)) hw2 3 (.string tx))
     clear l0 l1 l2 n10 n11 n12 n13 n3' f10 f11 f12 f13 f3 HN4 HL4 HF4
     generalize ((((w4.setCell ⟨N, 10, none⟩ (.int .i64 x0)).setCell ⟨N, 11, none⟩ (.int .i64 x1)).setCell ⟨N, 12, none⟩ (.int .i64 x2)).setCell ⟨N, 13, none⟩ (.bool false)).setCell ⟨N, 3, none⟩ (.string tx) = wc at *
     refine start_ (n := 16) (S := fun w' => w'.cell? ⟨N, 0, none⟩ = some (.int .i64 4) ∧ w'.cell? ⟨N, 1, none⟩ = some (.slice A nl c) ∧ w'.cell? ⟨N, 2, none⟩ = some (.slice none 0 0) ∧ w'.cell? ⟨N, 3, none⟩ = some (.string tx) ∧ w'.cell? ⟨N, 4, none⟩ = some (.int .i64 0) ∧ w'.cell? ⟨N, 5, none⟩ = some (.slice none 0 0) ∧ w'.cell? ⟨N, 6, none⟩ = some (.int .i64 0) ∧ w'.cell? ⟨N, 7, none⟩ = some (.int .i64 0) ∧ w'.cell? ⟨N, 8, none⟩ = some (.int .i64 0) ∧ w'.cell? ⟨N, 9, none⟩ = some (.int .i64 0) ∧ w'.cell? ⟨N, 10, none⟩ = some (.int .i64 x0) ∧ w'.cell? ⟨N, 11, none⟩ = some (.int .i64 x1) ∧ w'.cell? ⟨N, 12, none⟩ = some (.int .i64 x2) ∧ w'.cell? ⟨N, 13, none⟩ = some (.bool false)) (ds := [14]) (bts 16 0) (by kernel_rfl) rfl rfl (cl14 (blk_drew HN5.out)) (fun hHeld => ?_)
     have HN6 := hid (blk_drew HN5.out); have HF6 := hid (HF5.out.on (Below.drew (Below.refl _ _)))
     clear HN5 HF5
     generalize wc.drew = W6 at *
     refine take_ (i := 0) (N := some 207) (bts 16 1) rfl rfl (by kernel_rfl) (fun _ _ _ h => h) (Or.inl ⟨by rfl, by rintro w' ⟨s0, s1, s2, s3, s4, s5, s6, s7, s8, s9, s10, s11, s12, s13⟩; go_simp; with_reducible rfl⟩) (by assumption) (by simp only [Act.put, pq1, pq2, pq3, i64_w, i32_w]; rfl) ?_
     refine pure_ (i := 1) (N := some 208) (bts 16 3) rfl rfl (by kernel_rfl) (fun _ _ _ h => h) (Or.inl ⟨by rfl, by intro w'; go_simp; with_reducible rfl⟩) (by simp only [Act.put, pq1, pq2, pq3, i64_w, i32_w]; rfl) ?_
     refine pure_ (i := 2) (N := some 209) (bts 16 7) rfl rfl (by kernel_rfl) (fun _ _ _ h => h) (Or.inl ⟨by rfl, by intro w'; go_simp; with_reducible rfl⟩) (by simp only [Act.put, pq1, pq2, pq3, i64_w, i32_w]; rfl) ?_
     refine pure_ (i := 3) (N := some 210) (v := undef) (a' := ?_) #[true, true, true, true, false, false, false, false, false, false, false, false, false, false, false, false] rfl rfl (by kernel_rfl) (fun _ _ _ h => h) (Or.inr ⟨by rfl, rfl⟩) ?_ ?_
     rotate_left
     ·simp only [Act.put, pq1, pq2, pq3, i64_w, i32_w]
      rfl
     refine pure_ (i := 4) (N := some 211) (v := undef) (a' := ?_) #[true, true, true, true, true, false, false, false, false, false, false, false, false, false, false, false] rfl rfl (by kernel_rfl) (fun _ _ _ h => h) (Or.inr ⟨by rfl, rfl⟩) ?_ ?_
     rotate_left
     ·simp only [Act.put, pq1, pq2, pq3, i64_w, i32_w]
      rfl
     refine pure_ (i := 5) (N := some 212) (v := undef) (a' := ?_) #[true, true, true, true, true, true, false, false, false, false, false, false, false, false, false, false] rfl rfl (by kernel_rfl) (fun _ _ _ h => h) (Or.inr ⟨by rfl, rfl⟩) ?_ ?_
     rotate_left
     ·simp only [Act.put, pq1, pq2, pq3, i64_w, i32_w]
      rfl
     refine pure_ (i := 6) (N := some 213) (v := undef) (a' := ?_) #[true, true, true, true, true, true, true, false, false, false, false, false, false, false, false, false] rfl rfl (by kernel_rfl) (fun _ _ _ h => h) (Or.inr ⟨by rfl, rfl⟩) ?_ ?_
     rotate_left
     ·simp only [Act.put, pq1, pq2, pq3, i64_w, i32_w]
      rfl
     refine pure_ (i := 7) (N := some 214) (v := undef) (a' := ?_) #[true, true, true, true, true, true, true, true, false, false, false, false, false, false, false, false] rfl rfl (by kernel_rfl) (fun _ _ _ h => h) (Or.inr ⟨by rfl, rfl⟩) ?_ ?_
     rotate_left
     ·simp only [Act.put, pq1, pq2, pq3, i64_w, i32_w]
      rfl
     refine pure_ (i := 8) (N := some 215) (v := undef) (a' := ?_) #[true, true, true, true, true, true, true, true, true, false, false, false, false, false, false, false] rfl rfl (by kernel_rfl) (fun _ _ _ h => h) (Or.inr ⟨by rfl, rfl⟩) ?_ ?_
     rotate_left
     ·simp only [Act.put, pq1, pq2, pq3, i64_w, i32_w]
      rfl
     refine pure_ (i := 9) (N := some 216) (bts 16 1023) rfl rfl (by kernel_rfl) (fun _ _ _ h => h) (Or.inl ⟨by rfl, by intro w'; go_simp; with_reducible rfl⟩) (by simp only [Act.put, pq1, pq2, pq3, i64_w, i32_w]; rfl) ?_
     refine pure_ (i := 10) (N := some 217) (bts 16 2047) rfl rfl (by kernel_rfl) (fun _ _ _ h => h) (Or.inl ⟨by rfl, by intro w'; go_simp; with_reducible rfl⟩) (by simp only [Act.put, pq1, pq2, pq3, i64_w, i32_w]; rfl) ?_
     refine pure_ (i := 11) (N := some 218) (v := undef) (a' := ?_) #[true, true, true, true, true, true, true, true, true, true, true, true, false, false, false, false] rfl rfl (by kernel_rfl) (fun _ _ _ h => h) (Or.inr ⟨by rfl, rfl⟩) ?_ ?_
     rotate_left
     ·simp only [Act.put, pq1, pq2, pq3, i64_w, i32_w]
      rfl
     refine pure_ (i := 12) (N := some 219) (v := undef) (a' := ?_) #[true, true, true, true, true, true, true, true, true, true, true, true, true, false, false, false] rfl rfl (by kernel_rfl) (fun _ _ _ h => h) (Or.inr ⟨by rfl, rfl⟩) ?_ ?_
     rotate_left
     ·simp only [Act.put, pq1, pq2, pq3, i64_w, i32_w]
      rfl
     refine pure_ (i := 13) (N := some 220) (bts 16 16383) rfl rfl (by kernel_rfl) (fun _ _ _ h => h) (Or.inl ⟨by rfl, by intro w'; go_simp; with_reducible rfl⟩) (by simp only [Act.put, pq1, pq2, pq3, i64_w, i32_w]; rfl) ?_
     obtain ⟨⟨c0, c1, c2, c3, c4, c5, c6, c7, c8, c9, c10, c11, c12, c13, hx⟩, hbel⟩ := HF6.out
     obtain ⟨r0, r1, rr2, r3, r4, r5, r6, r7, r8, r9, r10, r11, r12, r13⟩ := cells14 hx
     obtain ⟨z0, z1, z2, z3, z4, z5, z6, z7, z8, z9, z10, z11, z12, z13⟩ := froz14 hx
     clear hx hbel
     refine last_ (i := 14) (N := none) (bts 16 32767) rfl rfl (by kernel_rfl) (by decide) (fun K hK => ?_)
     refine skip_ (w1 := ?_) (by rfl) rfl ?_ ?_
     rotate_left
     ·go_simp
      rfl
     refine hK.out _ _ ?_
     clear hK K
     refine pure_ (i := 15) (N := some 3) (bts 16 65535) rfl rfl (by kernel_rfl) (fun _ _ _ h => h) (Or.inl ⟨by rfl, by intro w'; go_simp; with_reducible rfl⟩) (by simp only [Act.put, pq1, pq2, pq3, i64_w, i32_w]; rfl) ?_
     refine done_ (by kernel_rfl) ?_
     go_wp2_with fail
     exact fin_ret (fin14 HF6.out) rfl rfl HR2.out
    | true =>
     cases hdc : (how.toList == [100, 105, 115]) with
     | true =>
      rw [hdc] at HG
      have HR2 := hid (HR.out.trans HG.out)
      go_wp2_with fail
      have HN5 : Hid ((((((w4.setCell ⟨N, 10, none⟩ (.int .i64 x0)).setCell ⟨N, 11, none⟩ (.int .i64 x1)).setCell ⟨N, 12, none⟩ (.int .i64 x2)).setCell ⟨N, 13, none⟩ (.bool false)).setCell ⟨N, 3, none⟩ (.string tx)).heap[N]? = some (.cells #[.int .i64 4, .slice A nl c, .slice none 0 0, .string tx, .int .i64 0, .slice none 0 0, .int .i64 0, .int .i64 0, .int .i64 0, .int .i64 0, .int .i64 x0, .int .i64 x1, .int .i64 x2, .bool false] 43 (0, 0))) := hid (by simpa using blk_set (blk_set (blk_set (blk_set (blk_set HN4.out 10 (.int .i64 x0)) 11 (.int .i64 x1)) 12 (.int .i64 x2)) 13 (.bool false)) 3 (.string tx))
      have HF5 := hid (fin_far (fin_far (fin_far (fin_far (fin_far HF4.out hw2 10 (.int .i64 x0)) hw2 11 (.int .i64 x1)) hw2 12 (.int .i64 x2)) hw2 13 (.bool false)) hw2 3 (.string tx))
      clear l0 l1 l2 n10 n11 n12 n13 n3' f10 f11 f12 f13 f3 HN4 HL4 HF4
      generalize ((((w4.setCell ⟨N, 10, none⟩ (.int .i64 x0)).setCell ⟨N, 11, none⟩ (.int .i64 x1)).setCell ⟨N, 12, none⟩ (.int .i64 x2)).setCell ⟨N, 13, none⟩ (.bool false)).setCell ⟨N, 3, none⟩ (.string tx) = wc at *
      refine start_ (n := 16) (S := fun w' => w'.cell? ⟨N, 0, none⟩ = some (.int .i64 4) ∧ w'.cell? ⟨N, 1, none⟩ = some (.slice A nl c) ∧ w'.cell? ⟨N, 2, none⟩ = some (.slice none 0 0) ∧ w'.cell? ⟨N, 3, none⟩ = some (.string tx) ∧ w'.cell? ⟨N, 4, none⟩ = some (.int .i64 0) ∧ w'.cell? ⟨N, 5, none⟩ = some (.slice none 0 0) ∧ w'.cell? ⟨N, 6, none⟩ = some (.int .i64 0) ∧ w'.cell? ⟨N, 7, none⟩ = some (.int .i64 0) ∧ w'.cell? ⟨N, 8, none⟩ = some (.int .i64 0) ∧ w'.cell? ⟨N, 9, none⟩ = some (.int .i64 0) ∧ w'.cell? ⟨N, 10, none⟩ = some (.int .i64 x0) ∧ w'.cell? ⟨N, 11, none⟩ = some (.int .i64 x1) ∧ w'.cell? ⟨N, 12, none⟩ = some (.int .i64 x2) ∧ w'.cell? ⟨N, 13, none⟩ = some (.bool false)) (ds := [14]) (bts 16 0) (by kernel_rfl) rfl rfl (cl14 (blk_drew HN5.out)) (fun hHeld => ?_)
      have HN6 := hid (blk_drew HN5.out); have HF6 := hid (HF5.out.on (Below.drew (Below.refl _ _)))
      clear HN5 HF5
      generalize wc.drew = W6 at *
      refine take_ (i := 0) (N := some 207) (bts 16 1) rfl rfl (by kernel_rfl) (fun _ _ _ h => h) (Or.inl ⟨by rfl, by rintro w' ⟨s0, s1, s2, s3, s4, s5, s6, s7, s8, s9, s10, s11, s12, s13⟩; go_simp; with_reducible rfl⟩) (by assumption) (by simp only [Act.put, pq1, pq2, pq3, i64_w, i32_w]; rfl) ?_
      refine pure_ (i := 1) (N := some 208) (bts 16 3) rfl rfl (by kernel_rfl) (fun _ _ _ h => h) (Or.inl ⟨by rfl, by intro w'; go_simp; with_reducible rfl⟩) (by simp only [Act.put, pq1, pq2, pq3, i64_w, i32_w]; rfl) ?_
      refine pure_ (i := 2) (N := some 209) (bts 16 7) rfl rfl (by kernel_rfl) (fun _ _ _ h => h) (Or.inl ⟨by rfl, by intro w'; go_simp; with_reducible rfl⟩) (by simp only [Act.put, pq1, pq2, pq3, i64_w, i32_w]; rfl) ?_
      refine pure_ (i := 3) (N := some 210) (bts 16 15) rfl rfl (by kernel_rfl) (fun _ _ _ h => h) (Or.inl ⟨by rfl, by intro w'; go_simp; with_reducible rfl⟩) (by simp only [Act.put, pq1, pq2, pq3, i64_w, i32_w]; rfl) ?_
      refine pure_ (i := 4) (N := some 211) (bts 16 31) rfl rfl (by kernel_rfl) (fun _ _ _ h => h) (Or.inl ⟨by rfl, by intro w'; go_simp; with_reducible rfl⟩) (by simp only [Act.put, pq1, pq2, pq3, i64_w, i32_w]; rfl) ?_
      refine pure_ (i := 5) (N := some 212) (bts 16 63) rfl rfl (by kernel_rfl) (fun _ _ _ h => h) (Or.inl ⟨by rfl, by intro w'; go_simp; with_reducible rfl⟩) (by simp only [Act.put, pq1, pq2, pq3, i64_w, i32_w]; rfl) ?_
      refine pure_ (i := 6) (N := some 213) (bts 16 127) rfl rfl (by kernel_rfl) (fun _ _ _ h => h) (Or.inl ⟨by rfl, by intro w'; go_simp; with_reducible rfl⟩) (by simp only [Act.put, pq1, pq2, pq3, i64_w, i32_w]; rfl) ?_
      refine pure_ (i := 7) (N := some 214) (bts 16 255) rfl rfl (by kernel_rfl) (fun _ _ _ h => h) (Or.inl ⟨by rfl, by intro w'; go_simp; with_reducible rfl⟩) (by simp only [Act.put, pq1, pq2, pq3, i64_w, i32_w]; rfl) ?_
      refine pure_ (i := 8) (N := some 215) (bts 16 511) rfl rfl (by kernel_rfl) (fun _ _ _ h => h) (Or.inl ⟨by rfl, by intro w'; go_simp; with_reducible rfl⟩) (by simp only [Act.put, pq1, pq2, pq3, i64_w, i32_w]; rfl) ?_
      refine pure_ (i := 9) (N := some 216) (bts 16 1023) rfl rfl (by kernel_rfl) (fun _ _ _ h => h) (Or.inl ⟨by rfl, by intro w'; go_simp; with_reducible rfl⟩) (by simp only [Act.put, pq1, pq2, pq3, i64_w, i32_w]; rfl) ?_
      refine pure_ (i := 10) (N := some 217) (bts 16 2047) rfl rfl (by kernel_rfl) (fun _ _ _ h => h) (Or.inl ⟨by rfl, by intro w'; go_simp; with_reducible rfl⟩) (by simp only [Act.put, pq1, pq2, pq3, i64_w, i32_w]; rfl) ?_
      refine pure_ (i := 11) (N := some 218) (bts 16 4095) rfl rfl (by kernel_rfl) (fun _ _ _ h => h) (Or.inl ⟨by rfl, by intro w'; go_simp; with_reducible rfl⟩) (by simp only [Act.put, pq1, pq2, pq3, i64_w, i32_w]; rfl) ?_
      refine one_ (i := 12) (N := some 219) (bts 16 8191) rfl rfl (by kernel_rfl) (by decide) (fun K hK => ?_)
      refine goes_ Tryz.func26 (by kernel_rfl) rfl #[.string tx] (by rfl) rfl rfl (by (try simp only [List.map_toArray, List.map_cons, List.map_nil]); first | done | rfl) ?_
      refine (text2_any tx W6 (by omega)).mono ?_
      rintro e W7 ⟨rfl, hb7⟩
      refine ⟨_, rfl, ?_⟩
      have HN7 := hid (blk_below HN6.out hb7); have HF7 := hid (HF6.out.on hb7)
      clear hb7
      refine hK.out _ _ (cl14 HN7.out) (fun hHeld => ?_)
      clear hK K
      refine norm_ (a' := ?_) ?_ ?_
      rotate_left
      ·show Act.put _ (some 219) _ = _
       simp only [Act.put, pq1, pq2, pq3, i64_w, i32_w]
       rfl
      refine pure_ (i := 13) (N := some 220) (bts 16 16383) rfl rfl (by kernel_rfl) (fun _ _ _ h => h) (Or.inl ⟨by rfl, by intro w'; go_simp; with_reducible rfl⟩) (by simp only [Act.put, pq1, pq2, pq3, i64_w, i32_w]; rfl) ?_
      obtain ⟨⟨c0, c1, c2, c3, c4, c5, c6, c7, c8, c9, c10, c11, c12, c13, hx⟩, hbel⟩ := HF7.out
      obtain ⟨r0, r1, rr2, r3, r4, r5, r6, r7, r8, r9, r10, r11, r12, r13⟩ := cells14 hx
      obtain ⟨z0, z1, z2, z3, z4, z5, z6, z7, z8, z9, z10, z11, z12, z13⟩ := froz14 hx
      clear hx hbel
      refine last_ (i := 14) (N := none) (bts 16 32767) rfl rfl (by kernel_rfl) (by decide) (fun K hK => ?_)
      refine skip_ (w1 := ?_) (by rfl) rfl ?_ ?_
      rotate_left
      ·go_simp
       rfl
      refine hK.out _ _ ?_
      clear hK K
      refine pure_ (i := 15) (N := some 3) (bts 16 65535) rfl rfl (by kernel_rfl) (fun _ _ _ h => h) (Or.inl ⟨by rfl, by intro w'; go_simp; with_reducible rfl⟩) (by simp only [Act.put, pq1, pq2, pq3, i64_w, i32_w]; rfl) ?_
      refine done_ (by kernel_rfl) ?_
      go_wp2_with fail
      exact fin_ret (fin14 HF7.out) rfl rfl HR2.out
     | false =>
      rw [hdc] at HG
      have HR2 := hid (HR.out.trans HG.out)
      go_wp2_with fail
      have HN5 : Hid ((((((w4.setCell ⟨N, 10, none⟩ (.int .i64 x0)).setCell ⟨N, 11, none⟩ (.int .i64 x1)).setCell ⟨N, 12, none⟩ (.int .i64 x2)).setCell ⟨N, 13, none⟩ (.bool false)).setCell ⟨N, 3, none⟩ (.string tx)).heap[N]? = some (.cells #[.int .i64 4, .slice A nl c, .slice none 0 0, .string tx, .int .i64 0, .slice none 0 0, .int .i64 0, .int .i64 0, .int .i64 0, .int .i64 0, .int .i64 x0, .int .i64 x1, .int .i64 x2, .bool false] 43 (0, 0))) := hid (by simpa using blk_set (blk_set (blk_set (blk_set (blk_set HN4.out 10 (.int .i64 x0)) 11 (.int .i64 x1)) 12 (.int .i64 x2)) 13 (.bool false)) 3 (.string tx))
      have HF5 := hid (fin_far (fin_far (fin_far (fin_far (fin_far HF4.out hw2 10 (.int .i64 x0)) hw2 11 (.int .i64 x1)) hw2 12 (.int .i64 x2)) hw2 13 (.bool false)) hw2 3 (.string tx))
      clear l0 l1 l2 n10 n11 n12 n13 n3' f10 f11 f12 f13 f3 HN4 HL4 HF4
      generalize ((((w4.setCell ⟨N, 10, none⟩ (.int .i64 x0)).setCell ⟨N, 11, none⟩ (.int .i64 x1)).setCell ⟨N, 12, none⟩ (.int .i64 x2)).setCell ⟨N, 13, none⟩ (.bool false)).setCell ⟨N, 3, none⟩ (.string tx) = wc at *
      refine start_ (n := 16) (S := fun w' => w'.cell? ⟨N, 0, none⟩ = some (.int .i64 4) ∧ w'.cell? ⟨N, 1, none⟩ = some (.slice A nl c) ∧ w'.cell? ⟨N, 2, none⟩ = some (.slice none 0 0) ∧ w'.cell? ⟨N, 3, none⟩ = some (.string tx) ∧ w'.cell? ⟨N, 4, none⟩ = some (.int .i64 0) ∧ w'.cell? ⟨N, 5, none⟩ = some (.slice none 0 0) ∧ w'.cell? ⟨N, 6, none⟩ = some (.int .i64 0) ∧ w'.cell? ⟨N, 7, none⟩ = some (.int .i64 0) ∧ w'.cell? ⟨N, 8, none⟩ = some (.int .i64 0) ∧ w'.cell? ⟨N, 9, none⟩ = some (.int .i64 0) ∧ w'.cell? ⟨N, 10, none⟩ = some (.int .i64 x0) ∧ w'.cell? ⟨N, 11, none⟩ = some (.int .i64 x1) ∧ w'.cell? ⟨N, 12, none⟩ = some (.int .i64 x2) ∧ w'.cell? ⟨N, 13, none⟩ = some (.bool false)) (ds := [14]) (bts 16 0) (by kernel_rfl) rfl rfl (cl14 (blk_drew HN5.out)) (fun hHeld => ?_)
      have HN6 := hid (blk_drew HN5.out); have HF6 := hid (HF5.out.on (Below.drew (Below.refl _ _)))
      clear HN5 HF5
      generalize wc.drew = W6 at *
      refine take_ (i := 0) (N := some 207) (bts 16 1) rfl rfl (by kernel_rfl) (fun _ _ _ h => h) (Or.inl ⟨by rfl, by rintro w' ⟨s0, s1, s2, s3, s4, s5, s6, s7, s8, s9, s10, s11, s12, s13⟩; go_simp; with_reducible rfl⟩) (by assumption) (by simp only [Act.put, pq1, pq2, pq3, i64_w, i32_w]; rfl) ?_
      refine pure_ (i := 1) (N := some 208) (bts 16 3) rfl rfl (by kernel_rfl) (fun _ _ _ h => h) (Or.inl ⟨by rfl, by intro w'; go_simp; with_reducible rfl⟩) (by simp only [Act.put, pq1, pq2, pq3, i64_w, i32_w]; rfl) ?_
      refine pure_ (i := 2) (N := some 209) (bts 16 7) rfl rfl (by kernel_rfl) (fun _ _ _ h => h) (Or.inl ⟨by rfl, by intro w'; go_simp; with_reducible rfl⟩) (by simp only [Act.put, pq1, pq2, pq3, i64_w, i32_w]; rfl) ?_
      refine pure_ (i := 3) (N := some 210) (bts 16 15) rfl rfl (by kernel_rfl) (fun _ _ _ h => h) (Or.inl ⟨by rfl, by intro w'; go_simp; with_reducible rfl⟩) (by simp only [Act.put, pq1, pq2, pq3, i64_w, i32_w]; rfl) ?_
      refine pure_ (i := 4) (N := some 211) (bts 16 31) rfl rfl (by kernel_rfl) (fun _ _ _ h => h) (Or.inl ⟨by rfl, by intro w'; go_simp; with_reducible rfl⟩) (by simp only [Act.put, pq1, pq2, pq3, i64_w, i32_w]; rfl) ?_
      refine pure_ (i := 5) (N := some 212) (bts 16 63) rfl rfl (by kernel_rfl) (fun _ _ _ h => h) (Or.inl ⟨by rfl, by intro w'; go_simp; with_reducible rfl⟩) (by simp only [Act.put, pq1, pq2, pq3, i64_w, i32_w]; rfl) ?_
      refine pure_ (i := 6) (N := some 213) (bts 16 127) rfl rfl (by kernel_rfl) (fun _ _ _ h => h) (Or.inl ⟨by rfl, by intro w'; go_simp; with_reducible rfl⟩) (by simp only [Act.put, pq1, pq2, pq3, i64_w, i32_w]; rfl) ?_
      refine pure_ (i := 7) (N := some 214) (bts 16 255) rfl rfl (by kernel_rfl) (fun _ _ _ h => h) (Or.inl ⟨by rfl, by intro w'; go_simp; with_reducible rfl⟩) (by simp only [Act.put, pq1, pq2, pq3, i64_w, i32_w]; rfl) ?_
      refine pure_ (i := 8) (N := some 215) (bts 16 511) rfl rfl (by kernel_rfl) (fun _ _ _ h => h) (Or.inl ⟨by rfl, by intro w'; go_simp; with_reducible rfl⟩) (by simp only [Act.put, pq1, pq2, pq3, i64_w, i32_w]; rfl) ?_
      refine pure_ (i := 9) (N := some 216) (bts 16 1023) rfl rfl (by kernel_rfl) (fun _ _ _ h => h) (Or.inl ⟨by rfl, by intro w'; go_simp; with_reducible rfl⟩) (by simp only [Act.put, pq1, pq2, pq3, i64_w, i32_w]; rfl) ?_
      refine pure_ (i := 10) (N := some 217) (bts 16 2047) rfl rfl (by kernel_rfl) (fun _ _ _ h => h) (Or.inl ⟨by rfl, by intro w'; go_simp; with_reducible rfl⟩) (by simp only [Act.put, pq1, pq2, pq3, i64_w, i32_w]; rfl) ?_
      refine pure_ (i := 11) (N := some 218) (v := undef) (a' := ?_) #[true, true, true, true, true, true, true, true, true, true, true, true, false, false, false, false] rfl rfl (by kernel_rfl) (fun _ _ _ h => h) (Or.inr ⟨by rfl, rfl⟩) ?_ ?_
      rotate_left
      ·simp only [Act.put, pq1, pq2, pq3, i64_w, i32_w]
       rfl
      refine pure_ (i := 12) (N := some 219) (v := undef) (a' := ?_) #[true, true, true, true, true, true, true, true, true, true, true, true, true, false, false, false] rfl rfl (by kernel_rfl) (fun _ _ _ h => h) (Or.inr ⟨by rfl, rfl⟩) ?_ ?_
      rotate_left
      ·simp only [Act.put, pq1, pq2, pq3, i64_w, i32_w]
       rfl
      refine pure_ (i := 13) (N := some 220) (bts 16 16383) rfl rfl (by kernel_rfl) (fun _ _ _ h => h) (Or.inl ⟨by rfl, by intro w'; go_simp; with_reducible rfl⟩) (by simp only [Act.put, pq1, pq2, pq3, i64_w, i32_w]; rfl) ?_
      obtain ⟨⟨c0, c1, c2, c3, c4, c5, c6, c7, c8, c9, c10, c11, c12, c13, hx⟩, hbel⟩ := HF6.out
      obtain ⟨r0, r1, rr2, r3, r4, r5, r6, r7, r8, r9, r10, r11, r12, r13⟩ := cells14 hx
      obtain ⟨z0, z1, z2, z3, z4, z5, z6, z7, z8, z9, z10, z11, z12, z13⟩ := froz14 hx
      clear hx hbel
      refine last_ (i := 14) (N := none) (bts 16 32767) rfl rfl (by kernel_rfl) (by decide) (fun K hK => ?_)
      refine skip_ (w1 := ?_) (by rfl) rfl ?_ ?_
      rotate_left
      ·go_simp
       rfl
      refine hK.out _ _ ?_
      clear hK K
      refine pure_ (i := 15) (N := some 3) (bts 16 65535) rfl rfl (by kernel_rfl) (fun _ _ _ h => h) (Or.inl ⟨by rfl, by intro w'; go_simp; with_reducible rfl⟩) (by simp only [Act.put, pq1, pq2, pq3, i64_w, i32_w]; rfl) ?_
      refine done_ (by kernel_rfl) ?_
      go_wp2_with fail
      exact fin_ret (fin14 HF6.out) rfl rfl HR2.out
theorem read2_any (s : ByteArray) (hs : s.size <= 900000) (w : World) : Calls Tryz.prog 10 #[.string s] w (RPost s w) := by
 cases hok : okS s with
 | false => exact rd_none s hs w hok
 | true =>
  by_cases n0 : howL s = [115, 111, 117, 114, 99, 101]
  ·exact rd_src s hs w hok n0
  by_cases n1 : howL s = [115, 105, 110, 107]
  ·exact rd_sink s hs w hok n0 n1
  by_cases n2 : howL s = [102, 108, 97, 116, 116, 101, 110]
  ·exact rd_flat s hs w hok n0 n1 n2
  cases h1 : (oneR (tlS s)).2.2 with
  | false => exact rd_bad s hs w hok n0 n1 n2 h1
  | true =>
   by_cases n3 : howL s = [101, 97, 99, 104]
   ·exact rd_each s hs w hok n0 n1 n2 n3 h1
   by_cases n4 : howL s = [119, 105, 110, 100, 111, 119]
   ·exact rd_win s hs w hok n0 n1 n2 n3 n4 h1
   by_cases n5 : howL s = [103, 114, 111, 117, 112]
   ·exact rd_grp s hs w hok n0 n1 n2 n3 n4 n5 h1
   ·exact rd_def s hs w hok n0 n1 n2 n3 n4 n5 h1
end Go.Proofs.YtamfloegflejnaaGreatDoor
