/-
 kind's check of a type: what it answers is what the type's tree says.
-/
import Derived.Test.YtamfloegflejnaaGreatDoorKA
import Derived.LoopN
import Derived.Lib.Hide
set_option linter.unusedVariables false
set_option linter.unusedSimpArgs false
set_option maxHeartbeats 1000000
set_option maxRecDepth 100000
namespace Go.Proofs.YtamfloegflejnaaGreatDoor
open Lib (hid)
open Go.RowKit Go.Proofs.YtamfloegflejnaaGreatDoorW.PrintWords Go.Proofs.YtamfloegflejnaaGreatDoorW.PrintLast Go.Proofs.YtamfloegflejnaaGreatDoorW.PrintMore PGraphLines
/-- The row of words. -/
def wordCells : Array Value := #[.int .i64 1, .string ⟨#[98, 111, 111, 108]⟩, .int .i64 0, .int .i64 2, .string ⟨#[105, 110, 116]⟩, .int .i64 0, .int .i64 3, .string ⟨#[116, 101, 120, 116]⟩, .int .i64 0, .int .i64 4, .string ⟨#[98, 121, 116, 101, 115]⟩, .int .i64 0, .int .i64 5, .string ⟨#[112, 111, 105, 110, 116]⟩, .int .i64 0, .int .i64 6, .string ⟨#[112, 97, 105, 114]⟩, .int .i64 2, .int .i64 7, .string ⟨#[108, 105, 115, 116]⟩, .int .i64 1, .int .i64 9, .string ⟨#[111, 112, 116, 105, 111, 110]⟩, .int .i64 1]
def widx (k : Int) : Int := if k = 1 then 0 else if k = 2 then 1 else if k = 3 then 2 else if k = 4 then 3 else if k = 5 then 4 else if k = 6 then 5 else if k = 7 then 6 else if k = 9 then 7 else -1
theorem words_any (w : World) : Calls Tryz.prog 89 #[] w fun e w' => e = .returned (.slice (some ⟨w.heap.size, 0, none⟩) 8 8) ∧ w' = w.alloc (.cells wordCells 135) := by
 go_enter Tryz.func89, Tryz.ntmps89
 go_wp2
 go_ret
 exact ⟨rfl, rfl⟩
theorem same_kind (k a kind : Int) (s : ByteArray) (q : Nat) (w : World) (hq : w.cell? ⟨q, 0, none⟩ = some (.int .i64 kind)) (hqs : q < w.heap.size) :
  Calls Tryz.prog 105 #[.agg #[.int .i64 k, .string s, .int .i64 a], .pointer (some ⟨q, 0, none⟩)] w fun e w' => e = .returned (.bool (k == kind)) ∧ Below w.heap.size w w' := by
 have hq2 : (w.alloc (.cells #[.int .i64 k, .string s, .int .i64 a] 135)).cell? ⟨q, 0, none⟩ = some (.int .i64 kind) := (Below.alloc (Below.refl _ _) (Nat.le_refl _) _ |>.cell (p := ⟨q, 0, none⟩) hqs).trans hq
 go_enter Tryz.func105, Tryz.ntmps105
 go_wp2
 all_goals go_ret
 all_goals exact ⟨rfl, Below.alloc (Below.refl _ _) (Nat.le_refl _) _⟩
theorem index_word (kind : Int) (g q : Nat) (w : World) (hg : w.heap[g]? = some (.cells wordCells 135)) (hq : w.cell? ⟨q, 0, none⟩ = some (.int .i64 kind)) (hqs : q < w.heap.size) :
  Calls Tryz.prog 104 #[.slice (some ⟨g, 0, none⟩) 8 8, .func (.func 105) #[] #[.pointer (some ⟨q, 0, none⟩)]] w fun e w' => e = .returned (.int .i64 (widx kind)) ∧ Below w.heap.size w w' := by
 have HG := hid hg; have HQ := hid hq
 have HB := hid (Below.refl w.heap.size w)
 have HS := hid hqs
 clear hg hq hqs
 go_enter Tryz.func104, Tryz.ntmps104
 go_wp2_with fail
 refine wp_loop_rounds 9 ?_
 rw [rounds_succ]
 have hc := (blk_cell HG.out 0).trans (show _ = some (.int .i64 1) from rfl)
 have hc1 := (blk_cell HG.out 1).trans (show _ = some (.string ⟨#[98, 111, 111, 108]⟩) from rfl)
 have hc2 := (blk_cell HG.out 2).trans (show _ = some (.int .i64 0) from rfl)
 by_cases hk0 : kind = 1
 ·have hne : ((1 : Int) == kind) = true := by rw [beq_iff_eq]; exact hk0.symm
  have NE := hid hne
  clear hne
  go_wp2_with fail
  refine (same_kind 1 0 kind _ q _ HQ.out HS.out).mono ?_
  rw [NE.out]
  rintro e w2 ⟨rfl, hb⟩
  have HB2 := hid (HB.out.trans (hb.mono HB.out.size))
  clear hb
  go_wp2_with fail
  exact bodyPost_ret (v := .int .i64 0) (by simp [results, Tryz.results104, go_sem]) rfl ⟨by rw [hk0]; rfl, HB2.out⟩
 have hne : ((1 : Int) == kind) = false := by rw [beq_eq_false_iff_ne]; exact fun h => hk0 h.symm
 have NE := hid hne
 clear hne
 go_wp2_with fail
 refine (same_kind 1 0 kind _ q _ HQ.out HS.out).mono ?_
 rw [NE.out]
 rintro e w10 ⟨rfl, hb⟩
 replace HG := hid ((hb.block g (blk_lt HG.out)).trans HG.out)
 replace HQ := hid ((hb.cell (p := ⟨q, 0, none⟩) HS.out).trans HQ.out)
 replace HS := hid (Nat.lt_of_lt_of_le HS.out hb.size)
 replace HB := hid (HB.out.trans (hb.mono HB.out.size))
 clear hb hc hc1 hc2 NE
 go_wp2_with fail
 rw [rounds_succ]
 have hc := (blk_cell HG.out 3).trans (show _ = some (.int .i64 2) from rfl)
 have hc1 := (blk_cell HG.out 4).trans (show _ = some (.string ⟨#[105, 110, 116]⟩) from rfl)
 have hc2 := (blk_cell HG.out 5).trans (show _ = some (.int .i64 0) from rfl)
 by_cases hk1 : kind = 2
 ·have hne : ((2 : Int) == kind) = true := by rw [beq_iff_eq]; exact hk1.symm
  have NE := hid hne
  clear hne
  go_wp2_with fail
  refine (same_kind 2 0 kind _ q _ HQ.out HS.out).mono ?_
  rw [NE.out]
  rintro e w2 ⟨rfl, hb⟩
  have HB2 := hid (HB.out.trans (hb.mono HB.out.size))
  clear hb
  go_wp2_with fail
  exact bodyPost_ret (v := .int .i64 1) (by simp [results, Tryz.results104, go_sem]) rfl ⟨by rw [hk1]; rfl, HB2.out⟩
 have hne : ((2 : Int) == kind) = false := by rw [beq_eq_false_iff_ne]; exact fun h => hk1 h.symm
 have NE := hid hne
 clear hne
 go_wp2_with fail
 refine (same_kind 2 0 kind _ q _ HQ.out HS.out).mono ?_
 rw [NE.out]
 rintro e w11 ⟨rfl, hb⟩
 replace HG := hid ((hb.block g (blk_lt HG.out)).trans HG.out)
 replace HQ := hid ((hb.cell (p := ⟨q, 0, none⟩) HS.out).trans HQ.out)
 replace HS := hid (Nat.lt_of_lt_of_le HS.out hb.size)
 replace HB := hid (HB.out.trans (hb.mono HB.out.size))
 clear hb hc hc1 hc2 NE
 go_wp2_with fail
 rw [rounds_succ]
 have hc := (blk_cell HG.out 6).trans (show _ = some (.int .i64 3) from rfl)
 have hc1 := (blk_cell HG.out 7).trans (show _ = some (.string ⟨#[116, 101, 120, 116]⟩) from rfl)
 have hc2 := (blk_cell HG.out 8).trans (show _ = some (.int .i64 0) from rfl)
 by_cases hk2 : kind = 3
 ·have hne : ((3 : Int) == kind) = true := by rw [beq_iff_eq]; exact hk2.symm
  have NE := hid hne
  clear hne
  go_wp2_with fail
  refine (same_kind 3 0 kind _ q _ HQ.out HS.out).mono ?_
  rw [NE.out]
  rintro e w2 ⟨rfl, hb⟩
  have HB2 := hid (HB.out.trans (hb.mono HB.out.size))
  clear hb
  go_wp2_with fail
  exact bodyPost_ret (v := .int .i64 2) (by simp [results, Tryz.results104, go_sem]) rfl ⟨by rw [hk2]; rfl, HB2.out⟩
 have hne : ((3 : Int) == kind) = false := by rw [beq_eq_false_iff_ne]; exact fun h => hk2 h.symm
 have NE := hid hne
 clear hne
 go_wp2_with fail
 refine (same_kind 3 0 kind _ q _ HQ.out HS.out).mono ?_
 rw [NE.out]
 rintro e w12 ⟨rfl, hb⟩
 replace HG := hid ((hb.block g (blk_lt HG.out)).trans HG.out)
 replace HQ := hid ((hb.cell (p := ⟨q, 0, none⟩) HS.out).trans HQ.out)
 replace HS := hid (Nat.lt_of_lt_of_le HS.out hb.size)
 replace HB := hid (HB.out.trans (hb.mono HB.out.size))
 clear hb hc hc1 hc2 NE
 go_wp2_with fail
 rw [rounds_succ]
 have hc := (blk_cell HG.out 9).trans (show _ = some (.int .i64 4) from rfl)
 have hc1 := (blk_cell HG.out 10).trans (show _ = some (.string ⟨#[98, 121, 116, 101, 115]⟩) from rfl)
 have hc2 := (blk_cell HG.out 11).trans (show _ = some (.int .i64 0) from rfl)
 by_cases hk3 : kind = 4
 ·have hne : ((4 : Int) == kind) = true := by rw [beq_iff_eq]; exact hk3.symm
  have NE := hid hne
  clear hne
  go_wp2_with fail
  refine (same_kind 4 0 kind _ q _ HQ.out HS.out).mono ?_
  rw [NE.out]
  rintro e w2 ⟨rfl, hb⟩
  have HB2 := hid (HB.out.trans (hb.mono HB.out.size))
  clear hb
  go_wp2_with fail
  exact bodyPost_ret (v := .int .i64 3) (by simp [results, Tryz.results104, go_sem]) rfl ⟨by rw [hk3]; rfl, HB2.out⟩
 have hne : ((4 : Int) == kind) = false := by rw [beq_eq_false_iff_ne]; exact fun h => hk3 h.symm
 have NE := hid hne
 clear hne
 go_wp2_with fail
 refine (same_kind 4 0 kind _ q _ HQ.out HS.out).mono ?_
 rw [NE.out]
 rintro e w13 ⟨rfl, hb⟩
 replace HG := hid ((hb.block g (blk_lt HG.out)).trans HG.out)
 replace HQ := hid ((hb.cell (p := ⟨q, 0, none⟩) HS.out).trans HQ.out)
 replace HS := hid (Nat.lt_of_lt_of_le HS.out hb.size)
 replace HB := hid (HB.out.trans (hb.mono HB.out.size))
 clear hb hc hc1 hc2 NE
 go_wp2_with fail
 rw [rounds_succ]
 have hc := (blk_cell HG.out 12).trans (show _ = some (.int .i64 5) from rfl)
 have hc1 := (blk_cell HG.out 13).trans (show _ = some (.string ⟨#[112, 111, 105, 110, 116]⟩) from rfl)
 have hc2 := (blk_cell HG.out 14).trans (show _ = some (.int .i64 0) from rfl)
 by_cases hk4 : kind = 5
 ·have hne : ((5 : Int) == kind) = true := by rw [beq_iff_eq]; exact hk4.symm
  have NE := hid hne
  clear hne
  go_wp2_with fail
  refine (same_kind 5 0 kind _ q _ HQ.out HS.out).mono ?_
  rw [NE.out]
  rintro e w2 ⟨rfl, hb⟩
  have HB2 := hid (HB.out.trans (hb.mono HB.out.size))
  clear hb
  go_wp2_with fail
  exact bodyPost_ret (v := .int .i64 4) (by simp [results, Tryz.results104, go_sem]) rfl ⟨by rw [hk4]; rfl, HB2.out⟩
 have hne : ((5 : Int) == kind) = false := by rw [beq_eq_false_iff_ne]; exact fun h => hk4 h.symm
 have NE := hid hne
 clear hne
 go_wp2_with fail
 refine (same_kind 5 0 kind _ q _ HQ.out HS.out).mono ?_
 rw [NE.out]
 rintro e w14 ⟨rfl, hb⟩
 replace HG := hid ((hb.block g (blk_lt HG.out)).trans HG.out)
 replace HQ := hid ((hb.cell (p := ⟨q, 0, none⟩) HS.out).trans HQ.out)
 replace HS := hid (Nat.lt_of_lt_of_le HS.out hb.size)
 replace HB := hid (HB.out.trans (hb.mono HB.out.size))
 clear hb hc hc1 hc2 NE
 go_wp2_with fail
 rw [rounds_succ]
 have hc := (blk_cell HG.out 15).trans (show _ = some (.int .i64 6) from rfl)
 have hc1 := (blk_cell HG.out 16).trans (show _ = some (.string ⟨#[112, 97, 105, 114]⟩) from rfl)
 have hc2 := (blk_cell HG.out 17).trans (show _ = some (.int .i64 2) from rfl)
 by_cases hk5 : kind = 6
 ·have hne : ((6 : Int) == kind) = true := by rw [beq_iff_eq]; exact hk5.symm
  have NE := hid hne
  clear hne
  go_wp2_with fail
  refine (same_kind 6 2 kind _ q _ HQ.out HS.out).mono ?_
  rw [NE.out]
  rintro e w2 ⟨rfl, hb⟩
  have HB2 := hid (HB.out.trans (hb.mono HB.out.size))
  clear hb
  go_wp2_with fail
  exact bodyPost_ret (v := .int .i64 5) (by simp [results, Tryz.results104, go_sem]) rfl ⟨by rw [hk5]; rfl, HB2.out⟩
 have hne : ((6 : Int) == kind) = false := by rw [beq_eq_false_iff_ne]; exact fun h => hk5 h.symm
 have NE := hid hne
 clear hne
 go_wp2_with fail
 refine (same_kind 6 2 kind _ q _ HQ.out HS.out).mono ?_
 rw [NE.out]
 rintro e w15 ⟨rfl, hb⟩
 replace HG := hid ((hb.block g (blk_lt HG.out)).trans HG.out)
 replace HQ := hid ((hb.cell (p := ⟨q, 0, none⟩) HS.out).trans HQ.out)
 replace HS := hid (Nat.lt_of_lt_of_le HS.out hb.size)
 replace HB := hid (HB.out.trans (hb.mono HB.out.size))
 clear hb hc hc1 hc2 NE
 go_wp2_with fail
 rw [rounds_succ]
 have hc := (blk_cell HG.out 18).trans (show _ = some (.int .i64 7) from rfl)
 have hc1 := (blk_cell HG.out 19).trans (show _ = some (.string ⟨#[108, 105, 115, 116]⟩) from rfl)
 have hc2 := (blk_cell HG.out 20).trans (show _ = some (.int .i64 1) from rfl)
 by_cases hk6 : kind = 7
 ·have hne : ((7 : Int) == kind) = true := by rw [beq_iff_eq]; exact hk6.symm
  have NE := hid hne
  clear hne
  go_wp2_with fail
  refine (same_kind 7 1 kind _ q _ HQ.out HS.out).mono ?_
  rw [NE.out]
  rintro e w2 ⟨rfl, hb⟩
  have HB2 := hid (HB.out.trans (hb.mono HB.out.size))
  clear hb
  go_wp2_with fail
  exact bodyPost_ret (v := .int .i64 6) (by simp [results, Tryz.results104, go_sem]) rfl ⟨by rw [hk6]; rfl, HB2.out⟩
 have hne : ((7 : Int) == kind) = false := by rw [beq_eq_false_iff_ne]; exact fun h => hk6 h.symm
 have NE := hid hne
 clear hne
 go_wp2_with fail
 refine (same_kind 7 1 kind _ q _ HQ.out HS.out).mono ?_
 rw [NE.out]
 rintro e w16 ⟨rfl, hb⟩
 replace HG := hid ((hb.block g (blk_lt HG.out)).trans HG.out)
 replace HQ := hid ((hb.cell (p := ⟨q, 0, none⟩) HS.out).trans HQ.out)
 replace HS := hid (Nat.lt_of_lt_of_le HS.out hb.size)
 replace HB := hid (HB.out.trans (hb.mono HB.out.size))
 clear hb hc hc1 hc2 NE
 go_wp2_with fail
 rw [rounds_succ]
 have hc := (blk_cell HG.out 21).trans (show _ = some (.int .i64 9) from rfl)
 have hc1 := (blk_cell HG.out 22).trans (show _ = some (.string ⟨#[111, 112, 116, 105, 111, 110]⟩) from rfl)
 have hc2 := (blk_cell HG.out 23).trans (show _ = some (.int .i64 1) from rfl)
 by_cases hk7 : kind = 9
 ·have hne : ((9 : Int) == kind) = true := by rw [beq_iff_eq]; exact hk7.symm
  have NE := hid hne
  clear hne
  go_wp2_with fail
  refine (same_kind 9 1 kind _ q _ HQ.out HS.out).mono ?_
  rw [NE.out]
  rintro e w2 ⟨rfl, hb⟩
  have HB2 := hid (HB.out.trans (hb.mono HB.out.size))
  clear hb
  go_wp2_with fail
  exact bodyPost_ret (v := .int .i64 7) (by simp [results, Tryz.results104, go_sem]) rfl ⟨by rw [hk7]; rfl, HB2.out⟩
 have hne : ((9 : Int) == kind) = false := by rw [beq_eq_false_iff_ne]; exact fun h => hk7 h.symm
 have NE := hid hne
 clear hne
 go_wp2_with fail
 refine (same_kind 9 1 kind _ q _ HQ.out HS.out).mono ?_
 rw [NE.out]
 rintro e w17 ⟨rfl, hb⟩
 replace HG := hid ((hb.block g (blk_lt HG.out)).trans HG.out)
 replace HQ := hid ((hb.cell (p := ⟨q, 0, none⟩) HS.out).trans HQ.out)
 replace HS := hid (Nat.lt_of_lt_of_le HS.out hb.size)
 replace HB := hid (HB.out.trans (hb.mono HB.out.size))
 clear hb hc hc1 hc2 NE
 go_wp2_with fail
 rw [rounds_succ]
 go_wp2_with fail
 exact bodyPost_ret (v := .int .i64 (-1)) (by simp [results, Tryz.results104, go_sem]) rfl ⟨by unfold widx; rw [if_neg hk0, if_neg hk1, if_neg hk2, if_neg hk3, if_neg hk4, if_neg hk5, if_neg hk6, if_neg hk7], HB.out⟩
end Go.Proofs.YtamfloegflejnaaGreatDoor
