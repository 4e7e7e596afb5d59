/-
 graph's Check: the place and the error's number.
-/
import Derived.Test.YtamfloegflejnaaGreatDoorKG
import Derived.Test.YtamfloegflejnaaGreatDoorKH
set_option linter.unusedVariables false
set_option linter.unusedSimpArgs false
set_option maxHeartbeats 1000000
set_option maxRecDepth 100000
namespace Go.Proofs.YtamfloegflejnaaGreatDoor
open Lib (hid)
open Go.RowKit Go.Proofs.YtamfloegflejnaaGreatDoorW.PrintWords Go.Proofs.YtamfloegflejnaaGreatDoorW.PrintLast Go.Proofs.YtamfloegflejnaaGreatDoorW.PrintMore PGraphLines
def formN (x : S63) : Bool := formB x.f0 x.f3 x.f4 x.f5.f0 x.f5.f1 x.f5.f2 x.f5.f3 x.f6.f0 x.f6.f1 x.f6.f2 x.f6.f3
/-- What is wrong with a node; 0: nothing. -/
def nodeErr (ns : List S63) (i : Nat) : Int :=
 if (rd_T63 ns i).f0 < 1 ∨ 6 < (rd_T63 ns i).f0 then 110 else if inputsB ns i = true then (if formN (rd_T63 ns i) = true then 0 else 112) else 111
def checkL (ns : List S63) : List Nat -> Int × Int
 | [] => (0, 0)
 | i :: r => if nodeErr ns i = 0 then checkL ns r else ((i : Int), nodeErr ns i)
def checkV (ns : List S63) : Int × Int := if ns.length < 1 ∨ 32 < ns.length then (0, 112) else checkL ns (List.range ns.length)
/-- Nodes whose rows are not out of all measure. -/
def Tame (ns : List S63) : Prop := ∀ x ∈ ns, x.f1.length <= 1000000 ∧ x.f2.length <= 1000000 ∧ x.f3.size <= 1152921504606846976
theorem checkL_at (ns : List S63) (k n : Nat) (hall : ∀ j, j < k -> nodeErr ns j = 0) : k <= n -> checkL ns (List.range n) = checkL ns ((List.range n).drop k) := by
 intro hkn
 induction k with
 | zero => rfl
 | succ k ih =>
  rw [ih (fun j hj => hall j (by omega)) (by omega)]
  have hk : k < (List.range n).length := by rw [List.length_range]; omega
  rw [List.drop_eq_getElem_cons hk, List.getElem_range]
  show (if nodeErr ns k = 0 then _ else _) = _
  rw [if_pos (hall k (by omega))]
theorem checkL_bad (ns : List S63) (k n : Nat) (hall : ∀ j, j < k -> nodeErr ns j = 0) (hkn : k < n) (hb : nodeErr ns k ≠ 0) : checkL ns (List.range n) = ((k : Int), nodeErr ns k) := by
 rw [checkL_at ns k n hall (by omega)]
 have hk : k < (List.range n).length := by rw [List.length_range]; omega
 rw [List.drop_eq_getElem_cons hk, List.getElem_range]
 show (if nodeErr ns k = 0 then _ else _) = _
 rw [if_neg hb]
theorem checkL_end (ns : List S63) (n : Nat) (hall : ∀ j, j < n -> nodeErr ns j = 0) : checkL ns (List.range n) = (0, 0) := by
 rw [checkL_at ns n n hall (Nat.le_refl _)]
 have : (List.range n).drop n = [] := by rw [List.drop_eq_nil_iff, List.length_range]; exact Nat.le_refl _
 rw [this]; rfl
theorem graph_check (A : Option Addr) (c : Nat) (ns : List S63) (w : World) (hc : ns.length <= c) (hC : k63.C w A ns.length ns) (hTm : Tame ns) :
  Calls Tryz.prog 19 #[.agg #[.slice A ns.length c]] w fun e w' => e = .returned (.tuple #[.int .i64 (checkV ns).1, .int .i64 (checkV ns).2]) ∧ Below w.heap.size w w' := by
 have hb0 := below_alloc (Below.refl w.heap.size w) (.cells #[.slice A ns.length c] 29)
 have HC := hid (Kd.C_below hC hb0)
 have HP := hid (heap_alloc_new w (.cells #[.slice A ns.length c] 29))
 have HB0 := hid hb0
 clear hC hb0
 by_cases hl : ns.length < 1 ∨ 32 < ns.length
 ·have HV : Hid (checkV ns = (0, 112)) := if_pos hl
  have p0 : (w.alloc (.cells #[.slice A ns.length c] 29)).cell? ⟨w.heap.size, 0, none⟩ = some (.slice A ns.length c) := (blk_cell HP.out 0).trans rfl
  rcases hl with hl | hl
  all_goals
   go_enter Tryz.func19, Tryz.ntmps19
   go_wp2_with fail
   refine bodyPost_ret (v := .tuple #[.int .i64 0, .int .i64 112]) (by simp [results, Tryz.results19, go_sem]) rfl ⟨by rw [HV.out], HB0.out⟩
 ·have HV : Hid (checkV ns = checkL ns (List.range ns.length)) := if_neg hl
  have q1 : decide ((ns.length : Int) < 1) = false := by rw [decide_eq_false_iff_not]; omega
  have q2 : decide ((32 : Int) < (ns.length : Int)) = false := by rw [decide_eq_false_iff_not]; omega
  have p0 : (w.alloc (.cells #[.slice A ns.length c] 29)).cell? ⟨w.heap.size, 0, none⟩ = some (.slice A ns.length c) := (blk_cell HP.out 0).trans rfl
  have hln : ns.length <= 32 := by omega
  clear hl
  go_enter Tryz.func19, Tryz.ntmps19
  go_wp2_with fail
  clear q1 q2 p0
  generalize hW0 : w.alloc (.cells #[.slice A ns.length c] 29) = W0 at HC HP HB0 ⊢
  clear hW0
  go_loopg [19] ns.length (fun m t wr => ∃ k : Nat, m + k = ns.length ∧ t = .int .i64 k ∧ Aside0 (∀ j, j < k -> nodeErr ns j = 0) ∧ Aside0 (Below W0.heap.size W0 wr))
  case atStart => exact ⟨0, by omega, rfl, ⟨fun j hj => by omega⟩, ⟨Below.refl _ _⟩⟩
  case round =>
   obtain ⟨k, hk, rfl, ⟨hall⟩, ⟨hB⟩⟩ := hrel
   have HK := hid hall; have HBK := hid hB
   clear hall hB
   by_cases hlt : k < ns.length
   ·obtain ⟨m, rfl⟩ : ∃ m, gk = m + 1 := ⟨gk - 1, by omega⟩
    obtain ⟨ad, A1, c1, A2, c2, A5, c5, rfl, g0, g1, g2, g3, g4, g5, g6, g7, g8, g9, g10, g11, g12, g13, hc1, k1, hc2, k2, hc5, k5⟩ := at_T63 (Kd.C_below HC.out HBK.out) (k : Int) (by omega) (by omega)
    rw [Int.toNat_natCast] at g0 g1 g2 g3 g4 g5 g6 g7 g8 g9 g10 g11 g12 g13
    have hxm : rd_T63 ns (k : Int) = ns[k] := by simp [rd_T63, List.getD, List.getElem?_eq_getElem hlt]
    have htm := hTm (rd_T63 ns (k : Int)) (by rw [hxm]; exact List.getElem_mem hlt)
    have HI := hid (inputs_any (some ad) c ns k)
    have HE : Hid (nodeErr ns k = if (rd_T63 ns k).f0 < 1 ∨ 6 < (rd_T63 ns k).f0 then 110 else if inputsB ns k = true then (if formN (rd_T63 ns k) = true then 0 else 112) else 111) := rfl
    have hklt : (k : Int) < (ns.length : Int) := by omega
    clear hxm
    generalize rd_T63 ns (k : Int) = x at *
    go_upto_region 6 with fail
    have hbv := below_alloc (Below.refl wr.heap.size wr) (.cells #[.int .i64 x.f0, .slice A1 x.f1.length c1, .slice A2 x.f2.length c2, .string x.f3, .int .i64 x.f4.f0, .slice A5 x.f4.f1.length c5, .int .i64 x.f5.f0, .int .i64 x.f5.f1, .int .i64 x.f5.f2, .int .i64 x.f5.f3, .int .i64 x.f6.f0, .int .i64 x.f6.f1, .int .i64 x.f6.f2, .bool x.f6.f3] 63)
    have HN := hid (heap_alloc_new wr (.cells #[.int .i64 x.f0, .slice A1 x.f1.length c1, .slice A2 x.f2.length c2, .string x.f3, .int .i64 x.f4.f0, .slice A5 x.f4.f1.length c5, .int .i64 x.f5.f0, .int .i64 x.f5.f1, .int .i64 x.f5.f2, .int .i64 x.f5.f3, .int .i64 x.f6.f0, .int .i64 x.f6.f1, .int .i64 x.f6.f2, .bool x.f6.f3] 63))
    have HBv := hid (HBK.out.trans (hbv.mono HBK.out.size))
    have HC5 := hid (Kd.C_below k5 hbv)
    clear hbv g0 g1 g2 g3 g4 g5 g6 g7 g8 g9 g10 g11 g12 g13 k1 k2 k5
    generalize wr.heap.size = N at HN ⊢
    generalize wr.alloc (.cells #[.int .i64 x.f0, .slice A1 x.f1.length c1, .slice A2 x.f2.length c2, .string x.f3, .int .i64 x.f4.f0, .slice A5 x.f4.f1.length c5, .int .i64 x.f5.f0, .int .i64 x.f5.f1, .int .i64 x.f5.f2, .int .i64 x.f5.f3, .int .i64 x.f6.f0, .int .i64 x.f6.f1, .int .i64 x.f6.f2, .bool x.f6.f3] 63) = V at HN HBv HC5 ⊢
    have n0 : V.cell? ⟨N, 0, none⟩ = some (.int .i64 x.f0) := (blk_cell HN.out 0).trans rfl
    have HPV := hid ((HBv.out.block _ (blk_lt HP.out)).trans HP.out)
    by_cases hop1 : x.f0 < 1
    ·have e1 : decide (x.f0 < 1) = true := by rw [decide_eq_true_iff]; exact hop1
     have HE1 := hid (HE.out.trans (if_pos (.inl hop1)))
     clear hop1
     go_wp2_with fail
     refine bodyPost_ret (v := .tuple #[.int .i64 k, .int .i64 110]) (by simp [results, Tryz.results19, go_sem]) rfl ⟨by rw [HV.out, checkL_bad ns k ns.length HK.out hlt (by rw [HE1.out]; decide), HE1.out], HB0.out.trans (HBv.out.mono HB0.out.size)⟩
    by_cases hop6 : 6 < x.f0
    ·have e1 : decide (x.f0 < 1) = false := by rw [decide_eq_false_iff_not]; exact hop1
     have e6 : decide (6 < x.f0) = true := by rw [decide_eq_true_iff]; exact hop6
     have HE1 := hid (HE.out.trans (if_pos (.inr hop6)))
     clear hop1 hop6
     go_wp2_with fail
     refine bodyPost_ret (v := .tuple #[.int .i64 k, .int .i64 110]) (by simp [results, Tryz.results19, go_sem]) rfl ⟨by rw [HV.out, checkL_bad ns k ns.length HK.out hlt (by rw [HE1.out]; decide), HE1.out], HB0.out.trans (HBv.out.mono HB0.out.size)⟩
    have e1 : decide (x.f0 < 1) = false := by rw [decide_eq_false_iff_not]; exact hop1
    have e6 : decide (6 < x.f0) = false := by rw [decide_eq_false_iff_not]; exact hop6
    have HE1 := hid (HE.out.trans (if_neg (by omega)))
    have p0 : V.cell? ⟨w.heap.size, 0, none⟩ = some (.slice (some ad) ns.length c) := (blk_cell HPV.out 0).trans rfl
    clear hop1 hop6
    go_wp2_with fail
    refine (HI.out V hc (Kd.C_below HC.out HBv.out) hlt htm.1 htm.2.1).mono ?_
    rintro e V1 ⟨rfl, hb1⟩
    have HB1 := hid (HBv.out.trans (hb1.mono HBv.out.size))
    have HN1 := hid ((hb1.block _ (blk_lt HN.out)).trans HN.out)
    have HC51 := hid (Kd.C_below HC5.out hb1)
    clear hb1 p0 n0 e1 e6
    cases hin : inputsB ns k with
    | false =>
     have HE2 := hid (HE1.out.trans (if_neg (by rw [hin]; decide)))
     clear hin
     go_wp2_with fail
     refine bodyPost_ret (v := .tuple #[.int .i64 k, .int .i64 111]) (by simp [results, Tryz.results19, go_sem]) rfl ⟨by rw [HV.out, checkL_bad ns k ns.length HK.out hlt (by rw [HE2.out]; decide), HE2.out], HB0.out.trans (HB1.out.mono HB0.out.size)⟩
    | true =>
     have HE2 := hid (HE1.out.trans (if_pos hin))
     clear hin
     have m0 := blk_cell HN1.out 0
     simp only [List.getElem?_toArray, List.getElem?_cons_succ, List.getElem?_cons_zero] at m0
     have m1 := blk_cell HN1.out 1
     simp only [List.getElem?_toArray, List.getElem?_cons_succ, List.getElem?_cons_zero] at m1
     have m2 := blk_cell HN1.out 2
     simp only [List.getElem?_toArray, List.getElem?_cons_succ, List.getElem?_cons_zero] at m2
     have m3 := blk_cell HN1.out 3
     simp only [List.getElem?_toArray, List.getElem?_cons_succ, List.getElem?_cons_zero] at m3
     have m4 := blk_cell HN1.out 4
     simp only [List.getElem?_toArray, List.getElem?_cons_succ, List.getElem?_cons_zero] at m4
     have m5 := blk_cell HN1.out 5
     simp only [List.getElem?_toArray, List.getElem?_cons_succ, List.getElem?_cons_zero] at m5
     have m6 := blk_cell HN1.out 6
     simp only [List.getElem?_toArray, List.getElem?_cons_succ, List.getElem?_cons_zero] at m6
     have m7 := blk_cell HN1.out 7
     simp only [List.getElem?_toArray, List.getElem?_cons_succ, List.getElem?_cons_zero] at m7
     have m8 := blk_cell HN1.out 8
     simp only [List.getElem?_toArray, List.getElem?_cons_succ, List.getElem?_cons_zero] at m8
     have m9 := blk_cell HN1.out 9
     simp only [List.getElem?_toArray, List.getElem?_cons_succ, List.getElem?_cons_zero] at m9
     have m10 := blk_cell HN1.out 10
     simp only [List.getElem?_toArray, List.getElem?_cons_succ, List.getElem?_cons_zero] at m10
     have m11 := blk_cell HN1.out 11
     simp only [List.getElem?_toArray, List.getElem?_cons_succ, List.getElem?_cons_zero] at m11
     have m12 := blk_cell HN1.out 12
     simp only [List.getElem?_toArray, List.getElem?_cons_succ, List.getElem?_cons_zero] at m12
     have m13 := blk_cell HN1.out 13
     simp only [List.getElem?_toArray, List.getElem?_cons_succ, List.getElem?_cons_zero] at m13
     go_wp2_with fail
     refine (form_any x.f0 x.f5.f0 x.f5.f1 x.f5.f2 x.f5.f3 x.f6.f0 x.f6.f1 x.f6.f2 x.f6.f3 x.f3 x.f4 A1 A2 A5 x.f1.length c1 x.f2.length c2 c5 V1 htm.2.2 hc5 HC51.out).mono ?_
     rintro e V2 ⟨rfl, hb1⟩
     have HB2 := hid (HB1.out.trans (hb1.mono HB1.out.size))
     clear hb1 m0 m1 m2 m3 m4 m5 m6 m7 m8 m9 m10 m11 m12 m13
     have HFN : Hid (formN x = formB x.f0 x.f3 x.f4 x.f5.f0 x.f5.f1 x.f5.f2 x.f5.f3 x.f6.f0 x.f6.f1 x.f6.f2 x.f6.f3) := rfl
     cases hfm : formB x.f0 x.f3 x.f4 x.f5.f0 x.f5.f1 x.f5.f2 x.f5.f3 x.f6.f0 x.f6.f1 x.f6.f2 x.f6.f3 with
     | false =>
      have HE3 := hid (HE2.out.trans (if_neg (by rw [HFN.out, hfm]; decide)))
      clear hfm
      go_wp2_with fail
      refine bodyPost_ret (v := .tuple #[.int .i64 k, .int .i64 112]) (by simp [results, Tryz.results19, go_sem]) rfl ⟨by rw [HV.out, checkL_bad ns k ns.length HK.out hlt (by rw [HE3.out]; decide), HE3.out], HB0.out.trans (HB2.out.mono HB0.out.size)⟩
     | true =>
      have HE3 := hid (HE2.out.trans (if_pos (by rw [HFN.out, hfm])))
      clear hfm
      go_wp2_with fail
      go_roundg m
      case measure => omega
      case rel => exact ⟨k + 1, by omega, by go_num, ⟨fun j hj => by
       rcases Nat.lt_or_ge j k with h | h
       ·exact HK.out j h
       ·obtain rfl : j = k := by omega
        exact HE3.out⟩, ⟨HB2.out⟩⟩
   ·obtain rfl : k = ns.length := by omega
    go_wp2_with fail
    refine bodyPost_ret (v := .tuple #[.int .i64 0, .int .i64 0]) (by simp [results, Tryz.results19, go_sem]) rfl ⟨by rw [HV.out, checkL_end ns ns.length HK.out], HB0.out.trans (HBK.out.mono HB0.out.size)⟩
end Go.Proofs.YtamfloegflejnaaGreatDoor
