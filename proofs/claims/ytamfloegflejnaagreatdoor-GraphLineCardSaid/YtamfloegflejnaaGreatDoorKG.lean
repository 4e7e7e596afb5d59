/-
 graph's test of what a node reads from: the method inputs.
-/
import Derived.Test.YtamfloegflejnaaGreatDoorKC
import Derived.Deep.CutRange
set_option linter.unusedVariables false
set_option linter.unusedSimpArgs false
set_option maxHeartbeats 1000000
set_option maxRecDepth 100000
namespace Go.Proofs.YtamfloegflejnaaGreatDoor
open Lib (hid)
open Go.RowKit Go.Proofs.YtamfloegflejnaaGreatDoorW.PrintWords Go.Proofs.YtamfloegflejnaaGreatDoorW.PrintLast Go.Proofs.YtamfloegflejnaaGreatDoorW.PrintMore PGraphLines
/-- Places rise. -/
def upB (l : List Int) : Bool := (List.range (l.length - 1)).all fun i => decide (rd l (i : Int) < rd l ((i : Int) + 1))
def risesB (l : List Int) (a b : Int) : Bool := upB l && (decide (a <= (l.length : Int)) && decide ((l.length : Int) <= b))
theorem rises_from (l : List Int) (a b : Int) (hl : l.length <= 1000000) : ∀ (k j : Nat), 1 <= j -> l.length + 1 <= k + j -> 1 <= k →
  graph_rises.l0 k l a b (j : Int) = some (((List.range (l.length - 1)).drop (j - 1)).all (fun i => decide (rd l (i : Int) < rd l ((i : Int) + 1))) && (decide (a <= (l.length : Int)) && decide ((l.length : Int) <= b))) := by
 intro k
 induction k with
 | zero => intro j _ _ h; omega
 | succ k ih =>
  intro j hj hk _
  unfold graph_rises.l0
  by_cases hlt : (j : Int) < (l.length : Int)
  ·have w1 : wrap64 ((j : Int) - 1) = ((j - 1 : Nat) : Int) := by unfold wrap64; omega
   have w2 : wrap64 ((j : Int) + 1) = ((j + 1 : Nat) : Int) := by unfold wrap64; omega
   have hjr : j - 1 < (List.range (l.length - 1)).length := by rw [List.length_range]; omega
   rw [if_pos hlt, if_pos (by omega), w1, w2, if_pos (by omega), if_pos (by omega), List.drop_eq_getElem_cons hjr, List.getElem_range, show j - 1 + 1 = j by omega]
   have e : ((j - 1 : Nat) : Int) + 1 = (j : Int) := by omega
   simp only [List.all_cons]
   rw [e]
   by_cases hle : rd l (j : Int) <= rd l ((j - 1 : Nat) : Int)
   ·rw [if_pos hle]
    have : decide (rd l ((j - 1 : Nat) : Int) < rd l (j : Int)) = false := by rw [decide_eq_false_iff_not]; omega
    rw [this]; simp
   ·rw [if_neg hle, ih (j + 1) (by omega) (by omega) (by omega)]
    have : decide (rd l ((j - 1 : Nat) : Int) < rd l (j : Int)) = true := by rw [decide_eq_true_iff]; omega
    rw [this, show j + 1 - 1 = j by omega]
    simp
  ·have hd : (List.range (l.length - 1)).drop (j - 1) = [] := by rw [List.drop_eq_nil_iff, List.length_range]; omega
   rw [if_neg hlt, hd]
   by_cases ha : (l.length : Int) ≥ a
   ·rw [if_pos ha]
    have : decide (a <= (l.length : Int)) = true := by rw [decide_eq_true_iff]; omega
    rw [this]; simp
   ·rw [if_neg ha]
    have : decide (a <= (l.length : Int)) = false := by rw [decide_eq_false_iff_not]; omega
    rw [this]; simp
theorem rises_any (l : List Int) (A : Option Addr) (c : Nat) (a b : Int) (w : World) (hl : l.length <= 1000000) (hC : Kd.C (Kd.int .i64) w A l.length l) (hc : l.length <= c) :
  Calls Tryz.prog 62 #[.slice A l.length c, .int .i64 a, .int .i64 b] w fun e w' => e = .returned (.bool (risesB l a b)) ∧ Below w.heap.size w w' := by
 have h := rises_from l a b hl (l.length + 1) 1 (Nat.le_refl _) (by omega) (by omega)
 refine (graph_rises.calls (l.length + 1) A c l a b (risesB l a b) w hC hc (by unfold graph_rises.f; exact h)).mono fun e w' ⟨he, hd⟩ => ⟨he, ?_⟩
 obtain ⟨n, rfl⟩ := hd
 exact pw_below_drewN (Below.refl _ _) n
/-- A node reads from where it may. -/
def leastOf (op : Int) : Int := if op = 1 then 0 else 1
def mostOf (op : Int) : Int := if op = 1 then 0 else if op = 5 then 4 else 1
def sidesOf (op : Int) : Int := if op = 2 then 4 else 0
def inputsB (ns : List S63) (i : Nat) : Bool := risesB (rd_T63 ns i).f1 (leastOf (rd_T63 ns i).f0) (mostOf (rd_T63 ns i).f0) && (risesB (rd_T63 ns i).f2 0 (sidesOf (rd_T63 ns i).f0) && (!(rd_T63 ns i).f1.any (badIn ns i) && !(rd_T63 ns i).f2.any (badIn ns i)))
theorem inputs_any (A : Option Addr) (c : Nat) (ns : List S63) (i : Nat) (w : World) (hc : ns.length <= c) (hC : k63.C w A ns.length ns) (hi : i < ns.length) (hn1 : (rd_T63 ns i).f1.length <= 1000000) (hn2 : (rd_T63 ns i).f2.length <= 1000000) :
  Calls Tryz.prog 43 #[.agg #[.slice A ns.length c], .int .i64 i] w fun e w' => e = .returned (.bool (inputsB ns i)) ∧ Below w.heap.size w w' := by
 have hb0 := below_alloc (below_alloc (Below.refl w.heap.size w) (.cells #[.slice A ns.length c] 29)) (.cells #[.int .i64 i] 3)
 obtain ⟨ad, A1, c1, A2, c2, A5, c5, rfl, g0, g1, g2, g3, g4, g5, g6, g7, g8, g9, g10, g11, g12, g13, hc1, k1, hc2, k2, hc5, k5⟩ := at_T63 (Kd.C_below hC hb0) (i : Int) (by omega) (by omega)
 have hP0 : PlaceAt ((w.alloc (.cells #[.slice (some ad) ns.length c] 29)).alloc (.cells #[.int .i64 i] 3)) (some ad) c ns i (w.heap.size + 1) w.heap.size := {
  ci := by have := blk_cell (heap_alloc_new (w.alloc (.cells #[.slice (some ad) ns.length c] 29)) (.cells #[.int .i64 i] 3)) 0; rw [World.size_alloc] at this; exact this.trans rfl
  cp := (blk_cell (blk_alloc (heap_alloc_new w (.cells #[.slice (some ad) ns.length c] 29)) _) 0).trans rfl
  row := Kd.C_below hC hb0
  cap := hc
  le := by omega
  li := by simp
  lp := by simp; omega }
 have HP0 := hid hP0; have HB0 := hid hb0; have HC1 := hid k1; have HC2 := hid k2
 have hp := hP0.cp; have hq := hP0.ci
 clear hP0 hb0 k1 k2 k5 hC
 rw [Int.toNat_natCast] at g0 g1 g2 g3 g4 g5 g6 g7 g8 g9 g10 g11 g12 g13
 have hil : (i : Int) < (ns.length : Int) := by omega
 have HI : Hid (inputsB ns i = (risesB (rd_T63 ns i).f1 (leastOf (rd_T63 ns i).f0) (mostOf (rd_T63 ns i).f0) && (risesB (rd_T63 ns i).f2 0 (sidesOf (rd_T63 ns i).f0) && (!(rd_T63 ns i).f1.any (badIn ns i) && !(rd_T63 ns i).f2.any (badIn ns i))))) := rfl
 generalize inputsB ns i = rr at HI ⊢
 generalize rd_T63 ns (i : Int) = x at *
 generalize hop : x.f0 = op at *
 go_enter Tryz.func43, Tryz.ntmps43
 go_upto_region 3 with fail
 have HV0 := hid (heap_alloc_new ((w.alloc (.cells #[.slice (some ad) ns.length c] 29)).alloc (.cells #[.int .i64 i] 3)) (.cells #[.int .i64 op, .slice A1 x.f1.length c1, .slice A2 x.f2.length c2, .string x.f3, .int .i64 x.f4.f0, .slice A5 x.f4.f1.length c5, .int .i64 x.f5.f0, .int .i64 x.f5.f1, .int .i64 x.f5.f2, .int .i64 x.f5.f3, .int .i64 x.f6.f0, .int .i64 x.f6.f1, .int .i64 x.f6.f2, .bool x.f6.f3] 63))
 have HBv0 := hid (Below.alloc (Below.refl ((w.alloc (.cells #[.slice (some ad) ns.length c] 29)).alloc (.cells #[.int .i64 i] 3)).heap.size ((w.alloc (.cells #[.slice (some ad) ns.length c] 29)).alloc (.cells #[.int .i64 i] 3))) (Nat.le_refl _) (.cells #[.int .i64 op, .slice A1 x.f1.length c1, .slice A2 x.f2.length c2, .string x.f3, .int .i64 x.f4.f0, .slice A5 x.f4.f1.length c5, .int .i64 x.f5.f0, .int .i64 x.f5.f1, .int .i64 x.f5.f2, .int .i64 x.f5.f3, .int .i64 x.f6.f0, .int .i64 x.f6.f1, .int .i64 x.f6.f2, .bool x.f6.f3] 63))
 have hsz : ((w.alloc (.cells #[.slice (some ad) ns.length c] 29)).alloc (.cells #[.int .i64 i] 3)).heap.size = w.heap.size + 1 + 1 := by simp
 rw [hsz] at HV0
 clear g0 g1 g2 g3 g4 g5 g6 g7 g8 g9 g10 g11 g12 g13 hp hq
 generalize ((w.alloc (.cells #[.slice (some ad) ns.length c] 29)).alloc (.cells #[.int .i64 i] 3)) = w0 at HP0 HB0 HC1 HC2 HV0 HBv0 ⊢
 generalize w0.alloc (.cells #[.int .i64 op, .slice A1 x.f1.length c1, .slice A2 x.f2.length c2, .string x.f3, .int .i64 x.f4.f0, .slice A5 x.f4.f1.length c5, .int .i64 x.f5.f0, .int .i64 x.f5.f1, .int .i64 x.f5.f2, .int .i64 x.f5.f3, .int .i64 x.f6.f0, .int .i64 x.f6.f1, .int .i64 x.f6.f2, .bool x.f6.f3] 63) = V at HV0 HBv0 ⊢
 have HBV := hid (HB0.out.trans (HBv0.out.mono HB0.out.size))
 have HPV := hid (HP0.out.later HBv0.out)
 have HD1 := hid (Kd.C_below HC1.out HBv0.out)
 have HD2 := hid (Kd.C_below HC2.out HBv0.out)
 clear hsz HB0 HBv0 HP0 HC1 HC2
 have n0 : V.cell? ⟨w.heap.size + 1 + 1, 0, none⟩ = some (.int .i64 op) := (blk_cell HV0.out 0).trans rfl
 have n1 : V.cell? ⟨w.heap.size + 1 + 1, 1, none⟩ = some (.slice A1 x.f1.length c1) := (blk_cell HV0.out 1).trans rfl
 have HNl := hid (blk_lt HV0.out)
 by_cases h1 : op = 1
 ·subst h1
  have hL : leastOf 1 = 0 := rfl
  have hM : mostOf 1 = 0 := rfl
  have hS : sidesOf 1 = 0 := rfl
  have HL : Hid (leastOf 1 = 0) := hL; have HM : Hid (mostOf 1 = 0) := hM; have HS : Hid (sidesOf 1 = 0) := hS
  clear hL hM hS
  go_wp2_with fail
  refine (rises_any x.f1 A1 c1 0 0 V hn1 HD1.out hc1).mono ?_
  rintro e V1 ⟨rfl, hb1⟩
  have HB1 := hid (HBV.out.trans (hb1.mono HBV.out.size))
  have HV1 := hid ((hb1.block _ HNl.out).trans HV0.out)
  have HP1 := hid (HPV.out.later hb1)
  have HE1 := hid (Kd.C_below HD1.out hb1); have HE2 := hid (Kd.C_below HD2.out hb1)
  clear hb1
  cases hr1 : risesB x.f1 0 0 with
  | false =>
   have HR1 := hid hr1
   clear hr1
   go_wp2_with fail
   exact bodyPost_ret (v := .bool false) (by simp [results, Tryz.results43, go_sem]) rfl ⟨by rw [HI.out, HL.out, HM.out, HR1.out]; rfl, HB1.out⟩
  | true =>
   have HR1 := hid hr1
   clear hr1
   have m2 : V1.cell? ⟨w.heap.size + 1 + 1, 2, none⟩ = some (.slice A2 x.f2.length c2) := (blk_cell HV1.out 2).trans rfl
   go_wp2_with fail
   refine (rises_any x.f2 A2 c2 0 0 V1 hn2 HE2.out hc2).mono ?_
   rintro e V2 ⟨rfl, hb1⟩
   have HB2 := hid (HB1.out.trans (hb1.mono HB1.out.size))
   have HV2 := hid ((hb1.block _ (blk_lt HV1.out)).trans HV1.out)
   have HP2 := hid (HP1.out.later hb1)
   have HF1 := hid (Kd.C_below HE1.out hb1); have HF2 := hid (Kd.C_below HE2.out hb1)
   clear hb1 m2
   cases hr2 : risesB x.f2 0 0 with
   | false =>
    have HR2 := hid hr2
    clear hr2
    go_wp2_with fail
    exact bodyPost_ret (v := .bool false) (by simp [results, Tryz.results43, go_sem]) rfl ⟨by rw [HI.out, HL.out, HM.out, HS.out, HR1.out, HR2.out]; rfl, HB2.out⟩
   | true =>
    have HR2 := hid hr2
    clear hr2
    have m1 : V2.cell? ⟨w.heap.size + 1 + 1, 1, none⟩ = some (.slice A1 x.f1.length c1) := (blk_cell HV2.out 1).trans rfl
    go_wp2_with fail
    refine (any_int x.f1 A1 c1 (some ad) c ns i (w.heap.size + 1) w.heap.size V2 hc1 hn1 HF1.out HP2.out).mono ?_
    rintro e V3 ⟨rfl, hb1⟩
    have HB3 := hid (HB2.out.trans (hb1.mono HB2.out.size))
    have HV3 := hid ((hb1.block _ (blk_lt HV2.out)).trans HV2.out)
    have HP3 := hid (HP2.out.later hb1)
    have HG2 := hid (Kd.C_below HF2.out hb1)
    clear hb1 m1
    cases hr3 : x.f1.any (badIn ns i) with
    | true =>
     have HR3 := hid hr3
     clear hr3
     go_wp2_with fail
     exact bodyPost_ret (v := .bool false) (by simp [results, Tryz.results43, go_sem]) rfl ⟨by rw [HI.out, HL.out, HM.out, HS.out, HR1.out, HR2.out, HR3.out]; rfl, HB3.out⟩
    | false =>
     have HR3 := hid hr3
     clear hr3
     have m2 : V3.cell? ⟨w.heap.size + 1 + 1, 2, none⟩ = some (.slice A2 x.f2.length c2) := (blk_cell HV3.out 2).trans rfl
     go_wp2_with fail
     refine (any_int x.f2 A2 c2 (some ad) c ns i (w.heap.size + 1) w.heap.size V3 hc2 hn2 HG2.out HP3.out).mono ?_
     rintro e V4 ⟨rfl, hb1⟩
     have HB4 := hid (HB3.out.trans (hb1.mono HB3.out.size))
     clear hb1 m2
     generalize hq4 : x.f2.any (badIn ns i) = q4 at HI ⊢
     clear hq4
     go_wp2_with fail
     exact bodyPost_ret (v := .bool (!q4)) (by simp [results, Tryz.results43, go_sem]) rfl ⟨by rw [HI.out, HL.out, HM.out, HS.out, HR1.out, HR2.out, HR3.out]; rfl, HB4.out⟩
 by_cases h5 : op = 5
 ·subst h5
  have hL : leastOf 5 = 1 := rfl
  have hM : mostOf 5 = 4 := rfl
  have hS : sidesOf 5 = 0 := rfl
  clear h1
  have HL : Hid (leastOf 5 = 1) := hL; have HM : Hid (mostOf 5 = 4) := hM; have HS : Hid (sidesOf 5 = 0) := hS
  clear hL hM hS
  go_wp2_with fail
  refine (rises_any x.f1 A1 c1 1 4 V hn1 HD1.out hc1).mono ?_
  rintro e V1 ⟨rfl, hb1⟩
  have HB1 := hid (HBV.out.trans (hb1.mono HBV.out.size))
  have HV1 := hid ((hb1.block _ HNl.out).trans HV0.out)
  have HP1 := hid (HPV.out.later hb1)
  have HE1 := hid (Kd.C_below HD1.out hb1); have HE2 := hid (Kd.C_below HD2.out hb1)
  clear hb1
  cases hr1 : risesB x.f1 1 4 with
  | false =>
   have HR1 := hid hr1
   clear hr1
   go_wp2_with fail
   exact bodyPost_ret (v := .bool false) (by simp [results, Tryz.results43, go_sem]) rfl ⟨by rw [HI.out, HL.out, HM.out, HR1.out]; rfl, HB1.out⟩
  | true =>
   have HR1 := hid hr1
   clear hr1
   have m2 : V1.cell? ⟨w.heap.size + 1 + 1, 2, none⟩ = some (.slice A2 x.f2.length c2) := (blk_cell HV1.out 2).trans rfl
   go_wp2_with fail
   refine (rises_any x.f2 A2 c2 0 0 V1 hn2 HE2.out hc2).mono ?_
   rintro e V2 ⟨rfl, hb1⟩
   have HB2 := hid (HB1.out.trans (hb1.mono HB1.out.size))
   have HV2 := hid ((hb1.block _ (blk_lt HV1.out)).trans HV1.out)
   have HP2 := hid (HP1.out.later hb1)
   have HF1 := hid (Kd.C_below HE1.out hb1); have HF2 := hid (Kd.C_below HE2.out hb1)
   clear hb1 m2
   cases hr2 : risesB x.f2 0 0 with
   | false =>
    have HR2 := hid hr2
    clear hr2
    go_wp2_with fail
    exact bodyPost_ret (v := .bool false) (by simp [results, Tryz.results43, go_sem]) rfl ⟨by rw [HI.out, HL.out, HM.out, HS.out, HR1.out, HR2.out]; rfl, HB2.out⟩
   | true =>
    have HR2 := hid hr2
    clear hr2
    have m1 : V2.cell? ⟨w.heap.size + 1 + 1, 1, none⟩ = some (.slice A1 x.f1.length c1) := (blk_cell HV2.out 1).trans rfl
    go_wp2_with fail
    refine (any_int x.f1 A1 c1 (some ad) c ns i (w.heap.size + 1) w.heap.size V2 hc1 hn1 HF1.out HP2.out).mono ?_
    rintro e V3 ⟨rfl, hb1⟩
    have HB3 := hid (HB2.out.trans (hb1.mono HB2.out.size))
    have HV3 := hid ((hb1.block _ (blk_lt HV2.out)).trans HV2.out)
    have HP3 := hid (HP2.out.later hb1)
    have HG2 := hid (Kd.C_below HF2.out hb1)
    clear hb1 m1
    cases hr3 : x.f1.any (badIn ns i) with
    | true =>
     have HR3 := hid hr3
     clear hr3
     go_wp2_with fail
     exact bodyPost_ret (v := .bool false) (by simp [results, Tryz.results43, go_sem]) rfl ⟨by rw [HI.out, HL.out, HM.out, HS.out, HR1.out, HR2.out, HR3.out]; rfl, HB3.out⟩
    | false =>
     have HR3 := hid hr3
     clear hr3
     have m2 : V3.cell? ⟨w.heap.size + 1 + 1, 2, none⟩ = some (.slice A2 x.f2.length c2) := (blk_cell HV3.out 2).trans rfl
     go_wp2_with fail
     refine (any_int x.f2 A2 c2 (some ad) c ns i (w.heap.size + 1) w.heap.size V3 hc2 hn2 HG2.out HP3.out).mono ?_
     rintro e V4 ⟨rfl, hb1⟩
     have HB4 := hid (HB3.out.trans (hb1.mono HB3.out.size))
     clear hb1 m2
     generalize hq4 : x.f2.any (badIn ns i) = q4 at HI ⊢
     clear hq4
     go_wp2_with fail
     exact bodyPost_ret (v := .bool (!q4)) (by simp [results, Tryz.results43, go_sem]) rfl ⟨by rw [HI.out, HL.out, HM.out, HS.out, HR1.out, HR2.out, HR3.out]; rfl, HB4.out⟩
 by_cases h2 : op = 2
 ·subst h2
  have hL : leastOf 2 = 1 := rfl
  have hM : mostOf 2 = 1 := rfl
  have hS : sidesOf 2 = 4 := rfl
  clear h1 h5
  have HL : Hid (leastOf 2 = 1) := hL; have HM : Hid (mostOf 2 = 1) := hM; have HS : Hid (sidesOf 2 = 4) := hS
  clear hL hM hS
  go_wp2_with fail
  refine (rises_any x.f1 A1 c1 1 1 V hn1 HD1.out hc1).mono ?_
  rintro e V1 ⟨rfl, hb1⟩
  have HB1 := hid (HBV.out.trans (hb1.mono HBV.out.size))
  have HV1 := hid ((hb1.block _ HNl.out).trans HV0.out)
  have HP1 := hid (HPV.out.later hb1)
  have HE1 := hid (Kd.C_below HD1.out hb1); have HE2 := hid (Kd.C_below HD2.out hb1)
  clear hb1
  cases hr1 : risesB x.f1 1 1 with
  | false =>
   have HR1 := hid hr1
   clear hr1
   go_wp2_with fail
   exact bodyPost_ret (v := .bool false) (by simp [results, Tryz.results43, go_sem]) rfl ⟨by rw [HI.out, HL.out, HM.out, HR1.out]; rfl, HB1.out⟩
  | true =>
   have HR1 := hid hr1
   clear hr1
   have m2 : V1.cell? ⟨w.heap.size + 1 + 1, 2, none⟩ = some (.slice A2 x.f2.length c2) := (blk_cell HV1.out 2).trans rfl
   go_wp2_with fail
   refine (rises_any x.f2 A2 c2 0 4 V1 hn2 HE2.out hc2).mono ?_
   rintro e V2 ⟨rfl, hb1⟩
   have HB2 := hid (HB1.out.trans (hb1.mono HB1.out.size))
   have HV2 := hid ((hb1.block _ (blk_lt HV1.out)).trans HV1.out)
   have HP2 := hid (HP1.out.later hb1)
   have HF1 := hid (Kd.C_below HE1.out hb1); have HF2 := hid (Kd.C_below HE2.out hb1)
   clear hb1 m2
   cases hr2 : risesB x.f2 0 4 with
   | false =>
    have HR2 := hid hr2
    clear hr2
    go_wp2_with fail
    exact bodyPost_ret (v := .bool false) (by simp [results, Tryz.results43, go_sem]) rfl ⟨by rw [HI.out, HL.out, HM.out, HS.out, HR1.out, HR2.out]; rfl, HB2.out⟩
   | true =>
    have HR2 := hid hr2
    clear hr2
    have m1 : V2.cell? ⟨w.heap.size + 1 + 1, 1, none⟩ = some (.slice A1 x.f1.length c1) := (blk_cell HV2.out 1).trans rfl
    go_wp2_with fail
    refine (any_int x.f1 A1 c1 (some ad) c ns i (w.heap.size + 1) w.heap.size V2 hc1 hn1 HF1.out HP2.out).mono ?_
    rintro e V3 ⟨rfl, hb1⟩
    have HB3 := hid (HB2.out.trans (hb1.mono HB2.out.size))
    have HV3 := hid ((hb1.block _ (blk_lt HV2.out)).trans HV2.out)
    have HP3 := hid (HP2.out.later hb1)
    have HG2 := hid (Kd.C_below HF2.out hb1)
    clear hb1 m1
    cases hr3 : x.f1.any (badIn ns i) with
    | true =>
     have HR3 := hid hr3
     clear hr3
     go_wp2_with fail
     exact bodyPost_ret (v := .bool false) (by simp [results, Tryz.results43, go_sem]) rfl ⟨by rw [HI.out, HL.out, HM.out, HS.out, HR1.out, HR2.out, HR3.out]; rfl, HB3.out⟩
    | false =>
     have HR3 := hid hr3
     clear hr3
     have m2 : V3.cell? ⟨w.heap.size + 1 + 1, 2, none⟩ = some (.slice A2 x.f2.length c2) := (blk_cell HV3.out 2).trans rfl
     go_wp2_with fail
     refine (any_int x.f2 A2 c2 (some ad) c ns i (w.heap.size + 1) w.heap.size V3 hc2 hn2 HG2.out HP3.out).mono ?_
     rintro e V4 ⟨rfl, hb1⟩
     have HB4 := hid (HB3.out.trans (hb1.mono HB3.out.size))
     clear hb1 m2
     generalize hq4 : x.f2.any (badIn ns i) = q4 at HI ⊢
     clear hq4
     go_wp2_with fail
     exact bodyPost_ret (v := .bool (!q4)) (by simp [results, Tryz.results43, go_sem]) rfl ⟨by rw [HI.out, HL.out, HM.out, HS.out, HR1.out, HR2.out, HR3.out]; rfl, HB4.out⟩
 have hL : leastOf op = 1 := if_neg h1
 have hM : mostOf op = 1 := by unfold mostOf; rw [if_neg h1, if_neg h5]
 have hS : sidesOf op = 0 := if_neg h2
 have b1 : (op == 1) = false := by rw [beq_eq_false_iff_ne]; exact h1
 have b5 : (op == 5) = false := by rw [beq_eq_false_iff_ne]; exact h5
 have b2 : (op == 2) = false := by rw [beq_eq_false_iff_ne]; exact h2
 clear h1 h5 h2
 have HL : Hid (leastOf op = 1) := hL; have HM : Hid (mostOf op = 1) := hM; have HS : Hid (sidesOf op = 0) := hS
 clear hL hM hS
 go_wp2_with fail
 refine (rises_any x.f1 A1 c1 1 1 V hn1 HD1.out hc1).mono ?_
 rintro e V1 ⟨rfl, hb1⟩
 have HB1 := hid (HBV.out.trans (hb1.mono HBV.out.size))
 have HV1 := hid ((hb1.block _ HNl.out).trans HV0.out)
 have HP1 := hid (HPV.out.later hb1)
 have HE1 := hid (Kd.C_below HD1.out hb1); have HE2 := hid (Kd.C_below HD2.out hb1)
 clear hb1
 cases hr1 : risesB x.f1 1 1 with
 | false =>
  have HR1 := hid hr1
  clear hr1
  go_wp2_with fail
  exact bodyPost_ret (v := .bool false) (by simp [results, Tryz.results43, go_sem]) rfl ⟨by rw [HI.out, HL.out, HM.out, HR1.out]; rfl, HB1.out⟩
 | true =>
  have HR1 := hid hr1
  clear hr1
  have m2 : V1.cell? ⟨w.heap.size + 1 + 1, 2, none⟩ = some (.slice A2 x.f2.length c2) := (blk_cell HV1.out 2).trans rfl
  go_wp2_with fail
  refine (rises_any x.f2 A2 c2 0 0 V1 hn2 HE2.out hc2).mono ?_
  rintro e V2 ⟨rfl, hb1⟩
  have HB2 := hid (HB1.out.trans (hb1.mono HB1.out.size))
  have HV2 := hid ((hb1.block _ (blk_lt HV1.out)).trans HV1.out)
  have HP2 := hid (HP1.out.later hb1)
  have HF1 := hid (Kd.C_below HE1.out hb1); have HF2 := hid (Kd.C_below HE2.out hb1)
  clear hb1 m2
  cases hr2 : risesB x.f2 0 0 with
  | false =>
   have HR2 := hid hr2
   clear hr2
   go_wp2_with fail
   exact bodyPost_ret (v := .bool false) (by simp [results, Tryz.results43, go_sem]) rfl ⟨by rw [HI.out, HL.out, HM.out, HS.out, HR1.out, HR2.out]; rfl, HB2.out⟩
  | true =>
   have HR2 := hid hr2
   clear hr2
   have m1 : V2.cell? ⟨w.heap.size + 1 + 1, 1, none⟩ = some (.slice A1 x.f1.length c1) := (blk_cell HV2.out 1).trans rfl
   go_wp2_with fail
   refine (any_int x.f1 A1 c1 (some ad) c ns i (w.heap.size + 1) w.heap.size V2 hc1 hn1 HF1.out HP2.out).mono ?_
   rintro e V3 ⟨rfl, hb1⟩
   have HB3 := hid (HB2.out.trans (hb1.mono HB2.out.size))
   have HV3 := hid ((hb1.block _ (blk_lt HV2.out)).trans HV2.out)
   have HP3 := hid (HP2.out.later hb1)
   have HG2 := hid (Kd.C_below HF2.out hb1)
   clear hb1 m1
   cases hr3 : x.f1.any (badIn ns i) with
   | true =>
    have HR3 := hid hr3
    clear hr3
    go_wp2_with fail
    exact bodyPost_ret (v := .bool false) (by simp [results, Tryz.results43, go_sem]) rfl ⟨by rw [HI.out, HL.out, HM.out, HS.out, HR1.out, HR2.out, HR3.out]; rfl, HB3.out⟩
   | false =>
    have HR3 := hid hr3
    clear hr3
    have m2 : V3.cell? ⟨w.heap.size + 1 + 1, 2, none⟩ = some (.slice A2 x.f2.length c2) := (blk_cell HV3.out 2).trans rfl
    go_wp2_with fail
    refine (any_int x.f2 A2 c2 (some ad) c ns i (w.heap.size + 1) w.heap.size V3 hc2 hn2 HG2.out HP3.out).mono ?_
    rintro e V4 ⟨rfl, hb1⟩
    have HB4 := hid (HB3.out.trans (hb1.mono HB3.out.size))
    clear hb1 m2
    generalize hq4 : x.f2.any (badIn ns i) = q4 at HI ⊢
    clear hq4
    go_wp2_with fail
    exact bodyPost_ret (v := .bool (!q4)) (by simp [results, Tryz.results43, go_sem]) rfl ⟨by rw [HI.out, HL.out, HM.out, HS.out, HR1.out, HR2.out, HR3.out]; rfl, HB4.out⟩
end Go.Proofs.YtamfloegflejnaaGreatDoor
