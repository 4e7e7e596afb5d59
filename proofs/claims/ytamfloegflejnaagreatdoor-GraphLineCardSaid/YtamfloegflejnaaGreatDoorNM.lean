/-
 The law's small and flat: what may be gone through.
-/
import Derived.Test.YtamfloegflejnaaGreatDoorKC
set_option linter.unusedVariables false
set_option linter.unusedSimpArgs false
set_option maxHeartbeats 2000000
set_option maxRecDepth 100000
namespace Go.Proofs.YtamfloegflejnaaGreatDoor
open Lib (hid)
open Go.RowKit Go.Proofs.YtamfloegflejnaaGreatDoorW.PrintWords Go.Proofs.YtamfloegflejnaaGreatDoorW.PrintLast Go.Proofs.YtamfloegflejnaaGreatDoorW.PrintMore PGraphLines
def flatL (f : S37 -> Int -> Bool × Int) : List S37 -> Int -> Bool × Int
 | [], l => (true, l)
 | a :: r, l => if (f a l).1 = true then flatL f r (f a l).2 else (false, (f a l).2)
/-- Is a type not too deep, and of no more parts than are left? And what is left then. -/
def flatF : Nat -> S37 -> Int -> Bool × Int
 | 0, _, l => (false, l - 1)
 | d + 1, t, l => if l - 1 < 0 then (false, l - 1) else flatL (flatF d) t.f1 (l - 1)
theorem flatL_bd (f : S37 -> Int -> Bool × Int) (h : ∀ a l, 0 <= l -> (f a l).2 < l ∧ -1 <= (f a l).2 ∧ ((f a l).1 = true -> 0 <= (f a l).2)) : ∀ (r : List S37) (l : Int), 0 <= l -> (flatL f r l).2 <= l ∧ -1 <= (flatL f r l).2 ∧ ((flatL f r l).1 = true -> 0 <= (flatL f r l).2 ∧ (flatL f r l).2 + r.length <= l)
 | [], l, hl => by unfold flatL; exact ⟨Int.le_refl _, by omega, fun _ => ⟨hl, by simp⟩⟩
 | a :: r, l, hl => by
  have h1 := h a l hl
  unfold flatL
  by_cases hb : (f a l).1 = true
  ·rw [if_pos hb]
   have h2 := flatL_bd f h r (f a l).2 (h1.2.2 hb)
   refine ⟨by omega, h2.2.1, fun ht => ?_⟩
   have h3 := h2.2.2 ht
   rw [List.length_cons]
   omega
  ·rw [if_neg hb]
   exact ⟨by dsimp only; omega, h1.2.1, fun h => by cases h⟩
theorem flatF_bd : ∀ (d : Nat) (t : S37) (l : Int), 0 <= l -> (flatF d t l).2 < l ∧ -1 <= (flatF d t l).2 ∧ ((flatF d t l).1 = true -> 0 <= (flatF d t l).2)
 | 0, t, l, h => by unfold flatF; exact ⟨by dsimp only; omega, by dsimp only; omega, fun h => by cases h⟩
 | d + 1, t, l, h => by
  unfold flatF
  split
  ·exact ⟨by dsimp only; omega, by dsimp only; omega, fun h => by cases h⟩
  ·have := flatL_bd (flatF d) (flatF_bd d) t.f1 (l - 1) (by omega)
   exact ⟨by omega, this.2.1, fun h => (this.2.2 h).1⟩
theorem flat_any (L : Nat) (d : Nat) : d <= 30 -> ∀ (t : S37) (A : Option Addr) (c : Nat) (l : Int) (w0 w : World), 0 <= l -> l <= 5000 -> t.f1.length <= c -> k37.C w0 A t.f1.length t.f1 -> Below w0.heap.size w0 w -> w0.heap.size <= L -> w.heap[L]? = some (.cells #[.int .i64 l] 3 (0, 0)) →
  Calls Tryz.prog 13 #[.agg #[.int .i64 t.f0, .slice A t.f1.length c], .pointer (some ⟨L, 0, none⟩), .int .i64 d] w fun e w' => e = .returned (.bool (flatF d t l).1) ∧ w'.heap[L]? = some (.cells #[.int .i64 (flatF d t l).2] 3 (0, 0)) ∧ Below w0.heap.size w0 w' ∧ KeepBut w w' L none := by
 induction d with
 | zero =>
  intro _ t A c l w0 w hl hl5 hc hC hB hL hP
  have hz := blk_lt hP
  have HP := hid (blk_alloc (blk_set hP 0 (.int .i64 (l - 1))) (.cells #[.int .i64 t.f0, .slice A t.f1.length c] 37))
  have HB := hid (below_alloc (hB.setCell (p := ⟨L, 0, none⟩) hL (.int .i64 (l - 1))) (.cells #[.int .i64 t.f0, .slice A t.f1.length c] 37))
  have HK := hid (keep_alloc ((KeepBut.refl w L none).set_ 0 (.int .i64 (l - 1))) (.cells #[.int .i64 t.f0, .slice A t.f1.length c] 37))
  have c0' : w.cell? ⟨L, 0, none⟩ = some (.int .i64 l) := (blk_cell hP 0).trans rfl
  have f0' : w.frozen? ⟨L, 0, none⟩ = false := blk_frozen hP 0
  clear hP hC hB
  go_enter Tryz.func13, Tryz.ntmps13
  go_wp2_with fail
  all_goals
   exact bodyPost_ret (v := .bool false) (by simp [results, Tryz.results13, go_sem]) rfl ⟨rfl, by simpa [flatF] using HP.out, HB.out, HK.out⟩
 | succ d ih =>
  intro hd t A c l w0 w hl hl5 hc hC hB hL hP
  obtain ⟨kd, xs⟩ := t
  dsimp only at hc hC ⊢
  have hz := blk_lt hP
  have hmx := Kd.C_max hC
  have hX0 := heap_alloc_new (w.setCell ⟨L, 0, none⟩ (.int .i64 (l - 1))) (.cells #[.int .i64 kd, .slice A xs.length c] 37)
  have hsz : (w.setCell ⟨L, 0, none⟩ (.int .i64 (l - 1))).heap.size = w.heap.size := by simp [World.setCell]
  rw [hsz] at hX0
  have hp1 : ((w.setCell ⟨L, 0, none⟩ (.int .i64 (l - 1))).alloc (.cells #[.int .i64 kd, .slice A xs.length c] 37)).heap[L]? = some (.cells #[.int .i64 (l - 1)] 3 (0, 0)) := by
   have := blk_alloc (blk_set hP 0 (.int .i64 (l - 1))) (.cells #[.int .i64 kd, .slice A xs.length c] 37)
   simpa using this
  have HP := hid hp1
  have HX := hid hX0
  have HB := hid (below_alloc (hB.setCell (p := ⟨L, 0, none⟩) hL (.int .i64 (l - 1))) (.cells #[.int .i64 kd, .slice A xs.length c] 37))
  have HK := hid (keep_alloc ((KeepBut.refl w L none).set_ 0 (.int .i64 (l - 1))) (.cells #[.int .i64 kd, .slice A xs.length c] 37))
  have c0' : w.cell? ⟨L, 0, none⟩ = some (.int .i64 l) := (blk_cell hP 0).trans rfl
  have f0' : w.frozen? ⟨L, 0, none⟩ = false := blk_frozen hP 0
  have HC := hid hC
  have HIH := hid (ih (by omega))
  have HV : Hid (flatF (d + 1) ⟨kd, xs⟩ l = if l - 1 < 0 then (false, l - 1) else flatL (flatF d) xs (l - 1)) := rfl
  have td : ((d : Int) + 1 == 0) = false := by rw [beq_eq_false_iff_ne]; omega
  have hcast : ((d + 1 : Nat) : Int) = (d : Int) + 1 := by omega
  rw [hcast]
  clear hP hC hB hX0 hp1 ih hcast hsz
  by_cases hneg : l - 1 < 0
  ·have t0 : decide (l - 1 < 0) = true := by rw [decide_eq_true_iff]; exact hneg
   have HVN := hid (HV.out.trans (if_pos hneg))
   go_enter Tryz.func13, Tryz.ntmps13
   go_wp2_with fail
   exact bodyPost_ret (v := .bool false) (by simp [results, Tryz.results13, go_sem]) rfl ⟨by rw [HVN.out], by rw [HVN.out]; exact HP.out, HB.out, HK.out⟩
  ·have t0 : decide (l - 1 < 0) = false := by rw [decide_eq_false_iff_not]; exact hneg
   have HVN := hid (HV.out.trans (if_neg hneg))
   have hd31 : (d : Int) <= 30 := by omega
   go_enter Tryz.func13, Tryz.ntmps13
   go_wp2_with fail
   generalize (w.setCell ⟨L, 0, none⟩ (.int .i64 (l - 1))).alloc (.cells #[.int .i64 kd, .slice A xs.length c] 37) = W0 at *
   go_loopg [25] xs.length (fun n i wr => ∃ (k : Nat) (q : Int), n + k = xs.length ∧ i = .int .i64 k ∧ 0 <= q ∧ q <= 5000 ∧ Aside0 (flatL (flatF d) xs (l - 1) = flatL (flatF d) (xs.drop k) q) ∧ Aside0 (wr.heap[L]? = some (.cells #[.int .i64 q] 3 (0, 0))) ∧ Aside0 (Below w0.heap.size w0 wr) ∧ Aside0 (KeepBut w wr L none))
   case atStart => exact ⟨0, l - 1, by omega, rfl, by omega, by omega, ⟨rfl⟩, ⟨HP.out⟩, ⟨HB.out⟩, ⟨HK.out⟩⟩
   case round =>
    obtain ⟨k, q, hk, rfl, hq0, hq5, ⟨hG⟩, ⟨hP⟩, ⟨hB⟩, ⟨hK⟩⟩ := hrel
    have HG := hid hG; have HPk := hid hP; have HBk := hid hB; have HKk := hid hK
    clear hG hP hB hK
    by_cases hlt : k < xs.length
    ·obtain ⟨m, rfl⟩ : ∃ m, gk = m + 1 := ⟨gk - 1, by omega⟩
     obtain ⟨ad, A1, c1, rfl, e0, e1, hc1, hC1⟩ := at_T37 HC.out (k : Int) (by omega) (by omega)
     have hrd : rd_T37 xs (k : Int) = xs[k] := by simp [rd_T37, List.getD, List.getElem?_eq_getElem hlt]
     rw [hrd] at e0 e1 hc1 hC1
     rw [Int.toNat_natCast] at e0 e1
     have e0' := pw_cell_below HBk.out e0
     have e1' := pw_cell_below HBk.out e1
     have HGS : Hid (flatL (flatF d) xs (l - 1) = if (flatF d xs[k] q).1 = true then flatL (flatF d) (xs.drop (k + 1)) (flatF d xs[k] q).2 else (false, (flatF d xs[k] q).2)) := by
      have := HG.out
      rw [List.drop_eq_getElem_cons hlt] at this
      exact hid (this.trans rfl)
     have hbd := flatF_bd d xs[k] q hq0
     generalize xs[k] = x at *
     have HC1 := hid hC1; have HBD := hid hbd
     clear hrd hC1 e0 e1 hbd
     go_upto_region 7 with fail
     have HX7 := hid (heap_alloc_new wr (.cells #[.int .i64 x.f0, .slice A1 x.f1.length c1] 37))
     have HP7 := hid (blk_alloc HPk.out (.cells #[.int .i64 x.f0, .slice A1 x.f1.length c1] 37))
     have HB7 := hid (below_alloc HBk.out (.cells #[.int .i64 x.f0, .slice A1 x.f1.length c1] 37))
     have HK7 := hid (keep_alloc HKk.out (.cells #[.int .i64 x.f0, .slice A1 x.f1.length c1] 37))
     clear e0' e1' HPk HBk HKk
     generalize wr.alloc (.cells #[.int .i64 x.f0, .slice A1 x.f1.length c1] 37) = w7 at *
     generalize wr.heap.size = N7 at *
     have n0 : w7.cell? ⟨N7, 0, none⟩ = some (.int .i64 x.f0) := (blk_cell HX7.out 0).trans rfl
     have n1 : w7.cell? ⟨N7, 1, none⟩ = some (.slice A1 x.f1.length c1) := (blk_cell HX7.out 1).trans rfl
     go_wp2_with fail
     refine (HIH.out x A1 c1 q w0 w7 hq0 hq5 hc1 HC1.out HB7.out hL HP7.out).mono ?_
     rintro e w8 ⟨rfl, hP8, hB8, hK8⟩
     have HP8 := hid hP8; have HB8 := hid hB8
     have HK8 := hid (HK7.out.trans hK8 (.inl rfl))
     clear hP8 hB8 hK8 n0 n1
     cases hb : (flatF d x q).1 with
     | true =>
      have HS := hid (HGS.out.trans (if_pos hb))
      have hq2 := HBD.out.2.2 hb
      have hq3 := HBD.out.1
      clear hb
      go_wp2_with fail
      go_roundg m
      case measure => omega
      case rel => exact ⟨k + 1, (flatF d x q).2, by omega, by go_num, hq2, by omega, ⟨HS.out⟩, ⟨HP8.out⟩, ⟨HB8.out⟩, ⟨HK8.out⟩⟩
     | false =>
      have HS := hid (HGS.out.trans (if_neg (by rw [hb]; decide)))
      clear hb
      go_wp2_with fail
      exact bodyPost_ret (v := .bool false) (by simp [results, Tryz.results13, go_sem]) rfl ⟨by rw [HVN.out, HS.out], by rw [HVN.out, HS.out]; exact HP8.out, HB8.out, HK8.out⟩
    ·obtain rfl : k = xs.length := by omega
     have HS : Hid (flatL (flatF d) xs (l - 1) = (true, q)) := by
      have := HG.out
      rw [List.drop_eq_nil_of_le (Nat.le_refl _)] at this
      exact hid this
     go_wp2_with fail
     exact bodyPost_ret (v := .bool true) (by simp [results, Tryz.results13, go_sem]) rfl ⟨by rw [HVN.out, HS.out], by rw [HVN.out, HS.out]; exact HPk.out, HBk.out, HKk.out⟩
/-- Nodes that may be gone through. -/
def smallL : List S43 -> Int -> Bool
 | [], _ => true
 | n :: r, q => if n.f1.length <= 100 ∧ n.f2.length <= 100 ∧ n.f3.size <= 5000 ∧ (flatF 30 n.f4 q).1 = true then smallL r (flatF 30 n.f4 q).2 else false
def smallB (l : List S43) : Bool := if l.length <= 100 then smallL l 5000 else false
theorem small_any (l : List S43) (A : Option Addr) (c : Nat) (w : World) (hc : l.length <= c) (hC : k43.C w A l.length l) :
  Calls Tryz.prog 5 #[.slice A l.length c] w fun e w' => e = .returned (.bool (smallB l)) ∧ Below w.heap.size w w' := by
 have HC := hid hC
 have HP0 := hid (heap_alloc_new w (.cells #[.int .i64 5000] 3))
 have HB0 := hid (below_alloc (Below.refl w.heap.size w) (.cells #[.int .i64 5000] 3))
 clear hC
 by_cases hl : l.length <= 100
 ·have t0 : decide ((100 : Int) < (l.length : Int)) = false := by rw [decide_eq_false_iff_not]; omega
  have HV : Hid (smallB l = smallL l 5000) := if_pos hl
  go_enter Tryz.func5, Tryz.ntmps5
  go_wp2_with fail
  generalize w.alloc (.cells #[.int .i64 5000] 3) = W0 at *
  go_loopg [11] l.length (fun n i wr => ∃ (k : Nat) (q : Int), n + k = l.length ∧ i = .int .i64 k ∧ 0 <= q ∧ q <= 5000 ∧ Aside0 (smallL l 5000 = smallL (l.drop k) q) ∧ Aside0 (wr.heap[w.heap.size]? = some (.cells #[.int .i64 q] 3 (0, 0))) ∧ Aside0 (Below w.heap.size w wr))
  case atStart => exact ⟨0, 5000, by omega, rfl, by omega, by omega, ⟨rfl⟩, ⟨HP0.out⟩, ⟨HB0.out⟩⟩
  case round =>
   obtain ⟨k, q, hk, rfl, hq0, hq5, ⟨hG⟩, ⟨hP⟩, ⟨hB⟩⟩ := hrel
   have HG := hid hG; have HP := hid hP; have HB := hid hB
   clear hG hP hB
   by_cases hlt : k < l.length
   ·obtain ⟨m, rfl⟩ : ∃ m, gk = m + 1 := ⟨gk - 1, by omega⟩
    obtain ⟨ad, A1, c1, A2, c2, A5, c5, rfl, g0, g1, g2, g3, g4, g5, g6, g7, g8, g9, g10, g11, g12, g13, hc1, k1, hc2, k2, hc5, k5⟩ := at_T43 (Kd.C_below HC.out HB.out) (k : Int) (by omega) (by omega)
    obtain ⟨ad', _, _, _, _, A5', c5', had, _, _, _, _, _, z5, _, _, _, _, _, _, _, _, _, _, _, _, hc5', k5'⟩ := at_T43 HC.out (k : Int) (by omega) (by omega)
    have hA5 : A5' = A5 ∧ c5' = c5 := by
     injection had with had
     subst had
     have h1 := pw_cell_below HB.out z5
     rw [g5] at h1
     injection h1 with h1
     injection h1 with h1 _ h2
     exact ⟨h1.symm, h2.symm⟩
    obtain ⟨rfl, rfl⟩ := hA5
    rw [Int.toNat_natCast] at g0 g1 g2 g3 g4 g5 g6 g7 g8 g9 g10 g11 g12 g13
    have hrd : rd_T43 l (k : Int) = l[k] := by simp [rd_T43, List.getD, List.getElem?_eq_getElem hlt]
    have HGS : Hid (smallL l 5000 = if l[k].f1.length <= 100 ∧ l[k].f2.length <= 100 ∧ l[k].f3.size <= 5000 ∧ (flatF 30 l[k].f4 q).1 = true then smallL (l.drop (k + 1)) (flatF 30 l[k].f4 q).2 else false) := by
     have := HG.out
     rw [List.drop_eq_getElem_cons hlt] at this
     exact hid (this.trans rfl)
    rw [<- hrd] at HGS
    clear hrd z5 had
    generalize rd_T43 l (k : Int) = x at *
    have HBD := hid (flatF_bd 30 x.f4 q hq0)
    have K5 := hid k5'
    clear k1 k2 k5 k5' hc5'
    go_upto_region 7 with fail
    have HX7 := hid (heap_alloc_new wr (.cells #[.int .i64 x.f0, .slice A1 x.f1.length c1, .slice A2 x.f2.length c2, .string x.f3, .int .i64 x.f4.f0, .slice A5' x.f4.f1.length c5', .int .i64 x.f5.f0, .int .i64 x.f5.f1, .int .i64 x.f5.f2, .int .i64 x.f5.f3, .int .i64 x.f6.f0, .int .i64 x.f6.f1, .int .i64 x.f6.f2, .bool x.f6.f3] 43))
    have HP7 := hid (blk_alloc HP.out (.cells #[.int .i64 x.f0, .slice A1 x.f1.length c1, .slice A2 x.f2.length c2, .string x.f3, .int .i64 x.f4.f0, .slice A5' x.f4.f1.length c5', .int .i64 x.f5.f0, .int .i64 x.f5.f1, .int .i64 x.f5.f2, .int .i64 x.f5.f3, .int .i64 x.f6.f0, .int .i64 x.f6.f1, .int .i64 x.f6.f2, .bool x.f6.f3] 43))
    have HB7 := hid (below_alloc HB.out (.cells #[.int .i64 x.f0, .slice A1 x.f1.length c1, .slice A2 x.f2.length c2, .string x.f3, .int .i64 x.f4.f0, .slice A5' x.f4.f1.length c5', .int .i64 x.f5.f0, .int .i64 x.f5.f1, .int .i64 x.f5.f2, .int .i64 x.f5.f3, .int .i64 x.f6.f0, .int .i64 x.f6.f1, .int .i64 x.f6.f2, .bool x.f6.f3] 43))
    clear g0 g1 g2 g3 g4 g5 g6 g7 g8 g9 g10 g11 g12 g13 HP HB
    generalize wr.alloc (.cells #[.int .i64 x.f0, .slice A1 x.f1.length c1, .slice A2 x.f2.length c2, .string x.f3, .int .i64 x.f4.f0, .slice A5' x.f4.f1.length c5', .int .i64 x.f5.f0, .int .i64 x.f5.f1, .int .i64 x.f5.f2, .int .i64 x.f5.f3, .int .i64 x.f6.f0, .int .i64 x.f6.f1, .int .i64 x.f6.f2, .bool x.f6.f3] 43) = w7 at *
    generalize wr.heap.size = N7 at *
    have n1 : w7.cell? ⟨N7, 1, none⟩ = some (.slice A1 x.f1.length c1) := (blk_cell HX7.out 1).trans rfl
    have n2 : w7.cell? ⟨N7, 2, none⟩ = some (.slice A2 x.f2.length c2) := (blk_cell HX7.out 2).trans rfl
    have n3 : w7.cell? ⟨N7, 3, none⟩ = some (.string x.f3) := (blk_cell HX7.out 3).trans rfl
    have n4 : w7.cell? ⟨N7, 4, none⟩ = some (.int .i64 x.f4.f0) := (blk_cell HX7.out 4).trans rfl
    have n5 : w7.cell? ⟨N7, 5, none⟩ = some (.slice A5' x.f4.f1.length c5') := (blk_cell HX7.out 5).trans rfl
    by_cases h1 : x.f1.length <= 100
    ·have t1 : decide ((100 : Int) < (x.f1.length : Int)) = false := by rw [decide_eq_false_iff_not]; omega
     by_cases h2 : x.f2.length <= 100
     ·have t2 : decide ((100 : Int) < (x.f2.length : Int)) = false := by rw [decide_eq_false_iff_not]; omega
      by_cases h3 : x.f3.size <= 5000
      ·have t3 : decide ((5000 : Int) < (x.f3.size : Int)) = false := by rw [decide_eq_false_iff_not]; omega
       have H123 := hid (show x.f1.length <= 100 ∧ x.f2.length <= 100 ∧ x.f3.size <= 5000 from ⟨h1, h2, h3⟩)
       clear h1 h2 h3
       go_wp2_with fail
       refine (flat_any w.heap.size 30 (Nat.le_refl _) x.f4 A5' c5' q w w7 hq0 hq5 hc5 K5.out HB7.out (Nat.le_refl _) HP7.out).mono ?_
       rintro e w8 ⟨rfl, hP8, hB8, hK8⟩
       have HP8 := hid hP8; have HB8 := hid hB8
       clear hP8 hB8 hK8 n1 n2 n3 n4 n5 t1 t2 t3
       cases hb : (flatF 30 x.f4 q).1 with
       | true =>
        have HS := hid (HGS.out.trans (if_pos ⟨H123.out.1, H123.out.2.1, H123.out.2.2, hb⟩))
        have hq2 := HBD.out.2.2 hb
        have hq3 := HBD.out.1
        clear hb
        go_wp2_with fail
        go_roundg m
        case measure => omega
        case rel => exact ⟨k + 1, (flatF 30 x.f4 q).2, by omega, by go_num, hq2, by omega, ⟨HS.out⟩, ⟨HP8.out⟩, ⟨HB8.out⟩⟩
       | false =>
        have HS := hid (HGS.out.trans (if_neg (fun h => by rw [hb] at h; exact absurd h.2.2.2 (by decide))))
        clear hb
        go_wp2_with fail
        exact bodyPost_ret (v := .bool false) (by simp [results, Tryz.results5, go_sem]) rfl ⟨by rw [HV.out, HS.out], HB8.out⟩
      ·have t3 : decide ((5000 : Int) < (x.f3.size : Int)) = true := by rw [decide_eq_true_iff]; omega
       have HS := hid (HGS.out.trans (if_neg (fun h => h3 h.2.2.1)))
       clear h1 h2 h3
       go_wp2_with fail
       exact bodyPost_ret (v := .bool false) (by simp [results, Tryz.results5, go_sem]) rfl ⟨by rw [HV.out, HS.out], HB7.out⟩
     ·have t2 : decide ((100 : Int) < (x.f2.length : Int)) = true := by rw [decide_eq_true_iff]; omega
      have HS := hid (HGS.out.trans (if_neg (fun h => h2 h.2.1)))
      clear h1 h2
      go_wp2_with fail
      exact bodyPost_ret (v := .bool false) (by simp [results, Tryz.results5, go_sem]) rfl ⟨by rw [HV.out, HS.out], HB7.out⟩
    ·have t1 : decide ((100 : Int) < (x.f1.length : Int)) = true := by rw [decide_eq_true_iff]; omega
     have HS := hid (HGS.out.trans (if_neg (fun h => h1 h.1)))
     clear h1
     go_wp2_with fail
     exact bodyPost_ret (v := .bool false) (by simp [results, Tryz.results5, go_sem]) rfl ⟨by rw [HV.out, HS.out], HB7.out⟩
   ·obtain rfl : k = l.length := by omega
    have HS : Hid (smallL l 5000 = true) := by
     have := HG.out
     rw [List.drop_eq_nil_of_le (Nat.le_refl _)] at this
     exact hid this
    go_wp2_with fail
    exact bodyPost_ret (v := .bool true) (by simp [results, Tryz.results5, go_sem]) rfl ⟨by rw [HV.out, HS.out], HB.out⟩
 ·have t0 : decide ((100 : Int) < (l.length : Int)) = true := by rw [decide_eq_true_iff]; omega
  have HV : Hid (smallB l = false) := if_neg hl
  go_enter Tryz.func5, Tryz.ntmps5
  go_wp2_with fail
  exact bodyPost_ret (v := .bool false) (by simp [results, Tryz.results5, go_sem]) rfl ⟨by rw [HV.out], HB0.out⟩
end Go.Proofs.YtamfloegflejnaaGreatDoor
