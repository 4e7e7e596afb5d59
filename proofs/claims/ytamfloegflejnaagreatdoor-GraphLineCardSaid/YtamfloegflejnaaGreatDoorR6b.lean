/-
 Taken over from the print: Show.
-/
import Derived.Test.YtamfloegflejnaaGreatDoorH1
import Derived.Test.YtamfloegflejnaaGreatDoorR6
set_option linter.unusedVariables false
set_option linter.unusedSimpArgs false
set_option maxHeartbeats 8000000
set_option maxRecDepth 100000
namespace Go.Proofs.YtamfloegflejnaaGreatDoor
open Go.RowKit Go.Proofs.YtamfloegflejnaaGreatDoorW.PrintWords Go.Proofs.YtamfloegflejnaaGreatDoorW.PrintLast Go.Proofs.YtamfloegflejnaaGreatDoorW.PrintMore PGraphLines
attribute [local go_sem] max2_int min2_int max_two min_two max_three min_three max_four min_four
/-! ### r11_Show: function 9 -/
def r11_Show.l0 : Nat -> List (S43) -> ByteArray -> Int -> Option (ByteArray)
 | 0, _, _, _ => none
 | k + 1, x0, x3, x4 => if x4 < (x0.length : Int) then (if 0 <= x4 then ((r11_Line.f k ((rd_T43 x0 x4).f0) ((rd_T43 x0 x4).f1) ((rd_T43 x0 x4).f2) ((rd_T43 x0 x4).f3) ((rd_T43 x0 x4).f4.f0) ((rd_T43 x0 x4).f4.f1) ((rd_T43 x0 x4).f5.f0) ((rd_T43 x0 x4).f5.f1) ((rd_T43 x0 x4).f5.f2) ((rd_T43 x0 x4).f5.f3) ((rd_T43 x0 x4).f6.f0) ((rd_T43 x0 x4).f6.f1) ((rd_T43 x0 x4).f6.f2) ((rd_T43 x0 x4).f6.f3)).bind fun t240 => (if t240.size + 1 <= 9223372036854775807 then (if x3.size + (t240 ++ (⟨#[10]⟩ : ByteArray)).size <= 9223372036854775807 then (r11_Show.l0 k x0 (x3 ++ (t240 ++ (⟨#[10]⟩ : ByteArray))) (wrap64 (x4 + 1))) else (none)) else (none))) else (none)) else (some x3)
def r11_Show.f (k : Nat) (l0 : List (S43)) : Option (ByteArray) := r11_Show.l0 k l0 (⟨#[]⟩ : ByteArray) 0
theorem r11_Show.calls (k : Nat) (A0 : Option Addr) (c0 : Nat) (l0 : List (S43)) (r : ByteArray) (w : World) (hr0 : Kd.C k43 w A0 l0.length l0) (hc0 : l0.length <= c0) (h : r11_Show.f k l0 = some r) :
  Calls Tryz.prog 9 #[.slice A0 l0.length c0] w fun e w' => e = .returned (.string r) ∧ Below w.heap.size w w' := by
 have hu43 := Tryz.underlying43
 have HR0 := Aside0.mk hr0
 have HC0 := Aside0.mk hc0
 clear hr0 hc0
 have HB := Aside0.mk (Below.refl w.heap.size w)
 have H : (r11_Show.l0 k l0 (⟨#[]⟩ : ByteArray) 0) = some r := h
 clear h
 have H' := Aside0.mk H
 clear H
 go_enter Tryz.func9, Tryz.ntmps9
 go_wp2
 go_loopg [3, 4] k (fun kq v3 v4 w' => ∃ (x3_1 : ByteArray) (x4_1 : Int), v3 = .string x3_1 ∧ v4 = .int .i64 x4_1 ∧ Aside0 (r11_Show.l0 kq l0 x3_1 x4_1 = some r) ∧ Aside0 (kq <= k) ∧ Aside0 (Below w.heap.size w w'))
 case atStart => exact ⟨((⟨#[]⟩ : ByteArray)), (0), rfl, rfl, H', ⟨Nat.le_refl _⟩, ⟨by repeat (first | (with_reducible first | exact HB.out | apply below_alloc | apply pw_below_drewN | apply below_drew1) | exact HB.out)⟩⟩
 case round =>
  clear H'
  obtain ⟨x3_1, x4_1, rfl, rfl, HA, HK1, HB⟩ := hrel
  cases gk with
  | zero => exact absurd HA.out (by simp [r11_Show.l0])
  | succ k1 =>
   have H := HA.out
   clear HA
   simp only [r11_Show.l0] at H
   by_cases c2 : x4_1 < (l0.length : Int)
   ·rw [if_pos c2] at H
    have c2b0 : decide (x4_1 < (l0.length : Int)) = true := decide_eq_true c2
    clear c2
    by_cases c3 : 0 <= x4_1
    ·rw [if_pos c3] at H
     have c3b0 : decide (0 <= x4_1) = true := decide_eq_true c3
     clear c3
     replace H := Option.bind_eq_some_iff.mp H
     obtain ⟨t240, A40, H⟩ := H
     have A4 := Aside0.mk A40
     clear A40
     by_cases c5 : t240.size + 1 <= 9223372036854775807
     ·rw [if_pos c5] at H
      obtain ⟨c5b0, c5b1, c5b2⟩ := leT c5
      by_cases c6 : x3_1.size + (t240 ++ (⟨#[10]⟩ : ByteArray)).size <= 9223372036854775807
      ·rw [if_pos c6] at H
       obtain ⟨c6b0, c6b1, c6b2⟩ := leT c6
       have H' := Aside0.mk H
       clear H
       have p239 : 0 <= (x4_1 : Int) := of_decide_eq_true (by first | (with_reducible assumption) | assumption)
       have q239 : x4_1 < (l0.length : Int) := of_decide_eq_true (by first | (with_reducible assumption) | assumption)
       obtain ⟨ad239, A239_1, c239_1, A239_2, c239_2, A239_5, c239_5, e239, hx239_0, hx239_1, hx239_2, hx239_3, hx239_4, hx239_5, hx239_6, hx239_7, hx239_8, hx239_9, hx239_10, hx239_11, hx239_12, hx239_13, hl239_1, hi239_1, hl239_2, hi239_2, hl239_5, hi239_5⟩ := at_T43 HR0.out x4_1 p239 q239
       cases e239
       replace hx239_0 := (HB.out.cell (World.block_lt_of_cell? w _ hx239_0)).trans hx239_0
       replace hx239_1 := (HB.out.cell (World.block_lt_of_cell? w _ hx239_1)).trans hx239_1
       replace hx239_2 := (HB.out.cell (World.block_lt_of_cell? w _ hx239_2)).trans hx239_2
       replace hx239_3 := (HB.out.cell (World.block_lt_of_cell? w _ hx239_3)).trans hx239_3
       replace hx239_4 := (HB.out.cell (World.block_lt_of_cell? w _ hx239_4)).trans hx239_4
       replace hx239_5 := (HB.out.cell (World.block_lt_of_cell? w _ hx239_5)).trans hx239_5
       replace hx239_6 := (HB.out.cell (World.block_lt_of_cell? w _ hx239_6)).trans hx239_6
       replace hx239_7 := (HB.out.cell (World.block_lt_of_cell? w _ hx239_7)).trans hx239_7
       replace hx239_8 := (HB.out.cell (World.block_lt_of_cell? w _ hx239_8)).trans hx239_8
       replace hx239_9 := (HB.out.cell (World.block_lt_of_cell? w _ hx239_9)).trans hx239_9
       replace hx239_10 := (HB.out.cell (World.block_lt_of_cell? w _ hx239_10)).trans hx239_10
       replace hx239_11 := (HB.out.cell (World.block_lt_of_cell? w _ hx239_11)).trans hx239_11
       replace hx239_12 := (HB.out.cell (World.block_lt_of_cell? w _ hx239_12)).trans hx239_12
       replace hx239_13 := (HB.out.cell (World.block_lt_of_cell? w _ hx239_13)).trans hx239_13
       have HR239_1 := Aside0.mk hi239_1
       have HC239_1 := Aside0.mk hl239_1
       clear hi239_1 hl239_1
       have HR239_2 := Aside0.mk hi239_2
       have HC239_2 := Aside0.mk hl239_2
       clear hi239_2 hl239_2
       have HR239_5 := Aside0.mk hi239_5
       have HC239_5 := Aside0.mk hl239_5
       clear hi239_5 hl239_5
       replace p239 := eq_true p239
       replace q239 := eq_true q239
       go_wp2_with (first | ((with_reducible refine gate_callee (f := 20) rfl ?_); refine goesL_ (some 16) rfl rfl Tryz.func20 (by kernel_rfl) rfl #[.agg #[.int .i64 ((rd_T43 l0 x4_1).f0), .slice A239_1 ((rd_T43 l0 x4_1).f1).length c239_1, .slice A239_2 ((rd_T43 l0 x4_1).f2).length c239_2, .string ((rd_T43 l0 x4_1).f3), .int .i64 ((rd_T43 l0 x4_1).f4.f0), .slice A239_5 ((rd_T43 l0 x4_1).f4.f1).length c239_5, .int .i64 ((rd_T43 l0 x4_1).f5.f0), .int .i64 ((rd_T43 l0 x4_1).f5.f1), .int .i64 ((rd_T43 l0 x4_1).f5.f2), .int .i64 ((rd_T43 l0 x4_1).f5.f3), .int .i64 ((rd_T43 l0 x4_1).f6.f0), .int .i64 ((rd_T43 l0 x4_1).f6.f1), .int .i64 ((rd_T43 l0 x4_1).f6.f2), .bool ((rd_T43 l0 x4_1).f6.f3)]] rfl (by (try simp only [List.map_toArray, List.map_cons, List.map_nil]); first | done | rfl | (simp only [List.length_drop, List.length_take]; rfl)) ?_; (with_reducible refine (r11_Line.calls k1 ((rd_T43 l0 x4_1).f0) _ _ ((rd_T43 l0 x4_1).f1) _ _ ((rd_T43 l0 x4_1).f2) ((rd_T43 l0 x4_1).f3) ((rd_T43 l0 x4_1).f4.f0) _ _ ((rd_T43 l0 x4_1).f4.f1) ((rd_T43 l0 x4_1).f5.f0) ((rd_T43 l0 x4_1).f5.f1) ((rd_T43 l0 x4_1).f5.f2) ((rd_T43 l0 x4_1).f5.f3) ((rd_T43 l0 x4_1).f6.f0) ((rd_T43 l0 x4_1).f6.f1) ((rd_T43 l0 x4_1).f6.f2) ((rd_T43 l0 x4_1).f6.f3) t240 _ ?side1 ?side2 ?side3 ?side4 ?side5 ?side6 A4.out).mono ?_); (case side1 => repeat (first | exact (Kd.C_below HR239_1.out HB.out) | (with_reducible refine Kd.C_alloc ?_ _) | (with_reducible refine Kd.C_drewN ?_ _) | (with_reducible refine Kd.C_drew ?_))); (case side2 => exact HC239_1.out); (case side3 => repeat (first | exact (Kd.C_below HR239_2.out HB.out) | (with_reducible refine Kd.C_alloc ?_ _) | (with_reducible refine Kd.C_drewN ?_ _) | (with_reducible refine Kd.C_drew ?_))); (case side4 => exact HC239_2.out); (case side5 => repeat (first | exact (Kd.C_below HR239_5.out HB.out) | (with_reducible refine Kd.C_alloc ?_ _) | (with_reducible refine Kd.C_drewN ?_ _) | (with_reducible refine Kd.C_drew ?_))); (case side6 => exact HC239_5.out); rintro e w7 ⟨rfl, hb⟩; refine ⟨_, rfl, ?_⟩; replace HB := Aside0.mk (below_step (by repeat (first | exact HB.out | apply below_alloc | apply pw_below_drewN | apply below_drew1)) hb); (try clear hb); (try clear hb2); (try clear hk); (try clear hi)))
       go_roundg k1
       case measure => have := HK1.out; omega
       case rel => exact ⟨(x3_1 ++ (t240 ++ (⟨#[10]⟩ : ByteArray))), (wrap64 (x4_1 + 1)), rfl, rfl, H', ⟨by have := HK1.out; omega⟩, ⟨by repeat (first | (with_reducible first | exact HB.out | apply below_alloc | apply pw_below_drewN | apply below_drew1) | exact HB.out)⟩⟩
      ·rw [if_neg c6] at H
       exact absurd H (by simp)
     ·rw [if_neg c5] at H
      exact absurd H (by simp)
    ·rw [if_neg c3] at H
     exact absurd H (by simp)
   ·rw [if_neg c2] at H
    have c2b0 : decide (x4_1 < (l0.length : Int)) = false := decide_eq_false c2
    clear c2
    obtain rfl := Option.some.inj H
    go_wp2
    go_ret
    exact ⟨rfl, HB.out⟩
end Go.Proofs.YtamfloegflejnaaGreatDoor
