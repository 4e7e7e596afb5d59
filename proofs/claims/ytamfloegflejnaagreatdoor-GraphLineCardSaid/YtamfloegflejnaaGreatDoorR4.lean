/-
 Taken over from the print: Check.
-/
import Derived.Test.YtamfloegflejnaaGreatDoorH1
import Derived.Test.YtamfloegflejnaaGreatDoorR3
set_option linter.unusedVariables false
set_option linter.unusedSimpArgs false
set_option maxHeartbeats 8000000
set_option maxRecDepth 100000
namespace Go.Proofs.YtamfloegflejnaaGreatDoor
open Go.RowKit Go.Proofs.YtamfloegflejnaaGreatDoorW.PrintWords Go.Proofs.YtamfloegflejnaaGreatDoorW.PrintLast Go.Proofs.YtamfloegflejnaaGreatDoorW.PrintMore PGraphLines
attribute [local go_sem] max2_int min2_int max_two min_two max_three min_three max_four min_four
/-! ### r11_Check: function 7 -/
mutual
def r11_Check.j0 : Nat -> List (S43) -> Bool -> Option (Int × Int)
 | 0, _, _ => none
 | k + 1, x0, x12 => if x12 = true then (some (0, 112)) else (r11_Check.l0 k x0 0)
def r11_Check.l0 : Nat -> List (S43) -> Int -> Option (Int × Int)
 | 0, _, _ => none
 | k + 1, x0, x4 => if x4 < (x0.length : Int) then (if 0 <= x4 then (if ((rd_T43 x0 x4).f0) < 1 then (r11_Check.j2 k x0 x4 true) else (r11_Check.j2 k x0 x4 (decide (((rd_T43 x0 x4).f0) > 6)))) else (none)) else (some (0, 0))
def r11_Check.j2 : Nat -> List (S43) -> Int -> Bool -> Option (Int × Int)
 | 0, _, _, _ => none
 | k + 1, x0, x4, x32 => if x32 = true then (some (x4, 110)) else ((r11_input.f k x0 x4).bind fun t207 => (if t207 = true then (if 0 <= x4 then (if x4 < (x0.length : Int) then ((r11_form.f k ((rd_T43 x0 x4).f0) ((rd_T43 x0 x4).f1) ((rd_T43 x0 x4).f2) ((rd_T43 x0 x4).f3) ((rd_T43 x0 x4).f4.f0) ((rd_T43 x0 x4).f4.f1) ((rd_T43 x0 x4).f5.f0) ((rd_T43 x0 x4).f5.f1) ((rd_T43 x0 x4).f5.f2) ((rd_T43 x0 x4).f5.f3) ((rd_T43 x0 x4).f6.f0) ((rd_T43 x0 x4).f6.f1) ((rd_T43 x0 x4).f6.f2) ((rd_T43 x0 x4).f6.f3)).bind fun t209 => (if t209 = true then (r11_Check.l0 k x0 (wrap64 (x4 + 1))) else (some (x4, 112)))) else (none)) else (none)) else (some (x4, 111))))
end
def r11_Check.f (k : Nat) (l0 : List (S43)) : Option (Int × Int) := if (l0.length : Int) = 0 then (r11_Check.j0 k l0 true) else (r11_Check.j0 k l0 (decide ((l0.length : Int) > 32)))
theorem r11_Check.calls (k : Nat) (A0 : Option Addr) (c0 : Nat) (l0 : List (S43)) (r1 : Int) (r2 : Int) (w : World) (hr0 : Kd.C k43 w A0 l0.length l0) (hc0 : l0.length <= c0) (h : r11_Check.f k l0 = some (r1, r2)) :
  Calls Tryz.prog 7 #[.slice A0 l0.length c0] w fun e w' => e = .returned (.tuple #[.int .i64 r1, .int .i64 r2]) ∧ Below w.heap.size w w' := by
 have hu43 := Tryz.underlying43
 have HR0 := Aside0.mk hr0
 have HC0 := Aside0.mk hc0
 clear hr0 hc0
 have HB := Aside0.mk (Below.refl w.heap.size w)
 have H : (if (l0.length : Int) = 0 then (r11_Check.j0 k l0 true) else (r11_Check.j0 k l0 (decide ((l0.length : Int) > 32)))) = some (r1, r2) := h
 clear h
 have HC2 := Aside0.mk H
 clear H
 go_enter Tryz.func7, Tryz.ntmps7
 go_upto_region 1 with (fail)
 go_cut [12] (fun v12 wc => ∃ (kq : Nat) (x12_1 : Bool), v12 = .bool x12_1 ∧ Aside0 (r11_Check.j0 kq l0 x12_1 = some (r1, r2)) ∧ Aside0 (kq <= k) ∧ Aside0 (Below w.heap.size w wc))
 case first =>
  have H := HC2.out
  clear HC2
  by_cases c3 : (l0.length : Int) = 0
  ·rw [if_pos c3] at H
   obtain ⟨c3b0, c3b1⟩ := eqB c3
   clear c3
   (first | rw [c3b0] | (simp only [i64_w, i32_w]; rw [c3b0]) | skip)
   have H' := Aside0.mk H
   clear H
   go_wp2
   go_meet
   case rel => exact ⟨_, (true), rfl, H', ⟨by first | omega | exact Nat.le_refl _⟩, ⟨by repeat (first | (with_reducible first | exact HB.out | apply below_alloc | apply pw_below_drewN | apply below_drew1) | exact HB.out)⟩⟩
  ·rw [if_neg c3] at H
   obtain ⟨c3b0, c3b1⟩ := neB c3
   have c3b2 : ¬ (l0 = []) := fun h_ => c3 (by rw [h_]; rfl)
   (first | rw [c3b0] | (simp only [i64_w, i32_w]; rw [c3b0]) | skip)
   have H' := Aside0.mk H
   clear H
   go_wp2
   go_meet
   case rel => exact ⟨_, (decide ((l0.length : Int) > 32)), rfl, H', ⟨by first | omega | exact Nat.le_refl _⟩, ⟨by repeat (first | (with_reducible first | exact HB.out | apply below_alloc | apply pw_below_drewN | apply below_drew1) | exact HB.out)⟩⟩
 case rest =>
  clear HC2
  obtain ⟨kq, x12_1, rfl, HA, HJ1, HB⟩ := hcut
  cases kq with
  | zero => exact absurd HA.out (by simp [r11_Check.j0])
  | succ kj1 =>
   have H := HA.out
   clear HA
   simp only [r11_Check.j0] at H
   by_cases c4 : x12_1 = true
   ·subst c4
    have H1 : (some (0, 112)) = some (r1, r2) := by rw [if_pos rfl] at H; exact H
    clear H
    have H := H1
    clear H1
    simp only [Option.some.injEq, Prod.mk.injEq] at H
    obtain ⟨rfl, rfl⟩ := H
    go_wp2
    go_ret2
    exact ⟨rfl, HB.out⟩
   ·replace c4 := Bool.eq_false_iff.mpr c4
    subst c4
    have H1 : (r11_Check.l0 kj1 l0 0) = some (r1, r2) := by rw [if_neg (show ¬ (false = true) by decide)] at H; exact H
    clear H
    have H := H1
    clear H1
    have H' := Aside0.mk H
    clear H
    go_wp2
    go_loopg [4] kj1 (fun kq v4 w' => ∃ (x4_2 : Int), v4 = .int .i64 x4_2 ∧ Aside0 (r11_Check.l0 kq l0 x4_2 = some (r1, r2)) ∧ Aside0 (kq <= kj1) ∧ Aside0 (Below w.heap.size w w'))
    case atStart => exact ⟨(0), rfl, H', ⟨Nat.le_refl _⟩, ⟨by repeat (first | (with_reducible first | exact HB.out | apply below_alloc | apply pw_below_drewN | apply below_drew1) | exact HB.out)⟩⟩
    case round =>
     clear H'
     obtain ⟨x4_2, rfl, HA, HK2, HB⟩ := hrel
     cases gk with
     | zero => exact absurd HA.out (by simp [r11_Check.l0])
     | succ k2 =>
      have H := HA.out
      clear HA
      simp only [r11_Check.l0] at H
      by_cases c5 : x4_2 < (l0.length : Int)
      ·rw [if_pos c5] at H
       have c5b0 : decide (x4_2 < (l0.length : Int)) = true := decide_eq_true c5
       clear c5
       have HC6 := Aside0.mk H
       clear H
       go_upto_region 6 with (fail)
       go_cut [32] (fun v32 wc => ∃ (kq : Nat) (x32_5 : Bool), v32 = .bool x32_5 ∧ Aside0 (r11_Check.j2 kq l0 x4_2 x32_5 = some (r1, r2)) ∧ Aside0 (kq <= k2) ∧ Aside0 (Below w.heap.size w wc))
       case first =>
        have H := HC6.out
        clear HC6
        by_cases c7 : 0 <= x4_2
        ·rw [if_pos c7] at H
         have c7b0 : decide (0 <= x4_2) = true := decide_eq_true c7
         clear c7
         (first | rw [c7b0] | (simp only [i64_w, i32_w]; rw [c7b0]) | skip)
         by_cases c8 : ((rd_T43 l0 x4_2).f0) < 1
         ·rw [if_pos c8] at H
          have c8b0 : decide (((rd_T43 l0 x4_2).f0) < 1) = true := decide_eq_true c8
          clear c8
          have H' := Aside0.mk H
          clear H
          have p205 : 0 <= (x4_2 : Int) := of_decide_eq_true (by first | (with_reducible assumption) | assumption)
          have q205 : x4_2 < (l0.length : Int) := of_decide_eq_true (by first | (with_reducible assumption) | assumption)
          obtain ⟨ad205, A205_1, c205_1, A205_2, c205_2, A205_5, c205_5, e205, hx205_0, hx205_1, hx205_2, hx205_3, hx205_4, hx205_5, hx205_6, hx205_7, hx205_8, hx205_9, hx205_10, hx205_11, hx205_12, hx205_13, hl205_1, hi205_1, hl205_2, hi205_2, hl205_5, hi205_5⟩ := at_T43 HR0.out x4_2 p205 q205
          cases e205
          replace hx205_0 := (HB.out.cell (World.block_lt_of_cell? w _ hx205_0)).trans hx205_0
          replace hx205_1 := (HB.out.cell (World.block_lt_of_cell? w _ hx205_1)).trans hx205_1
          replace hx205_2 := (HB.out.cell (World.block_lt_of_cell? w _ hx205_2)).trans hx205_2
          replace hx205_3 := (HB.out.cell (World.block_lt_of_cell? w _ hx205_3)).trans hx205_3
          replace hx205_4 := (HB.out.cell (World.block_lt_of_cell? w _ hx205_4)).trans hx205_4
          replace hx205_5 := (HB.out.cell (World.block_lt_of_cell? w _ hx205_5)).trans hx205_5
          replace hx205_6 := (HB.out.cell (World.block_lt_of_cell? w _ hx205_6)).trans hx205_6
          replace hx205_7 := (HB.out.cell (World.block_lt_of_cell? w _ hx205_7)).trans hx205_7
          replace hx205_8 := (HB.out.cell (World.block_lt_of_cell? w _ hx205_8)).trans hx205_8
          replace hx205_9 := (HB.out.cell (World.block_lt_of_cell? w _ hx205_9)).trans hx205_9
          replace hx205_10 := (HB.out.cell (World.block_lt_of_cell? w _ hx205_10)).trans hx205_10
          replace hx205_11 := (HB.out.cell (World.block_lt_of_cell? w _ hx205_11)).trans hx205_11
          replace hx205_12 := (HB.out.cell (World.block_lt_of_cell? w _ hx205_12)).trans hx205_12
          replace hx205_13 := (HB.out.cell (World.block_lt_of_cell? w _ hx205_13)).trans hx205_13
          have HR205_1 := Aside0.mk hi205_1
          have HC205_1 := Aside0.mk hl205_1
          clear hi205_1 hl205_1
          have HR205_2 := Aside0.mk hi205_2
          have HC205_2 := Aside0.mk hl205_2
          clear hi205_2 hl205_2
          have HR205_5 := Aside0.mk hi205_5
          have HC205_5 := Aside0.mk hl205_5
          clear hi205_5 hl205_5
          replace p205 := eq_true p205
          replace q205 := eq_true q205
          go_wp2
          go_meet
          case rel => exact ⟨_, (true), rfl, H', ⟨by have := HJ1.out; have := HK2.out; first | omega | exact Nat.le_refl _⟩, ⟨by repeat (first | (with_reducible first | exact HB.out | apply below_alloc | apply pw_below_drewN | apply below_drew1) | exact HB.out)⟩⟩
         ·rw [if_neg c8] at H
          have c8b0 : decide (((rd_T43 l0 x4_2).f0) < 1) = false := decide_eq_false c8
          clear c8
          have H' := Aside0.mk H
          clear H
          have p205 : 0 <= (x4_2 : Int) := of_decide_eq_true (by first | (with_reducible assumption) | assumption)
          have q205 : x4_2 < (l0.length : Int) := of_decide_eq_true (by first | (with_reducible assumption) | assumption)
          obtain ⟨ad205, A205_1, c205_1, A205_2, c205_2, A205_5, c205_5, e205, hx205_0, hx205_1, hx205_2, hx205_3, hx205_4, hx205_5, hx205_6, hx205_7, hx205_8, hx205_9, hx205_10, hx205_11, hx205_12, hx205_13, hl205_1, hi205_1, hl205_2, hi205_2, hl205_5, hi205_5⟩ := at_T43 HR0.out x4_2 p205 q205
          cases e205
          replace hx205_0 := (HB.out.cell (World.block_lt_of_cell? w _ hx205_0)).trans hx205_0
          replace hx205_1 := (HB.out.cell (World.block_lt_of_cell? w _ hx205_1)).trans hx205_1
          replace hx205_2 := (HB.out.cell (World.block_lt_of_cell? w _ hx205_2)).trans hx205_2
          replace hx205_3 := (HB.out.cell (World.block_lt_of_cell? w _ hx205_3)).trans hx205_3
          replace hx205_4 := (HB.out.cell (World.block_lt_of_cell? w _ hx205_4)).trans hx205_4
          replace hx205_5 := (HB.out.cell (World.block_lt_of_cell? w _ hx205_5)).trans hx205_5
          replace hx205_6 := (HB.out.cell (World.block_lt_of_cell? w _ hx205_6)).trans hx205_6
          replace hx205_7 := (HB.out.cell (World.block_lt_of_cell? w _ hx205_7)).trans hx205_7
          replace hx205_8 := (HB.out.cell (World.block_lt_of_cell? w _ hx205_8)).trans hx205_8
          replace hx205_9 := (HB.out.cell (World.block_lt_of_cell? w _ hx205_9)).trans hx205_9
          replace hx205_10 := (HB.out.cell (World.block_lt_of_cell? w _ hx205_10)).trans hx205_10
          replace hx205_11 := (HB.out.cell (World.block_lt_of_cell? w _ hx205_11)).trans hx205_11
          replace hx205_12 := (HB.out.cell (World.block_lt_of_cell? w _ hx205_12)).trans hx205_12
          replace hx205_13 := (HB.out.cell (World.block_lt_of_cell? w _ hx205_13)).trans hx205_13
          have HR205_1 := Aside0.mk hi205_1
          have HC205_1 := Aside0.mk hl205_1
          clear hi205_1 hl205_1
          have HR205_2 := Aside0.mk hi205_2
          have HC205_2 := Aside0.mk hl205_2
          clear hi205_2 hl205_2
          have HR205_5 := Aside0.mk hi205_5
          have HC205_5 := Aside0.mk hl205_5
          clear hi205_5 hl205_5
          replace p205 := eq_true p205
          replace q205 := eq_true q205
          have p206 : 0 <= (x4_2 : Int) := of_decide_eq_true (by first | (with_reducible assumption) | assumption)
          have q206 : x4_2 < (l0.length : Int) := of_decide_eq_true (by first | (with_reducible assumption) | assumption)
          obtain ⟨ad206, A206_1, c206_1, A206_2, c206_2, A206_5, c206_5, e206, hx206_0, hx206_1, hx206_2, hx206_3, hx206_4, hx206_5, hx206_6, hx206_7, hx206_8, hx206_9, hx206_10, hx206_11, hx206_12, hx206_13, hl206_1, hi206_1, hl206_2, hi206_2, hl206_5, hi206_5⟩ := at_T43 HR0.out x4_2 p206 q206
          obtain rfl : ad205 = ad206 := (by injection e206)
          replace hx206_0 := (HB.out.cell (World.block_lt_of_cell? w _ hx206_0)).trans hx206_0
          replace hx206_1 := (HB.out.cell (World.block_lt_of_cell? w _ hx206_1)).trans hx206_1
          replace hx206_2 := (HB.out.cell (World.block_lt_of_cell? w _ hx206_2)).trans hx206_2
          replace hx206_3 := (HB.out.cell (World.block_lt_of_cell? w _ hx206_3)).trans hx206_3
          replace hx206_4 := (HB.out.cell (World.block_lt_of_cell? w _ hx206_4)).trans hx206_4
          replace hx206_5 := (HB.out.cell (World.block_lt_of_cell? w _ hx206_5)).trans hx206_5
          replace hx206_6 := (HB.out.cell (World.block_lt_of_cell? w _ hx206_6)).trans hx206_6
          replace hx206_7 := (HB.out.cell (World.block_lt_of_cell? w _ hx206_7)).trans hx206_7
          replace hx206_8 := (HB.out.cell (World.block_lt_of_cell? w _ hx206_8)).trans hx206_8
          replace hx206_9 := (HB.out.cell (World.block_lt_of_cell? w _ hx206_9)).trans hx206_9
          replace hx206_10 := (HB.out.cell (World.block_lt_of_cell? w _ hx206_10)).trans hx206_10
          replace hx206_11 := (HB.out.cell (World.block_lt_of_cell? w _ hx206_11)).trans hx206_11
          replace hx206_12 := (HB.out.cell (World.block_lt_of_cell? w _ hx206_12)).trans hx206_12
          replace hx206_13 := (HB.out.cell (World.block_lt_of_cell? w _ hx206_13)).trans hx206_13
          have HR206_1 := Aside0.mk hi206_1
          have HC206_1 := Aside0.mk hl206_1
          clear hi206_1 hl206_1
          have HR206_2 := Aside0.mk hi206_2
          have HC206_2 := Aside0.mk hl206_2
          clear hi206_2 hl206_2
          have HR206_5 := Aside0.mk hi206_5
          have HC206_5 := Aside0.mk hl206_5
          clear hi206_5 hl206_5
          replace p206 := eq_true p206
          replace q206 := eq_true q206
          have ea_ := Option.some.inj (hx205_1.symm.trans hx206_1)
          injection ea_ with ea_ en_ ec_
          subst ea_
          subst ec_
          clear en_
          have ea_ := Option.some.inj (hx205_2.symm.trans hx206_2)
          injection ea_ with ea_ en_ ec_
          subst ea_
          subst ec_
          clear en_
          have ea_ := Option.some.inj (hx205_5.symm.trans hx206_5)
          injection ea_ with ea_ en_ ec_
          subst ea_
          subst ec_
          clear en_
          go_wp2
          go_meet
          case rel => exact ⟨_, (decide (((rd_T43 l0 x4_2).f0) > 6)), rfl, H', ⟨by have := HJ1.out; have := HK2.out; first | omega | exact Nat.le_refl _⟩, ⟨by repeat (first | (with_reducible first | exact HB.out | apply below_alloc | apply pw_below_drewN | apply below_drew1) | exact HB.out)⟩⟩
        ·rw [if_neg c7] at H
         exact absurd H (by simp)
       case rest =>
        clear HC6
        obtain ⟨kq, x32_5, rfl, HA, HJ5, HB⟩ := hcut
        cases kq with
        | zero => exact absurd HA.out (by simp [r11_Check.j2])
        | succ kj5 =>
         have H := HA.out
         clear HA
         simp only [r11_Check.j2] at H
         by_cases c9 : x32_5 = true
         ·subst c9
          have H1 : (some (x4_2, 110)) = some (r1, r2) := by rw [if_pos rfl] at H; exact H
          clear H
          have H := H1
          clear H1
          simp only [Option.some.injEq, Prod.mk.injEq] at H
          obtain ⟨rfl, rfl⟩ := H
          go_wp2
          go_ret2
          exact ⟨rfl, HB.out⟩
         ·replace c9 := Bool.eq_false_iff.mpr c9
          subst c9
          have H1 : ((r11_input.f kj5 l0 x4_2).bind fun t207 => (if t207 = true then (if 0 <= x4_2 then (if x4_2 < (l0.length : Int) then ((r11_form.f kj5 ((rd_T43 l0 x4_2).f0) ((rd_T43 l0 x4_2).f1) ((rd_T43 l0 x4_2).f2) ((rd_T43 l0 x4_2).f3) ((rd_T43 l0 x4_2).f4.f0) ((rd_T43 l0 x4_2).f4.f1) ((rd_T43 l0 x4_2).f5.f0) ((rd_T43 l0 x4_2).f5.f1) ((rd_T43 l0 x4_2).f5.f2) ((rd_T43 l0 x4_2).f5.f3) ((rd_T43 l0 x4_2).f6.f0) ((rd_T43 l0 x4_2).f6.f1) ((rd_T43 l0 x4_2).f6.f2) ((rd_T43 l0 x4_2).f6.f3)).bind fun t209 => (if t209 = true then (r11_Check.l0 kj5 l0 (wrap64 (x4_2 + 1))) else (some (x4_2, 112)))) else (none)) else (none)) else (some (x4_2, 111)))) = some (r1, r2) := by rw [if_neg (show ¬ (false = true) by decide)] at H; exact H
          clear H
          have H := H1
          clear H1
          replace H := Option.bind_eq_some_iff.mp H
          obtain ⟨t207, A100, H⟩ := H
          have A10 := Aside0.mk A100
          clear A100
          by_cases c11 : t207 = true
          ·subst c11
           have H1 : (if 0 <= x4_2 then (if x4_2 < (l0.length : Int) then ((r11_form.f kj5 ((rd_T43 l0 x4_2).f0) ((rd_T43 l0 x4_2).f1) ((rd_T43 l0 x4_2).f2) ((rd_T43 l0 x4_2).f3) ((rd_T43 l0 x4_2).f4.f0) ((rd_T43 l0 x4_2).f4.f1) ((rd_T43 l0 x4_2).f5.f0) ((rd_T43 l0 x4_2).f5.f1) ((rd_T43 l0 x4_2).f5.f2) ((rd_T43 l0 x4_2).f5.f3) ((rd_T43 l0 x4_2).f6.f0) ((rd_T43 l0 x4_2).f6.f1) ((rd_T43 l0 x4_2).f6.f2) ((rd_T43 l0 x4_2).f6.f3)).bind fun t209 => (if t209 = true then (r11_Check.l0 kj5 l0 (wrap64 (x4_2 + 1))) else (some (x4_2, 112)))) else (none)) else (none)) = some (r1, r2) := by rw [if_pos rfl] at H; exact H
           clear H
           have H := H1
           clear H1
           by_cases c12 : 0 <= x4_2
           ·rw [if_pos c12] at H
            have c12b0 : decide (0 <= x4_2) = true := decide_eq_true c12
            clear c12
            by_cases c13 : x4_2 < (l0.length : Int)
            ·rw [if_pos c13] at H
             have c13b0 : decide (x4_2 < (l0.length : Int)) = true := decide_eq_true c13
             clear c13
             replace H := Option.bind_eq_some_iff.mp H
             obtain ⟨t209, A140, H⟩ := H
             have A14 := Aside0.mk A140
             clear A140
             by_cases c15 : t209 = true
             ·subst c15
              have H1 : (r11_Check.l0 kj5 l0 (wrap64 (x4_2 + 1))) = some (r1, r2) := by rw [if_pos rfl] at H; exact H
              clear H
              have H := H1
              clear H1
              have H' := Aside0.mk H
              clear H
              go_wp2_with (first | ((with_reducible refine gate_callee (f := 15) rfl ?_); refine goesL_ (some 36) rfl rfl Tryz.func15 (by kernel_rfl) rfl #[.slice A0 l0.length c0, .int .i64 x4_2] rfl (by (try simp only [List.map_toArray, List.map_cons, List.map_nil]); first | done | rfl | (simp only [List.length_drop, List.length_take]; rfl)) ?_; (with_reducible refine (r11_input.calls kj5 _ _ l0 x4_2 true _ ?side1 ?side2 A10.out).mono ?_); (case side1 => repeat (first | exact (Kd.C_below HR0.out HB.out) | (with_reducible refine Kd.C_alloc ?_ _) | (with_reducible refine Kd.C_drewN ?_ _) | (with_reducible refine Kd.C_drew ?_))); (case side2 => exact HC0.out); rintro e w16 ⟨rfl, hb⟩; refine ⟨_, rfl, ?_⟩; replace HB := Aside0.mk (below_step (by repeat (first | exact HB.out | apply below_alloc | apply pw_below_drewN | apply below_drew1)) hb); (try clear hb); (try clear hb2); (try clear hk); (try clear hi); have p208 : 0 <= (x4_2 : Int) := of_decide_eq_true (by first | (with_reducible assumption) | assumption); have q208 : x4_2 < (l0.length : Int) := of_decide_eq_true (by first | (with_reducible assumption) | assumption); obtain ⟨ad208, A208_1, c208_1, A208_2, c208_2, A208_5, c208_5, e208, hx208_0, hx208_1, hx208_2, hx208_3, hx208_4, hx208_5, hx208_6, hx208_7, hx208_8, hx208_9, hx208_10, hx208_11, hx208_12, hx208_13, hl208_1, hi208_1, hl208_2, hi208_2, hl208_5, hi208_5⟩ := at_T43 HR0.out x4_2 p208 q208; cases e208; replace hx208_0 := (HB.out.cell (World.block_lt_of_cell? w _ hx208_0)).trans hx208_0; replace hx208_1 := (HB.out.cell (World.block_lt_of_cell? w _ hx208_1)).trans hx208_1; replace hx208_2 := (HB.out.cell (World.block_lt_of_cell? w _ hx208_2)).trans hx208_2; replace hx208_3 := (HB.out.cell (World.block_lt_of_cell? w _ hx208_3)).trans hx208_3; replace hx208_4 := (HB.out.cell (World.block_lt_of_cell? w _ hx208_4)).trans hx208_4; replace hx208_5 := (HB.out.cell (World.block_lt_of_cell? w _ hx208_5)).trans hx208_5; replace hx208_6 := (HB.out.cell (World.block_lt_of_cell? w _ hx208_6)).trans hx208_6; replace hx208_7 := (HB.out.cell (World.block_lt_of_cell? w _ hx208_7)).trans hx208_7; replace hx208_8 := (HB.out.cell (World.block_lt_of_cell? w _ hx208_8)).trans hx208_8; replace hx208_9 := (HB.out.cell (World.block_lt_of_cell? w _ hx208_9)).trans hx208_9; replace hx208_10 := (HB.out.cell (World.block_lt_of_cell? w _ hx208_10)).trans hx208_10; replace hx208_11 := (HB.out.cell (World.block_lt_of_cell? w _ hx208_11)).trans hx208_11; replace hx208_12 := (HB.out.cell (World.block_lt_of_cell? w _ hx208_12)).trans hx208_12; replace hx208_13 := (HB.out.cell (World.block_lt_of_cell? w _ hx208_13)).trans hx208_13; have HR208_1 := Aside0.mk hi208_1; have HC208_1 := Aside0.mk hl208_1; clear hi208_1 hl208_1; have HR208_2 := Aside0.mk hi208_2; have HC208_2 := Aside0.mk hl208_2; clear hi208_2 hl208_2; have HR208_5 := Aside0.mk hi208_5; have HC208_5 := Aside0.mk hl208_5; clear hi208_5 hl208_5; replace p208 := eq_true p208; replace q208 := eq_true q208) | ((with_reducible refine gate_callee (f := 16) rfl ?_); refine goesL_ (some 43) rfl rfl Tryz.func16 (by kernel_rfl) rfl #[.agg #[.int .i64 ((rd_T43 l0 x4_2).f0), .slice A208_1 ((rd_T43 l0 x4_2).f1).length c208_1, .slice A208_2 ((rd_T43 l0 x4_2).f2).length c208_2, .string ((rd_T43 l0 x4_2).f3), .int .i64 ((rd_T43 l0 x4_2).f4.f0), .slice A208_5 ((rd_T43 l0 x4_2).f4.f1).length c208_5, .int .i64 ((rd_T43 l0 x4_2).f5.f0), .int .i64 ((rd_T43 l0 x4_2).f5.f1), .int .i64 ((rd_T43 l0 x4_2).f5.f2), .int .i64 ((rd_T43 l0 x4_2).f5.f3), .int .i64 ((rd_T43 l0 x4_2).f6.f0), .int .i64 ((rd_T43 l0 x4_2).f6.f1), .int .i64 ((rd_T43 l0 x4_2).f6.f2), .bool ((rd_T43 l0 x4_2).f6.f3)]] rfl (by (try simp only [List.map_toArray, List.map_cons, List.map_nil]); first | done | rfl | (simp only [List.length_drop, List.length_take]; rfl)) ?_; (with_reducible refine (r11_form.calls kj5 ((rd_T43 l0 x4_2).f0) _ _ ((rd_T43 l0 x4_2).f1) _ _ ((rd_T43 l0 x4_2).f2) ((rd_T43 l0 x4_2).f3) ((rd_T43 l0 x4_2).f4.f0) _ _ ((rd_T43 l0 x4_2).f4.f1) ((rd_T43 l0 x4_2).f5.f0) ((rd_T43 l0 x4_2).f5.f1) ((rd_T43 l0 x4_2).f5.f2) ((rd_T43 l0 x4_2).f5.f3) ((rd_T43 l0 x4_2).f6.f0) ((rd_T43 l0 x4_2).f6.f1) ((rd_T43 l0 x4_2).f6.f2) ((rd_T43 l0 x4_2).f6.f3) true _ ?side1 ?side2 ?side3 ?side4 ?side5 ?side6 A14.out).mono ?_); (case side1 => repeat (first | exact (Kd.C_below HR208_1.out HB.out) | (with_reducible refine Kd.C_alloc ?_ _) | (with_reducible refine Kd.C_drewN ?_ _) | (with_reducible refine Kd.C_drew ?_))); (case side2 => exact HC208_1.out); (case side3 => repeat (first | exact (Kd.C_below HR208_2.out HB.out) | (with_reducible refine Kd.C_alloc ?_ _) | (with_reducible refine Kd.C_drewN ?_ _) | (with_reducible refine Kd.C_drew ?_))); (case side4 => exact HC208_2.out); (case side5 => repeat (first | exact (Kd.C_below HR208_5.out HB.out) | (with_reducible refine Kd.C_alloc ?_ _) | (with_reducible refine Kd.C_drewN ?_ _) | (with_reducible refine Kd.C_drew ?_))); (case side6 => exact HC208_5.out); rintro e w17 ⟨rfl, hb⟩; refine ⟨_, rfl, ?_⟩; replace HB := Aside0.mk (below_step (by repeat (first | exact HB.out | apply below_alloc | apply pw_below_drewN | apply below_drew1)) hb); (try clear hb); (try clear hb2); (try clear hk); (try clear hi)))
              go_roundg kj5
              case measure => have := HJ1.out; have := HK2.out; have := HJ5.out; omega
              case rel => exact ⟨(wrap64 (x4_2 + 1)), rfl, H', ⟨by have := HJ1.out; have := HK2.out; have := HJ5.out; omega⟩, ⟨by repeat (first | (with_reducible first | exact HB.out | apply below_alloc | apply pw_below_drewN | apply below_drew1) | exact HB.out)⟩⟩
             ·replace c15 := Bool.eq_false_iff.mpr c15
              subst c15
              have H1 : (some (x4_2, 112)) = some (r1, r2) := by rw [if_neg (show ¬ (false = true) by decide)] at H; exact H
              clear H
              have H := H1
              clear H1
              simp only [Option.some.injEq, Prod.mk.injEq] at H
              obtain ⟨rfl, rfl⟩ := H
              go_wp2_with (first | ((with_reducible refine gate_callee (f := 15) rfl ?_); refine goesL_ (some 36) rfl rfl Tryz.func15 (by kernel_rfl) rfl #[.slice A0 l0.length c0, .int .i64 x4_2] rfl (by (try simp only [List.map_toArray, List.map_cons, List.map_nil]); first | done | rfl | (simp only [List.length_drop, List.length_take]; rfl)) ?_; (with_reducible refine (r11_input.calls kj5 _ _ l0 x4_2 true _ ?side1 ?side2 A10.out).mono ?_); (case side1 => repeat (first | exact (Kd.C_below HR0.out HB.out) | (with_reducible refine Kd.C_alloc ?_ _) | (with_reducible refine Kd.C_drewN ?_ _) | (with_reducible refine Kd.C_drew ?_))); (case side2 => exact HC0.out); rintro e w18 ⟨rfl, hb⟩; refine ⟨_, rfl, ?_⟩; replace HB := Aside0.mk (below_step (by repeat (first | exact HB.out | apply below_alloc | apply pw_below_drewN | apply below_drew1)) hb); (try clear hb); (try clear hb2); (try clear hk); (try clear hi); have p208 : 0 <= (x4_2 : Int) := of_decide_eq_true (by first | (with_reducible assumption) | assumption); have q208 : x4_2 < (l0.length : Int) := of_decide_eq_true (by first | (with_reducible assumption) | assumption); obtain ⟨ad208, A208_1, c208_1, A208_2, c208_2, A208_5, c208_5, e208, hx208_0, hx208_1, hx208_2, hx208_3, hx208_4, hx208_5, hx208_6, hx208_7, hx208_8, hx208_9, hx208_10, hx208_11, hx208_12, hx208_13, hl208_1, hi208_1, hl208_2, hi208_2, hl208_5, hi208_5⟩ := at_T43 HR0.out x4_2 p208 q208; cases e208; replace hx208_0 := (HB.out.cell (World.block_lt_of_cell? w _ hx208_0)).trans hx208_0; replace hx208_1 := (HB.out.cell (World.block_lt_of_cell? w _ hx208_1)).trans hx208_1; replace hx208_2 := (HB.out.cell (World.block_lt_of_cell? w _ hx208_2)).trans hx208_2; replace hx208_3 := (HB.out.cell (World.block_lt_of_cell? w _ hx208_3)).trans hx208_3; replace hx208_4 := (HB.out.cell (World.block_lt_of_cell? w _ hx208_4)).trans hx208_4; replace hx208_5 := (HB.out.cell (World.block_lt_of_cell? w _ hx208_5)).trans hx208_5; replace hx208_6 := (HB.out.cell (World.block_lt_of_cell? w _ hx208_6)).trans hx208_6; replace hx208_7 := (HB.out.cell (World.block_lt_of_cell? w _ hx208_7)).trans hx208_7; replace hx208_8 := (HB.out.cell (World.block_lt_of_cell? w _ hx208_8)).trans hx208_8; replace hx208_9 := (HB.out.cell (World.block_lt_of_cell? w _ hx208_9)).trans hx208_9; replace hx208_10 := (HB.out.cell (World.block_lt_of_cell? w _ hx208_10)).trans hx208_10; replace hx208_11 := (HB.out.cell (World.block_lt_of_cell? w _ hx208_11)).trans hx208_11; replace hx208_12 := (HB.out.cell (World.block_lt_of_cell? w _ hx208_12)).trans hx208_12; replace hx208_13 := (HB.out.cell (World.block_lt_of_cell? w _ hx208_13)).trans hx208_13; have HR208_1 := Aside0.mk hi208_1; have HC208_1 := Aside0.mk hl208_1; clear hi208_1 hl208_1; have HR208_2 := Aside0.mk hi208_2; have HC208_2 := Aside0.mk hl208_2; clear hi208_2 hl208_2; have HR208_5 := Aside0.mk hi208_5; have HC208_5 := Aside0.mk hl208_5; clear hi208_5 hl208_5; replace p208 := eq_true p208; replace q208 := eq_true q208) | ((with_reducible refine gate_callee (f := 16) rfl ?_); refine goesL_ (some 43) rfl rfl Tryz.func16 (by kernel_rfl) rfl #[.agg #[.int .i64 ((rd_T43 l0 x4_2).f0), .slice A208_1 ((rd_T43 l0 x4_2).f1).length c208_1, .slice A208_2 ((rd_T43 l0 x4_2).f2).length c208_2, .string ((rd_T43 l0 x4_2).f3), .int .i64 ((rd_T43 l0 x4_2).f4.f0), .slice A208_5 ((rd_T43 l0 x4_2).f4.f1).length c208_5, .int .i64 ((rd_T43 l0 x4_2).f5.f0), .int .i64 ((rd_T43 l0 x4_2).f5.f1), .int .i64 ((rd_T43 l0 x4_2).f5.f2), .int .i64 ((rd_T43 l0 x4_2).f5.f3), .int .i64 ((rd_T43 l0 x4_2).f6.f0), .int .i64 ((rd_T43 l0 x4_2).f6.f1), .int .i64 ((rd_T43 l0 x4_2).f6.f2), .bool ((rd_T43 l0 x4_2).f6.f3)]] rfl (by (try simp only [List.map_toArray, List.map_cons, List.map_nil]); first | done | rfl | (simp only [List.length_drop, List.length_take]; rfl)) ?_; (with_reducible refine (r11_form.calls kj5 ((rd_T43 l0 x4_2).f0) _ _ ((rd_T43 l0 x4_2).f1) _ _ ((rd_T43 l0 x4_2).f2) ((rd_T43 l0 x4_2).f3) ((rd_T43 l0 x4_2).f4.f0) _ _ ((rd_T43 l0 x4_2).f4.f1) ((rd_T43 l0 x4_2).f5.f0) ((rd_T43 l0 x4_2).f5.f1) ((rd_T43 l0 x4_2).f5.f2) ((rd_T43 l0 x4_2).f5.f3) ((rd_T43 l0 x4_2).f6.f0) ((rd_T43 l0 x4_2).f6.f1) ((rd_T43 l0 x4_2).f6.f2) ((rd_T43 l0 x4_2).f6.f3) false _ ?side1 ?side2 ?side3 ?side4 ?side5 ?side6 A14.out).mono ?_); (case side1 => repeat (first | exact (Kd.C_below HR208_1.out HB.out) | (with_reducible refine Kd.C_alloc ?_ _) | (with_reducible refine Kd.C_drewN ?_ _) | (with_reducible refine Kd.C_drew ?_))); (case side2 => exact HC208_1.out); (case side3 => repeat (first | exact (Kd.C_below HR208_2.out HB.out) | (with_reducible refine Kd.C_alloc ?_ _) | (with_reducible refine Kd.C_drewN ?_ _) | (with_reducible refine Kd.C_drew ?_))); (case side4 => exact HC208_2.out); (case side5 => repeat (first | exact (Kd.C_below HR208_5.out HB.out) | (with_reducible refine Kd.C_alloc ?_ _) | (with_reducible refine Kd.C_drewN ?_ _) | (with_reducible refine Kd.C_drew ?_))); (case side6 => exact HC208_5.out); rintro e w19 ⟨rfl, hb⟩; refine ⟨_, rfl, ?_⟩; replace HB := Aside0.mk (below_step (by repeat (first | exact HB.out | apply below_alloc | apply pw_below_drewN | apply below_drew1)) hb); (try clear hb); (try clear hb2); (try clear hk); (try clear hi)))
              go_ret2
              exact ⟨rfl, HB.out⟩
            ·rw [if_neg c13] at H
             exact absurd H (by simp)
           ·rw [if_neg c12] at H
            exact absurd H (by simp)
          ·replace c11 := Bool.eq_false_iff.mpr c11
           subst c11
           have H1 : (some (x4_2, 111)) = some (r1, r2) := by rw [if_neg (show ¬ (false = true) by decide)] at H; exact H
           clear H
           have H := H1
           clear H1
           simp only [Option.some.injEq, Prod.mk.injEq] at H
           obtain ⟨rfl, rfl⟩ := H
           go_wp2_with (first | ((with_reducible refine gate_callee (f := 15) rfl ?_); refine goesL_ (some 36) rfl rfl Tryz.func15 (by kernel_rfl) rfl #[.slice A0 l0.length c0, .int .i64 x4_2] rfl (by (try simp only [List.map_toArray, List.map_cons, List.map_nil]); first | done | rfl | (simp only [List.length_drop, List.length_take]; rfl)) ?_; (with_reducible refine (r11_input.calls kj5 _ _ l0 x4_2 false _ ?side1 ?side2 A10.out).mono ?_); (case side1 => repeat (first | exact (Kd.C_below HR0.out HB.out) | (with_reducible refine Kd.C_alloc ?_ _) | (with_reducible refine Kd.C_drewN ?_ _) | (with_reducible refine Kd.C_drew ?_))); (case side2 => exact HC0.out); rintro e w20 ⟨rfl, hb⟩; refine ⟨_, rfl, ?_⟩; replace HB := Aside0.mk (below_step (by repeat (first | exact HB.out | apply below_alloc | apply pw_below_drewN | apply below_drew1)) hb); (try clear hb); (try clear hb2); (try clear hk); (try clear hi)))
           go_ret2
           exact ⟨rfl, HB.out⟩
      ·rw [if_neg c5] at H
       have c5b0 : decide (x4_2 < (l0.length : Int)) = false := decide_eq_false c5
       clear c5
       simp only [Option.some.injEq, Prod.mk.injEq] at H
       obtain ⟨rfl, rfl⟩ := H
       go_wp2
       go_ret2
       exact ⟨rfl, HB.out⟩
end Go.Proofs.YtamfloegflejnaaGreatDoor
