/-
 Taken over from the print: input, Right of types.
-/
import Derived.Test.YtamfloegflejnaaGreatDoorH1
import Derived.Test.YtamfloegflejnaaGreatDoorNA
set_option linter.unusedVariables false
set_option linter.unusedSimpArgs false
set_option maxHeartbeats 8000000
set_option maxRecDepth 100000
namespace Go.Proofs.YtamfloegflejnaaGreatDoor
open Go.RowKit Go.Proofs.YtamfloegflejnaaGreatDoorW.PrintWords Go.Proofs.YtamfloegflejnaaGreatDoorW.PrintLast Go.Proofs.YtamfloegflejnaaGreatDoorW.PrintMore PGraphLines
attribute [local go_sem] max2_int min2_int max_two min_two max_three min_three max_four min_four
/-! ### r11_input: function 15 -/
def r11_input.j0 : Nat -> Bool -> Int -> List Int -> List Int -> ByteArray -> Int -> List (S37) -> Int -> Int -> Int -> Int -> Int -> Int -> Int -> Bool -> Option (Bool)
 | 0, _, _, _, _, _, _, _, _, _, _, _, _, _, _, _ => none
 | k + 1, x23, x184000, x184001, x184002, x184003, x184004, x184005, x184006, x184007, x184008, x184009, x184010, x184011, x184012, x184013 => if x23 = true then (some false) else (if x184000 = 1 then (if (x184001.length : Int) = 0 then (some ((x184002.length : Int) == 0)) else (some false)) else (if x184000 = 2 then (if (x184001.length : Int) = 1 then ((r11_Rises.f k x184002 0 4).bind fun t186 => (some t186)) else (some false)) else (if x184000 = 5 then ((r11_Rises.f k x184001 1 4).bind fun t187 => (if t187 = true then (some ((x184002.length : Int) == 0)) else (some false))) else (if (x184001.length : Int) = 1 then (some ((x184002.length : Int) == 0)) else (some false)))))
def r11_input.f (k : Nat) (l0 : List (S43)) (a1 : Int) : Option (Bool) := if 0 <= a1 then (if a1 < (l0.length : Int) then ((r11_ahead.f k l0 a1 ((rd_T43 l0 a1).f1)).bind fun t184 => (if t184 = true then ((r11_ahead.f k l0 a1 ((rd_T43 l0 a1).f2)).bind fun t185 => (r11_input.j0 k (!t185) ((rd_T43 l0 a1).f0) ((rd_T43 l0 a1).f1) ((rd_T43 l0 a1).f2) ((rd_T43 l0 a1).f3) ((rd_T43 l0 a1).f4.f0) ((rd_T43 l0 a1).f4.f1) ((rd_T43 l0 a1).f5.f0) ((rd_T43 l0 a1).f5.f1) ((rd_T43 l0 a1).f5.f2) ((rd_T43 l0 a1).f5.f3) ((rd_T43 l0 a1).f6.f0) ((rd_T43 l0 a1).f6.f1) ((rd_T43 l0 a1).f6.f2) ((rd_T43 l0 a1).f6.f3))) else (r11_input.j0 k true ((rd_T43 l0 a1).f0) ((rd_T43 l0 a1).f1) ((rd_T43 l0 a1).f2) ((rd_T43 l0 a1).f3) ((rd_T43 l0 a1).f4.f0) ((rd_T43 l0 a1).f4.f1) ((rd_T43 l0 a1).f5.f0) ((rd_T43 l0 a1).f5.f1) ((rd_T43 l0 a1).f5.f2) ((rd_T43 l0 a1).f5.f3) ((rd_T43 l0 a1).f6.f0) ((rd_T43 l0 a1).f6.f1) ((rd_T43 l0 a1).f6.f2) ((rd_T43 l0 a1).f6.f3)))) else (none)) else (none)
theorem r11_input.calls (k : Nat) (A0 : Option Addr) (c0 : Nat) (l0 : List (S43)) (a1 : Int) (r : Bool) (w : World) (hr0 : Kd.C k43 w A0 l0.length l0) (hc0 : l0.length <= c0) (h : r11_input.f k l0 a1 = some r) :
  Calls Tryz.prog 15 #[.slice A0 l0.length c0, .int .i64 a1] w fun e w' => e = .returned (.bool r) ∧ Below w.heap.size w w' := by
 have hu43 := Tryz.underlying43
 have HR0 := Aside0.mk hr0
 have HC0 := Aside0.mk hc0
 clear hr0 hc0
 have HB := Aside0.mk (Below.refl w.heap.size w)
 have H : (if 0 <= a1 then (if a1 < (l0.length : Int) then ((r11_ahead.f k l0 a1 ((rd_T43 l0 a1).f1)).bind fun t184 => (if t184 = true then ((r11_ahead.f k l0 a1 ((rd_T43 l0 a1).f2)).bind fun t185 => (r11_input.j0 k (!t185) ((rd_T43 l0 a1).f0) ((rd_T43 l0 a1).f1) ((rd_T43 l0 a1).f2) ((rd_T43 l0 a1).f3) ((rd_T43 l0 a1).f4.f0) ((rd_T43 l0 a1).f4.f1) ((rd_T43 l0 a1).f5.f0) ((rd_T43 l0 a1).f5.f1) ((rd_T43 l0 a1).f5.f2) ((rd_T43 l0 a1).f5.f3) ((rd_T43 l0 a1).f6.f0) ((rd_T43 l0 a1).f6.f1) ((rd_T43 l0 a1).f6.f2) ((rd_T43 l0 a1).f6.f3))) else (r11_input.j0 k true ((rd_T43 l0 a1).f0) ((rd_T43 l0 a1).f1) ((rd_T43 l0 a1).f2) ((rd_T43 l0 a1).f3) ((rd_T43 l0 a1).f4.f0) ((rd_T43 l0 a1).f4.f1) ((rd_T43 l0 a1).f5.f0) ((rd_T43 l0 a1).f5.f1) ((rd_T43 l0 a1).f5.f2) ((rd_T43 l0 a1).f5.f3) ((rd_T43 l0 a1).f6.f0) ((rd_T43 l0 a1).f6.f1) ((rd_T43 l0 a1).f6.f2) ((rd_T43 l0 a1).f6.f3)))) else (none)) else (none)) = some r := h
 clear h
 by_cases c3 : 0 <= a1
 ·rw [if_pos c3] at H
  have c3b0 : decide (0 <= a1) = true := decide_eq_true c3
  clear c3
  by_cases c4 : a1 < (l0.length : Int)
  ·rw [if_pos c4] at H
   have c4b0 : decide (a1 < (l0.length : Int)) = true := decide_eq_true c4
   clear c4
   have HC5 := Aside0.mk H
   clear H
   have p182 : 0 <= (a1 : Int) := of_decide_eq_true (by first | (with_reducible assumption) | assumption)
   have q182 : a1 < (l0.length : Int) := of_decide_eq_true (by first | (with_reducible assumption) | assumption)
   obtain ⟨ad182, A182_1, c182_1, A182_2, c182_2, A182_5, c182_5, e182, hx182_0, hx182_1, hx182_2, hx182_3, hx182_4, hx182_5, hx182_6, hx182_7, hx182_8, hx182_9, hx182_10, hx182_11, hx182_12, hx182_13, hl182_1, hi182_1, hl182_2, hi182_2, hl182_5, hi182_5⟩ := at_T43 HR0.out a1 p182 q182
   cases e182
   have HR182_1 := Aside0.mk hi182_1
   have HC182_1 := Aside0.mk hl182_1
   clear hi182_1 hl182_1
   have HR182_2 := Aside0.mk hi182_2
   have HC182_2 := Aside0.mk hl182_2
   clear hi182_2 hl182_2
   have HR182_5 := Aside0.mk hi182_5
   have HC182_5 := Aside0.mk hl182_5
   clear hi182_5 hl182_5
   replace p182 := eq_true p182
   replace q182 := eq_true q182
   go_enter Tryz.func15, Tryz.ntmps15
   go_upto_region 2 with (first | ((with_reducible refine gate_dst (N := 5) rfl ?_); (try (refine gate_guard (by rfl) ?_; dsimp only)); refine box_event ?hg (N := 5) ?hd (cs := #[.int .i64 0, .slice none 0 0, .slice none 0 0, .string (⟨#[]⟩ : ByteArray), .int .i64 0, .slice none 0 0, .int .i64 0, .int .i64 0, .int .i64 0, .int .i64 0, .int .i64 0, .int .i64 0, .int .i64 0, .bool false]) (t := 43) ?hr ?_; (case hd => rfl); (case hg => rfl); (case hr => go_simp); intro gb183 hg w6 hbox hb; have BK183 := Aside0.mk (hbox); have GW183 := Aside0.mk ((by rw [hg]; exact (below_size HB.out) : w.heap.size <= gb183)); have GE183 := GW183; replace HB := Aside0.mk (below_step HB.out hb); clear hb hbox hg; obtain ⟨_, _, _, _, _, _, _, _, _, _, _, _, _, _⟩ := cl14 BK183.out; obtain ⟨_, _, _, _, _, _, _, _, _, _, _, _, _, _⟩ := fz14 BK183.out))
   (try simp only [Act.put, List.setIfInBounds_toArray, List.set_cons_zero, List.set_cons_succ])
   go_cut [23] (fun v23 wc => ∃ (kq : Nat) (x23_4 : Bool), v23 = .bool x23_4 ∧ Aside0 (r11_input.j0 kq x23_4 ((rd_T43 l0 a1).f0) ((rd_T43 l0 a1).f1) ((rd_T43 l0 a1).f2) ((rd_T43 l0 a1).f3) ((rd_T43 l0 a1).f4.f0) ((rd_T43 l0 a1).f4.f1) ((rd_T43 l0 a1).f5.f0) ((rd_T43 l0 a1).f5.f1) ((rd_T43 l0 a1).f5.f2) ((rd_T43 l0 a1).f5.f3) ((rd_T43 l0 a1).f6.f0) ((rd_T43 l0 a1).f6.f1) ((rd_T43 l0 a1).f6.f2) ((rd_T43 l0 a1).f6.f3) = some r) ∧ Aside0 (kq <= k) ∧ Aside0 (wc.heap[gb183]? = some (.cells #[.int .i64 ((rd_T43 l0 a1).f0), (.slice A182_1 ((rd_T43 l0 a1).f1).length c182_1), (.slice A182_2 ((rd_T43 l0 a1).f2).length c182_2), .string ((rd_T43 l0 a1).f3), .int .i64 ((rd_T43 l0 a1).f4.f0), (.slice A182_5 ((rd_T43 l0 a1).f4.f1).length c182_5), .int .i64 ((rd_T43 l0 a1).f5.f0), .int .i64 ((rd_T43 l0 a1).f5.f1), .int .i64 ((rd_T43 l0 a1).f5.f2), .int .i64 ((rd_T43 l0 a1).f5.f3), .int .i64 ((rd_T43 l0 a1).f6.f0), .int .i64 ((rd_T43 l0 a1).f6.f1), .int .i64 ((rd_T43 l0 a1).f6.f2), .bool ((rd_T43 l0 a1).f6.f3)] 43 (0, 0))) ∧ Aside0 (Below w.heap.size w wc))
   case first =>
    have H := HC5.out
    clear HC5
    replace H := Option.bind_eq_some_iff.mp H
    obtain ⟨t184, A80, H⟩ := H
    have A8 := Aside0.mk A80
    clear A80
    by_cases c9 : t184 = true
    ·subst c9
     have H1 : ((r11_ahead.f k l0 a1 ((rd_T43 l0 a1).f2)).bind fun t185 => (r11_input.j0 k (!t185) ((rd_T43 l0 a1).f0) ((rd_T43 l0 a1).f1) ((rd_T43 l0 a1).f2) ((rd_T43 l0 a1).f3) ((rd_T43 l0 a1).f4.f0) ((rd_T43 l0 a1).f4.f1) ((rd_T43 l0 a1).f5.f0) ((rd_T43 l0 a1).f5.f1) ((rd_T43 l0 a1).f5.f2) ((rd_T43 l0 a1).f5.f3) ((rd_T43 l0 a1).f6.f0) ((rd_T43 l0 a1).f6.f1) ((rd_T43 l0 a1).f6.f2) ((rd_T43 l0 a1).f6.f3))) = some r := by rw [if_pos rfl] at H; exact H
     clear H
     have H := H1
     clear H1
     replace H := Option.bind_eq_some_iff.mp H
     obtain ⟨t185, A100, H⟩ := H
     have A10 := Aside0.mk A100
     clear A100
     have H' := Aside0.mk H
     clear H
     obtain ⟨_, _, _, _, _, _, _, _, _, _, _, _, _, _⟩ := cl14 BK183.out
     obtain ⟨_, _, _, _, _, _, _, _, _, _, _, _, _, _⟩ := fz14 BK183.out
     go_wp2_with (first | ((with_reducible refine gate_callee (f := 32) rfl ?_); refine goesL_ (some 14) rfl rfl Tryz.func32 (by kernel_rfl) rfl #[.slice (some ad182) l0.length c0, .int .i64 a1, .slice A182_1 ((rd_T43 l0 a1).f1).length c182_1] rfl (by (try simp only [List.map_toArray, List.map_cons, List.map_nil]); first | done | rfl | (simp only [List.length_drop, List.length_take]; rfl)) ?_; (with_reducible refine (r11_ahead.calls k _ _ l0 a1 _ _ ((rd_T43 l0 a1).f1) true _ ?side1 ?side2 ?side3 ?side4 A8.out).mono ?_); (case side1 => exact Kd.C_below HR0.out (by repeat (first | (with_reducible first | exact HB.out | apply below_alloc | apply pw_below_drewN | apply below_drew1 | refine below_set ?_ GE183.out) | exact HB.out))); (case side2 => exact HC0.out); (case side3 => exact Kd.C_below HR182_1.out (by repeat (first | (with_reducible first | exact HB.out | apply below_alloc | apply pw_below_drewN | apply below_drew1 | refine below_set ?_ GE183.out) | exact HB.out))); (case side4 => exact HC182_1.out); rintro e w' ⟨rfl, ⟨nd, rfl⟩⟩; refine ⟨_, rfl, ?_⟩) | (go_at_call 32; (with_reducible refine (r11_ahead.calls k _ _ l0 a1 _ _ ((rd_T43 l0 a1).f2) t185 _ ?side1 ?side2 ?side3 ?side4 A10.out).mono ?_); (case side1 => exact Kd.C_below HR0.out (by repeat (first | (with_reducible first | exact HB.out | apply below_alloc | apply pw_below_drewN | apply below_drew1 | refine below_set ?_ GE183.out) | exact HB.out))); (case side2 => exact HC0.out); (case side3 => exact Kd.C_below HR182_2.out (by repeat (first | (with_reducible first | exact HB.out | apply below_alloc | apply pw_below_drewN | apply below_drew1 | refine below_set ?_ GE183.out) | exact HB.out))); (case side4 => exact HC182_2.out); rintro e w' ⟨rfl, ⟨nd, rfl⟩⟩))
     go_meet
     case rel => exact ⟨_, (!t185), rfl, H', ⟨by first | omega | exact Nat.le_refl _⟩, ⟨by (with_reducible repeat (first | refine blk_drewN ?_ _ | refine blk_drew ?_ | refine blk_alloc ?_ _)); refine blk_put (cs := #[.int .i64 ((rd_T43 l0 a1).f0), .slice A182_1 ((rd_T43 l0 a1).f1).length c182_1, .slice A182_2 ((rd_T43 l0 a1).f2).length c182_2, .string ((rd_T43 l0 a1).f3), .int .i64 ((rd_T43 l0 a1).f4.f0), .slice A182_5 ((rd_T43 l0 a1).f4.f1).length c182_5, .int .i64 ((rd_T43 l0 a1).f5.f0), .int .i64 ((rd_T43 l0 a1).f5.f1), .int .i64 ((rd_T43 l0 a1).f5.f2), .int .i64 ((rd_T43 l0 a1).f5.f3), .int .i64 ((rd_T43 l0 a1).f6.f0), .int .i64 ((rd_T43 l0 a1).f6.f1), .int .i64 ((rd_T43 l0 a1).f6.f2), .bool false]) ?_ 13 _ rfl; (with_reducible repeat (first | refine blk_drewN ?_ _ | refine blk_drew ?_ | refine blk_alloc ?_ _)); refine blk_put (cs := #[.int .i64 ((rd_T43 l0 a1).f0), .slice A182_1 ((rd_T43 l0 a1).f1).length c182_1, .slice A182_2 ((rd_T43 l0 a1).f2).length c182_2, .string ((rd_T43 l0 a1).f3), .int .i64 ((rd_T43 l0 a1).f4.f0), .slice A182_5 ((rd_T43 l0 a1).f4.f1).length c182_5, .int .i64 ((rd_T43 l0 a1).f5.f0), .int .i64 ((rd_T43 l0 a1).f5.f1), .int .i64 ((rd_T43 l0 a1).f5.f2), .int .i64 ((rd_T43 l0 a1).f5.f3), .int .i64 ((rd_T43 l0 a1).f6.f0), .int .i64 ((rd_T43 l0 a1).f6.f1), .int .i64 0, .bool false]) ?_ 12 _ rfl; (with_reducible repeat (first | refine blk_drewN ?_ _ | refine blk_drew ?_ | refine blk_alloc ?_ _)); refine blk_put (cs := #[.int .i64 ((rd_T43 l0 a1).f0), .slice A182_1 ((rd_T43 l0 a1).f1).length c182_1, .slice A182_2 ((rd_T43 l0 a1).f2).length c182_2, .string ((rd_T43 l0 a1).f3), .int .i64 ((rd_T43 l0 a1).f4.f0), .slice A182_5 ((rd_T43 l0 a1).f4.f1).length c182_5, .int .i64 ((rd_T43 l0 a1).f5.f0), .int .i64 ((rd_T43 l0 a1).f5.f1), .int .i64 ((rd_T43 l0 a1).f5.f2), .int .i64 ((rd_T43 l0 a1).f5.f3), .int .i64 ((rd_T43 l0 a1).f6.f0), .int .i64 0, .int .i64 0, .bool false]) ?_ 11 _ rfl; (with_reducible repeat (first | refine blk_drewN ?_ _ | refine blk_drew ?_ | refine blk_alloc ?_ _)); refine blk_put (cs := #[.int .i64 ((rd_T43 l0 a1).f0), .slice A182_1 ((rd_T43 l0 a1).f1).length c182_1, .slice A182_2 ((rd_T43 l0 a1).f2).length c182_2, .string ((rd_T43 l0 a1).f3), .int .i64 ((rd_T43 l0 a1).f4.f0), .slice A182_5 ((rd_T43 l0 a1).f4.f1).length c182_5, .int .i64 ((rd_T43 l0 a1).f5.f0), .int .i64 ((rd_T43 l0 a1).f5.f1), .int .i64 ((rd_T43 l0 a1).f5.f2), .int .i64 ((rd_T43 l0 a1).f5.f3), .int .i64 0, .int .i64 0, .int .i64 0, .bool false]) ?_ 10 _ rfl; (with_reducible repeat (first | refine blk_drewN ?_ _ | refine blk_drew ?_ | refine blk_alloc ?_ _)); refine blk_put (cs := #[.int .i64 ((rd_T43 l0 a1).f0), .slice A182_1 ((rd_T43 l0 a1).f1).length c182_1, .slice A182_2 ((rd_T43 l0 a1).f2).length c182_2, .string ((rd_T43 l0 a1).f3), .int .i64 ((rd_T43 l0 a1).f4.f0), .slice A182_5 ((rd_T43 l0 a1).f4.f1).length c182_5, .int .i64 ((rd_T43 l0 a1).f5.f0), .int .i64 ((rd_T43 l0 a1).f5.f1), .int .i64 ((rd_T43 l0 a1).f5.f2), .int .i64 0, .int .i64 0, .int .i64 0, .int .i64 0, .bool false]) ?_ 9 _ rfl; (with_reducible repeat (first | refine blk_drewN ?_ _ | refine blk_drew ?_ | refine blk_alloc ?_ _)); refine blk_put (cs := #[.int .i64 ((rd_T43 l0 a1).f0), .slice A182_1 ((rd_T43 l0 a1).f1).length c182_1, .slice A182_2 ((rd_T43 l0 a1).f2).length c182_2, .string ((rd_T43 l0 a1).f3), .int .i64 ((rd_T43 l0 a1).f4.f0), .slice A182_5 ((rd_T43 l0 a1).f4.f1).length c182_5, .int .i64 ((rd_T43 l0 a1).f5.f0), .int .i64 ((rd_T43 l0 a1).f5.f1), .int .i64 0, .int .i64 0, .int .i64 0, .int .i64 0, .int .i64 0, .bool false]) ?_ 8 _ rfl; (with_reducible repeat (first | refine blk_drewN ?_ _ | refine blk_drew ?_ | refine blk_alloc ?_ _)); refine blk_put (cs := #[.int .i64 ((rd_T43 l0 a1).f0), .slice A182_1 ((rd_T43 l0 a1).f1).length c182_1, .slice A182_2 ((rd_T43 l0 a1).f2).length c182_2, .string ((rd_T43 l0 a1).f3), .int .i64 ((rd_T43 l0 a1).f4.f0), .slice A182_5 ((rd_T43 l0 a1).f4.f1).length c182_5, .int .i64 ((rd_T43 l0 a1).f5.f0), .int .i64 0, .int .i64 0, .int .i64 0, .int .i64 0, .int .i64 0, .int .i64 0, .bool false]) ?_ 7 _ rfl; (with_reducible repeat (first | refine blk_drewN ?_ _ | refine blk_drew ?_ | refine blk_alloc ?_ _)); refine blk_put (cs := #[.int .i64 ((rd_T43 l0 a1).f0), .slice A182_1 ((rd_T43 l0 a1).f1).length c182_1, .slice A182_2 ((rd_T43 l0 a1).f2).length c182_2, .string ((rd_T43 l0 a1).f3), .int .i64 ((rd_T43 l0 a1).f4.f0), .slice A182_5 ((rd_T43 l0 a1).f4.f1).length c182_5, .int .i64 0, .int .i64 0, .int .i64 0, .int .i64 0, .int .i64 0, .int .i64 0, .int .i64 0, .bool false]) ?_ 6 _ rfl; (with_reducible repeat (first | refine blk_drewN ?_ _ | refine blk_drew ?_ | refine blk_alloc ?_ _)); refine blk_put (cs := #[.int .i64 ((rd_T43 l0 a1).f0), .slice A182_1 ((rd_T43 l0 a1).f1).length c182_1, .slice A182_2 ((rd_T43 l0 a1).f2).length c182_2, .string ((rd_T43 l0 a1).f3), .int .i64 ((rd_T43 l0 a1).f4.f0), .slice none 0 0, .int .i64 0, .int .i64 0, .int .i64 0, .int .i64 0, .int .i64 0, .int .i64 0, .int .i64 0, .bool false]) ?_ 5 _ rfl; (with_reducible repeat (first | refine blk_drewN ?_ _ | refine blk_drew ?_ | refine blk_alloc ?_ _)); refine blk_put (cs := #[.int .i64 ((rd_T43 l0 a1).f0), .slice A182_1 ((rd_T43 l0 a1).f1).length c182_1, .slice A182_2 ((rd_T43 l0 a1).f2).length c182_2, .string ((rd_T43 l0 a1).f3), .int .i64 0, .slice none 0 0, .int .i64 0, .int .i64 0, .int .i64 0, .int .i64 0, .int .i64 0, .int .i64 0, .int .i64 0, .bool false]) ?_ 4 _ rfl; (with_reducible repeat (first | refine blk_drewN ?_ _ | refine blk_drew ?_ | refine blk_alloc ?_ _)); refine blk_put (cs := #[.int .i64 ((rd_T43 l0 a1).f0), .slice A182_1 ((rd_T43 l0 a1).f1).length c182_1, .slice A182_2 ((rd_T43 l0 a1).f2).length c182_2, .string (⟨#[]⟩ : ByteArray), .int .i64 0, .slice none 0 0, .int .i64 0, .int .i64 0, .int .i64 0, .int .i64 0, .int .i64 0, .int .i64 0, .int .i64 0, .bool false]) ?_ 3 _ rfl; (with_reducible repeat (first | refine blk_drewN ?_ _ | refine blk_drew ?_ | refine blk_alloc ?_ _)); refine blk_put (cs := #[.int .i64 ((rd_T43 l0 a1).f0), .slice A182_1 ((rd_T43 l0 a1).f1).length c182_1, .slice none 0 0, .string (⟨#[]⟩ : ByteArray), .int .i64 0, .slice none 0 0, .int .i64 0, .int .i64 0, .int .i64 0, .int .i64 0, .int .i64 0, .int .i64 0, .int .i64 0, .bool false]) ?_ 2 _ rfl; (with_reducible repeat (first | refine blk_drewN ?_ _ | refine blk_drew ?_ | refine blk_alloc ?_ _)); refine blk_put (cs := #[.int .i64 ((rd_T43 l0 a1).f0), .slice none 0 0, .slice none 0 0, .string (⟨#[]⟩ : ByteArray), .int .i64 0, .slice none 0 0, .int .i64 0, .int .i64 0, .int .i64 0, .int .i64 0, .int .i64 0, .int .i64 0, .int .i64 0, .bool false]) ?_ 1 _ rfl; (with_reducible repeat (first | refine blk_drewN ?_ _ | refine blk_drew ?_ | refine blk_alloc ?_ _)); refine blk_put (cs := #[.int .i64 0, .slice none 0 0, .slice none 0 0, .string (⟨#[]⟩ : ByteArray), .int .i64 0, .slice none 0 0, .int .i64 0, .int .i64 0, .int .i64 0, .int .i64 0, .int .i64 0, .int .i64 0, .int .i64 0, .bool false]) ?_ 0 _ rfl; (with_reducible repeat (first | refine blk_drewN ?_ _ | refine blk_drew ?_ | refine blk_alloc ?_ _)); exact BK183.out⟩, ⟨by repeat (first | (with_reducible first | exact HB.out | apply below_alloc | apply pw_below_drewN | apply below_drew1 | refine below_set ?_ GE183.out) | exact HB.out)⟩⟩
    ·replace c9 := Bool.eq_false_iff.mpr c9
     subst c9
     have H1 : (r11_input.j0 k true ((rd_T43 l0 a1).f0) ((rd_T43 l0 a1).f1) ((rd_T43 l0 a1).f2) ((rd_T43 l0 a1).f3) ((rd_T43 l0 a1).f4.f0) ((rd_T43 l0 a1).f4.f1) ((rd_T43 l0 a1).f5.f0) ((rd_T43 l0 a1).f5.f1) ((rd_T43 l0 a1).f5.f2) ((rd_T43 l0 a1).f5.f3) ((rd_T43 l0 a1).f6.f0) ((rd_T43 l0 a1).f6.f1) ((rd_T43 l0 a1).f6.f2) ((rd_T43 l0 a1).f6.f3)) = some r := by rw [if_neg (show ¬ (false = true) by decide)] at H; exact H
     clear H
     have H := H1
     clear H1
     have H' := Aside0.mk H
     clear H
     obtain ⟨_, _, _, _, _, _, _, _, _, _, _, _, _, _⟩ := cl14 BK183.out
     obtain ⟨_, _, _, _, _, _, _, _, _, _, _, _, _, _⟩ := fz14 BK183.out
     go_wp2_with (first | ((with_reducible refine gate_callee (f := 32) rfl ?_); refine goesL_ (some 14) rfl rfl Tryz.func32 (by kernel_rfl) rfl #[.slice (some ad182) l0.length c0, .int .i64 a1, .slice A182_1 ((rd_T43 l0 a1).f1).length c182_1] rfl (by (try simp only [List.map_toArray, List.map_cons, List.map_nil]); first | done | rfl | (simp only [List.length_drop, List.length_take]; rfl)) ?_; (with_reducible refine (r11_ahead.calls k _ _ l0 a1 _ _ ((rd_T43 l0 a1).f1) false _ ?side1 ?side2 ?side3 ?side4 A8.out).mono ?_); (case side1 => exact Kd.C_below HR0.out (by repeat (first | (with_reducible first | exact HB.out | apply below_alloc | apply pw_below_drewN | apply below_drew1 | refine below_set ?_ GE183.out) | exact HB.out))); (case side2 => exact HC0.out); (case side3 => exact Kd.C_below HR182_1.out (by repeat (first | (with_reducible first | exact HB.out | apply below_alloc | apply pw_below_drewN | apply below_drew1 | refine below_set ?_ GE183.out) | exact HB.out))); (case side4 => exact HC182_1.out); rintro e w' ⟨rfl, ⟨nd, rfl⟩⟩; refine ⟨_, rfl, ?_⟩))
     go_meet
     case rel => exact ⟨_, (true), rfl, H', ⟨by first | omega | exact Nat.le_refl _⟩, ⟨by (with_reducible repeat (first | refine blk_drewN ?_ _ | refine blk_drew ?_ | refine blk_alloc ?_ _)); refine blk_put (cs := #[.int .i64 ((rd_T43 l0 a1).f0), .slice A182_1 ((rd_T43 l0 a1).f1).length c182_1, .slice A182_2 ((rd_T43 l0 a1).f2).length c182_2, .string ((rd_T43 l0 a1).f3), .int .i64 ((rd_T43 l0 a1).f4.f0), .slice A182_5 ((rd_T43 l0 a1).f4.f1).length c182_5, .int .i64 ((rd_T43 l0 a1).f5.f0), .int .i64 ((rd_T43 l0 a1).f5.f1), .int .i64 ((rd_T43 l0 a1).f5.f2), .int .i64 ((rd_T43 l0 a1).f5.f3), .int .i64 ((rd_T43 l0 a1).f6.f0), .int .i64 ((rd_T43 l0 a1).f6.f1), .int .i64 ((rd_T43 l0 a1).f6.f2), .bool false]) ?_ 13 _ rfl; (with_reducible repeat (first | refine blk_drewN ?_ _ | refine blk_drew ?_ | refine blk_alloc ?_ _)); refine blk_put (cs := #[.int .i64 ((rd_T43 l0 a1).f0), .slice A182_1 ((rd_T43 l0 a1).f1).length c182_1, .slice A182_2 ((rd_T43 l0 a1).f2).length c182_2, .string ((rd_T43 l0 a1).f3), .int .i64 ((rd_T43 l0 a1).f4.f0), .slice A182_5 ((rd_T43 l0 a1).f4.f1).length c182_5, .int .i64 ((rd_T43 l0 a1).f5.f0), .int .i64 ((rd_T43 l0 a1).f5.f1), .int .i64 ((rd_T43 l0 a1).f5.f2), .int .i64 ((rd_T43 l0 a1).f5.f3), .int .i64 ((rd_T43 l0 a1).f6.f0), .int .i64 ((rd_T43 l0 a1).f6.f1), .int .i64 0, .bool false]) ?_ 12 _ rfl; (with_reducible repeat (first | refine blk_drewN ?_ _ | refine blk_drew ?_ | refine blk_alloc ?_ _)); refine blk_put (cs := #[.int .i64 ((rd_T43 l0 a1).f0), .slice A182_1 ((rd_T43 l0 a1).f1).length c182_1, .slice A182_2 ((rd_T43 l0 a1).f2).length c182_2, .string ((rd_T43 l0 a1).f3), .int .i64 ((rd_T43 l0 a1).f4.f0), .slice A182_5 ((rd_T43 l0 a1).f4.f1).length c182_5, .int .i64 ((rd_T43 l0 a1).f5.f0), .int .i64 ((rd_T43 l0 a1).f5.f1), .int .i64 ((rd_T43 l0 a1).f5.f2), .int .i64 ((rd_T43 l0 a1).f5.f3), .int .i64 ((rd_T43 l0 a1).f6.f0), .int .i64 0, .int .i64 0, .bool false]) ?_ 11 _ rfl; (with_reducible repeat (first | refine blk_drewN ?_ _ | refine blk_drew ?_ | refine blk_alloc ?_ _)); refine blk_put (cs := #[.int .i64 ((rd_T43 l0 a1).f0), .slice A182_1 ((rd_T43 l0 a1).f1).length c182_1, .slice A182_2 ((rd_T43 l0 a1).f2).length c182_2, .string ((rd_T43 l0 a1).f3), .int .i64 ((rd_T43 l0 a1).f4.f0), .slice A182_5 ((rd_T43 l0 a1).f4.f1).length c182_5, .int .i64 ((rd_T43 l0 a1).f5.f0), .int .i64 ((rd_T43 l0 a1).f5.f1), .int .i64 ((rd_T43 l0 a1).f5.f2), .int .i64 ((rd_T43 l0 a1).f5.f3), .int .i64 0, .int .i64 0, .int .i64 0, .bool false]) ?_ 10 _ rfl; (with_reducible repeat (first | refine blk_drewN ?_ _ | refine blk_drew ?_ | refine blk_alloc ?_ _)); refine blk_put (cs := #[.int .i64 ((rd_T43 l0 a1).f0), .slice A182_1 ((rd_T43 l0 a1).f1).length c182_1, .slice A182_2 ((rd_T43 l0 a1).f2).length c182_2, .string ((rd_T43 l0 a1).f3), .int .i64 ((rd_T43 l0 a1).f4.f0), .slice A182_5 ((rd_T43 l0 a1).f4.f1).length c182_5, .int .i64 ((rd_T43 l0 a1).f5.f0), .int .i64 ((rd_T43 l0 a1).f5.f1), .int .i64 ((rd_T43 l0 a1).f5.f2), .int .i64 0, .int .i64 0, .int .i64 0, .int .i64 0, .bool false]) ?_ 9 _ rfl; (with_reducible repeat (first | refine blk_drewN ?_ _ | refine blk_drew ?_ | refine blk_alloc ?_ _)); refine blk_put (cs := #[.int .i64 ((rd_T43 l0 a1).f0), .slice A182_1 ((rd_T43 l0 a1).f1).length c182_1, .slice A182_2 ((rd_T43 l0 a1).f2).length c182_2, .string ((rd_T43 l0 a1).f3), .int .i64 ((rd_T43 l0 a1).f4.f0), .slice A182_5 ((rd_T43 l0 a1).f4.f1).length c182_5, .int .i64 ((rd_T43 l0 a1).f5.f0), .int .i64 ((rd_T43 l0 a1).f5.f1), .int .i64 0, .int .i64 0, .int .i64 0, .int .i64 0, .int .i64 0, .bool false]) ?_ 8 _ rfl; (with_reducible repeat (first | refine blk_drewN ?_ _ | refine blk_drew ?_ | refine blk_alloc ?_ _)); refine blk_put (cs := #[.int .i64 ((rd_T43 l0 a1).f0), .slice A182_1 ((rd_T43 l0 a1).f1).length c182_1, .slice A182_2 ((rd_T43 l0 a1).f2).length c182_2, .string ((rd_T43 l0 a1).f3), .int .i64 ((rd_T43 l0 a1).f4.f0), .slice A182_5 ((rd_T43 l0 a1).f4.f1).length c182_5, .int .i64 ((rd_T43 l0 a1).f5.f0), .int .i64 0, .int .i64 0, .int .i64 0, .int .i64 0, .int .i64 0, .int .i64 0, .bool false]) ?_ 7 _ rfl; (with_reducible repeat (first | refine blk_drewN ?_ _ | refine blk_drew ?_ | refine blk_alloc ?_ _)); refine blk_put (cs := #[.int .i64 ((rd_T43 l0 a1).f0), .slice A182_1 ((rd_T43 l0 a1).f1).length c182_1, .slice A182_2 ((rd_T43 l0 a1).f2).length c182_2, .string ((rd_T43 l0 a1).f3), .int .i64 ((rd_T43 l0 a1).f4.f0), .slice A182_5 ((rd_T43 l0 a1).f4.f1).length c182_5, .int .i64 0, .int .i64 0, .int .i64 0, .int .i64 0, .int .i64 0, .int .i64 0, .int .i64 0, .bool false]) ?_ 6 _ rfl; (with_reducible repeat (first | refine blk_drewN ?_ _ | refine blk_drew ?_ | refine blk_alloc ?_ _)); refine blk_put (cs := #[.int .i64 ((rd_T43 l0 a1).f0), .slice A182_1 ((rd_T43 l0 a1).f1).length c182_1, .slice A182_2 ((rd_T43 l0 a1).f2).length c182_2, .string ((rd_T43 l0 a1).f3), .int .i64 ((rd_T43 l0 a1).f4.f0), .slice none 0 0, .int .i64 0, .int .i64 0, .int .i64 0, .int .i64 0, .int .i64 0, .int .i64 0, .int .i64 0, .bool false]) ?_ 5 _ rfl; (with_reducible repeat (first | refine blk_drewN ?_ _ | refine blk_drew ?_ | refine blk_alloc ?_ _)); refine blk_put (cs := #[.int .i64 ((rd_T43 l0 a1).f0), .slice A182_1 ((rd_T43 l0 a1).f1).length c182_1, .slice A182_2 ((rd_T43 l0 a1).f2).length c182_2, .string ((rd_T43 l0 a1).f3), .int .i64 0, .slice none 0 0, .int .i64 0, .int .i64 0, .int .i64 0, .int .i64 0, .int .i64 0, .int .i64 0, .int .i64 0, .bool false]) ?_ 4 _ rfl; (with_reducible repeat (first | refine blk_drewN ?_ _ | refine blk_drew ?_ | refine blk_alloc ?_ _)); refine blk_put (cs := #[.int .i64 ((rd_T43 l0 a1).f0), .slice A182_1 ((rd_T43 l0 a1).f1).length c182_1, .slice A182_2 ((rd_T43 l0 a1).f2).length c182_2, .string (⟨#[]⟩ : ByteArray), .int .i64 0, .slice none 0 0, .int .i64 0, .int .i64 0, .int .i64 0, .int .i64 0, .int .i64 0, .int .i64 0, .int .i64 0, .bool false]) ?_ 3 _ rfl; (with_reducible repeat (first | refine blk_drewN ?_ _ | refine blk_drew ?_ | refine blk_alloc ?_ _)); refine blk_put (cs := #[.int .i64 ((rd_T43 l0 a1).f0), .slice A182_1 ((rd_T43 l0 a1).f1).length c182_1, .slice none 0 0, .string (⟨#[]⟩ : ByteArray), .int .i64 0, .slice none 0 0, .int .i64 0, .int .i64 0, .int .i64 0, .int .i64 0, .int .i64 0, .int .i64 0, .int .i64 0, .bool false]) ?_ 2 _ rfl; (with_reducible repeat (first | refine blk_drewN ?_ _ | refine blk_drew ?_ | refine blk_alloc ?_ _)); refine blk_put (cs := #[.int .i64 ((rd_T43 l0 a1).f0), .slice none 0 0, .slice none 0 0, .string (⟨#[]⟩ : ByteArray), .int .i64 0, .slice none 0 0, .int .i64 0, .int .i64 0, .int .i64 0, .int .i64 0, .int .i64 0, .int .i64 0, .int .i64 0, .bool false]) ?_ 1 _ rfl; (with_reducible repeat (first | refine blk_drewN ?_ _ | refine blk_drew ?_ | refine blk_alloc ?_ _)); refine blk_put (cs := #[.int .i64 0, .slice none 0 0, .slice none 0 0, .string (⟨#[]⟩ : ByteArray), .int .i64 0, .slice none 0 0, .int .i64 0, .int .i64 0, .int .i64 0, .int .i64 0, .int .i64 0, .int .i64 0, .int .i64 0, .bool false]) ?_ 0 _ rfl; (with_reducible repeat (first | refine blk_drewN ?_ _ | refine blk_drew ?_ | refine blk_alloc ?_ _)); exact BK183.out⟩, ⟨by repeat (first | (with_reducible first | exact HB.out | apply below_alloc | apply pw_below_drewN | apply below_drew1 | refine below_set ?_ GE183.out) | exact HB.out)⟩⟩
   case rest =>
    clear HC5
    obtain ⟨kq, x23_4, rfl, HA, HJ4, BK183, HB⟩ := hcut
    cases kq with
    | zero => exact absurd HA.out (by simp [r11_input.j0])
    | succ kj4 =>
     have H := HA.out
     clear HA
     simp only [r11_input.j0] at H
     by_cases c13 : x23_4 = true
     ·subst c13
      have H1 : (some false) = some r := by rw [if_pos rfl] at H; exact H
      clear H
      have H := H1
      clear H1
      obtain rfl := Option.some.inj H
      go_wp2
      go_ret
      exact ⟨rfl, HB.out⟩
     ·replace c13 := Bool.eq_false_iff.mpr c13
      subst c13
      have H1 : (if ((rd_T43 l0 a1).f0) = 1 then (if (((rd_T43 l0 a1).f1).length : Int) = 0 then (some ((((rd_T43 l0 a1).f2).length : Int) == 0)) else (some false)) else (if ((rd_T43 l0 a1).f0) = 2 then (if (((rd_T43 l0 a1).f1).length : Int) = 1 then ((r11_Rises.f kj4 ((rd_T43 l0 a1).f2) 0 4).bind fun t186 => (some t186)) else (some false)) else (if ((rd_T43 l0 a1).f0) = 5 then ((r11_Rises.f kj4 ((rd_T43 l0 a1).f1) 1 4).bind fun t187 => (if t187 = true then (some ((((rd_T43 l0 a1).f2).length : Int) == 0)) else (some false))) else (if (((rd_T43 l0 a1).f1).length : Int) = 1 then (some ((((rd_T43 l0 a1).f2).length : Int) == 0)) else (some false))))) = some r := by rw [if_neg (show ¬ (false = true) by decide)] at H; exact H
      clear H
      have H := H1
      clear H1
      by_cases c14 : ((rd_T43 l0 a1).f0) = 1
      ·rw [if_pos c14] at H
       obtain ⟨c14b0, c14b1⟩ := eqB c14
       clear c14
       by_cases c15 : (((rd_T43 l0 a1).f1).length : Int) = 0
       ·rw [if_pos c15] at H
        obtain ⟨c15b0, c15b1⟩ := eqB c15
        clear c15
        obtain rfl := Option.some.inj H
        obtain ⟨z16_0, z16_1, _, _, _, _, _, _, _, _, _, _, _, _⟩ := cl14 BK183.out
        obtain ⟨y16_0, y16_1, _, _, _, _, _, _, _, _, _, _, _, _⟩ := fz14 BK183.out
        go_wp2
        go_ret
        exact ⟨rfl, HB.out⟩
       ·rw [if_neg c15] at H
        obtain ⟨c15b0, c15b1⟩ := neB c15
        have c15b2 : ¬ (((rd_T43 l0 a1).f1) = []) := fun h_ => c15 (by rw [h_]; rfl)
        obtain rfl := Option.some.inj H
        obtain ⟨_, _, _, _, _, _, _, _, _, _, _, _, _, _⟩ := cl14 BK183.out
        obtain ⟨_, _, _, _, _, _, _, _, _, _, _, _, _, _⟩ := fz14 BK183.out
        go_wp2
        go_ret
        exact ⟨rfl, HB.out⟩
      ·rw [if_neg c14] at H
       obtain ⟨c14b0, c14b1⟩ := neB c14
       by_cases c18 : ((rd_T43 l0 a1).f0) = 2
       ·rw [if_pos c18] at H
        obtain ⟨c18b0, c18b1⟩ := eqB c18
        clear c18
        by_cases c19 : (((rd_T43 l0 a1).f1).length : Int) = 1
        ·rw [if_pos c19] at H
         obtain ⟨c19b0, c19b1⟩ := eqB c19
         clear c19
         replace H := Option.bind_eq_some_iff.mp H
         obtain ⟨t186, A200, H⟩ := H
         replace H : (some t186) = some r := H
         have A20 := Aside0.mk A200
         clear A200
         obtain rfl := Option.some.inj H
         obtain ⟨_, _, _, _, _, _, _, _, _, _, _, _, _, _⟩ := cl14 BK183.out
         obtain ⟨_, _, _, _, _, _, _, _, _, _, _, _, _, _⟩ := fz14 BK183.out
         go_wp2_with (first | (go_at_call 24; (with_reducible refine (r11_Rises.calls kj4 _ _ ((rd_T43 l0 a1).f2) 0 4 t186 _ ?side1 ?side2 A20.out).mono ?_); (case side1 => repeat (first | exact (Kd.C_below HR182_2.out HB.out) | (with_reducible refine Kd.C_alloc ?_ _) | (with_reducible refine Kd.C_drewN ?_ _) | (with_reducible refine Kd.C_drew ?_))); (case side2 => exact HC182_2.out); rintro e w' ⟨rfl, ⟨nd, rfl⟩⟩))
         go_ret
         exact ⟨by first | rfl | (simp [errW_none, errW_some] <;> rfl) | (simp [*, errW_none, errW_some] <;> rfl), by repeat (first | (with_reducible first | exact HB.out | apply below_alloc | apply pw_below_drewN | apply below_drew1 | refine below_set ?_ GE183.out) | exact HB.out)⟩
        ·rw [if_neg c19] at H
         obtain ⟨c19b0, c19b1⟩ := neB c19
         obtain rfl := Option.some.inj H
         obtain ⟨_, _, _, _, _, _, _, _, _, _, _, _, _, _⟩ := cl14 BK183.out
         obtain ⟨_, _, _, _, _, _, _, _, _, _, _, _, _, _⟩ := fz14 BK183.out
         go_wp2
         go_ret
         exact ⟨rfl, HB.out⟩
       ·rw [if_neg c18] at H
        obtain ⟨c18b0, c18b1⟩ := neB c18
        by_cases c23 : ((rd_T43 l0 a1).f0) = 5
        ·rw [if_pos c23] at H
         obtain ⟨c23b0, c23b1⟩ := eqB c23
         clear c23
         replace H := Option.bind_eq_some_iff.mp H
         obtain ⟨t187, A240, H⟩ := H
         have A24 := Aside0.mk A240
         clear A240
         by_cases c25 : t187 = true
         ·subst c25
          have H1 : (some ((((rd_T43 l0 a1).f2).length : Int) == 0)) = some r := by rw [if_pos rfl] at H; exact H
          clear H
          have H := H1
          clear H1
          obtain rfl := Option.some.inj H
          obtain ⟨_, _, _, _, _, _, _, _, _, _, _, _, _, _⟩ := cl14 BK183.out
          obtain ⟨_, _, _, _, _, _, _, _, _, _, _, _, _, _⟩ := fz14 BK183.out
          go_wp2_with (first | ((with_reducible refine gate_callee (f := 24) rfl ?_); refine goesL_ (some 53) rfl rfl Tryz.func24 (by kernel_rfl) rfl #[.slice A182_1 ((rd_T43 l0 a1).f1).length c182_1, .int .i64 1, .int .i64 4] rfl (by (try simp only [List.map_toArray, List.map_cons, List.map_nil]); first | done | rfl | (simp only [List.length_drop, List.length_take]; rfl)) ?_; (with_reducible refine (r11_Rises.calls kj4 _ _ ((rd_T43 l0 a1).f1) 1 4 true _ ?side1 ?side2 A24.out).mono ?_); (case side1 => repeat (first | exact (Kd.C_below HR182_1.out HB.out) | (with_reducible refine Kd.C_alloc ?_ _) | (with_reducible refine Kd.C_drewN ?_ _) | (with_reducible refine Kd.C_drew ?_))); (case side2 => exact HC182_1.out); rintro e w' ⟨rfl, ⟨nd, rfl⟩⟩; refine ⟨_, rfl, ?_⟩))
          go_ret
          exact ⟨by first | rfl | (simp [errW_none, errW_some] <;> rfl) | (simp [*, errW_none, errW_some] <;> rfl), by repeat (first | (with_reducible first | exact HB.out | apply below_alloc | apply pw_below_drewN | apply below_drew1 | refine below_set ?_ GE183.out) | exact HB.out)⟩
         ·replace c25 := Bool.eq_false_iff.mpr c25
          subst c25
          have H1 : (some false) = some r := by rw [if_neg (show ¬ (false = true) by decide)] at H; exact H
          clear H
          have H := H1
          clear H1
          obtain rfl := Option.some.inj H
          obtain ⟨_, _, _, _, _, _, _, _, _, _, _, _, _, _⟩ := cl14 BK183.out
          obtain ⟨_, _, _, _, _, _, _, _, _, _, _, _, _, _⟩ := fz14 BK183.out
          go_wp2_with (first | ((with_reducible refine gate_callee (f := 24) rfl ?_); refine goesL_ (some 53) rfl rfl Tryz.func24 (by kernel_rfl) rfl #[.slice A182_1 ((rd_T43 l0 a1).f1).length c182_1, .int .i64 1, .int .i64 4] rfl (by (try simp only [List.map_toArray, List.map_cons, List.map_nil]); first | done | rfl | (simp only [List.length_drop, List.length_take]; rfl)) ?_; (with_reducible refine (r11_Rises.calls kj4 _ _ ((rd_T43 l0 a1).f1) 1 4 false _ ?side1 ?side2 A24.out).mono ?_); (case side1 => repeat (first | exact (Kd.C_below HR182_1.out HB.out) | (with_reducible refine Kd.C_alloc ?_ _) | (with_reducible refine Kd.C_drewN ?_ _) | (with_reducible refine Kd.C_drew ?_))); (case side2 => exact HC182_1.out); rintro e w' ⟨rfl, ⟨nd, rfl⟩⟩; refine ⟨_, rfl, ?_⟩))
          go_ret
          exact ⟨by first | rfl | (simp [errW_none, errW_some] <;> rfl) | (simp [*, errW_none, errW_some] <;> rfl), by repeat (first | (with_reducible first | exact HB.out | apply below_alloc | apply pw_below_drewN | apply below_drew1 | refine below_set ?_ GE183.out) | exact HB.out)⟩
        ·rw [if_neg c23] at H
         obtain ⟨c23b0, c23b1⟩ := neB c23
         by_cases c28 : (((rd_T43 l0 a1).f1).length : Int) = 1
         ·rw [if_pos c28] at H
          obtain ⟨c28b0, c28b1⟩ := eqB c28
          clear c28
          obtain rfl := Option.some.inj H
          obtain ⟨_, _, _, _, _, _, _, _, _, _, _, _, _, _⟩ := cl14 BK183.out
          obtain ⟨_, _, _, _, _, _, _, _, _, _, _, _, _, _⟩ := fz14 BK183.out
          go_wp2
          go_ret
          exact ⟨rfl, HB.out⟩
         ·rw [if_neg c28] at H
          obtain ⟨c28b0, c28b1⟩ := neB c28
          obtain rfl := Option.some.inj H
          obtain ⟨_, _, _, _, _, _, _, _, _, _, _, _, _, _⟩ := cl14 BK183.out
          obtain ⟨_, _, _, _, _, _, _, _, _, _, _, _, _, _⟩ := fz14 BK183.out
          go_wp2
          go_ret
          exact ⟨rfl, HB.out⟩
  ·rw [if_neg c4] at H
   exact absurd H (by simp)
 ·rw [if_neg c3] at H
  exact absurd H (by simp)
/-! ### r02_Right: function 33 -/
mutual
def r02_Right.j0 : Nat -> Int -> Bool -> Int -> List (S37) -> Option (Bool)
 | 0, _, _, _, _ => none
 | k + 1, x1, x22, x189000, x189001 => if x22 = true then (some false) else (r02_Right.l0 k x1 0 x189000 x189001)
def r02_Right.l0 : Nat -> Int -> Int -> Int -> List (S37) -> Option (Bool)
 | 0, _, _, _, _ => none
 | k + 1, x1, x5, x189000, x189001 => if x5 < (x189001.length : Int) then (if 0 <= x5 then ((r02_Right.f k ((rd_T37 x189001 x5).f0) ((rd_T37 x189001 x5).f1) (wrap64 (x1 - 1))).bind fun t192 => (if t192 = true then (r02_Right.l0 k x1 (wrap64 (x5 + 1)) x189000 x189001) else (some false))) else (none)) else (some true)
def r02_Right.f : Nat -> Int -> List (S37) -> Int -> Option (Bool)
 | 0, _, _, _ => none
 | k + 1, a0_0, l0_1, a1 => if a1 = 0 then (r02_Right.j0 k a1 true a0_0 l0_1) else ((r02_Word.f a0_0).bind fun t189 => (if t189.toList = ([] : List UInt8) then (r02_Right.j0 k a1 true a0_0 l0_1) else ((r02_Count.f a0_0).bind fun t190 => (r02_Right.j0 k a1 ((l0_1.length : Int) != t190) a0_0 l0_1))))
end
theorem r02_Right.calls (k : Nat) : ∀ (a0_0 : Int) (A0_1 : Option Addr) (c0_1 : Nat) (l0_1 : List (S37)) (a1 : Int) (r : Bool) (w : World) (hr0_1 : Kd.C k37 w A0_1 l0_1.length l0_1) (hc0_1 : l0_1.length <= c0_1) (h : r02_Right.f k a0_0 l0_1 a1 = some r),
  Calls Tryz.prog 33 #[.agg #[.int .i64 a0_0, .slice A0_1 l0_1.length c0_1], .int .i64 a1] w fun e w' => e = .returned (.bool r) ∧ Below w.heap.size w w' := by
 induction k using Nat.strongRecOn with
 | _ k ih =>
 intro a0_0 A0_1 c0_1 l0_1 a1 r w hr0_1 hc0_1 h
 cases k with
 | zero => exact absurd h (by simp [r02_Right.f])
 | succ k =>
 simp only [r02_Right.f] at h
 have hu37 := Tryz.underlying37
 have HR0_1 := Aside0.mk hr0_1
 have HC0_1 := Aside0.mk hc0_1
 clear hr0_1 hc0_1
 have HB := Aside0.mk (Below.refl w.heap.size w)
 have H : (if a1 = 0 then (r02_Right.j0 k a1 true a0_0 l0_1) else ((r02_Word.f a0_0).bind fun t189 => (if t189.toList = ([] : List UInt8) then (r02_Right.j0 k a1 true a0_0 l0_1) else ((r02_Count.f a0_0).bind fun t190 => (r02_Right.j0 k a1 ((l0_1.length : Int) != t190) a0_0 l0_1))))) = some r := h
 clear h
 have HC3 := Aside0.mk H
 clear H
 go_enter Tryz.func33, Tryz.ntmps33
 go_upto_region 1 with (first | ((with_reducible refine gate_dst (N := 2) rfl ?_); (try (refine gate_guard (by rfl) ?_; dsimp only)); refine box_event ?hg (N := 2) ?hd (cs := #[.int .i64 a0_0, .slice A0_1 l0_1.length c0_1]) (t := 37) ?hr ?_; (case hd => rfl); (case hg => rfl); (case hr => go_simp); intro gb188 hg w4 hbox hb; have BK188 := Aside0.mk (hbox); have GW188 := Aside0.mk ((by rw [hg]; exact (below_size HB.out) : w.heap.size <= gb188)); have GE188 := GW188; replace HB := Aside0.mk (below_step HB.out hb); clear hb hbox hg))
 repeat (go_quiet (first | ((with_reducible refine gate_dst (N := 2) rfl ?_); (try (refine gate_guard (by rfl) ?_; dsimp only)); refine box_event ?hg (N := 2) ?hd (cs := #[.int .i64 a0_0, .slice A0_1 l0_1.length c0_1]) (t := 37) ?hr ?_; (case hd => rfl); (case hg => rfl); (case hr => go_simp); intro gb188 hg w4 hbox hb; have BK188 := Aside0.mk (hbox); have GW188 := Aside0.mk ((by rw [hg]; exact (below_size HB.out) : w.heap.size <= gb188)); have GE188 := GW188; replace HB := Aside0.mk (below_step HB.out hb); clear hb hbox hg)); go_upto_region 1 with (first | ((with_reducible refine gate_dst (N := 2) rfl ?_); (try (refine gate_guard (by rfl) ?_; dsimp only)); refine box_event ?hg (N := 2) ?hd (cs := #[.int .i64 a0_0, .slice A0_1 l0_1.length c0_1]) (t := 37) ?hr ?_; (case hd => rfl); (case hg => rfl); (case hr => go_simp); intro gb188 hg w4 hbox hb; have BK188 := Aside0.mk (hbox); have GW188 := Aside0.mk ((by rw [hg]; exact (below_size HB.out) : w.heap.size <= gb188)); have GE188 := GW188; replace HB := Aside0.mk (below_step HB.out hb); clear hb hbox hg)))
 (try simp only [Act.put, List.setIfInBounds_toArray, List.set_cons_zero, List.set_cons_succ])
 go_cut [22] (fun v22 wc => ∃ (kq : Nat) (x22_2 : Bool), v22 = .bool x22_2 ∧ Aside0 (r02_Right.j0 kq a1 x22_2 a0_0 l0_1 = some r) ∧ Aside0 (kq <= k) ∧ Aside0 (wc.heap[gb188]? = some (.cells #[.int .i64 a0_0, (.slice A0_1 l0_1.length c0_1)] 37 (0, 0))) ∧ Aside0 (Below w.heap.size w wc))
 case first =>
  have H := HC3.out
  clear HC3
  by_cases c5 : a1 = 0
  ·rw [if_pos c5] at H
   obtain ⟨c5b0, c5b1⟩ := eqB c5
   clear c5
   (first | rw [c5b0] | (simp only [i64_w, i32_w]; rw [c5b0]) | skip)
   have H' := Aside0.mk H
   clear H
   go_wp2
   repeat (go_quiet (fail); try go_wp2)
   go_meet
   case rel => exact ⟨_, (true), rfl, H', ⟨by first | omega | exact Nat.le_refl _⟩, ⟨by (with_reducible repeat (first | refine blk_drewN ?_ _ | refine blk_drew ?_ | refine blk_alloc ?_ _)); exact BK188.out⟩, ⟨by repeat (first | (with_reducible first | exact HB.out | apply below_alloc | apply pw_below_drewN | apply below_drew1 | refine below_set ?_ GE188.out) | exact HB.out)⟩⟩
  ·rw [if_neg c5] at H
   obtain ⟨c5b0, c5b1⟩ := neB c5
   (first | rw [c5b0] | (simp only [i64_w, i32_w]; rw [c5b0]) | skip)
   replace H := Option.bind_eq_some_iff.mp H
   obtain ⟨t189, A60, H⟩ := H
   have A6 := Aside0.mk A60
   clear A60
   by_cases c7 : t189.toList = ([] : List UInt8)
   ·rw [if_pos c7] at H
    have c7b0 : (t189.toList == ([] : List UInt8)) = true := beq_iff_eq.mpr c7
    have c7b1 : (t189.toList != ([] : List UInt8)) = false := bne_eq_false_iff_eq.mpr c7
    clear c7
    have H' := Aside0.mk H
    clear H
    obtain ⟨_, _⟩ := cl2 BK188.out
    obtain ⟨_, _⟩ := fz2 BK188.out
    go_wp2_with (first | (go_at_call 55; (with_reducible refine (r02_Word.calls a0_0 t189 _ A6.out).mono ?_); rintro e w' ⟨rfl, ⟨nd, rfl⟩⟩; (try first | exact ⟨rfl, _, World.drewN_drewN _ _ _⟩ | exact ⟨rfl, _, Eq.trans (World.drewN_drewN _ _ _) (congrArg (World.drewN _) (Nat.add_assoc _ _ _))⟩)))
    repeat (go_quiet (first | (go_at_call 55; (with_reducible refine (r02_Word.calls a0_0 t189 _ A6.out).mono ?_); rintro e w' ⟨rfl, ⟨nd, rfl⟩⟩; (try first | exact ⟨rfl, _, World.drewN_drewN _ _ _⟩ | exact ⟨rfl, _, Eq.trans (World.drewN_drewN _ _ _) (congrArg (World.drewN _) (Nat.add_assoc _ _ _))⟩))); try go_wp2_with (first | (go_at_call 55; (with_reducible refine (r02_Word.calls a0_0 t189 _ A6.out).mono ?_); rintro e w' ⟨rfl, ⟨nd, rfl⟩⟩; (try first | exact ⟨rfl, _, World.drewN_drewN _ _ _⟩ | exact ⟨rfl, _, Eq.trans (World.drewN_drewN _ _ _) (congrArg (World.drewN _) (Nat.add_assoc _ _ _))⟩))))
    go_meet
    case rel => exact ⟨_, (true), rfl, H', ⟨by first | omega | exact Nat.le_refl _⟩, ⟨by (with_reducible repeat (first | refine blk_drewN ?_ _ | refine blk_drew ?_ | refine blk_alloc ?_ _)); exact BK188.out⟩, ⟨by repeat (first | (with_reducible first | exact HB.out | apply below_alloc | apply pw_below_drewN | apply below_drew1 | refine below_set ?_ GE188.out) | exact HB.out)⟩⟩
   ·rw [if_neg c7] at H
    have c7b0 : (t189.toList == ([] : List UInt8)) = false := beq_eq_false_iff_ne.mpr c7
    have c7b1 : (t189.toList != ([] : List UInt8)) = true := bne_iff_ne.mpr c7
    replace H := Option.bind_eq_some_iff.mp H
    obtain ⟨t190, A90, H⟩ := H
    have A9 := Aside0.mk A90
    clear A90
    have H' := Aside0.mk H
    clear H
    obtain ⟨_, _⟩ := cl2 BK188.out
    obtain ⟨_, _⟩ := fz2 BK188.out
    go_wp2_with (first | (go_at_call 55; (with_reducible refine (r02_Word.calls a0_0 t189 _ A6.out).mono ?_); rintro e w' ⟨rfl, ⟨nd, rfl⟩⟩; (try first | exact ⟨rfl, _, World.drewN_drewN _ _ _⟩ | exact ⟨rfl, _, Eq.trans (World.drewN_drewN _ _ _) (congrArg (World.drewN _) (Nat.add_assoc _ _ _))⟩)) | (go_at_call 56; (with_reducible refine (r02_Count.calls a0_0 t190 _ A9.out).mono ?_); rintro e w' ⟨rfl, ⟨nd, rfl⟩⟩; (try first | exact ⟨rfl, _, World.drewN_drewN _ _ _⟩ | exact ⟨rfl, _, Eq.trans (World.drewN_drewN _ _ _) (congrArg (World.drewN _) (Nat.add_assoc _ _ _))⟩)))
    repeat (go_quiet (first | (go_at_call 55; (with_reducible refine (r02_Word.calls a0_0 t189 _ A6.out).mono ?_); rintro e w' ⟨rfl, ⟨nd, rfl⟩⟩; (try first | exact ⟨rfl, _, World.drewN_drewN _ _ _⟩ | exact ⟨rfl, _, Eq.trans (World.drewN_drewN _ _ _) (congrArg (World.drewN _) (Nat.add_assoc _ _ _))⟩)) | (go_at_call 56; (with_reducible refine (r02_Count.calls a0_0 t190 _ A9.out).mono ?_); rintro e w' ⟨rfl, ⟨nd, rfl⟩⟩; (try first | exact ⟨rfl, _, World.drewN_drewN _ _ _⟩ | exact ⟨rfl, _, Eq.trans (World.drewN_drewN _ _ _) (congrArg (World.drewN _) (Nat.add_assoc _ _ _))⟩))); try go_wp2_with (first | (go_at_call 55; (with_reducible refine (r02_Word.calls a0_0 t189 _ A6.out).mono ?_); rintro e w' ⟨rfl, ⟨nd, rfl⟩⟩; (try first | exact ⟨rfl, _, World.drewN_drewN _ _ _⟩ | exact ⟨rfl, _, Eq.trans (World.drewN_drewN _ _ _) (congrArg (World.drewN _) (Nat.add_assoc _ _ _))⟩)) | (go_at_call 56; (with_reducible refine (r02_Count.calls a0_0 t190 _ A9.out).mono ?_); rintro e w' ⟨rfl, ⟨nd, rfl⟩⟩; (try first | exact ⟨rfl, _, World.drewN_drewN _ _ _⟩ | exact ⟨rfl, _, Eq.trans (World.drewN_drewN _ _ _) (congrArg (World.drewN _) (Nat.add_assoc _ _ _))⟩))))
    go_meet
    case rel => exact ⟨_, (((l0_1.length : Int) != t190)), rfl, H', ⟨by first | omega | exact Nat.le_refl _⟩, ⟨by (with_reducible repeat (first | refine blk_drewN ?_ _ | refine blk_drew ?_ | refine blk_alloc ?_ _)); exact BK188.out⟩, ⟨by repeat (first | (with_reducible first | exact HB.out | apply below_alloc | apply pw_below_drewN | apply below_drew1 | refine below_set ?_ GE188.out) | exact HB.out)⟩⟩
 case rest =>
  clear HC3
  obtain ⟨kq, x22_2, rfl, HA, HJ2, BK188, HB⟩ := hcut
  cases kq with
  | zero => exact absurd HA.out (by simp [r02_Right.j0])
  | succ kj2 =>
   have H := HA.out
   clear HA
   simp only [r02_Right.j0] at H
   by_cases c11 : x22_2 = true
   ·subst c11
    have H1 : (some false) = some r := by rw [if_pos rfl] at H; exact H
    clear H
    have H := H1
    clear H1
    obtain rfl := Option.some.inj H
    go_wp2
    repeat (go_quiet (fail); try go_wp2)
    go_ret
    exact ⟨rfl, HB.out⟩
   ·replace c11 := Bool.eq_false_iff.mpr c11
    subst c11
    have H1 : (r02_Right.l0 kj2 a1 0 a0_0 l0_1) = some r := by rw [if_neg (show ¬ (false = true) by decide)] at H; exact H
    clear H
    have H := H1
    clear H1
    have H' := Aside0.mk H
    clear H
    go_wp2
    repeat (go_quiet (fail); try go_wp2)
    go_loopg [5] kj2 (fun kq v5 w' => ∃ (x5_2 : Int), v5 = .int .i64 x5_2 ∧ Aside0 (r02_Right.l0 kq a1 x5_2 a0_0 l0_1 = some r) ∧ Aside0 (kq <= kj2) ∧ Aside0 (w'.heap[gb188]? = some (.cells #[.int .i64 a0_0, (.slice A0_1 l0_1.length c0_1)] 37 (0, 0))) ∧ Aside0 (Below w.heap.size w w'))
    case atStart => exact ⟨(0), rfl, H', ⟨Nat.le_refl _⟩, ⟨by (with_reducible repeat (first | refine blk_drewN ?_ _ | refine blk_drew ?_ | refine blk_alloc ?_ _)); exact BK188.out⟩, ⟨by repeat (first | (with_reducible first | exact HB.out | apply below_alloc | apply pw_below_drewN | apply below_drew1 | refine below_set ?_ GE188.out) | exact HB.out)⟩⟩
    case round =>
     clear H'
     obtain ⟨x5_2, rfl, HA, HK2, BK188, HB⟩ := hrel
     cases gk with
     | zero => exact absurd HA.out (by simp [r02_Right.l0])
     | succ k2 =>
      have H := HA.out
      clear HA
      simp only [r02_Right.l0] at H
      by_cases c12 : x5_2 < (l0_1.length : Int)
      ·rw [if_pos c12] at H
       have c12b0 : decide (x5_2 < (l0_1.length : Int)) = true := decide_eq_true c12
       clear c12
       by_cases c13 : 0 <= x5_2
       ·rw [if_pos c13] at H
        have c13b0 : decide (0 <= x5_2) = true := decide_eq_true c13
        clear c13
        replace H := Option.bind_eq_some_iff.mp H
        obtain ⟨t192, A140, H⟩ := H
        have A14 := Aside0.mk A140
        clear A140
        by_cases c15 : t192 = true
        ·subst c15
         have H1 : (r02_Right.l0 k2 a1 (wrap64 (x5_2 + 1)) a0_0 l0_1) = some r := by rw [if_pos rfl] at H; exact H
         clear H
         have H := H1
         clear H1
         have H' := Aside0.mk H
         clear H
         obtain ⟨z16_0, z16_1⟩ := cl2 BK188.out
         obtain ⟨y16_0, y16_1⟩ := fz2 BK188.out
         have p191 : 0 <= (x5_2 : Int) := of_decide_eq_true (by first | (with_reducible assumption) | assumption)
         have q191 : x5_2 < (l0_1.length : Int) := of_decide_eq_true (by first | (with_reducible assumption) | assumption)
         obtain ⟨ad191, A191_1, c191_1, e191, hx191_0, hx191_1, hl191_1, hi191_1⟩ := at_T37 HR0_1.out x5_2 p191 q191
         cases e191
         replace hx191_0 := (HB.out.cell (World.block_lt_of_cell? w _ hx191_0)).trans hx191_0
         replace hx191_1 := (HB.out.cell (World.block_lt_of_cell? w _ hx191_1)).trans hx191_1
         have HR191_1 := Aside0.mk hi191_1
         have HC191_1 := Aside0.mk hl191_1
         clear hi191_1 hl191_1
         replace p191 := eq_true p191
         replace q191 := eq_true q191
         go_wp2_with (first | (go_at_call 33; (with_reducible refine (ih k2 (by have := HJ2.out; have := HK2.out; omega) ((rd_T37 l0_1 x5_2).f0) _ _ ((rd_T37 l0_1 x5_2).f1) (wrap64 (a1 - 1)) true _ ?side1 ?side2 A14.out).mono ?_); (case side1 => repeat (first | exact (Kd.C_below HR191_1.out HB.out) | (with_reducible refine Kd.C_alloc ?_ _) | (with_reducible refine Kd.C_drewN ?_ _) | (with_reducible refine Kd.C_drew ?_))); (case side2 => exact HC191_1.out); rintro e w17 ⟨rfl, hb⟩; replace BK188 := Aside0.mk (blk_below (g := gb188) (by (with_reducible repeat (first | refine blk_drewN ?_ _ | refine blk_drew ?_ | refine blk_alloc ?_ _)); exact BK188.out) hb); replace HB := Aside0.mk (below_step HB.out hb); (try clear hb); (try clear hb2); (try clear hk); (try clear hi)))
         repeat (go_quiet (first | (go_at_call 33; (with_reducible refine (ih k2 (by have := HJ2.out; have := HK2.out; omega) ((rd_T37 l0_1 x5_2).f0) _ _ ((rd_T37 l0_1 x5_2).f1) (wrap64 (a1 - 1)) true _ ?side1 ?side2 A14.out).mono ?_); (case side1 => repeat (first | exact (Kd.C_below HR191_1.out HB.out) | (with_reducible refine Kd.C_alloc ?_ _) | (with_reducible refine Kd.C_drewN ?_ _) | (with_reducible refine Kd.C_drew ?_))); (case side2 => exact HC191_1.out); rintro e w17 ⟨rfl, hb⟩; replace BK188 := Aside0.mk (blk_below (g := gb188) (by (with_reducible repeat (first | refine blk_drewN ?_ _ | refine blk_drew ?_ | refine blk_alloc ?_ _)); exact BK188.out) hb); replace HB := Aside0.mk (below_step HB.out hb); (try clear hb); (try clear hb2); (try clear hk); (try clear hi))); try go_wp2_with (first | (go_at_call 33; (with_reducible refine (ih k2 (by have := HJ2.out; have := HK2.out; omega) ((rd_T37 l0_1 x5_2).f0) _ _ ((rd_T37 l0_1 x5_2).f1) (wrap64 (a1 - 1)) true _ ?side1 ?side2 A14.out).mono ?_); (case side1 => repeat (first | exact (Kd.C_below HR191_1.out HB.out) | (with_reducible refine Kd.C_alloc ?_ _) | (with_reducible refine Kd.C_drewN ?_ _) | (with_reducible refine Kd.C_drew ?_))); (case side2 => exact HC191_1.out); rintro e w17 ⟨rfl, hb⟩; replace BK188 := Aside0.mk (blk_below (g := gb188) (by (with_reducible repeat (first | refine blk_drewN ?_ _ | refine blk_drew ?_ | refine blk_alloc ?_ _)); exact BK188.out) hb); replace HB := Aside0.mk (below_step HB.out hb); (try clear hb); (try clear hb2); (try clear hk); (try clear hi))))
         go_roundg k2
         case measure => have := HJ2.out; have := HK2.out; omega
         case rel => exact ⟨(wrap64 (x5_2 + 1)), rfl, H', ⟨by have := HJ2.out; have := HK2.out; omega⟩, ⟨by (with_reducible repeat (first | refine blk_drewN ?_ _ | refine blk_drew ?_ | refine blk_alloc ?_ _)); exact BK188.out⟩, ⟨by repeat (first | (with_reducible first | exact HB.out | apply below_alloc | apply pw_below_drewN | apply below_drew1 | refine below_set ?_ GE188.out) | exact HB.out)⟩⟩
        ·replace c15 := Bool.eq_false_iff.mpr c15
         subst c15
         have H1 : (some false) = some r := by rw [if_neg (show ¬ (false = true) by decide)] at H; exact H
         clear H
         have H := H1
         clear H1
         obtain rfl := Option.some.inj H
         obtain ⟨_, _⟩ := cl2 BK188.out
         obtain ⟨_, _⟩ := fz2 BK188.out
         have p191 : 0 <= (x5_2 : Int) := of_decide_eq_true (by first | (with_reducible assumption) | assumption)
         have q191 : x5_2 < (l0_1.length : Int) := of_decide_eq_true (by first | (with_reducible assumption) | assumption)
         obtain ⟨ad191, A191_1, c191_1, e191, hx191_0, hx191_1, hl191_1, hi191_1⟩ := at_T37 HR0_1.out x5_2 p191 q191
         cases e191
         replace hx191_0 := (HB.out.cell (World.block_lt_of_cell? w _ hx191_0)).trans hx191_0
         replace hx191_1 := (HB.out.cell (World.block_lt_of_cell? w _ hx191_1)).trans hx191_1
         have HR191_1 := Aside0.mk hi191_1
         have HC191_1 := Aside0.mk hl191_1
         clear hi191_1 hl191_1
         replace p191 := eq_true p191
         replace q191 := eq_true q191
         go_wp2_with (first | (go_at_call 33; (with_reducible refine (ih k2 (by have := HJ2.out; have := HK2.out; omega) ((rd_T37 l0_1 x5_2).f0) _ _ ((rd_T37 l0_1 x5_2).f1) (wrap64 (a1 - 1)) false _ ?side1 ?side2 A14.out).mono ?_); (case side1 => repeat (first | exact (Kd.C_below HR191_1.out HB.out) | (with_reducible refine Kd.C_alloc ?_ _) | (with_reducible refine Kd.C_drewN ?_ _) | (with_reducible refine Kd.C_drew ?_))); (case side2 => exact HC191_1.out); rintro e w19 ⟨rfl, hb⟩; replace BK188 := Aside0.mk (blk_below (g := gb188) (by (with_reducible repeat (first | refine blk_drewN ?_ _ | refine blk_drew ?_ | refine blk_alloc ?_ _)); exact BK188.out) hb); replace HB := Aside0.mk (below_step HB.out hb); (try clear hb); (try clear hb2); (try clear hk); (try clear hi)))
         repeat (go_quiet (first | (go_at_call 33; (with_reducible refine (ih k2 (by have := HJ2.out; have := HK2.out; omega) ((rd_T37 l0_1 x5_2).f0) _ _ ((rd_T37 l0_1 x5_2).f1) (wrap64 (a1 - 1)) false _ ?side1 ?side2 A14.out).mono ?_); (case side1 => repeat (first | exact (Kd.C_below HR191_1.out HB.out) | (with_reducible refine Kd.C_alloc ?_ _) | (with_reducible refine Kd.C_drewN ?_ _) | (with_reducible refine Kd.C_drew ?_))); (case side2 => exact HC191_1.out); rintro e w19 ⟨rfl, hb⟩; replace BK188 := Aside0.mk (blk_below (g := gb188) (by (with_reducible repeat (first | refine blk_drewN ?_ _ | refine blk_drew ?_ | refine blk_alloc ?_ _)); exact BK188.out) hb); replace HB := Aside0.mk (below_step HB.out hb); (try clear hb); (try clear hb2); (try clear hk); (try clear hi))); try go_wp2_with (first | (go_at_call 33; (with_reducible refine (ih k2 (by have := HJ2.out; have := HK2.out; omega) ((rd_T37 l0_1 x5_2).f0) _ _ ((rd_T37 l0_1 x5_2).f1) (wrap64 (a1 - 1)) false _ ?side1 ?side2 A14.out).mono ?_); (case side1 => repeat (first | exact (Kd.C_below HR191_1.out HB.out) | (with_reducible refine Kd.C_alloc ?_ _) | (with_reducible refine Kd.C_drewN ?_ _) | (with_reducible refine Kd.C_drew ?_))); (case side2 => exact HC191_1.out); rintro e w19 ⟨rfl, hb⟩; replace BK188 := Aside0.mk (blk_below (g := gb188) (by (with_reducible repeat (first | refine blk_drewN ?_ _ | refine blk_drew ?_ | refine blk_alloc ?_ _)); exact BK188.out) hb); replace HB := Aside0.mk (below_step HB.out hb); (try clear hb); (try clear hb2); (try clear hk); (try clear hi))))
         go_ret
         exact ⟨rfl, HB.out⟩
       ·rw [if_neg c13] at H
        exact absurd H (by simp)
      ·rw [if_neg c12] at H
       have c12b0 : decide (x5_2 < (l0_1.length : Int)) = false := decide_eq_false c12
       clear c12
       obtain rfl := Option.some.inj H
       obtain ⟨_, _⟩ := cl2 BK188.out
       obtain ⟨_, _⟩ := fz2 BK188.out
       go_wp2
       repeat (go_quiet (fail); try go_wp2)
       go_ret
       exact ⟨rfl, HB.out⟩
end Go.Proofs.YtamfloegflejnaaGreatDoor
