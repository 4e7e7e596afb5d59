/-
 Taken over from the print: form.
-/
import Derived.Test.YtamfloegflejnaaGreatDoorH1
import Derived.Test.YtamfloegflejnaaGreatDoorR1
import Derived.Test.YtamfloegflejnaaGreatDoorR2
set_option linter.unusedVariables false
set_option linter.unusedSimpArgs false
set_option maxHeartbeats 8000000
set_option maxRecDepth 100000
namespace Go.Proofs.YtamfloegflejnaaGreatDoor
open Go.RowKit Go.Proofs.YtamfloegflejnaaGreatDoorW.PrintWords Go.Proofs.YtamfloegflejnaaGreatDoorW.PrintLast Go.Proofs.YtamfloegflejnaaGreatDoorW.PrintMore PGraphLines
attribute [local go_sem] max2_int min2_int max_two min_two max_three min_three max_four min_four
theorem eqA39 (d : Nat) (w : World) (x0 y0 : Int) (x1 y1 : Int) (x2 y2 : Int) (x3 y3 : Int) :
  (Op.equalIn (d + 2) 39 (.agg #[.int .i64 x0, .int .i64 x1, .int .i64 x2, .int .i64 x3]) (.agg #[.int .i64 y0, .int .i64 y1, .int .i64 y2, .int .i64 y3])).run Tryz.prog w = .ok (x0 == y0 && (x1 == y1 && (x2 == y2 && (x3 == y3)))) w := by
 refine eqA_of Tryz.underlying39 (by kernel_rfl) ?_
 refine eqf_cons (by rfl) (by go_simp; rfl) (by go_simp; rfl) (by go_simp) ?_
 refine eqf_cons (by rfl) (by go_simp; rfl) (by go_simp; rfl) (by go_simp) ?_
 refine eqf_cons (by rfl) (by go_simp; rfl) (by go_simp; rfl) (by go_simp) ?_
 exact eqf_last (by rfl) (by go_simp; rfl) (by go_simp; rfl) (by go_simp)
theorem eqA41 (d : Nat) (w : World) (x0 y0 : Int) (x1 y1 : Int) (x2 y2 : Int) (x3 y3 : Bool) :
  (Op.equalIn (d + 2) 41 (.agg #[.int .i64 x0, .int .i64 x1, .int .i64 x2, .bool x3]) (.agg #[.int .i64 y0, .int .i64 y1, .int .i64 y2, .bool y3])).run Tryz.prog w = .ok (x0 == y0 && (x1 == y1 && (x2 == y2 && (x3 == y3)))) w := by
 refine eqA_of Tryz.underlying41 (by kernel_rfl) ?_
 refine eqf_cons (by rfl) (by go_simp; rfl) (by go_simp; rfl) (by go_simp) ?_
 refine eqf_cons (by rfl) (by go_simp; rfl) (by go_simp; rfl) (by go_simp) ?_
 refine eqf_cons (by rfl) (by go_simp; rfl) (by go_simp; rfl) (by go_simp) ?_
 exact eqf_last (by rfl) (by go_simp; rfl) (by go_simp; rfl) (by go_simp)
attribute [local go_sem high] eqA39 eqA41
theorem ne_nil_is (l : List UInt8) : (l != []) = !l.isEmpty := by cases l <;> rfl
/-! ### r11_form: function 16 -/
mutual
def r11_form.j0 : Nat -> Bool -> Int -> List Int -> List Int -> ByteArray -> Int -> List (S37) -> Int -> Int -> Int -> Int -> Int -> Int -> Int -> Bool -> Option (Bool)
 | 0, _, _, _, _, _, _, _, _, _, _, _, _, _, _, _ => none
 | k + 1, x3, x200000, x200001, x200002, x200003, x200004, x200005, x200006, x200007, x200008, x200009, x200010, x200011, x200012, x200013 => if x3 = true then ((r11_Text.f k x200003).bind fun t200 => (if t200 = true then (r11_form.j1 k false x200000 x200001 x200002 x200003 x200004 x200005 x200006 x200007 x200008 x200009 x200010 x200011 x200012 x200013) else (r11_form.j1 k true x200000 x200001 x200002 x200003 x200004 x200005 x200006 x200007 x200008 x200009 x200010 x200011 x200012 x200013))) else (r11_form.j1 k (x200003.toList != ([] : List UInt8)) x200000 x200001 x200002 x200003 x200004 x200005 x200006 x200007 x200008 x200009 x200010 x200011 x200012 x200013)
def r11_form.j1 : Nat -> Bool -> Int -> List Int -> List Int -> ByteArray -> Int -> List (S37) -> Int -> Int -> Int -> Int -> Int -> Int -> Int -> Bool -> Option (Bool)
 | 0, _, _, _, _, _, _, _, _, _, _, _, _, _, _, _ => none
 | k + 1, x27, x200000, x200001, x200002, x200003, x200004, x200005, x200006, x200007, x200008, x200009, x200010, x200011, x200012, x200013 => if x27 = true then (some false) else (if x200000 = 1 then ((r02_Right.f k x200004 x200005 6).bind fun t201 => (if t201 = true then (r11_form.j2 k false x200000 x200001 x200002 x200003 x200004 x200005 x200006 x200007 x200008 x200009 x200010 x200011 x200012 x200013) else (r11_form.j2 k true x200000 x200001 x200002 x200003 x200004 x200005 x200006 x200007 x200008 x200009 x200010 x200011 x200012 x200013))) else (if x200004 = 0 then (r11_form.j2 k (decide ((x200005.length : Int) > 0)) x200000 x200001 x200002 x200003 x200004 x200005 x200006 x200007 x200008 x200009 x200010 x200011 x200012 x200013) else (r11_form.j2 k true x200000 x200001 x200002 x200003 x200004 x200005 x200006 x200007 x200008 x200009 x200010 x200011 x200012 x200013)))
def r11_form.j2 : Nat -> Bool -> Int -> List Int -> List Int -> ByteArray -> Int -> List (S37) -> Int -> Int -> Int -> Int -> Int -> Int -> Int -> Bool -> Option (Bool)
 | 0, _, _, _, _, _, _, _, _, _, _, _, _, _, _, _ => none
 | k + 1, x54, x200000, x200001, x200002, x200003, x200004, x200005, x200006, x200007, x200008, x200009, x200010, x200011, x200012, x200013 => if x54 = true then (some false) else (if x200000 = 3 then ((r07_Right.f x200006 x200007 x200008 x200009).bind fun t202 => (if t202 = true then (if x200000 = 4 then ((r10_Right.f x200010 x200011 x200012 x200013).bind fun t203 => (if t203 = true then (some true) else (some false))) else (some (x200010 == 0 && (x200011 == 0 && (x200012 == 0 && (!x200013)))))) else (some false))) else (if (!(x200006 == 0) || (!(x200007 == 0) || (!(x200008 == 0) || (!(x200009 == 0))))) = true then (some false) else (if x200000 = 4 then ((r10_Right.f x200010 x200011 x200012 x200013).bind fun t204 => (if t204 = true then (some true) else (some false))) else (some (x200010 == 0 && (x200011 == 0 && (x200012 == 0 && (!x200013))))))))
end
def r11_form.f (k : Nat) (a0_0 : Int) (l0_1 : List Int) (l0_2 : List Int) (a0_3 : ByteArray) (a0_4 : Int) (l0_5 : List (S37)) (a0_6 : Int) (a0_7 : Int) (a0_8 : Int) (a0_9 : Int) (a0_10 : Int) (a0_11 : Int) (a0_12 : Int) (a0_13 : Bool) : Option (Bool) := if a0_0 = 2 then (r11_form.j0 k true a0_0 l0_1 l0_2 a0_3 a0_4 l0_5 a0_6 a0_7 a0_8 a0_9 a0_10 a0_11 a0_12 a0_13) else (r11_form.j0 k (a0_0 == 4) a0_0 l0_1 l0_2 a0_3 a0_4 l0_5 a0_6 a0_7 a0_8 a0_9 a0_10 a0_11 a0_12 a0_13)
theorem r11_form.calls (k : Nat) (a0_0 : Int) (A0_1 : Option Addr) (c0_1 : Nat) (l0_1 : List Int) (A0_2 : Option Addr) (c0_2 : Nat) (l0_2 : List Int) (a0_3 : ByteArray) (a0_4 : Int) (A0_5 : Option Addr) (c0_5 : Nat) (l0_5 : List (S37)) (a0_6 : Int) (a0_7 : Int) (a0_8 : Int) (a0_9 : Int) (a0_10 : Int) (a0_11 : Int) (a0_12 : Int) (a0_13 : Bool) (r : Bool) (w : World) (hr0_1 : Kd.C (Kd.int .i64) w A0_1 l0_1.length l0_1) (hc0_1 : l0_1.length <= c0_1) (hr0_2 : Kd.C (Kd.int .i64) w A0_2 l0_2.length l0_2) (hc0_2 : l0_2.length <= c0_2) (hr0_5 : Kd.C k37 w A0_5 l0_5.length l0_5) (hc0_5 : l0_5.length <= c0_5) (h : r11_form.f k a0_0 l0_1 l0_2 a0_3 a0_4 l0_5 a0_6 a0_7 a0_8 a0_9 a0_10 a0_11 a0_12 a0_13 = some r) :
  Calls Tryz.prog 16 #[.agg #[.int .i64 a0_0, .slice A0_1 l0_1.length c0_1, .slice A0_2 l0_2.length c0_2, .string a0_3, .int .i64 a0_4, .slice A0_5 l0_5.length c0_5, .int .i64 a0_6, .int .i64 a0_7, .int .i64 a0_8, .int .i64 a0_9, .int .i64 a0_10, .int .i64 a0_11, .int .i64 a0_12, .bool a0_13]] w fun e w' => e = .returned (.bool r) ∧ Below w.heap.size w w' := by
 have hu43 := Tryz.underlying43
 have hu37 := Tryz.underlying37
 have hu39 := Tryz.underlying39
 have hu41 := Tryz.underlying41
 have HR0_1 := Aside0.mk hr0_1
 have HC0_1 := Aside0.mk hc0_1
 clear hr0_1 hc0_1
 have HR0_2 := Aside0.mk hr0_2
 have HC0_2 := Aside0.mk hc0_2
 clear hr0_2 hc0_2
 have HR0_5 := Aside0.mk hr0_5
 have HC0_5 := Aside0.mk hc0_5
 clear hr0_5 hc0_5
 have HB := Aside0.mk (Below.refl w.heap.size w)
 have H : (if a0_0 = 2 then (r11_form.j0 k true a0_0 l0_1 l0_2 a0_3 a0_4 l0_5 a0_6 a0_7 a0_8 a0_9 a0_10 a0_11 a0_12 a0_13) else (r11_form.j0 k (a0_0 == 4) a0_0 l0_1 l0_2 a0_3 a0_4 l0_5 a0_6 a0_7 a0_8 a0_9 a0_10 a0_11 a0_12 a0_13)) = some r := h
 clear h
 have HC2 := Aside0.mk H
 clear H
 go_enter Tryz.func16, Tryz.ntmps16
 go_upto_region 1 with (first | ((with_reducible refine gate_dst (N := 1) rfl ?_); (try (refine gate_guard (by rfl) ?_; dsimp only)); refine box_event ?hg (N := 1) ?hd (cs := #[.int .i64 a0_0, .slice A0_1 l0_1.length c0_1, .slice A0_2 l0_2.length c0_2, .string a0_3, .int .i64 a0_4, .slice A0_5 l0_5.length c0_5, .int .i64 a0_6, .int .i64 a0_7, .int .i64 a0_8, .int .i64 a0_9, .int .i64 a0_10, .int .i64 a0_11, .int .i64 a0_12, .bool a0_13]) (t := 43) ?hr ?_; (case hd => rfl); (case hg => rfl); (case hr => go_simp); intro gb199 hg w3 hbox hb; have BK199 := Aside0.mk (hbox); have GW199 := Aside0.mk ((by rw [hg]; exact (below_size HB.out) : w.heap.size <= gb199)); have GE199 := GW199; replace HB := Aside0.mk (below_step HB.out hb); clear hb hbox hg))
 (try simp only [Act.put, List.setIfInBounds_toArray, List.set_cons_zero, List.set_cons_succ])
 go_cut [3] (fun v3 wc => ∃ (kq : Nat) (x3_1 : Bool), v3 = .bool x3_1 ∧ Aside0 (r11_form.j0 kq x3_1 a0_0 l0_1 l0_2 a0_3 a0_4 l0_5 a0_6 a0_7 a0_8 a0_9 a0_10 a0_11 a0_12 a0_13 = some r) ∧ Aside0 (kq <= k) ∧ Aside0 (wc.heap[gb199]? = some (.cells #[.int .i64 a0_0, (.slice A0_1 l0_1.length c0_1), (.slice A0_2 l0_2.length c0_2), .string a0_3, .int .i64 a0_4, (.slice A0_5 l0_5.length c0_5), .int .i64 a0_6, .int .i64 a0_7, .int .i64 a0_8, .int .i64 a0_9, .int .i64 a0_10, .int .i64 a0_11, .int .i64 a0_12, .bool a0_13] 43 (0, 0))) ∧ Aside0 (Below w.heap.size w wc))
 case first =>
  have H := HC2.out
  clear HC2
  by_cases c4 : a0_0 = 2
  ·rw [if_pos c4] at H
   obtain ⟨c4b0, c4b1⟩ := eqB c4
   clear c4
   (first | rw [c4b0] | (simp only [i64_w, i32_w]; rw [c4b0]) | skip)
   have H' := Aside0.mk H
   clear H
   obtain ⟨_, _, _, _, _, _, _, _, _, _, _, _, _, _⟩ := cl14 BK199.out
   obtain ⟨_, _, _, _, _, _, _, _, _, _, _, _, _, _⟩ := fz14 BK199.out
   go_wp2
   go_meet
   case rel => exact ⟨_, (true), rfl, H', ⟨by first | omega | exact Nat.le_refl _⟩, ⟨by (with_reducible repeat (first | refine blk_drewN ?_ _ | refine blk_drew ?_ | refine blk_alloc ?_ _)); exact BK199.out⟩, ⟨by repeat (first | (with_reducible first | exact HB.out | apply below_alloc | apply pw_below_drewN | apply below_drew1 | refine below_set ?_ GE199.out) | exact HB.out)⟩⟩
  ·rw [if_neg c4] at H
   obtain ⟨c4b0, c4b1⟩ := neB c4
   (first | rw [c4b0] | (simp only [i64_w, i32_w]; rw [c4b0]) | skip)
   have H' := Aside0.mk H
   clear H
   obtain ⟨_, _, _, _, _, _, _, _, _, _, _, _, _, _⟩ := cl14 BK199.out
   obtain ⟨_, _, _, _, _, _, _, _, _, _, _, _, _, _⟩ := fz14 BK199.out
   go_wp2
   go_meet
   case rel => exact ⟨_, ((a0_0 == 4)), rfl, H', ⟨by first | omega | exact Nat.le_refl _⟩, ⟨by (with_reducible repeat (first | refine blk_drewN ?_ _ | refine blk_drew ?_ | refine blk_alloc ?_ _)); exact BK199.out⟩, ⟨by repeat (first | (with_reducible first | exact HB.out | apply below_alloc | apply pw_below_drewN | apply below_drew1 | refine below_set ?_ GE199.out) | exact HB.out)⟩⟩
 case rest =>
  clear HC2
  obtain ⟨kq, x3_1, rfl, HA, HJ1, BK199, HB⟩ := hcut
  cases kq with
  | zero => exact absurd HA.out (by simp [r11_form.j0])
  | succ kj1 =>
   have H := HA.out
   clear HA
   simp only [r11_form.j0] at H
   have HC7 := Aside0.mk H
   clear H
   go_upto_region 2 with (fail)
   go_cut [27] (fun v27 wc => ∃ (kq : Nat) (x27_6 : Bool), v27 = .bool x27_6 ∧ Aside0 (r11_form.j1 kq x27_6 a0_0 l0_1 l0_2 a0_3 a0_4 l0_5 a0_6 a0_7 a0_8 a0_9 a0_10 a0_11 a0_12 a0_13 = some r) ∧ Aside0 (kq <= kj1) ∧ Aside0 (wc.heap[gb199]? = some (.cells #[.int .i64 a0_0, (.slice A0_1 l0_1.length c0_1), (.slice A0_2 l0_2.length c0_2), .string a0_3, .int .i64 a0_4, (.slice A0_5 l0_5.length c0_5), .int .i64 a0_6, .int .i64 a0_7, .int .i64 a0_8, .int .i64 a0_9, .int .i64 a0_10, .int .i64 a0_11, .int .i64 a0_12, .bool a0_13] 43 (0, 0))) ∧ Aside0 (Below w.heap.size w wc))
   case first =>
    have H := HC7.out
    clear HC7
    by_cases c8 : x3_1 = true
    ·subst c8
     have H1 : ((r11_Text.f kj1 a0_3).bind fun t200 => (if t200 = true then (r11_form.j1 kj1 false a0_0 l0_1 l0_2 a0_3 a0_4 l0_5 a0_6 a0_7 a0_8 a0_9 a0_10 a0_11 a0_12 a0_13) else (r11_form.j1 kj1 true a0_0 l0_1 l0_2 a0_3 a0_4 l0_5 a0_6 a0_7 a0_8 a0_9 a0_10 a0_11 a0_12 a0_13))) = some r := by rw [if_pos rfl] at H; exact H
     clear H
     have H := H1
     clear H1
     replace H := Option.bind_eq_some_iff.mp H
     obtain ⟨t200, A90, H⟩ := H
     have A9 := Aside0.mk A90
     clear A90
     by_cases c10 : t200 = true
     ·subst c10
      have H1 : (r11_form.j1 kj1 false a0_0 l0_1 l0_2 a0_3 a0_4 l0_5 a0_6 a0_7 a0_8 a0_9 a0_10 a0_11 a0_12 a0_13) = some r := by rw [if_pos rfl] at H; exact H
      clear H
      have H := H1
      clear H1
      have H' := Aside0.mk H
      clear H
      obtain ⟨_, _, _, _, _, _, _, _, _, _, _, _, _, _⟩ := cl14 BK199.out
      obtain ⟨_, _, _, _, _, _, _, _, _, _, _, _, _, _⟩ := fz14 BK199.out
      go_wp2_with (first | (go_at_call 26; (with_reducible refine (r11_Text.calls kj1 a0_3 true _ A9.out).mono ?_); rintro e w' ⟨rfl, ⟨nd, rfl⟩⟩))
      go_meet
      case rel => exact ⟨_, (false), rfl, H', ⟨by have := HJ1.out; first | omega | exact Nat.le_refl _⟩, ⟨by (with_reducible repeat (first | refine blk_drewN ?_ _ | refine blk_drew ?_ | refine blk_alloc ?_ _)); exact BK199.out⟩, ⟨by repeat (first | (with_reducible first | exact HB.out | apply below_alloc | apply pw_below_drewN | apply below_drew1 | refine below_set ?_ GE199.out) | exact HB.out)⟩⟩
     ·replace c10 := Bool.eq_false_iff.mpr c10
      subst c10
      have H1 : (r11_form.j1 kj1 true a0_0 l0_1 l0_2 a0_3 a0_4 l0_5 a0_6 a0_7 a0_8 a0_9 a0_10 a0_11 a0_12 a0_13) = some r := by rw [if_neg (show ¬ (false = true) by decide)] at H; exact H
      clear H
      have H := H1
      clear H1
      have H' := Aside0.mk H
      clear H
      obtain ⟨_, _, _, _, _, _, _, _, _, _, _, _, _, _⟩ := cl14 BK199.out
      obtain ⟨_, _, _, _, _, _, _, _, _, _, _, _, _, _⟩ := fz14 BK199.out
      go_wp2_with (first | (go_at_call 26; (with_reducible refine (r11_Text.calls kj1 a0_3 false _ A9.out).mono ?_); rintro e w' ⟨rfl, ⟨nd, rfl⟩⟩))
      go_meet
      case rel => exact ⟨_, (true), rfl, H', ⟨by have := HJ1.out; first | omega | exact Nat.le_refl _⟩, ⟨by (with_reducible repeat (first | refine blk_drewN ?_ _ | refine blk_drew ?_ | refine blk_alloc ?_ _)); exact BK199.out⟩, ⟨by repeat (first | (with_reducible first | exact HB.out | apply below_alloc | apply pw_below_drewN | apply below_drew1 | refine below_set ?_ GE199.out) | exact HB.out)⟩⟩
    ·replace c8 := Bool.eq_false_iff.mpr c8
     subst c8
     have H1 : (r11_form.j1 kj1 (a0_3.toList != ([] : List UInt8)) a0_0 l0_1 l0_2 a0_3 a0_4 l0_5 a0_6 a0_7 a0_8 a0_9 a0_10 a0_11 a0_12 a0_13) = some r := by rw [if_neg (show ¬ (false = true) by decide)] at H; exact H
     clear H
     have H := H1
     clear H1
     have H' := Aside0.mk H
     clear H
     obtain ⟨_, _, _, _, _, _, _, _, _, _, _, _, _, _⟩ := cl14 BK199.out
     obtain ⟨_, _, _, _, _, _, _, _, _, _, _, _, _, _⟩ := fz14 BK199.out
     go_wp2
     go_meet
     case rel => exact ⟨_, ((a0_3.toList != ([] : List UInt8))), (by first | (rw [ne_nil_is]; done) | rfl | (simp; done) | (simp [*]; done)), H', ⟨by have := HJ1.out; first | omega | exact Nat.le_refl _⟩, ⟨by (with_reducible repeat (first | refine blk_drewN ?_ _ | refine blk_drew ?_ | refine blk_alloc ?_ _)); exact BK199.out⟩, ⟨by repeat (first | (with_reducible first | exact HB.out | apply below_alloc | apply pw_below_drewN | apply below_drew1 | refine below_set ?_ GE199.out) | exact HB.out)⟩⟩
   case rest =>
    clear HC7
    obtain ⟨kq, x27_6, rfl, HA, HJ6, BK199, HB⟩ := hcut
    cases kq with
    | zero => exact absurd HA.out (by simp [r11_form.j1])
    | succ kj6 =>
     have H := HA.out
     clear HA
     simp only [r11_form.j1] at H
     by_cases c14 : x27_6 = true
     ·subst c14
      have H1 : (some false) = some r := by rw [if_pos rfl] at H; exact H
      clear H
      have H := H1
      clear H1
      obtain rfl := Option.some.inj H
      go_wp2
      go_ret
      exact ⟨rfl, HB.out⟩
     ·replace c14 := Bool.eq_false_iff.mpr c14
      subst c14
      have H1 : (if a0_0 = 1 then ((r02_Right.f kj6 a0_4 l0_5 6).bind fun t201 => (if t201 = true then (r11_form.j2 kj6 false a0_0 l0_1 l0_2 a0_3 a0_4 l0_5 a0_6 a0_7 a0_8 a0_9 a0_10 a0_11 a0_12 a0_13) else (r11_form.j2 kj6 true a0_0 l0_1 l0_2 a0_3 a0_4 l0_5 a0_6 a0_7 a0_8 a0_9 a0_10 a0_11 a0_12 a0_13))) else (if a0_4 = 0 then (r11_form.j2 kj6 (decide ((l0_5.length : Int) > 0)) a0_0 l0_1 l0_2 a0_3 a0_4 l0_5 a0_6 a0_7 a0_8 a0_9 a0_10 a0_11 a0_12 a0_13) else (r11_form.j2 kj6 true a0_0 l0_1 l0_2 a0_3 a0_4 l0_5 a0_6 a0_7 a0_8 a0_9 a0_10 a0_11 a0_12 a0_13))) = some r := by rw [if_neg (show ¬ (false = true) by decide)] at H; exact H
      clear H
      have H := H1
      clear H1
      have HC15 := Aside0.mk H
      clear H
      go_upto_region 4 with (fail)
      go_cut [54] (fun v54 wc => ∃ (kq : Nat) (x54_14 : Bool), v54 = .bool x54_14 ∧ Aside0 (r11_form.j2 kq x54_14 a0_0 l0_1 l0_2 a0_3 a0_4 l0_5 a0_6 a0_7 a0_8 a0_9 a0_10 a0_11 a0_12 a0_13 = some r) ∧ Aside0 (kq <= kj6) ∧ Aside0 (wc.heap[gb199]? = some (.cells #[.int .i64 a0_0, (.slice A0_1 l0_1.length c0_1), (.slice A0_2 l0_2.length c0_2), .string a0_3, .int .i64 a0_4, (.slice A0_5 l0_5.length c0_5), .int .i64 a0_6, .int .i64 a0_7, .int .i64 a0_8, .int .i64 a0_9, .int .i64 a0_10, .int .i64 a0_11, .int .i64 a0_12, .bool a0_13] 43 (0, 0))) ∧ Aside0 (Below w.heap.size w wc))
      case first =>
       have H := HC15.out
       clear HC15
       by_cases c16 : a0_0 = 1
       ·rw [if_pos c16] at H
        obtain ⟨c16b0, c16b1⟩ := eqB c16
        clear c16
        (first | rw [c16b0] | (simp only [i64_w, i32_w]; rw [c16b0]) | skip)
        replace H := Option.bind_eq_some_iff.mp H
        obtain ⟨t201, A170, H⟩ := H
        have A17 := Aside0.mk A170
        clear A170
        by_cases c18 : t201 = true
        ·subst c18
         have H1 : (r11_form.j2 kj6 false a0_0 l0_1 l0_2 a0_3 a0_4 l0_5 a0_6 a0_7 a0_8 a0_9 a0_10 a0_11 a0_12 a0_13) = some r := by rw [if_pos rfl] at H; exact H
         clear H
         have H := H1
         clear H1
         have H' := Aside0.mk H
         clear H
         obtain ⟨_, _, _, _, _, _, _, _, _, _, _, _, _, _⟩ := cl14 BK199.out
         obtain ⟨_, _, _, _, _, _, _, _, _, _, _, _, _, _⟩ := fz14 BK199.out
         go_wp2_with (first | (go_at_call 33; (with_reducible refine (r02_Right.calls kj6 a0_4 _ _ l0_5 6 true _ ?side1 ?side2 A17.out).mono ?_); (case side1 => repeat (first | exact (Kd.C_below HR0_5.out HB.out) | (with_reducible refine Kd.C_alloc ?_ _) | (with_reducible refine Kd.C_drewN ?_ _) | (with_reducible refine Kd.C_drew ?_))); (case side2 => exact HC0_5.out); rintro e w20 ⟨rfl, hb⟩; replace BK199 := Aside0.mk (blk_below (g := gb199) (by (with_reducible repeat (first | refine blk_drewN ?_ _ | refine blk_drew ?_ | refine blk_alloc ?_ _)); exact BK199.out) hb); replace HB := Aside0.mk (below_step HB.out hb); (try clear hb); (try clear hb2); (try clear hk); (try clear hi); obtain ⟨_, _, _, _, _, _, _, _, _, _, _, _, _, _⟩ := cl14 BK199.out; obtain ⟨_, _, _, _, _, _, _, _, _, _, _, _, _, _⟩ := fz14 BK199.out))
         go_meet
         case rel => exact ⟨_, (false), rfl, H', ⟨by have := HJ1.out; have := HJ6.out; first | omega | exact Nat.le_refl _⟩, ⟨by (with_reducible repeat (first | refine blk_drewN ?_ _ | refine blk_drew ?_ | refine blk_alloc ?_ _)); exact BK199.out⟩, ⟨by repeat (first | (with_reducible first | exact HB.out | apply below_alloc | apply pw_below_drewN | apply below_drew1 | refine below_set ?_ GE199.out) | exact HB.out)⟩⟩
        ·replace c18 := Bool.eq_false_iff.mpr c18
         subst c18
         have H1 : (r11_form.j2 kj6 true a0_0 l0_1 l0_2 a0_3 a0_4 l0_5 a0_6 a0_7 a0_8 a0_9 a0_10 a0_11 a0_12 a0_13) = some r := by rw [if_neg (show ¬ (false = true) by decide)] at H; exact H
         clear H
         have H := H1
         clear H1
         have H' := Aside0.mk H
         clear H
         obtain ⟨_, _, _, _, _, _, _, _, _, _, _, _, _, _⟩ := cl14 BK199.out
         obtain ⟨_, _, _, _, _, _, _, _, _, _, _, _, _, _⟩ := fz14 BK199.out
         go_wp2_with (first | (go_at_call 33; (with_reducible refine (r02_Right.calls kj6 a0_4 _ _ l0_5 6 false _ ?side1 ?side2 A17.out).mono ?_); (case side1 => repeat (first | exact (Kd.C_below HR0_5.out HB.out) | (with_reducible refine Kd.C_alloc ?_ _) | (with_reducible refine Kd.C_drewN ?_ _) | (with_reducible refine Kd.C_drew ?_))); (case side2 => exact HC0_5.out); rintro e w23 ⟨rfl, hb⟩; replace BK199 := Aside0.mk (blk_below (g := gb199) (by (with_reducible repeat (first | refine blk_drewN ?_ _ | refine blk_drew ?_ | refine blk_alloc ?_ _)); exact BK199.out) hb); replace HB := Aside0.mk (below_step HB.out hb); (try clear hb); (try clear hb2); (try clear hk); (try clear hi)))
         go_meet
         case rel => exact ⟨_, (true), rfl, H', ⟨by have := HJ1.out; have := HJ6.out; first | omega | exact Nat.le_refl _⟩, ⟨by (with_reducible repeat (first | refine blk_drewN ?_ _ | refine blk_drew ?_ | refine blk_alloc ?_ _)); exact BK199.out⟩, ⟨by repeat (first | (with_reducible first | exact HB.out | apply below_alloc | apply pw_below_drewN | apply below_drew1 | refine below_set ?_ GE199.out) | exact HB.out)⟩⟩
       ·rw [if_neg c16] at H
        obtain ⟨c16b0, c16b1⟩ := neB c16
        (first | rw [c16b0] | (simp only [i64_w, i32_w]; rw [c16b0]) | skip)
        by_cases c24 : a0_4 = 0
        ·rw [if_pos c24] at H
         obtain ⟨c24b0, c24b1⟩ := eqB c24
         clear c24
         have H' := Aside0.mk H
         clear H
         obtain ⟨_, _, _, _, _, _, _, _, _, _, _, _, _, _⟩ := cl14 BK199.out
         obtain ⟨_, _, _, _, _, _, _, _, _, _, _, _, _, _⟩ := fz14 BK199.out
         go_wp2
         go_meet
         case rel => exact ⟨_, (decide ((l0_5.length : Int) > 0)), (by first | rfl | (simp; done) | (simp [*]; done)), H', ⟨by have := HJ1.out; have := HJ6.out; first | omega | exact Nat.le_refl _⟩, ⟨by (with_reducible repeat (first | refine blk_drewN ?_ _ | refine blk_drew ?_ | refine blk_alloc ?_ _)); exact BK199.out⟩, ⟨by repeat (first | (with_reducible first | exact HB.out | apply below_alloc | apply pw_below_drewN | apply below_drew1 | refine below_set ?_ GE199.out) | exact HB.out)⟩⟩
        ·rw [if_neg c24] at H
         obtain ⟨c24b0, c24b1⟩ := neB c24
         have H' := Aside0.mk H
         clear H
         obtain ⟨_, _, _, _, _, _, _, _, _, _, _, _, _, _⟩ := cl14 BK199.out
         obtain ⟨_, _, _, _, _, _, _, _, _, _, _, _, _, _⟩ := fz14 BK199.out
         go_wp2
         go_meet
         case rel => exact ⟨_, (true), rfl, H', ⟨by have := HJ1.out; have := HJ6.out; first | omega | exact Nat.le_refl _⟩, ⟨by (with_reducible repeat (first | refine blk_drewN ?_ _ | refine blk_drew ?_ | refine blk_alloc ?_ _)); exact BK199.out⟩, ⟨by repeat (first | (with_reducible first | exact HB.out | apply below_alloc | apply pw_below_drewN | apply below_drew1 | refine below_set ?_ GE199.out) | exact HB.out)⟩⟩
      case rest =>
       clear HC15
       obtain ⟨kq, x54_14, rfl, HA, HJ14, BK199, HB⟩ := hcut
       cases kq with
       | zero => exact absurd HA.out (by simp [r11_form.j2])
       | succ kj14 =>
        have H := HA.out
        clear HA
        simp only [r11_form.j2] at H
        by_cases c27 : x54_14 = true
        ·subst c27
         have H1 : (some false) = some r := by rw [if_pos rfl] at H; exact H
         clear H
         have H := H1
         clear H1
         obtain rfl := Option.some.inj H
         go_wp2
         go_ret
         exact ⟨rfl, HB.out⟩
        ·replace c27 := Bool.eq_false_iff.mpr c27
         subst c27
         have H1 : (if a0_0 = 3 then ((r07_Right.f a0_6 a0_7 a0_8 a0_9).bind fun t202 => (if t202 = true then (if a0_0 = 4 then ((r10_Right.f a0_10 a0_11 a0_12 a0_13).bind fun t203 => (if t203 = true then (some true) else (some false))) else (some (a0_10 == 0 && (a0_11 == 0 && (a0_12 == 0 && (!a0_13)))))) else (some false))) else (if (!(a0_6 == 0) || (!(a0_7 == 0) || (!(a0_8 == 0) || (!(a0_9 == 0))))) = true then (some false) else (if a0_0 = 4 then ((r10_Right.f a0_10 a0_11 a0_12 a0_13).bind fun t204 => (if t204 = true then (some true) else (some false))) else (some (a0_10 == 0 && (a0_11 == 0 && (a0_12 == 0 && (!a0_13)))))))) = some r := by rw [if_neg (show ¬ (false = true) by decide)] at H; exact H
         clear H
         have H := H1
         clear H1
         by_cases c28 : a0_0 = 3
         ·rw [if_pos c28] at H
          obtain ⟨c28b0, c28b1⟩ := eqB c28
          clear c28
          replace H := Option.bind_eq_some_iff.mp H
          obtain ⟨t202, A290, H⟩ := H
          have A29 := Aside0.mk A290
          clear A290
          by_cases c30 : t202 = true
          ·subst c30
           have H1 : (if a0_0 = 4 then ((r10_Right.f a0_10 a0_11 a0_12 a0_13).bind fun t203 => (if t203 = true then (some true) else (some false))) else (some (a0_10 == 0 && (a0_11 == 0 && (a0_12 == 0 && (!a0_13)))))) = some r := by rw [if_pos rfl] at H; exact H
           clear H
           have H := H1
           clear H1
           by_cases c31 : a0_0 = 4
           ·rw [if_pos c31] at H
            obtain ⟨c31b0, c31b1⟩ := eqB c31
            clear c31
            replace H := Option.bind_eq_some_iff.mp H
            obtain ⟨t203, A320, H⟩ := H
            have A32 := Aside0.mk A320
            clear A320
            by_cases c33 : t203 = true
            ·subst c33
             have H1 : (some true) = some r := by rw [if_pos rfl] at H; exact H
             clear H
             have H := H1
             clear H1
             obtain rfl := Option.some.inj H
             obtain ⟨_, _, _, _, _, _, _, _, _, _, _, _, _, _⟩ := cl14 BK199.out
             obtain ⟨_, _, _, _, _, _, _, _, _, _, _, _, _, _⟩ := fz14 BK199.out
             go_wp2_with (first | (go_at_call 34; (with_reducible refine (r07_Right.calls a0_6 a0_7 a0_8 a0_9 true _ A29.out).mono ?_); rintro e w35 ⟨rfl, hb⟩; replace BK199 := Aside0.mk (blk_below (g := gb199) (by (with_reducible repeat (first | refine blk_drewN ?_ _ | refine blk_drew ?_ | refine blk_alloc ?_ _)); exact BK199.out) hb); replace HB := Aside0.mk (below_step HB.out hb); (try clear hb); (try clear hb2); (try clear hk); (try clear hi); obtain ⟨_, _, _, _, _, _, _, _, _, _, _, _, _, _⟩ := cl14 BK199.out; obtain ⟨_, _, _, _, _, _, _, _, _, _, _, _, _, _⟩ := fz14 BK199.out) | (go_at_call 35; (with_reducible refine (r10_Right.calls a0_10 a0_11 a0_12 a0_13 true _ A32.out).mono ?_); rintro e w37 ⟨rfl, hb⟩; replace BK199 := Aside0.mk (blk_below (g := gb199) (by (with_reducible repeat (first | refine blk_drewN ?_ _ | refine blk_drew ?_ | refine blk_alloc ?_ _)); exact BK199.out) hb); replace HB := Aside0.mk (below_step HB.out hb); (try clear hb); (try clear hb2); (try clear hk); (try clear hi)))
             go_ret
             exact ⟨rfl, HB.out⟩
            ·replace c33 := Bool.eq_false_iff.mpr c33
             subst c33
             have H1 : (some false) = some r := by rw [if_neg (show ¬ (false = true) by decide)] at H; exact H
             clear H
             have H := H1
             clear H1
             obtain rfl := Option.some.inj H
             obtain ⟨_, _, _, _, _, _, _, _, _, _, _, _, _, _⟩ := cl14 BK199.out
             obtain ⟨_, _, _, _, _, _, _, _, _, _, _, _, _, _⟩ := fz14 BK199.out
             go_wp2_with (first | (go_at_call 34; (with_reducible refine (r07_Right.calls a0_6 a0_7 a0_8 a0_9 true _ A29.out).mono ?_); rintro e w39 ⟨rfl, hb⟩; replace BK199 := Aside0.mk (blk_below (g := gb199) (by (with_reducible repeat (first | refine blk_drewN ?_ _ | refine blk_drew ?_ | refine blk_alloc ?_ _)); exact BK199.out) hb); replace HB := Aside0.mk (below_step HB.out hb); (try clear hb); (try clear hb2); (try clear hk); (try clear hi); obtain ⟨_, _, _, _, _, _, _, _, _, _, _, _, _, _⟩ := cl14 BK199.out; obtain ⟨_, _, _, _, _, _, _, _, _, _, _, _, _, _⟩ := fz14 BK199.out) | (go_at_call 35; (with_reducible refine (r10_Right.calls a0_10 a0_11 a0_12 a0_13 false _ A32.out).mono ?_); rintro e w41 ⟨rfl, hb⟩; replace BK199 := Aside0.mk (blk_below (g := gb199) (by (with_reducible repeat (first | refine blk_drewN ?_ _ | refine blk_drew ?_ | refine blk_alloc ?_ _)); exact BK199.out) hb); replace HB := Aside0.mk (below_step HB.out hb); (try clear hb); (try clear hb2); (try clear hk); (try clear hi); obtain ⟨_, _, _, _, _, _, _, _, _, _, _, _, _, _⟩ := cl14 BK199.out; obtain ⟨_, _, _, _, _, _, _, _, _, _, _, _, _, _⟩ := fz14 BK199.out))
             go_ret
             exact ⟨rfl, HB.out⟩
           ·rw [if_neg c31] at H
            obtain ⟨c31b0, c31b1⟩ := neB c31
            obtain rfl := Option.some.inj H
            obtain ⟨_, _, _, _, _, _, _, _, _, _, _, _, _, _⟩ := cl14 BK199.out
            obtain ⟨_, _, _, _, _, _, _, _, _, _, _, _, _, _⟩ := fz14 BK199.out
            go_wp2_with (first | (go_at_call 34; (with_reducible refine (r07_Right.calls a0_6 a0_7 a0_8 a0_9 true _ A29.out).mono ?_); rintro e w44 ⟨rfl, hb⟩; replace BK199 := Aside0.mk (blk_below (g := gb199) (by (with_reducible repeat (first | refine blk_drewN ?_ _ | refine blk_drew ?_ | refine blk_alloc ?_ _)); exact BK199.out) hb); replace HB := Aside0.mk (below_step HB.out hb); (try clear hb); (try clear hb2); (try clear hk); (try clear hi); obtain ⟨_, _, _, _, _, _, _, _, _, _, _, _, _, _⟩ := cl14 BK199.out; obtain ⟨_, _, _, _, _, _, _, _, _, _, _, _, _, _⟩ := fz14 BK199.out))
            go_ret
            exact ⟨rfl, HB.out⟩
          ·replace c30 := Bool.eq_false_iff.mpr c30
           subst c30
           have H1 : (some false) = some r := by rw [if_neg (show ¬ (false = true) by decide)] at H; exact H
           clear H
           have H := H1
           clear H1
           obtain rfl := Option.some.inj H
           obtain ⟨_, _, _, _, _, _, _, _, _, _, _, _, _, _⟩ := cl14 BK199.out
           obtain ⟨_, _, _, _, _, _, _, _, _, _, _, _, _, _⟩ := fz14 BK199.out
           go_wp2_with (first | (go_at_call 34; (with_reducible refine (r07_Right.calls a0_6 a0_7 a0_8 a0_9 false _ A29.out).mono ?_); rintro e w47 ⟨rfl, hb⟩; replace BK199 := Aside0.mk (blk_below (g := gb199) (by (with_reducible repeat (first | refine blk_drewN ?_ _ | refine blk_drew ?_ | refine blk_alloc ?_ _)); exact BK199.out) hb); replace HB := Aside0.mk (below_step HB.out hb); (try clear hb); (try clear hb2); (try clear hk); (try clear hi)))
           go_ret
           exact ⟨rfl, HB.out⟩
         ·rw [if_neg c28] at H
          obtain ⟨c28b0, c28b1⟩ := neB c28
          by_cases c48 : (!(a0_6 == 0) || (!(a0_7 == 0) || (!(a0_8 == 0) || (!(a0_9 == 0))))) = true
          ·rw [if_pos c48] at H
           have c48b0 : (!(a0_6 == 0) || (!(a0_7 == 0) || (!(a0_8 == 0) || (!(a0_9 == 0))))) = true := c48
           clear c48
           obtain rfl := Option.some.inj H
           obtain ⟨_, _, _, _, _, _, _, _, _, _, _, _, _, _⟩ := cl14 BK199.out
           obtain ⟨_, _, _, _, _, _, _, _, _, _, _, _, _, _⟩ := fz14 BK199.out
           go_wp2
           go_ret
           exact ⟨rfl, HB.out⟩
          ·rw [if_neg c48] at H
           have c48b0 : (!(a0_6 == 0) || (!(a0_7 == 0) || (!(a0_8 == 0) || (!(a0_9 == 0))))) = false := by simpa using c48
           clear c48
           by_cases c50 : a0_0 = 4
           ·rw [if_pos c50] at H
            obtain ⟨c50b0, c50b1⟩ := eqB c50
            clear c50
            replace H := Option.bind_eq_some_iff.mp H
            obtain ⟨t204, A510, H⟩ := H
            have A51 := Aside0.mk A510
            clear A510
            by_cases c52 : t204 = true
            ·subst c52
             have H1 : (some true) = some r := by rw [if_pos rfl] at H; exact H
             clear H
             have H := H1
             clear H1
             obtain rfl := Option.some.inj H
             obtain ⟨_, _, _, _, _, _, _, _, _, _, _, _, _, _⟩ := cl14 BK199.out
             obtain ⟨_, _, _, _, _, _, _, _, _, _, _, _, _, _⟩ := fz14 BK199.out
             go_wp2_with (first | (go_at_call 35; (with_reducible refine (r10_Right.calls a0_10 a0_11 a0_12 a0_13 true _ A51.out).mono ?_); rintro e w54 ⟨rfl, hb⟩; replace BK199 := Aside0.mk (blk_below (g := gb199) (by (with_reducible repeat (first | refine blk_drewN ?_ _ | refine blk_drew ?_ | refine blk_alloc ?_ _)); exact BK199.out) hb); replace HB := Aside0.mk (below_step HB.out hb); (try clear hb); (try clear hb2); (try clear hk); (try clear hi)))
             go_ret
             exact ⟨rfl, HB.out⟩
            ·replace c52 := Bool.eq_false_iff.mpr c52
             subst c52
             have H1 : (some false) = some r := by rw [if_neg (show ¬ (false = true) by decide)] at H; exact H
             clear H
             have H := H1
             clear H1
             obtain rfl := Option.some.inj H
             obtain ⟨_, _, _, _, _, _, _, _, _, _, _, _, _, _⟩ := cl14 BK199.out
             obtain ⟨_, _, _, _, _, _, _, _, _, _, _, _, _, _⟩ := fz14 BK199.out
             go_wp2_with (first | (go_at_call 35; (with_reducible refine (r10_Right.calls a0_10 a0_11 a0_12 a0_13 false _ A51.out).mono ?_); rintro e w56 ⟨rfl, hb⟩; replace BK199 := Aside0.mk (blk_below (g := gb199) (by (with_reducible repeat (first | refine blk_drewN ?_ _ | refine blk_drew ?_ | refine blk_alloc ?_ _)); exact BK199.out) hb); replace HB := Aside0.mk (below_step HB.out hb); (try clear hb); (try clear hb2); (try clear hk); (try clear hi); obtain ⟨_, _, _, _, _, _, _, _, _, _, _, _, _, _⟩ := cl14 BK199.out; obtain ⟨_, _, _, _, _, _, _, _, _, _, _, _, _, _⟩ := fz14 BK199.out))
             go_ret
             exact ⟨rfl, HB.out⟩
           ·rw [if_neg c50] at H
            obtain ⟨c50b0, c50b1⟩ := neB c50
            obtain rfl := Option.some.inj H
            obtain ⟨_, _, _, _, _, _, _, _, _, _, _, _, _, _⟩ := cl14 BK199.out
            obtain ⟨_, _, _, _, _, _, _, _, _, _, _, _, _, _⟩ := fz14 BK199.out
            go_wp2
            go_ret
            exact ⟨rfl, HB.out⟩
end Go.Proofs.YtamfloegflejnaaGreatDoor
