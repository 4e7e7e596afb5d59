/-
  A printed walk, taken over for this claim: the walk of pipe.
-/
import Derived.Test.YtamfloegflejnaaGreatDoorH1
import Derived.Test.YtamfloegflejnaaGreatDoorH6
namespace Go.Proofs.YtamfloegflejnaaGreatDoor.PGraphLines
open Go.RowKit Go.Proofs.YtamfloegflejnaaGreatDoorW.PrintWords Go.Proofs.YtamfloegflejnaaGreatDoorW.PrintLast Go.Proofs.YtamfloegflejnaaGreatDoorW.PrintMore
attribute [local go_sem] max2_int min2_int max_two min_two max_three min_three max_four min_four   -- for this text's walks alone
set_option linter.unusedVariables false
set_option linter.unusedSimpArgs false

/-! ### watershedlaw11_pipe: function 12 -/
def watershedlaw11_pipe.l0 : Nat → List (S43) → Int → Int → List (S63) → Option ((List (S63)))
  | 0, _, _, _, _ => none
  | k + 1, x6, x7, x8, x189000 => if x8 < x7 then (if 0 ≤ x8 then (if x8 < (x6.length : Int) then ((some (([] : List Int) : List Int)).bind fun y191 => (if y191.length + ((rd_T43 x6 x8).f1).length < 17592186044416 then ((some (([] : List Int) : List Int)).bind fun y197 => (if y197.length + ((rd_T43 x6 x8).f2).length < 17592186044416 then ((watershedlaw11_typ.f k ((rd_T43 x6 x8).f4.f0) ((rd_T43 x6 x8).f4.f1)).bind fun bt203 => (if x189000.length < 837723144972 then (watershedlaw11_pipe.l0 k x6 x7 (wrap64 (x8 + 1)) (x189000 ++ [(⟨(rd_T43 x6 x8).f0, (y191 ++ ((rd_T43 x6 x8).f1)), (y197 ++ ((rd_T43 x6 x8).f2)), (rd_T43 x6 x8).f3, (⟨bt203.1, bt203.2⟩ : S59), (⟨(rd_T43 x6 x8).f5.f0, (rd_T43 x6 x8).f5.f1, (rd_T43 x6 x8).f5.f2, (rd_T43 x6 x8).f5.f3⟩ : S60), (⟨(rd_T43 x6 x8).f6.f0, (rd_T43 x6 x8).f6.f1, (rd_T43 x6 x8).f6.f2, (rd_T43 x6 x8).f6.f3⟩ : S61)⟩ : S63)])) else (none))) else (none))) else (none))) else (none)) else (none)) else (some x189000)
def watershedlaw11_pipe.f (k : Nat) (l0 : List (S43)) : Option ((List (S63))) := watershedlaw11_pipe.l0 k l0 (l0.length : Int) 0 ([] : List (S63))
theorem watershedlaw11_pipe.mono_l : ∀ k, (∀ y0 y1 y2 y3, LeO (watershedlaw11_pipe.l0 k y0 y1 y2 y3) (watershedlaw11_pipe.l0 (k + 1) y0 y1 y2 y3))
  | 0 => fun _ _ _ _ r h => by simp [watershedlaw11_pipe.l0] at h
  | k + 1 => by
    have ih0 := watershedlaw11_pipe.mono_l k
    · intro y0 y1 y2 y3
      unfold watershedlaw11_pipe.l0
      repeat' first
      | (with_reducible exact ih0 _ _ _ _)
      | (with_reducible exact watershedlaw11_typ.mono _ _ _)
      | (with_reducible exact LeO.refl _)
      | (with_reducible exact LeO.none _)
      | (with_reducible refine LeO.ite ?_ ?_)
      | (with_reducible refine LeO.bind ?_ (fun _ => ?_))
      | exact ih0 _ _ _ _
      | exact watershedlaw11_typ.mono _ _ _
      | exact LeO.none _
      | refine LeO.ite ?_ ?_
      | refine LeO.bind ?_ (fun _ => ?_)
theorem watershedlaw11_pipe.mono : ∀ a0 k, LeO (watershedlaw11_pipe.f k a0) (watershedlaw11_pipe.f (k + 1) a0) := by
  intro a0 k
  have ih0 := watershedlaw11_pipe.mono_l k
  unfold watershedlaw11_pipe.f
  repeat' first
      | (with_reducible exact ih0 _ _ _ _)
      | (with_reducible exact watershedlaw11_typ.mono _ _ _)
      | (with_reducible exact LeO.refl _)
      | (with_reducible exact LeO.none _)
      | (with_reducible refine LeO.ite ?_ ?_)
      | (with_reducible refine LeO.bind ?_ (fun _ => ?_))
      | exact ih0 _ _ _ _
      | exact watershedlaw11_typ.mono _ _ _
      | exact LeO.none _
      | refine LeO.ite ?_ ?_
      | refine LeO.bind ?_ (fun _ => ?_)
def watershedlaw11_pipe.T5 : Bool × List (List Nat × List Nat) := (true, [([], []), ([0], [0]), ([], []), ([2], [2]), ([], []), ([], []), ([5], [5]), ([4, 6], [4, 6]), ([], []), ([], []), ([9], [9]), ([8, 10, 7], [8, 10]), ([], []), ([12], [12]), ([], []), ([14], [14]), ([15, 11], [15]), ([], []), ([17], [17]), ([], []), ([19], [19]), ([3, 7, 11, 13, 16, 18, 20], [3, 7, 11, 13, 16, 18, 20]), ([21], [21]), ([1, 22, 16], [1, 22]), ([0, 1, 2, 3, 4, 5, 6, 7, 8, 9, 10, 11, 12, 13, 14, 15, 16, 17, 18, 19, 20, 21, 22, 23], []), ([24, 23, 23, 0, 1, 2, 3, 4, 5, 6, 7, 8, 9, 10, 11, 12, 13, 14, 15, 16, 17, 18, 19, 20, 21, 22, 23], [23, 24])])
def watershedlaw11_pipe.B5 : List Nat := [0, 1, 0, 4, 0, 0, 32, 112, 0, 0, 512, 2032, 0, 4096, 0, 16384, 53232, 0, 131072, 0, 524288, 2097148, 4194300, 8388607, 16777215, 33554431]
theorem watershedlaw11_pipe.tab5 : rtab .any (opsOf Tryz.f12 5) = watershedlaw11_pipe.T5 := by kernel_rfl
theorem watershedlaw11_pipe.bits5 : waitsOk watershedlaw11_pipe.T5.2 watershedlaw11_pipe.B5 = true := by kernel_rfl
set_option maxHeartbeats 8000000 in
set_option maxRecDepth 100000 in
theorem watershedlaw11_pipe.calls (k : Nat) (A0 : Option Addr) (c0 : Nat) (l0 : List (S43)) (r : List (S63)) (w : World) (hr0 : Kd.C k43 w A0 l0.length l0) (hc0 : l0.length ≤ c0) (h : watershedlaw11_pipe.f k l0 = some r) :
    Calls Tryz.prog 12 #[.slice A0 l0.length c0] w fun e w' => ∃ v0_ : Value, e = .returned (.agg #[v0_]) ∧ Kd.R k63 63 w' w.heap.size (fun _ => True) v0_ r ∧ Below w.heap.size w w' := by
  have hu29 := Tryz.underlying29
  have hu43 := Tryz.underlying43
  have hu37 := Tryz.underlying37
  have hu39 := Tryz.underlying39
  have hu41 := Tryz.underlying41
  have hu63 := Tryz.underlying63
  have HR0 := Aside0.mk hr0
  have HC0 := Aside0.mk hc0
  clear hr0 hc0
  have HB := Aside0.mk (Below.refl w.heap.size w)
  have H : (watershedlaw11_pipe.l0 k l0 (l0.length : Int) 0 ([] : List (S63))) = some r := h
  clear h
  have H' := Aside0.mk H
  clear H
  go_enter Tryz.func12, Tryz.ntmps12
  go_wp2_with (first | ((with_reducible refine gate_dst (N := 2) rfl ?_); refine box_event ?hg (N := 2) ?hd (cs := #[.slice none 0 0]) (t := 29) ?hr ?_; (case hd => rfl); (case hg => rfl); (case hr => first | (go_simp; done) | (go_simp; rfl)); intro gb187 hg w2 hbox hb; have n0_ := Aside0.mk (below_step (by repeat (first | (with_reducible first | exact HB.out | apply below_alloc | apply pw_below_drewN | apply below_drew1) | exact HB.out)) hb); have n1_ := Aside0.mk (hbox); have n2_ := Aside0.mk ((by rw [hg]; exact (below_size (by repeat (first | (with_reducible first | exact HB.out | apply below_alloc | apply pw_below_drewN | apply below_drew1) | exact HB.out))) : w.heap.size ≤ gb187)); have n3_ := Aside0.mk ((by rw [hg]; exact (below_size (by repeat (first | (with_reducible first | exact HB.out | apply below_alloc | apply pw_below_drewN | apply below_drew1) | exact HB.out))) : w.heap.size ≤ gb187)); clear HB; have HB := n0_; have BK187 := n1_; have GW187 := n2_; have GE187 := n3_; clear n0_ n1_ n2_ n3_; clear hb hbox hg) | ((with_reducible refine gate_dst (N := 3) rfl ?_); refine box_event ?hg (N := 3) ?hd (cs := #[.slice none 0 0]) (t := 29) ?hr ?_; (case hd => rfl); (case hg => rfl); (case hr => first | (go_simp; done) | (go_simp; rfl)); intro gb188 hg w3 hbox hb; have n0_ := Aside0.mk (blk_below (g := gb187) (o := .cells #[.slice none 0 0] 29 (0, 0)) (by (with_reducible repeat (first | refine blk_drewN ?_ _ | refine blk_drew ?_ | refine blk_alloc ?_ _)); exact BK187.out) hb); have n1_ := Aside0.mk (below_step (by repeat (first | (with_reducible first | exact HB.out | apply below_alloc | apply pw_below_drewN | apply below_drew1 | refine below_set ?_ GE187.out) | exact HB.out)) hb); have n2_ := Aside0.mk (hbox); have n3_ := Aside0.mk ((by rw [hg]; exact (below_size (by repeat (first | (with_reducible first | exact HB.out | apply below_alloc | apply pw_below_drewN | apply below_drew1 | refine below_set ?_ GE187.out) | exact HB.out))) : w.heap.size ≤ gb188)); have n4_ := Aside0.mk ((by rw [hg]; exact (below_size (by repeat (first | (with_reducible first | exact HB.out | apply below_alloc | apply pw_below_drewN | apply below_drew1 | refine below_set ?_ GE187.out) | exact HB.out))) : w.heap.size ≤ gb188)); have n5_ := Aside0.mk ((by rw [hg]; exact Nat.ne_of_lt (blk_lt (g := gb187) (o := .cells #[.slice none 0 0] 29 (0, 0)) (by (with_reducible repeat (first | refine blk_drewN ?_ _ | refine blk_drew ?_ | refine blk_alloc ?_ _)); exact BK187.out)) : gb187 ≠ gb188)); have n6_ := Aside0.mk ((by rw [hg]; exact Nat.ne_of_gt (blk_lt (g := gb187) (o := .cells #[.slice none 0 0] 29 (0, 0)) (by (with_reducible repeat (first | refine blk_drewN ?_ _ | refine blk_drew ?_ | refine blk_alloc ?_ _)); exact BK187.out)) : gb188 ≠ gb187)); clear BK187; clear HB; have BK187 := n0_; have HB := n1_; have BK188 := n2_; have GW188 := n3_; have GE188 := n4_; have NB187_188 := n5_; have NB188_187 := n6_; clear n0_ n1_ n2_ n3_ n4_ n5_ n6_; clear hb hbox hg))
  go_loopg [8] k (fun kq v8 w' => ∃ (x8_1 : Int) (x189000_1 : List (S63)) (u189000 : Value), v8 = .int .i64 x8_1 ∧ Aside0 (watershedlaw11_pipe.l0 kq l0 (l0.length : Int) x8_1 x189000_1 = some r) ∧ Aside0 (kq ≤ k) ∧ Aside0 (Kd.R k63 63 w' w.heap.size (fun _ => True) u189000 x189000_1) ∧ Aside0 (w'.heap[gb187]? = some (.cells #[(.slice none 0 0)] 29 (0, 0))) ∧ Aside0 (w'.heap[gb188]? = some (.cells #[u189000] 29 (0, 0))) ∧ Aside0 (Below w.heap.size w w'))
  case atStart => exact ⟨(0), (([] : List (S63))), (.slice none 0 0), (by first | rfl | (simp; done) | (simp [*]; done)), H', ⟨Nat.le_refl _⟩, ⟨by first | exact Kd.R_nil _ _ _ _ _ | exact Kd.N_nil _ _ _ _ _ | exact Kd.V_nil _ _ _ _ _ | exact Kd.Q_nil _ _ _ _ _ | exact Kd.S_nil _ _ _ _ _⟩, ⟨by (with_reducible repeat (first | refine blk_drewN ?_ _ | refine blk_drew ?_ | refine blk_alloc ?_ _)); exact BK187.out⟩, ⟨by (with_reducible repeat (first | refine blk_drewN ?_ _ | refine blk_drew ?_ | refine blk_alloc ?_ _)); exact BK188.out⟩, ⟨by repeat (first | (with_reducible first | exact HB.out | apply below_alloc | apply pw_below_drewN | apply below_drew1 | refine below_set ?_ GE187.out | refine below_set ?_ GE188.out) | exact HB.out)⟩⟩
  case round =>
    clear H'
    try clear c1
    try clear p2
    obtain ⟨x8_1, x189000_1, u189000, rfl, HA, HK1, HO_189000, BK187, BK188, HB⟩ := hrel
    cases gk with
    | zero => exact absurd HA.out (by simp [watershedlaw11_pipe.l0])
    | succ k1 =>
      have H := HA.out
      clear HA
      simp only [watershedlaw11_pipe.l0] at H
      by_cases c4 : x8_1 < (l0.length : Int)
      · rw [if_pos c4] at H
        have c4b0 : decide (x8_1 < (l0.length : Int)) = true := decide_eq_true c4
        clear c4
        by_cases c5 : 0 ≤ x8_1
        · rw [if_pos c5] at H
          have c5b0 : decide (0 ≤ x8_1) = true := decide_eq_true c5
          clear c5
          by_cases c6 : x8_1 < (l0.length : Int)
          · rw [if_pos c6] at H
            have c6b0 : decide (x8_1 < (l0.length : Int)) = true := decide_eq_true c6
            clear c6
            obtain ⟨y191, hy191⟩ : ∃ y_ : List Int, y_ = (([] : List Int)) := ⟨_, rfl⟩
            replace H : (if y191.length + ((rd_T43 l0 x8_1).f1).length < 17592186044416 then ((some (([] : List Int) : List Int)).bind fun y197 => (if y197.length + ((rd_T43 l0 x8_1).f2).length < 17592186044416 then ((watershedlaw11_typ.f k1 ((rd_T43 l0 x8_1).f4.f0) ((rd_T43 l0 x8_1).f4.f1)).bind fun bt203 => (if x189000_1.length < 837723144972 then (watershedlaw11_pipe.l0 k1 l0 (l0.length : Int) (wrap64 (x8_1 + 1)) (x189000_1 ++ [(⟨(rd_T43 l0 x8_1).f0, (y191 ++ ((rd_T43 l0 x8_1).f1)), (y197 ++ ((rd_T43 l0 x8_1).f2)), (rd_T43 l0 x8_1).f3, (⟨bt203.1, bt203.2⟩ : S59), (⟨(rd_T43 l0 x8_1).f5.f0, (rd_T43 l0 x8_1).f5.f1, (rd_T43 l0 x8_1).f5.f2, (rd_T43 l0 x8_1).f5.f3⟩ : S60), (⟨(rd_T43 l0 x8_1).f6.f0, (rd_T43 l0 x8_1).f6.f1, (rd_T43 l0 x8_1).f6.f2, (rd_T43 l0 x8_1).f6.f3⟩ : S61)⟩ : S63)])) else (none))) else (none))) else (none)) = some r := by first | (rw [hy191]; with_reducible exact H) | (have H2_ := (Option.bind_some _ _).symm.trans H; rw [hy191]; with_reducible exact H2_) | (have H2_ := (Option.bind_some _ _).symm.trans H; with_reducible exact H2_) | with_reducible exact H | (rw [hy191]; exact H) | exact H
            have Ny191 := Aside0.mk hy191
            clear hy191
            by_cases c7 : y191.length + ((rd_T43 l0 x8_1).f1).length < 17592186044416
            · rw [if_pos c7] at H
              have LMc7 := Aside0.mk c7
              clear c7
              obtain ⟨y194, hy194⟩ : ∃ y_ : List Int, y_ = (y191 ++ ((rd_T43 l0 x8_1).f1)) := ⟨_, rfl⟩
              replace H : ((some (([] : List Int) : List Int)).bind fun y197 => (if y197.length + ((rd_T43 l0 x8_1).f2).length < 17592186044416 then ((watershedlaw11_typ.f k1 ((rd_T43 l0 x8_1).f4.f0) ((rd_T43 l0 x8_1).f4.f1)).bind fun bt203 => (if x189000_1.length < 837723144972 then (watershedlaw11_pipe.l0 k1 l0 (l0.length : Int) (wrap64 (x8_1 + 1)) (x189000_1 ++ [(⟨(rd_T43 l0 x8_1).f0, y194, (y197 ++ ((rd_T43 l0 x8_1).f2)), (rd_T43 l0 x8_1).f3, (⟨bt203.1, bt203.2⟩ : S59), (⟨(rd_T43 l0 x8_1).f5.f0, (rd_T43 l0 x8_1).f5.f1, (rd_T43 l0 x8_1).f5.f2, (rd_T43 l0 x8_1).f5.f3⟩ : S60), (⟨(rd_T43 l0 x8_1).f6.f0, (rd_T43 l0 x8_1).f6.f1, (rd_T43 l0 x8_1).f6.f2, (rd_T43 l0 x8_1).f6.f3⟩ : S61)⟩ : S63)])) else (none))) else (none))) = some r := by first | (rw [hy194]; with_reducible exact H) | (have H2_ := (Option.bind_some _ _).symm.trans H; rw [hy194]; with_reducible exact H2_) | (have H2_ := (Option.bind_some _ _).symm.trans H; with_reducible exact H2_) | with_reducible exact H | (rw [hy194]; exact H) | exact H
              have Ny194 := Aside0.mk hy194
              clear hy194
              obtain ⟨y197, hy197⟩ : ∃ y_ : List Int, y_ = (([] : List Int)) := ⟨_, rfl⟩
              replace H : (if y197.length + ((rd_T43 l0 x8_1).f2).length < 17592186044416 then ((watershedlaw11_typ.f k1 ((rd_T43 l0 x8_1).f4.f0) ((rd_T43 l0 x8_1).f4.f1)).bind fun bt203 => (if x189000_1.length < 837723144972 then (watershedlaw11_pipe.l0 k1 l0 (l0.length : Int) (wrap64 (x8_1 + 1)) (x189000_1 ++ [(⟨(rd_T43 l0 x8_1).f0, y194, (y197 ++ ((rd_T43 l0 x8_1).f2)), (rd_T43 l0 x8_1).f3, (⟨bt203.1, bt203.2⟩ : S59), (⟨(rd_T43 l0 x8_1).f5.f0, (rd_T43 l0 x8_1).f5.f1, (rd_T43 l0 x8_1).f5.f2, (rd_T43 l0 x8_1).f5.f3⟩ : S60), (⟨(rd_T43 l0 x8_1).f6.f0, (rd_T43 l0 x8_1).f6.f1, (rd_T43 l0 x8_1).f6.f2, (rd_T43 l0 x8_1).f6.f3⟩ : S61)⟩ : S63)])) else (none))) else (none)) = some r := by first | (rw [hy197]; with_reducible exact H) | (have H2_ := (Option.bind_some _ _).symm.trans H; rw [hy197]; with_reducible exact H2_) | (have H2_ := (Option.bind_some _ _).symm.trans H; with_reducible exact H2_) | with_reducible exact H | (rw [hy197]; exact H) | exact H
              have Ny197 := Aside0.mk hy197
              clear hy197
              by_cases c8 : y197.length + ((rd_T43 l0 x8_1).f2).length < 17592186044416
              · rw [if_pos c8] at H
                have LMc8 := Aside0.mk c8
                clear c8
                obtain ⟨y200, hy200⟩ : ∃ y_ : List Int, y_ = (y197 ++ ((rd_T43 l0 x8_1).f2)) := ⟨_, rfl⟩
                replace H : ((watershedlaw11_typ.f k1 ((rd_T43 l0 x8_1).f4.f0) ((rd_T43 l0 x8_1).f4.f1)).bind fun bt203 => (if x189000_1.length < 837723144972 then (watershedlaw11_pipe.l0 k1 l0 (l0.length : Int) (wrap64 (x8_1 + 1)) (x189000_1 ++ [(⟨(rd_T43 l0 x8_1).f0, y194, y200, (rd_T43 l0 x8_1).f3, (⟨bt203.1, bt203.2⟩ : S59), (⟨(rd_T43 l0 x8_1).f5.f0, (rd_T43 l0 x8_1).f5.f1, (rd_T43 l0 x8_1).f5.f2, (rd_T43 l0 x8_1).f5.f3⟩ : S60), (⟨(rd_T43 l0 x8_1).f6.f0, (rd_T43 l0 x8_1).f6.f1, (rd_T43 l0 x8_1).f6.f2, (rd_T43 l0 x8_1).f6.f3⟩ : S61)⟩ : S63)])) else (none))) = some r := by first | (rw [hy200]; with_reducible exact H) | (have H2_ := (Option.bind_some _ _).symm.trans H; rw [hy200]; with_reducible exact H2_) | (have H2_ := (Option.bind_some _ _).symm.trans H; with_reducible exact H2_) | with_reducible exact H | (rw [hy200]; exact H) | exact H
                have Ny200 := Aside0.mk hy200
                clear hy200
                replace H := Option.bind_eq_some_iff.mp H
                obtain ⟨⟨t203, t204⟩, A90, H⟩ := H
                replace H : (if x189000_1.length < 837723144972 then (watershedlaw11_pipe.l0 k1 l0 (l0.length : Int) (wrap64 (x8_1 + 1)) (x189000_1 ++ [(⟨(rd_T43 l0 x8_1).f0, y194, y200, (rd_T43 l0 x8_1).f3, (⟨t203, t204⟩ : S59), (⟨(rd_T43 l0 x8_1).f5.f0, (rd_T43 l0 x8_1).f5.f1, (rd_T43 l0 x8_1).f5.f2, (rd_T43 l0 x8_1).f5.f3⟩ : S60), (⟨(rd_T43 l0 x8_1).f6.f0, (rd_T43 l0 x8_1).f6.f1, (rd_T43 l0 x8_1).f6.f2, (rd_T43 l0 x8_1).f6.f3⟩ : S61)⟩ : S63)])) else (none)) = some r := H
                have A9 := Aside0.mk A90
                clear A90
                by_cases c10 : x189000_1.length < 837723144972
                · rw [if_pos c10] at H
                  have LMc10 := Aside0.mk c10
                  clear c10
                  obtain ⟨y207, hy207⟩ : ∃ y_ : List (S63), y_ = (x189000_1 ++ [(⟨(rd_T43 l0 x8_1).f0, y194, y200, (rd_T43 l0 x8_1).f3, (⟨t203, t204⟩ : S59), (⟨(rd_T43 l0 x8_1).f5.f0, (rd_T43 l0 x8_1).f5.f1, (rd_T43 l0 x8_1).f5.f2, (rd_T43 l0 x8_1).f5.f3⟩ : S60), (⟨(rd_T43 l0 x8_1).f6.f0, (rd_T43 l0 x8_1).f6.f1, (rd_T43 l0 x8_1).f6.f2, (rd_T43 l0 x8_1).f6.f3⟩ : S61)⟩ : S63)]) := ⟨_, rfl⟩
                  replace H : (watershedlaw11_pipe.l0 k1 l0 (l0.length : Int) (wrap64 (x8_1 + 1)) y207) = some r := by first | (rw [hy207]; with_reducible exact H) | (have H2_ := (Option.bind_some _ _).symm.trans H; rw [hy207]; with_reducible exact H2_) | (have H2_ := (Option.bind_some _ _).symm.trans H; with_reducible exact H2_) | with_reducible exact H | (rw [hy207]; exact H) | exact H
                  have Ny207 := Aside0.mk hy207
                  clear hy207
                  have H' := Aside0.mk H
                  clear H
                  have p189 : 0 ≤ (x8_1 : Int) := of_decide_eq_true (by first | (with_reducible assumption) | assumption)
                  have q189 : x8_1 < (l0.length : Int) := of_decide_eq_true (by first | (with_reducible assumption) | assumption)
                  obtain ⟨ad189, A189_1, c189_1, A189_2, c189_2, A189_5, c189_5, e189, hx189_0, hx189_1, hx189_2, hx189_3, hx189_4, hx189_5, hx189_6, hx189_7, hx189_8, hx189_9, hx189_10, hx189_11, hx189_12, hx189_13, hl189_1, hi189_1, hl189_2, hi189_2, hl189_5, hi189_5⟩ := at_T43 HR0.out x8_1 p189 q189
                  cases e189
                  replace hx189_0 := (HB.out.cell (World.block_lt_of_cell? w _ hx189_0)).trans hx189_0
                  replace hx189_1 := (HB.out.cell (World.block_lt_of_cell? w _ hx189_1)).trans hx189_1
                  replace hx189_2 := (HB.out.cell (World.block_lt_of_cell? w _ hx189_2)).trans hx189_2
                  replace hx189_3 := (HB.out.cell (World.block_lt_of_cell? w _ hx189_3)).trans hx189_3
                  replace hx189_4 := (HB.out.cell (World.block_lt_of_cell? w _ hx189_4)).trans hx189_4
                  replace hx189_5 := (HB.out.cell (World.block_lt_of_cell? w _ hx189_5)).trans hx189_5
                  replace hx189_6 := (HB.out.cell (World.block_lt_of_cell? w _ hx189_6)).trans hx189_6
                  replace hx189_7 := (HB.out.cell (World.block_lt_of_cell? w _ hx189_7)).trans hx189_7
                  replace hx189_8 := (HB.out.cell (World.block_lt_of_cell? w _ hx189_8)).trans hx189_8
                  replace hx189_9 := (HB.out.cell (World.block_lt_of_cell? w _ hx189_9)).trans hx189_9
                  replace hx189_10 := (HB.out.cell (World.block_lt_of_cell? w _ hx189_10)).trans hx189_10
                  replace hx189_11 := (HB.out.cell (World.block_lt_of_cell? w _ hx189_11)).trans hx189_11
                  replace hx189_12 := (HB.out.cell (World.block_lt_of_cell? w _ hx189_12)).trans hx189_12
                  replace hx189_13 := (HB.out.cell (World.block_lt_of_cell? w _ hx189_13)).trans hx189_13
                  have HR189_1 := Aside0.mk hi189_1
                  have HC189_1 := Aside0.mk hl189_1
                  clear hi189_1 hl189_1
                  have HR189_2 := Aside0.mk hi189_2
                  have HC189_2 := Aside0.mk hl189_2
                  clear hi189_2 hl189_2
                  have HR189_5 := Aside0.mk hi189_5
                  have HC189_5 := Aside0.mk hl189_5
                  clear hi189_5 hl189_5
                  replace p189 := eq_true p189
                  replace q189 := eq_true q189
                  try go_wp2_with (first | ((with_reducible refine gate_dst (N := 5) rfl ?_); refine box_event ?hg (N := 5) ?hd (cs := #[.int .i64 0, .slice none 0 0, .slice none 0 0, .string (⟨#[]⟩ : ByteArray), .int .i64 0, .slice none 0 0, .int .i64 0, .int .i64 0, .int .i64 0, .int .i64 0, .int .i64 0, .int .i64 0, .int .i64 0, .bool false]) (t := 43) ?hr ?_; (case hd => rfl); (case hg => rfl); (case hr => first | (go_simp; done) | (go_simp; rfl)); intro gb190 hg w11 hbox hb; have n0_ := Aside0.mk (Kd.R_below (by (with_reducible repeat (first | apply Kd.R_alloc | apply Kd.R_drewN | apply Kd.R_drew)); exact HO_189000.out) hb); have n1_ := Aside0.mk (blk_below (g := gb187) (o := .cells #[.slice none 0 0] 29 (0, 0)) (by (with_reducible repeat (first | refine blk_drewN ?_ _ | refine blk_drew ?_ | refine blk_alloc ?_ _)); exact BK187.out) hb); have n2_ := Aside0.mk (blk_below (g := gb188) (o := .cells #[u189000] 29 (0, 0)) (by (with_reducible repeat (first | refine blk_drewN ?_ _ | refine blk_drew ?_ | refine blk_alloc ?_ _)); exact BK188.out) hb); have n3_ := Aside0.mk (below_step (by repeat (first | (with_reducible first | exact HB.out | apply below_alloc | apply pw_below_drewN | apply below_drew1 | refine below_set ?_ GE187.out | refine below_set ?_ GE188.out) | exact HB.out)) hb); have n4_ := Aside0.mk (hbox); have n5_ := Aside0.mk ((by rw [hg]; exact (below_size (by repeat (first | (with_reducible first | exact HB.out | apply below_alloc | apply pw_below_drewN | apply below_drew1 | refine below_set ?_ GE187.out | refine below_set ?_ GE188.out) | exact HB.out))) : w.heap.size ≤ gb190)); have n6_ := Aside0.mk ((by rw [hg]; exact (below_size (by repeat (first | (with_reducible first | exact HB.out | apply below_alloc | apply pw_below_drewN | apply below_drew1 | refine below_set ?_ GE187.out | refine below_set ?_ GE188.out) | exact HB.out))) : w.heap.size ≤ gb190)); have n7_ := Aside0.mk ((by rw [hg]; exact Nat.ne_of_lt (blk_lt (g := gb187) (o := .cells #[.slice none 0 0] 29 (0, 0)) (by (with_reducible repeat (first | refine blk_drewN ?_ _ | refine blk_drew ?_ | refine blk_alloc ?_ _)); exact BK187.out)) : gb187 ≠ gb190)); have n8_ := Aside0.mk ((by rw [hg]; exact Nat.ne_of_gt (blk_lt (g := gb187) (o := .cells #[.slice none 0 0] 29 (0, 0)) (by (with_reducible repeat (first | refine blk_drewN ?_ _ | refine blk_drew ?_ | refine blk_alloc ?_ _)); exact BK187.out)) : gb190 ≠ gb187)); have n9_ := Aside0.mk ((by rw [hg]; exact Nat.ne_of_lt (blk_lt (g := gb188) (o := .cells #[u189000] 29 (0, 0)) (by (with_reducible repeat (first | refine blk_drewN ?_ _ | refine blk_drew ?_ | refine blk_alloc ?_ _)); exact BK188.out)) : gb188 ≠ gb190)); have n10_ := Aside0.mk ((by rw [hg]; exact Nat.ne_of_gt (blk_lt (g := gb188) (o := .cells #[u189000] 29 (0, 0)) (by (with_reducible repeat (first | refine blk_drewN ?_ _ | refine blk_drew ?_ | refine blk_alloc ?_ _)); exact BK188.out)) : gb190 ≠ gb188)); clear HO_189000; clear BK187; clear BK188; clear HB; have HO_189000 := n0_; have BK187 := n1_; have BK188 := n2_; have HB := n3_; have BK190 := n4_; have GW190 := n5_; have GE190 := n6_; have NB187_190 := n7_; have NB190_187 := n8_; have NB188_190 := n9_; have NB190_188 := n10_; clear n0_ n1_ n2_ n3_ n4_ n5_ n6_ n7_ n8_ n9_ n10_; clear hb hbox hg; have hnb12 := NB190_187.out; have hnc12 := NB187_190.out; have hnb13 := NB190_188.out; have hnc13 := NB188_190.out; have hcz14_0 : w11.cell? ⟨gb190, 0, none⟩ = some (.int .i64 0) := (blk_cell BK190.out 0).trans rfl; have hcz14_1 : w11.cell? ⟨gb190, 1, none⟩ = some (.slice none 0 0) := (blk_cell BK190.out 1).trans rfl; have hcz14_2 : w11.cell? ⟨gb190, 2, none⟩ = some (.slice none 0 0) := (blk_cell BK190.out 2).trans rfl; have hcz14_3 : w11.cell? ⟨gb190, 3, none⟩ = some (.string (⟨#[]⟩ : ByteArray)) := (blk_cell BK190.out 3).trans rfl; have hcz14_4 : w11.cell? ⟨gb190, 4, none⟩ = some (.int .i64 0) := (blk_cell BK190.out 4).trans rfl; have hcz14_5 : w11.cell? ⟨gb190, 5, none⟩ = some (.slice none 0 0) := (blk_cell BK190.out 5).trans rfl; have hcz14_6 : w11.cell? ⟨gb190, 6, none⟩ = some (.int .i64 0) := (blk_cell BK190.out 6).trans rfl; have hcz14_7 : w11.cell? ⟨gb190, 7, none⟩ = some (.int .i64 0) := (blk_cell BK190.out 7).trans rfl; have hcz14_8 : w11.cell? ⟨gb190, 8, none⟩ = some (.int .i64 0) := (blk_cell BK190.out 8).trans rfl; have hcz14_9 : w11.cell? ⟨gb190, 9, none⟩ = some (.int .i64 0) := (blk_cell BK190.out 9).trans rfl; have hcz14_10 : w11.cell? ⟨gb190, 10, none⟩ = some (.int .i64 0) := (blk_cell BK190.out 10).trans rfl; have hcz14_11 : w11.cell? ⟨gb190, 11, none⟩ = some (.int .i64 0) := (blk_cell BK190.out 11).trans rfl; have hcz14_12 : w11.cell? ⟨gb190, 12, none⟩ = some (.int .i64 0) := (blk_cell BK190.out 12).trans rfl; have hcz14_13 : w11.cell? ⟨gb190, 13, none⟩ = some (.bool false) := (blk_cell BK190.out 13).trans rfl; have hfz14_0 := blk_frozen BK190.out 0; have hfz14_1 := blk_frozen BK190.out 1; have hfz14_2 := blk_frozen BK190.out 2; have hfz14_3 := blk_frozen BK190.out 3; have hfz14_4 := blk_frozen BK190.out 4; have hfz14_5 := blk_frozen BK190.out 5; have hfz14_6 := blk_frozen BK190.out 6; have hfz14_7 := blk_frozen BK190.out 7; have hfz14_8 := blk_frozen BK190.out 8; have hfz14_9 := blk_frozen BK190.out 9; have hfz14_10 := blk_frozen BK190.out 10; have hfz14_11 := blk_frozen BK190.out 11; have hfz14_12 := blk_frozen BK190.out 12; have hfz14_13 := blk_frozen BK190.out 13; obtain ⟨Ao15, co15, eo15⟩ := Kd.R_slice HO_189000.out; subst eo15))
                  have n0_ : Aside0 (Kd.R k63 63 ((((((((((((((w11.setCell ⟨gb190, 0, none⟩ (.int .i64 ((rd_T43 l0 x8_1).f0))).setCell ⟨gb190, 1, none⟩ (.slice A189_1 ((rd_T43 l0 x8_1).f1).length c189_1)).setCell ⟨gb190, 2, none⟩ (.slice A189_2 ((rd_T43 l0 x8_1).f2).length c189_2)).setCell ⟨gb190, 3, none⟩ (.string ((rd_T43 l0 x8_1).f3))).setCell ⟨gb190, 4, none⟩ (.int .i64 ((rd_T43 l0 x8_1).f4.f0))).setCell ⟨gb190, 5, none⟩ (.slice A189_5 ((rd_T43 l0 x8_1).f4.f1).length c189_5)).setCell ⟨gb190, 6, none⟩ (.int .i64 ((rd_T43 l0 x8_1).f5.f0))).setCell ⟨gb190, 7, none⟩ (.int .i64 ((rd_T43 l0 x8_1).f5.f1))).setCell ⟨gb190, 8, none⟩ (.int .i64 ((rd_T43 l0 x8_1).f5.f2))).setCell ⟨gb190, 9, none⟩ (.int .i64 ((rd_T43 l0 x8_1).f5.f3))).setCell ⟨gb190, 10, none⟩ (.int .i64 ((rd_T43 l0 x8_1).f6.f0))).setCell ⟨gb190, 11, none⟩ (.int .i64 ((rd_T43 l0 x8_1).f6.f1))).setCell ⟨gb190, 12, none⟩ (.int .i64 ((rd_T43 l0 x8_1).f6.f2))).setCell ⟨gb190, 13, none⟩ (.bool ((rd_T43 l0 x8_1).f6.f3))) w.heap.size (fun _ => True) (.slice Ao15 x189000_1.length co15) x189000_1) := ⟨by (with_reducible repeat (first | apply Kd.R_alloc | apply Kd.R_drewN | apply Kd.R_drew)); exact Kd.R_mono (Kd.R_far (p := ⟨gb190, 13, none⟩) (Kd.R_far (p := ⟨gb190, 12, none⟩) (Kd.R_far (p := ⟨gb190, 11, none⟩) (Kd.R_far (p := ⟨gb190, 10, none⟩) (Kd.R_far (p := ⟨gb190, 9, none⟩) (Kd.R_far (p := ⟨gb190, 8, none⟩) (Kd.R_far (p := ⟨gb190, 7, none⟩) (Kd.R_far (p := ⟨gb190, 6, none⟩) (Kd.R_far (p := ⟨gb190, 5, none⟩) (Kd.R_far (p := ⟨gb190, 4, none⟩) (Kd.R_far (p := ⟨gb190, 3, none⟩) (Kd.R_far (p := ⟨gb190, 2, none⟩) (Kd.R_far (p := ⟨gb190, 1, none⟩) (Kd.R_far (p := ⟨gb190, 0, none⟩) (Kd.R_types HO_189000.out BK190.out (by decide)) (fun _ hk => hk.2) (.int .i64 ((rd_T43 l0 x8_1).f0))) (fun _ hk => hk.2) (.slice A189_1 ((rd_T43 l0 x8_1).f1).length c189_1)) (fun _ hk => hk.2) (.slice A189_2 ((rd_T43 l0 x8_1).f2).length c189_2)) (fun _ hk => hk.2) (.string ((rd_T43 l0 x8_1).f3))) (fun _ hk => hk.2) (.int .i64 ((rd_T43 l0 x8_1).f4.f0))) (fun _ hk => hk.2) (.slice A189_5 ((rd_T43 l0 x8_1).f4.f1).length c189_5)) (fun _ hk => hk.2) (.int .i64 ((rd_T43 l0 x8_1).f5.f0))) (fun _ hk => hk.2) (.int .i64 ((rd_T43 l0 x8_1).f5.f1))) (fun _ hk => hk.2) (.int .i64 ((rd_T43 l0 x8_1).f5.f2))) (fun _ hk => hk.2) (.int .i64 ((rd_T43 l0 x8_1).f5.f3))) (fun _ hk => hk.2) (.int .i64 ((rd_T43 l0 x8_1).f6.f0))) (fun _ hk => hk.2) (.int .i64 ((rd_T43 l0 x8_1).f6.f1))) (fun _ hk => hk.2) (.int .i64 ((rd_T43 l0 x8_1).f6.f2))) (fun _ hk => hk.2) (.bool ((rd_T43 l0 x8_1).f6.f3))) (fun _ hk => trivial)⟩
                  have n1_ : Aside0 (((((((((((((((w11.setCell ⟨gb190, 0, none⟩ (.int .i64 ((rd_T43 l0 x8_1).f0))).setCell ⟨gb190, 1, none⟩ (.slice A189_1 ((rd_T43 l0 x8_1).f1).length c189_1)).setCell ⟨gb190, 2, none⟩ (.slice A189_2 ((rd_T43 l0 x8_1).f2).length c189_2)).setCell ⟨gb190, 3, none⟩ (.string ((rd_T43 l0 x8_1).f3))).setCell ⟨gb190, 4, none⟩ (.int .i64 ((rd_T43 l0 x8_1).f4.f0))).setCell ⟨gb190, 5, none⟩ (.slice A189_5 ((rd_T43 l0 x8_1).f4.f1).length c189_5)).setCell ⟨gb190, 6, none⟩ (.int .i64 ((rd_T43 l0 x8_1).f5.f0))).setCell ⟨gb190, 7, none⟩ (.int .i64 ((rd_T43 l0 x8_1).f5.f1))).setCell ⟨gb190, 8, none⟩ (.int .i64 ((rd_T43 l0 x8_1).f5.f2))).setCell ⟨gb190, 9, none⟩ (.int .i64 ((rd_T43 l0 x8_1).f5.f3))).setCell ⟨gb190, 10, none⟩ (.int .i64 ((rd_T43 l0 x8_1).f6.f0))).setCell ⟨gb190, 11, none⟩ (.int .i64 ((rd_T43 l0 x8_1).f6.f1))).setCell ⟨gb190, 12, none⟩ (.int .i64 ((rd_T43 l0 x8_1).f6.f2))).setCell ⟨gb190, 13, none⟩ (.bool ((rd_T43 l0 x8_1).f6.f3))).heap[gb187]? = some (.cells #[.slice none 0 0] 29 (0, 0))) := ⟨by (with_reducible repeat (first | refine blk_drewN ?_ _ | refine blk_drew ?_ | refine blk_alloc ?_ _)); refine blk_far ?_ NB187_190.out _; (with_reducible repeat (first | refine blk_drewN ?_ _ | refine blk_drew ?_ | refine blk_alloc ?_ _)); refine blk_far ?_ NB187_190.out _; (with_reducible repeat (first | refine blk_drewN ?_ _ | refine blk_drew ?_ | refine blk_alloc ?_ _)); refine blk_far ?_ NB187_190.out _; (with_reducible repeat (first | refine blk_drewN ?_ _ | refine blk_drew ?_ | refine blk_alloc ?_ _)); refine blk_far ?_ NB187_190.out _; (with_reducible repeat (first | refine blk_drewN ?_ _ | refine blk_drew ?_ | refine blk_alloc ?_ _)); refine blk_far ?_ NB187_190.out _; (with_reducible repeat (first | refine blk_drewN ?_ _ | refine blk_drew ?_ | refine blk_alloc ?_ _)); refine blk_far ?_ NB187_190.out _; (with_reducible repeat (first | refine blk_drewN ?_ _ | refine blk_drew ?_ | refine blk_alloc ?_ _)); refine blk_far ?_ NB187_190.out _; (with_reducible repeat (first | refine blk_drewN ?_ _ | refine blk_drew ?_ | refine blk_alloc ?_ _)); refine blk_far ?_ NB187_190.out _; (with_reducible repeat (first | refine blk_drewN ?_ _ | refine blk_drew ?_ | refine blk_alloc ?_ _)); refine blk_far ?_ NB187_190.out _; (with_reducible repeat (first | refine blk_drewN ?_ _ | refine blk_drew ?_ | refine blk_alloc ?_ _)); refine blk_far ?_ NB187_190.out _; (with_reducible repeat (first | refine blk_drewN ?_ _ | refine blk_drew ?_ | refine blk_alloc ?_ _)); refine blk_far ?_ NB187_190.out _; (with_reducible repeat (first | refine blk_drewN ?_ _ | refine blk_drew ?_ | refine blk_alloc ?_ _)); refine blk_far ?_ NB187_190.out _; (with_reducible repeat (first | refine blk_drewN ?_ _ | refine blk_drew ?_ | refine blk_alloc ?_ _)); refine blk_far ?_ NB187_190.out _; (with_reducible repeat (first | refine blk_drewN ?_ _ | refine blk_drew ?_ | refine blk_alloc ?_ _)); refine blk_far ?_ NB187_190.out _; (with_reducible repeat (first | refine blk_drewN ?_ _ | refine blk_drew ?_ | refine blk_alloc ?_ _)); exact BK187.out⟩
                  have n2_ : Aside0 (((((((((((((((w11.setCell ⟨gb190, 0, none⟩ (.int .i64 ((rd_T43 l0 x8_1).f0))).setCell ⟨gb190, 1, none⟩ (.slice A189_1 ((rd_T43 l0 x8_1).f1).length c189_1)).setCell ⟨gb190, 2, none⟩ (.slice A189_2 ((rd_T43 l0 x8_1).f2).length c189_2)).setCell ⟨gb190, 3, none⟩ (.string ((rd_T43 l0 x8_1).f3))).setCell ⟨gb190, 4, none⟩ (.int .i64 ((rd_T43 l0 x8_1).f4.f0))).setCell ⟨gb190, 5, none⟩ (.slice A189_5 ((rd_T43 l0 x8_1).f4.f1).length c189_5)).setCell ⟨gb190, 6, none⟩ (.int .i64 ((rd_T43 l0 x8_1).f5.f0))).setCell ⟨gb190, 7, none⟩ (.int .i64 ((rd_T43 l0 x8_1).f5.f1))).setCell ⟨gb190, 8, none⟩ (.int .i64 ((rd_T43 l0 x8_1).f5.f2))).setCell ⟨gb190, 9, none⟩ (.int .i64 ((rd_T43 l0 x8_1).f5.f3))).setCell ⟨gb190, 10, none⟩ (.int .i64 ((rd_T43 l0 x8_1).f6.f0))).setCell ⟨gb190, 11, none⟩ (.int .i64 ((rd_T43 l0 x8_1).f6.f1))).setCell ⟨gb190, 12, none⟩ (.int .i64 ((rd_T43 l0 x8_1).f6.f2))).setCell ⟨gb190, 13, none⟩ (.bool ((rd_T43 l0 x8_1).f6.f3))).heap[gb188]? = some (.cells #[.slice Ao15 x189000_1.length co15] 29 (0, 0))) := ⟨by (with_reducible repeat (first | refine blk_drewN ?_ _ | refine blk_drew ?_ | refine blk_alloc ?_ _)); refine blk_far ?_ NB188_190.out _; (with_reducible repeat (first | refine blk_drewN ?_ _ | refine blk_drew ?_ | refine blk_alloc ?_ _)); refine blk_far ?_ NB188_190.out _; (with_reducible repeat (first | refine blk_drewN ?_ _ | refine blk_drew ?_ | refine blk_alloc ?_ _)); refine blk_far ?_ NB188_190.out _; (with_reducible repeat (first | refine blk_drewN ?_ _ | refine blk_drew ?_ | refine blk_alloc ?_ _)); refine blk_far ?_ NB188_190.out _; (with_reducible repeat (first | refine blk_drewN ?_ _ | refine blk_drew ?_ | refine blk_alloc ?_ _)); refine blk_far ?_ NB188_190.out _; (with_reducible repeat (first | refine blk_drewN ?_ _ | refine blk_drew ?_ | refine blk_alloc ?_ _)); refine blk_far ?_ NB188_190.out _; (with_reducible repeat (first | refine blk_drewN ?_ _ | refine blk_drew ?_ | refine blk_alloc ?_ _)); refine blk_far ?_ NB188_190.out _; (with_reducible repeat (first | refine blk_drewN ?_ _ | refine blk_drew ?_ | refine blk_alloc ?_ _)); refine blk_far ?_ NB188_190.out _; (with_reducible repeat (first | refine blk_drewN ?_ _ | refine blk_drew ?_ | refine blk_alloc ?_ _)); refine blk_far ?_ NB188_190.out _; (with_reducible repeat (first | refine blk_drewN ?_ _ | refine blk_drew ?_ | refine blk_alloc ?_ _)); refine blk_far ?_ NB188_190.out _; (with_reducible repeat (first | refine blk_drewN ?_ _ | refine blk_drew ?_ | refine blk_alloc ?_ _)); refine blk_far ?_ NB188_190.out _; (with_reducible repeat (first | refine blk_drewN ?_ _ | refine blk_drew ?_ | refine blk_alloc ?_ _)); refine blk_far ?_ NB188_190.out _; (with_reducible repeat (first | refine blk_drewN ?_ _ | refine blk_drew ?_ | refine blk_alloc ?_ _)); refine blk_far ?_ NB188_190.out _; (with_reducible repeat (first | refine blk_drewN ?_ _ | refine blk_drew ?_ | refine blk_alloc ?_ _)); refine blk_far ?_ NB188_190.out _; (with_reducible repeat (first | refine blk_drewN ?_ _ | refine blk_drew ?_ | refine blk_alloc ?_ _)); exact BK188.out⟩
                  have n3_ : Aside0 (((((((((((((((w11.setCell ⟨gb190, 0, none⟩ (.int .i64 ((rd_T43 l0 x8_1).f0))).setCell ⟨gb190, 1, none⟩ (.slice A189_1 ((rd_T43 l0 x8_1).f1).length c189_1)).setCell ⟨gb190, 2, none⟩ (.slice A189_2 ((rd_T43 l0 x8_1).f2).length c189_2)).setCell ⟨gb190, 3, none⟩ (.string ((rd_T43 l0 x8_1).f3))).setCell ⟨gb190, 4, none⟩ (.int .i64 ((rd_T43 l0 x8_1).f4.f0))).setCell ⟨gb190, 5, none⟩ (.slice A189_5 ((rd_T43 l0 x8_1).f4.f1).length c189_5)).setCell ⟨gb190, 6, none⟩ (.int .i64 ((rd_T43 l0 x8_1).f5.f0))).setCell ⟨gb190, 7, none⟩ (.int .i64 ((rd_T43 l0 x8_1).f5.f1))).setCell ⟨gb190, 8, none⟩ (.int .i64 ((rd_T43 l0 x8_1).f5.f2))).setCell ⟨gb190, 9, none⟩ (.int .i64 ((rd_T43 l0 x8_1).f5.f3))).setCell ⟨gb190, 10, none⟩ (.int .i64 ((rd_T43 l0 x8_1).f6.f0))).setCell ⟨gb190, 11, none⟩ (.int .i64 ((rd_T43 l0 x8_1).f6.f1))).setCell ⟨gb190, 12, none⟩ (.int .i64 ((rd_T43 l0 x8_1).f6.f2))).setCell ⟨gb190, 13, none⟩ (.bool ((rd_T43 l0 x8_1).f6.f3))).heap[gb190]? = some (.cells #[.int .i64 ((rd_T43 l0 x8_1).f0), .slice A189_1 ((rd_T43 l0 x8_1).f1).length c189_1, .slice A189_2 ((rd_T43 l0 x8_1).f2).length c189_2, .string ((rd_T43 l0 x8_1).f3), .int .i64 ((rd_T43 l0 x8_1).f4.f0), .slice A189_5 ((rd_T43 l0 x8_1).f4.f1).length c189_5, .int .i64 ((rd_T43 l0 x8_1).f5.f0), .int .i64 ((rd_T43 l0 x8_1).f5.f1), .int .i64 ((rd_T43 l0 x8_1).f5.f2), .int .i64 ((rd_T43 l0 x8_1).f5.f3), .int .i64 ((rd_T43 l0 x8_1).f6.f0), .int .i64 ((rd_T43 l0 x8_1).f6.f1), .int .i64 ((rd_T43 l0 x8_1).f6.f2), .bool ((rd_T43 l0 x8_1).f6.f3)] 43 (0, 0))) := ⟨by (with_reducible repeat (first | refine blk_drewN ?_ _ | refine blk_drew ?_ | refine blk_alloc ?_ _)); refine blk_put (cs := #[.int .i64 ((rd_T43 l0 x8_1).f0), .slice A189_1 ((rd_T43 l0 x8_1).f1).length c189_1, .slice A189_2 ((rd_T43 l0 x8_1).f2).length c189_2, .string ((rd_T43 l0 x8_1).f3), .int .i64 ((rd_T43 l0 x8_1).f4.f0), .slice A189_5 ((rd_T43 l0 x8_1).f4.f1).length c189_5, .int .i64 ((rd_T43 l0 x8_1).f5.f0), .int .i64 ((rd_T43 l0 x8_1).f5.f1), .int .i64 ((rd_T43 l0 x8_1).f5.f2), .int .i64 ((rd_T43 l0 x8_1).f5.f3), .int .i64 ((rd_T43 l0 x8_1).f6.f0), .int .i64 ((rd_T43 l0 x8_1).f6.f1), .int .i64 ((rd_T43 l0 x8_1).f6.f2), .bool false]) ?_ 13 _ rfl; (with_reducible repeat (first | refine blk_drewN ?_ _ | refine blk_drew ?_ | refine blk_alloc ?_ _)); refine blk_put (cs := #[.int .i64 ((rd_T43 l0 x8_1).f0), .slice A189_1 ((rd_T43 l0 x8_1).f1).length c189_1, .slice A189_2 ((rd_T43 l0 x8_1).f2).length c189_2, .string ((rd_T43 l0 x8_1).f3), .int .i64 ((rd_T43 l0 x8_1).f4.f0), .slice A189_5 ((rd_T43 l0 x8_1).f4.f1).length c189_5, .int .i64 ((rd_T43 l0 x8_1).f5.f0), .int .i64 ((rd_T43 l0 x8_1).f5.f1), .int .i64 ((rd_T43 l0 x8_1).f5.f2), .int .i64 ((rd_T43 l0 x8_1).f5.f3), .int .i64 ((rd_T43 l0 x8_1).f6.f0), .int .i64 ((rd_T43 l0 x8_1).f6.f1), .int .i64 0, .bool false]) ?_ 12 _ rfl; (with_reducible repeat (first | refine blk_drewN ?_ _ | refine blk_drew ?_ | refine blk_alloc ?_ _)); refine blk_put (cs := #[.int .i64 ((rd_T43 l0 x8_1).f0), .slice A189_1 ((rd_T43 l0 x8_1).f1).length c189_1, .slice A189_2 ((rd_T43 l0 x8_1).f2).length c189_2, .string ((rd_T43 l0 x8_1).f3), .int .i64 ((rd_T43 l0 x8_1).f4.f0), .slice A189_5 ((rd_T43 l0 x8_1).f4.f1).length c189_5, .int .i64 ((rd_T43 l0 x8_1).f5.f0), .int .i64 ((rd_T43 l0 x8_1).f5.f1), .int .i64 ((rd_T43 l0 x8_1).f5.f2), .int .i64 ((rd_T43 l0 x8_1).f5.f3), .int .i64 ((rd_T43 l0 x8_1).f6.f0), .int .i64 0, .int .i64 0, .bool false]) ?_ 11 _ rfl; (with_reducible repeat (first | refine blk_drewN ?_ _ | refine blk_drew ?_ | refine blk_alloc ?_ _)); refine blk_put (cs := #[.int .i64 ((rd_T43 l0 x8_1).f0), .slice A189_1 ((rd_T43 l0 x8_1).f1).length c189_1, .slice A189_2 ((rd_T43 l0 x8_1).f2).length c189_2, .string ((rd_T43 l0 x8_1).f3), .int .i64 ((rd_T43 l0 x8_1).f4.f0), .slice A189_5 ((rd_T43 l0 x8_1).f4.f1).length c189_5, .int .i64 ((rd_T43 l0 x8_1).f5.f0), .int .i64 ((rd_T43 l0 x8_1).f5.f1), .int .i64 ((rd_T43 l0 x8_1).f5.f2), .int .i64 ((rd_T43 l0 x8_1).f5.f3), .int .i64 0, .int .i64 0, .int .i64 0, .bool false]) ?_ 10 _ rfl; (with_reducible repeat (first | refine blk_drewN ?_ _ | refine blk_drew ?_ | refine blk_alloc ?_ _)); refine blk_put (cs := #[.int .i64 ((rd_T43 l0 x8_1).f0), .slice A189_1 ((rd_T43 l0 x8_1).f1).length c189_1, .slice A189_2 ((rd_T43 l0 x8_1).f2).length c189_2, .string ((rd_T43 l0 x8_1).f3), .int .i64 ((rd_T43 l0 x8_1).f4.f0), .slice A189_5 ((rd_T43 l0 x8_1).f4.f1).length c189_5, .int .i64 ((rd_T43 l0 x8_1).f5.f0), .int .i64 ((rd_T43 l0 x8_1).f5.f1), .int .i64 ((rd_T43 l0 x8_1).f5.f2), .int .i64 0, .int .i64 0, .int .i64 0, .int .i64 0, .bool false]) ?_ 9 _ rfl; (with_reducible repeat (first | refine blk_drewN ?_ _ | refine blk_drew ?_ | refine blk_alloc ?_ _)); refine blk_put (cs := #[.int .i64 ((rd_T43 l0 x8_1).f0), .slice A189_1 ((rd_T43 l0 x8_1).f1).length c189_1, .slice A189_2 ((rd_T43 l0 x8_1).f2).length c189_2, .string ((rd_T43 l0 x8_1).f3), .int .i64 ((rd_T43 l0 x8_1).f4.f0), .slice A189_5 ((rd_T43 l0 x8_1).f4.f1).length c189_5, .int .i64 ((rd_T43 l0 x8_1).f5.f0), .int .i64 ((rd_T43 l0 x8_1).f5.f1), .int .i64 0, .int .i64 0, .int .i64 0, .int .i64 0, .int .i64 0, .bool false]) ?_ 8 _ rfl; (with_reducible repeat (first | refine blk_drewN ?_ _ | refine blk_drew ?_ | refine blk_alloc ?_ _)); refine blk_put (cs := #[.int .i64 ((rd_T43 l0 x8_1).f0), .slice A189_1 ((rd_T43 l0 x8_1).f1).length c189_1, .slice A189_2 ((rd_T43 l0 x8_1).f2).length c189_2, .string ((rd_T43 l0 x8_1).f3), .int .i64 ((rd_T43 l0 x8_1).f4.f0), .slice A189_5 ((rd_T43 l0 x8_1).f4.f1).length c189_5, .int .i64 ((rd_T43 l0 x8_1).f5.f0), .int .i64 0, .int .i64 0, .int .i64 0, .int .i64 0, .int .i64 0, .int .i64 0, .bool false]) ?_ 7 _ rfl; (with_reducible repeat (first | refine blk_drewN ?_ _ | refine blk_drew ?_ | refine blk_alloc ?_ _)); refine blk_put (cs := #[.int .i64 ((rd_T43 l0 x8_1).f0), .slice A189_1 ((rd_T43 l0 x8_1).f1).length c189_1, .slice A189_2 ((rd_T43 l0 x8_1).f2).length c189_2, .string ((rd_T43 l0 x8_1).f3), .int .i64 ((rd_T43 l0 x8_1).f4.f0), .slice A189_5 ((rd_T43 l0 x8_1).f4.f1).length c189_5, .int .i64 0, .int .i64 0, .int .i64 0, .int .i64 0, .int .i64 0, .int .i64 0, .int .i64 0, .bool false]) ?_ 6 _ rfl; (with_reducible repeat (first | refine blk_drewN ?_ _ | refine blk_drew ?_ | refine blk_alloc ?_ _)); refine blk_put (cs := #[.int .i64 ((rd_T43 l0 x8_1).f0), .slice A189_1 ((rd_T43 l0 x8_1).f1).length c189_1, .slice A189_2 ((rd_T43 l0 x8_1).f2).length c189_2, .string ((rd_T43 l0 x8_1).f3), .int .i64 ((rd_T43 l0 x8_1).f4.f0), .slice none 0 0, .int .i64 0, .int .i64 0, .int .i64 0, .int .i64 0, .int .i64 0, .int .i64 0, .int .i64 0, .bool false]) ?_ 5 _ rfl; (with_reducible repeat (first | refine blk_drewN ?_ _ | refine blk_drew ?_ | refine blk_alloc ?_ _)); refine blk_put (cs := #[.int .i64 ((rd_T43 l0 x8_1).f0), .slice A189_1 ((rd_T43 l0 x8_1).f1).length c189_1, .slice A189_2 ((rd_T43 l0 x8_1).f2).length c189_2, .string ((rd_T43 l0 x8_1).f3), .int .i64 0, .slice none 0 0, .int .i64 0, .int .i64 0, .int .i64 0, .int .i64 0, .int .i64 0, .int .i64 0, .int .i64 0, .bool false]) ?_ 4 _ rfl; (with_reducible repeat (first | refine blk_drewN ?_ _ | refine blk_drew ?_ | refine blk_alloc ?_ _)); refine blk_put (cs := #[.int .i64 ((rd_T43 l0 x8_1).f0), .slice A189_1 ((rd_T43 l0 x8_1).f1).length c189_1, .slice A189_2 ((rd_T43 l0 x8_1).f2).length c189_2, .string (⟨#[]⟩ : ByteArray), .int .i64 0, .slice none 0 0, .int .i64 0, .int .i64 0, .int .i64 0, .int .i64 0, .int .i64 0, .int .i64 0, .int .i64 0, .bool false]) ?_ 3 _ rfl; (with_reducible repeat (first | refine blk_drewN ?_ _ | refine blk_drew ?_ | refine blk_alloc ?_ _)); refine blk_put (cs := #[.int .i64 ((rd_T43 l0 x8_1).f0), .slice A189_1 ((rd_T43 l0 x8_1).f1).length c189_1, .slice none 0 0, .string (⟨#[]⟩ : ByteArray), .int .i64 0, .slice none 0 0, .int .i64 0, .int .i64 0, .int .i64 0, .int .i64 0, .int .i64 0, .int .i64 0, .int .i64 0, .bool false]) ?_ 2 _ rfl; (with_reducible repeat (first | refine blk_drewN ?_ _ | refine blk_drew ?_ | refine blk_alloc ?_ _)); refine blk_put (cs := #[.int .i64 ((rd_T43 l0 x8_1).f0), .slice none 0 0, .slice none 0 0, .string (⟨#[]⟩ : ByteArray), .int .i64 0, .slice none 0 0, .int .i64 0, .int .i64 0, .int .i64 0, .int .i64 0, .int .i64 0, .int .i64 0, .int .i64 0, .bool false]) ?_ 1 _ rfl; (with_reducible repeat (first | refine blk_drewN ?_ _ | refine blk_drew ?_ | refine blk_alloc ?_ _)); refine blk_put (cs := #[.int .i64 0, .slice none 0 0, .slice none 0 0, .string (⟨#[]⟩ : ByteArray), .int .i64 0, .slice none 0 0, .int .i64 0, .int .i64 0, .int .i64 0, .int .i64 0, .int .i64 0, .int .i64 0, .int .i64 0, .bool false]) ?_ 0 _ rfl; (with_reducible repeat (first | refine blk_drewN ?_ _ | refine blk_drew ?_ | refine blk_alloc ?_ _)); exact BK190.out⟩
                  have n4_ : Aside0 (Below w.heap.size w ((((((((((((((w11.setCell ⟨gb190, 0, none⟩ (.int .i64 ((rd_T43 l0 x8_1).f0))).setCell ⟨gb190, 1, none⟩ (.slice A189_1 ((rd_T43 l0 x8_1).f1).length c189_1)).setCell ⟨gb190, 2, none⟩ (.slice A189_2 ((rd_T43 l0 x8_1).f2).length c189_2)).setCell ⟨gb190, 3, none⟩ (.string ((rd_T43 l0 x8_1).f3))).setCell ⟨gb190, 4, none⟩ (.int .i64 ((rd_T43 l0 x8_1).f4.f0))).setCell ⟨gb190, 5, none⟩ (.slice A189_5 ((rd_T43 l0 x8_1).f4.f1).length c189_5)).setCell ⟨gb190, 6, none⟩ (.int .i64 ((rd_T43 l0 x8_1).f5.f0))).setCell ⟨gb190, 7, none⟩ (.int .i64 ((rd_T43 l0 x8_1).f5.f1))).setCell ⟨gb190, 8, none⟩ (.int .i64 ((rd_T43 l0 x8_1).f5.f2))).setCell ⟨gb190, 9, none⟩ (.int .i64 ((rd_T43 l0 x8_1).f5.f3))).setCell ⟨gb190, 10, none⟩ (.int .i64 ((rd_T43 l0 x8_1).f6.f0))).setCell ⟨gb190, 11, none⟩ (.int .i64 ((rd_T43 l0 x8_1).f6.f1))).setCell ⟨gb190, 12, none⟩ (.int .i64 ((rd_T43 l0 x8_1).f6.f2))).setCell ⟨gb190, 13, none⟩ (.bool ((rd_T43 l0 x8_1).f6.f3)))) := ⟨by repeat (first | (with_reducible first | exact HB.out | apply below_alloc | apply pw_below_drewN | apply below_drew1 | refine below_set ?_ GE187.out | refine below_set ?_ GE188.out | refine below_set ?_ GE190.out) | exact HB.out)⟩
                  (try clear HO_189000)
                  (try clear BK187)
                  (try clear BK188)
                  (try clear BK190)
                  (try clear HB)
                  generalize ((((((((((((((w11.setCell ⟨gb190, 0, none⟩ (.int .i64 ((rd_T43 l0 x8_1).f0))).setCell ⟨gb190, 1, none⟩ (.slice A189_1 ((rd_T43 l0 x8_1).f1).length c189_1)).setCell ⟨gb190, 2, none⟩ (.slice A189_2 ((rd_T43 l0 x8_1).f2).length c189_2)).setCell ⟨gb190, 3, none⟩ (.string ((rd_T43 l0 x8_1).f3))).setCell ⟨gb190, 4, none⟩ (.int .i64 ((rd_T43 l0 x8_1).f4.f0))).setCell ⟨gb190, 5, none⟩ (.slice A189_5 ((rd_T43 l0 x8_1).f4.f1).length c189_5)).setCell ⟨gb190, 6, none⟩ (.int .i64 ((rd_T43 l0 x8_1).f5.f0))).setCell ⟨gb190, 7, none⟩ (.int .i64 ((rd_T43 l0 x8_1).f5.f1))).setCell ⟨gb190, 8, none⟩ (.int .i64 ((rd_T43 l0 x8_1).f5.f2))).setCell ⟨gb190, 9, none⟩ (.int .i64 ((rd_T43 l0 x8_1).f5.f3))).setCell ⟨gb190, 10, none⟩ (.int .i64 ((rd_T43 l0 x8_1).f6.f0))).setCell ⟨gb190, 11, none⟩ (.int .i64 ((rd_T43 l0 x8_1).f6.f1))).setCell ⟨gb190, 12, none⟩ (.int .i64 ((rd_T43 l0 x8_1).f6.f2))).setCell ⟨gb190, 13, none⟩ (.bool ((rd_T43 l0 x8_1).f6.f3))) = w16 at n0_ n1_ n2_ n3_ n4_ ⊢
                  have HO_189000 := n0_
                  have BK187 := n1_
                  have BK188 := n2_
                  have BK190 := n3_
                  have HB := n4_
                  clear n0_ n1_ n2_ n3_ n4_
                  have n0_ := Aside0.mk (Kd.R_drew HO_189000.out)
                  have n1_ := Aside0.mk (blk_drew BK187.out)
                  have n2_ := Aside0.mk (blk_drew BK188.out)
                  have n3_ := Aside0.mk (blk_drew BK190.out)
                  have n4_ := Aside0.mk (below_drew1 HB.out)
                  clear HO_189000
                  clear BK187
                  clear BK188
                  clear BK190
                  clear HB
                  have HO_189000 := n0_
                  have BK187 := n1_
                  have BK188 := n2_
                  have BK190 := n3_
                  have HB := n4_
                  clear n0_ n1_ n2_ n3_ n4_
                  refine start_ (n := 26) (S := fun w' => w'.cell? ⟨gb188, 0, none⟩ = some (.slice Ao15 x189000_1.length co15) ∧ w'.cell? ⟨gb190, 0, none⟩ = some (.int .i64 ((rd_T43 l0 x8_1).f0)) ∧ w'.cell? ⟨gb190, 1, none⟩ = some (.slice A189_1 ((rd_T43 l0 x8_1).f1).length c189_1) ∧ w'.cell? ⟨gb190, 2, none⟩ = some (.slice A189_2 ((rd_T43 l0 x8_1).f2).length c189_2) ∧ w'.cell? ⟨gb190, 3, none⟩ = some (.string ((rd_T43 l0 x8_1).f3)) ∧ w'.cell? ⟨gb190, 4, none⟩ = some (.int .i64 ((rd_T43 l0 x8_1).f4.f0)) ∧ w'.cell? ⟨gb190, 5, none⟩ = some (.slice A189_5 ((rd_T43 l0 x8_1).f4.f1).length c189_5) ∧ w'.cell? ⟨gb190, 6, none⟩ = some (.int .i64 ((rd_T43 l0 x8_1).f5.f0)) ∧ w'.cell? ⟨gb190, 7, none⟩ = some (.int .i64 ((rd_T43 l0 x8_1).f5.f1)) ∧ w'.cell? ⟨gb190, 8, none⟩ = some (.int .i64 ((rd_T43 l0 x8_1).f5.f2)) ∧ w'.cell? ⟨gb190, 9, none⟩ = some (.int .i64 ((rd_T43 l0 x8_1).f5.f3)) ∧ w'.cell? ⟨gb190, 10, none⟩ = some (.int .i64 ((rd_T43 l0 x8_1).f6.f0)) ∧ w'.cell? ⟨gb190, 11, none⟩ = some (.int .i64 ((rd_T43 l0 x8_1).f6.f1)) ∧ w'.cell? ⟨gb190, 12, none⟩ = some (.int .i64 ((rd_T43 l0 x8_1).f6.f2)) ∧ w'.cell? ⟨gb190, 13, none⟩ = some (.bool ((rd_T43 l0 x8_1).f6.f3))) (ds := [25]) #[false, false, false, false, false, false, false, false, false, false, false, false, false, false, false, false, false, false, false, false, false, false, false, false, false, false] (by kernel_rfl) rfl rfl ⟨(blk_cell BK188.out 0).trans rfl, (blk_cell BK190.out 0).trans rfl, (blk_cell BK190.out 1).trans rfl, (blk_cell BK190.out 2).trans rfl, (blk_cell BK190.out 3).trans rfl, (blk_cell BK190.out 4).trans rfl, (blk_cell BK190.out 5).trans rfl, (blk_cell BK190.out 6).trans rfl, (blk_cell BK190.out 7).trans rfl, (blk_cell BK190.out 8).trans rfl, (blk_cell BK190.out 9).trans rfl, (blk_cell BK190.out 10).trans rfl, (blk_cell BK190.out 11).trans rfl, (blk_cell BK190.out 12).trans rfl, (blk_cell BK190.out 13).trans rfl⟩ (fun hHeld => ?_); refine with_tabW watershedlaw11_pipe.tab5 watershedlaw11_pipe.bits5 (fun HT_ HW_ => ?_)
                  generalize w16.drew = w17 at HO_189000 BK187 BK188 BK190 HB hHeld ⊢
                  refine pure_ (i := 0) (N := some 12) (v := ?_) (a' := ?_) #[true, false, false, false, false, false, false, false, false, false, false, false, false, false, false, false, false, false, false, false, false, false, false, false, false, false] rfl rfl (any_of HT_.out (by kernel_rfl)) (fun _ _ _ h => h) (Or.inl ⟨by rfl, ?_⟩) ?_ ?_
                  rotate_left
                  · intro w'
                    go_simp
                    with_reducible rfl
                  rotate_left
                  · simp only [Act.put, List.setIfInBounds_toArray, List.set_cons_zero, List.set_cons_succ, i64_w, i32_w]
                    rfl
                  refine pure_ (i := 2) (N := some 14) (v := ?_) (a' := ?_) #[true, false, true, false, false, false, false, false, false, false, false, false, false, false, false, false, false, false, false, false, false, false, false, false, false, false] rfl rfl (any_of HT_.out (by kernel_rfl)) (fun _ _ _ h => h) (Or.inl ⟨by rfl, ?_⟩) ?_ ?_
                  rotate_left
                  · intro w'
                    go_simp
                    with_reducible rfl
                  rotate_left
                  · simp only [Act.put, List.setIfInBounds_toArray, List.set_cons_zero, List.set_cons_succ, i64_w, i32_w]
                    rfl
                  refine pure_ (i := 5) (N := some 17) (v := ?_) (a' := ?_) #[true, false, true, false, false, true, false, false, false, false, false, false, false, false, false, false, false, false, false, false, false, false, false, false, false, false] rfl rfl (any_of HT_.out (by kernel_rfl)) (fun _ _ _ h => h) (Or.inl ⟨by rfl, ?_⟩) ?_ ?_
                  rotate_left
                  · intro w'
                    go_simp
                    with_reducible rfl
                  rotate_left
                  · simp only [Act.put, List.setIfInBounds_toArray, List.set_cons_zero, List.set_cons_succ, i64_w, i32_w]
                    rfl
                  refine pure_ (i := 9) (N := some 21) (v := ?_) (a' := ?_) #[true, false, true, false, false, true, false, false, false, true, false, false, false, false, false, false, false, false, false, false, false, false, false, false, false, false] rfl rfl (any_of HT_.out (by kernel_rfl)) (fun _ _ _ h => h) (Or.inl ⟨by rfl, ?_⟩) ?_ ?_
                  rotate_left
                  · intro w'
                    go_simp
                    with_reducible rfl
                  rotate_left
                  · simp only [Act.put, List.setIfInBounds_toArray, List.set_cons_zero, List.set_cons_succ, i64_w, i32_w]
                    rfl
                  refine pure_ (i := 12) (N := some 24) (v := ?_) (a' := ?_) #[true, false, true, false, false, true, false, false, false, true, false, false, true, false, false, false, false, false, false, false, false, false, false, false, false, false] rfl rfl (any_of HT_.out (by kernel_rfl)) (fun _ _ _ h => h) (Or.inl ⟨by rfl, ?_⟩) ?_ ?_
                  rotate_left
                  · intro w'
                    go_simp
                    with_reducible rfl
                  rotate_left
                  · simp only [Act.put, List.setIfInBounds_toArray, List.set_cons_zero, List.set_cons_succ, i64_w, i32_w]
                    rfl
                  refine pure_ (i := 14) (N := some 26) (v := ?_) (a' := ?_) #[true, false, true, false, false, true, false, false, false, true, false, false, true, false, true, false, false, false, false, false, false, false, false, false, false, false] rfl rfl (any_of HT_.out (by kernel_rfl)) (fun _ _ _ h => h) (Or.inl ⟨by rfl, ?_⟩) ?_ ?_
                  rotate_left
                  · intro w'
                    go_simp
                    with_reducible rfl
                  rotate_left
                  · simp only [Act.put, List.setIfInBounds_toArray, List.set_cons_zero, List.set_cons_succ, i64_w, i32_w]
                    rfl
                  refine pure_ (i := 17) (N := some 29) (v := ?_) (a' := ?_) #[true, false, true, false, false, true, false, false, false, true, false, false, true, false, true, false, false, true, false, false, false, false, false, false, false, false] rfl rfl (any_of HT_.out (by kernel_rfl)) (fun _ _ _ h => h) (Or.inl ⟨by rfl, ?_⟩) ?_ ?_
                  rotate_left
                  · intro w'
                    go_simp
                    with_reducible rfl
                  rotate_left
                  · simp only [Act.put, List.setIfInBounds_toArray, List.set_cons_zero, List.set_cons_succ, i64_w, i32_w]
                    rfl
                  refine pure_ (i := 19) (N := some 31) (v := ?_) (a' := ?_) #[true, false, true, false, false, true, false, false, false, true, false, false, true, false, true, false, false, true, false, true, false, false, false, false, false, false] rfl rfl (any_of HT_.out (by kernel_rfl)) (fun _ _ _ h => h) (Or.inl ⟨by rfl, ?_⟩) ?_ ?_
                  rotate_left
                  · intro w'
                    go_simp
                    with_reducible rfl
                  rotate_left
                  · simp only [Act.put, List.setIfInBounds_toArray, List.set_cons_zero, List.set_cons_succ, i64_w, i32_w]
                    rfl
                  refine take_ (i := 1) (N := some 13) (v := ?_) (a' := ?_) #[true, true, true, false, false, true, false, false, false, true, false, false, true, false, true, false, false, true, false, true, false, false, false, false, false, false] rfl rfl (take_ofW HT_.out HW_.out (by kernel_rfl)) (fun _ _ _ h => h) (Or.inl ⟨by rfl, ?_⟩) hHeld ?_ ?_
                  rotate_left
                  · rintro w' ⟨s0, s1, s2, s3, s4, s5, s6, s7, s8, s9, s10, s11, s12, s13, s14⟩
                    go_simp
                    with_reducible rfl
                  rotate_left
                  · simp only [Act.put, List.setIfInBounds_toArray, List.set_cons_zero, List.set_cons_succ, i64_w, i32_w]
                    rfl
                  refine take_ (i := 3) (N := some 15) (v := ?_) (a' := ?_) #[true, true, true, true, false, true, false, false, false, true, false, false, true, false, true, false, false, true, false, true, false, false, false, false, false, false] rfl rfl (take_ofW HT_.out HW_.out (by kernel_rfl)) (fun _ _ _ h => h) (Or.inl ⟨by rfl, ?_⟩) hHeld ?_ ?_
                  rotate_left
                  · rintro w' ⟨s0, s1, s2, s3, s4, s5, s6, s7, s8, s9, s10, s11, s12, s13, s14⟩
                    go_simp
                    with_reducible rfl
                  rotate_left
                  · simp only [Act.put, List.setIfInBounds_toArray, List.set_cons_zero, List.set_cons_succ, i64_w, i32_w]
                    rfl
                  refine take_ (i := 6) (N := some 18) (v := ?_) (a' := ?_) #[true, true, true, true, false, true, true, false, false, true, false, false, true, false, true, false, false, true, false, true, false, false, false, false, false, false] rfl rfl (take_ofW HT_.out HW_.out (by kernel_rfl)) (fun _ _ _ h => h) (Or.inl ⟨by rfl, ?_⟩) hHeld ?_ ?_
                  rotate_left
                  · rintro w' ⟨s0, s1, s2, s3, s4, s5, s6, s7, s8, s9, s10, s11, s12, s13, s14⟩
                    go_simp
                    with_reducible rfl
                  rotate_left
                  · simp only [Act.put, List.setIfInBounds_toArray, List.set_cons_zero, List.set_cons_succ, i64_w, i32_w]
                    rfl
                  refine take_ (i := 10) (N := some 22) (v := ?_) (a' := ?_) #[true, true, true, true, false, true, true, false, false, true, true, false, true, false, true, false, false, true, false, true, false, false, false, false, false, false] rfl rfl (take_ofW HT_.out HW_.out (by kernel_rfl)) (fun _ _ _ h => h) (Or.inl ⟨by rfl, ?_⟩) hHeld ?_ ?_
                  rotate_left
                  · rintro w' ⟨s0, s1, s2, s3, s4, s5, s6, s7, s8, s9, s10, s11, s12, s13, s14⟩
                    go_simp
                    with_reducible rfl
                  rotate_left
                  · simp only [Act.put, List.setIfInBounds_toArray, List.set_cons_zero, List.set_cons_succ, i64_w, i32_w]
                    rfl
                  refine take_ (i := 13) (N := some 25) (v := ?_) (a' := ?_) #[true, true, true, true, false, true, true, false, false, true, true, false, true, true, true, false, false, true, false, true, false, false, false, false, false, false] rfl rfl (take_ofW HT_.out HW_.out (by kernel_rfl)) (fun _ _ _ h => h) (Or.inl ⟨by rfl, ?_⟩) hHeld ?_ ?_
                  rotate_left
                  · rintro w' ⟨s0, s1, s2, s3, s4, s5, s6, s7, s8, s9, s10, s11, s12, s13, s14⟩
                    go_simp
                    with_reducible rfl
                  rotate_left
                  · simp only [Act.put, List.setIfInBounds_toArray, List.set_cons_zero, List.set_cons_succ, i64_w, i32_w]
                    rfl
                  refine take_ (i := 15) (N := some 27) (v := ?_) (a' := ?_) #[true, true, true, true, false, true, true, false, false, true, true, false, true, true, true, true, false, true, false, true, false, false, false, false, false, false] rfl rfl (take_ofW HT_.out HW_.out (by kernel_rfl)) (fun _ _ _ h => h) (Or.inl ⟨by rfl, ?_⟩) hHeld ?_ ?_
                  rotate_left
                  · rintro w' ⟨s0, s1, s2, s3, s4, s5, s6, s7, s8, s9, s10, s11, s12, s13, s14⟩
                    go_simp
                    with_reducible rfl
                  rotate_left
                  · simp only [Act.put, List.setIfInBounds_toArray, List.set_cons_zero, List.set_cons_succ, i64_w, i32_w]
                    rfl
                  refine take_ (i := 18) (N := some 30) (v := ?_) (a' := ?_) #[true, true, true, true, false, true, true, false, false, true, true, false, true, true, true, true, false, true, true, true, false, false, false, false, false, false] rfl rfl (take_ofW HT_.out HW_.out (by kernel_rfl)) (fun _ _ _ h => h) (Or.inl ⟨by rfl, ?_⟩) hHeld ?_ ?_
                  rotate_left
                  · rintro w' ⟨s0, s1, s2, s3, s4, s5, s6, s7, s8, s9, s10, s11, s12, s13, s14⟩
                    go_simp
                    with_reducible rfl
                  rotate_left
                  · simp only [Act.put, List.setIfInBounds_toArray, List.set_cons_zero, List.set_cons_succ, i64_w, i32_w]
                    rfl
                  refine take_ (i := 20) (N := some 32) (v := ?_) (a' := ?_) #[true, true, true, true, false, true, true, false, false, true, true, false, true, true, true, true, false, true, true, true, true, false, false, false, false, false] rfl rfl (take_ofW HT_.out HW_.out (by kernel_rfl)) (fun _ _ _ h => h) (Or.inl ⟨by rfl, ?_⟩) hHeld ?_ ?_
                  rotate_left
                  · rintro w' ⟨s0, s1, s2, s3, s4, s5, s6, s7, s8, s9, s10, s11, s12, s13, s14⟩
                    go_simp
                    with_reducible rfl
                  rotate_left
                  · simp only [Act.put, List.setIfInBounds_toArray, List.set_cons_zero, List.set_cons_succ, i64_w, i32_w]
                    rfl
                  refine join_ (σ := Value × Value × Value) 7 #[true, true, true, true, true, true, true, true, true, true, true, false, true, true, true, true, false, true, true, true, true, false, false, false, false, false] (fun s_ => [(16, s_.1), (19, s_.2.1), (20, s_.2.2)]) (fun s_ w' => (w'.cell? ⟨gb188, 0, none⟩ = some (.slice Ao15 x189000_1.length co15) ∧ w'.cell? ⟨gb190, 0, none⟩ = some (.int .i64 ((rd_T43 l0 x8_1).f0)) ∧ w'.cell? ⟨gb190, 1, none⟩ = some (.slice A189_1 ((rd_T43 l0 x8_1).f1).length c189_1) ∧ w'.cell? ⟨gb190, 2, none⟩ = some (.slice A189_2 ((rd_T43 l0 x8_1).f2).length c189_2) ∧ w'.cell? ⟨gb190, 3, none⟩ = some (.string ((rd_T43 l0 x8_1).f3)) ∧ w'.cell? ⟨gb190, 4, none⟩ = some (.int .i64 ((rd_T43 l0 x8_1).f4.f0)) ∧ w'.cell? ⟨gb190, 5, none⟩ = some (.slice A189_5 ((rd_T43 l0 x8_1).f4.f1).length c189_5) ∧ w'.cell? ⟨gb190, 6, none⟩ = some (.int .i64 ((rd_T43 l0 x8_1).f5.f0)) ∧ w'.cell? ⟨gb190, 7, none⟩ = some (.int .i64 ((rd_T43 l0 x8_1).f5.f1)) ∧ w'.cell? ⟨gb190, 8, none⟩ = some (.int .i64 ((rd_T43 l0 x8_1).f5.f2)) ∧ w'.cell? ⟨gb190, 9, none⟩ = some (.int .i64 ((rd_T43 l0 x8_1).f5.f3)) ∧ w'.cell? ⟨gb190, 10, none⟩ = some (.int .i64 ((rd_T43 l0 x8_1).f6.f0)) ∧ w'.cell? ⟨gb190, 11, none⟩ = some (.int .i64 ((rd_T43 l0 x8_1).f6.f1)) ∧ w'.cell? ⟨gb190, 12, none⟩ = some (.int .i64 ((rd_T43 l0 x8_1).f6.f2)) ∧ w'.cell? ⟨gb190, 13, none⟩ = some (.bool ((rd_T43 l0 x8_1).f6.f3))) ∧ (Kd.R (Kd.int .i64) 3 w' w.heap.size (fun k_ => some k_ ≠ (s_.2.2 : Value).ownBlock) s_.2.1 y194) ∧ (Kd.R (Kd.int .i64) 3 w' w.heap.size (fun k_ => some k_ ≠ (s_.2.1 : Value).ownBlock) s_.2.2 y197) ∧ (Kd.R k63 63 w' w.heap.size (fun k_ => some k_ ≠ (s_.2.1 : Value).ownBlock ∧ some k_ ≠ (s_.2.2 : Value).ownBlock) (.slice Ao15 x189000_1.length co15) x189000_1) ∧ (w'.heap[gb187]? = some (.cells #[.slice none 0 0] 29 (0, 0))) ∧ (w'.heap[gb188]? = some (.cells #[.slice Ao15 x189000_1.length co15] 29 (0, 0))) ∧ (w'.heap[gb190]? = some (.cells #[.int .i64 ((rd_T43 l0 x8_1).f0), .slice A189_1 ((rd_T43 l0 x8_1).f1).length c189_1, .slice A189_2 ((rd_T43 l0 x8_1).f2).length c189_2, .string ((rd_T43 l0 x8_1).f3), .int .i64 ((rd_T43 l0 x8_1).f4.f0), .slice A189_5 ((rd_T43 l0 x8_1).f4.f1).length c189_5, .int .i64 ((rd_T43 l0 x8_1).f5.f0), .int .i64 ((rd_T43 l0 x8_1).f5.f1), .int .i64 ((rd_T43 l0 x8_1).f5.f2), .int .i64 ((rd_T43 l0 x8_1).f5.f3), .int .i64 ((rd_T43 l0 x8_1).f6.f0), .int .i64 ((rd_T43 l0 x8_1).f6.f1), .int .i64 ((rd_T43 l0 x8_1).f6.f2), .bool ((rd_T43 l0 x8_1).f6.f3)] 43 (0, 0))) ∧ (Below w.heap.size w w')) ?_ ?_
                  rotate_left
                  · intro hCont
                    refine two_ (i := 4) (j := 8) (Ni := some 16) (Nj := some 20) #[true, true, true, true, true, true, true, false, false, true, true, false, true, true, true, true, false, true, true, true, true, false, false, false, false, false] #[true, true, true, true, false, true, true, false, true, true, true, false, true, true, true, true, false, true, true, true, true, false, false, false, false, false] rfl rfl rfl rfl (two_of HT_.out (by kernel_rfl)) (by decide) (by decide) (fun K hK => ?_) (fun K hK => ?_)
                    · skip
                      refine Kd.R_lit_step (Kd.int .i64) _ 3 ?hg (N := 16) ?hd (xs := ([] : List Int)) (inner := []) (ok := fun _ => True) (okp := fun _ => True) ?hr ?hp (fun _ hk => hk) trivial (Below.refl _ _) (Nat.le_refl _) (by simp) ?_; (case hd => rfl); (case hg => rfl); (case hr => first | (go_simp; done) | (go_simp; rfl)); (case hp => exact (Reps.none _ _))
                      intro v192 w18 ho19 hb hg_ hnew_
                      clear hg_ hnew_
                      (first | rw [← Ny191.out] at ho19 | (simp only [Int.reduceToNat] at ho19; rw [← Ny191.out] at ho19))
                      have n0_ := Aside0.mk (Kd.R_elder' (by (with_reducible repeat (first | apply Kd.R_alloc | apply Kd.R_drewN | apply Kd.R_drew)); exact HO_189000.out) (Kd.R_base ho19) hb)
                      have n1_ := Aside0.mk (Kd.R_lower ho19 (below_size (by repeat (first | (with_reducible first | exact HB.out | apply below_alloc | apply pw_below_drewN | apply below_drew1 | refine below_set ?_ GE187.out | refine below_set ?_ GE188.out | refine below_set ?_ GE190.out) | exact HB.out))))
                      have n2_ := Aside0.mk (blk_below (g := gb187) (o := .cells #[.slice none 0 0] 29 (0, 0)) (by (with_reducible repeat (first | refine blk_drewN ?_ _ | refine blk_drew ?_ | refine blk_alloc ?_ _)); exact BK187.out) hb)
                      have n3_ := Aside0.mk (blk_below (g := gb188) (o := .cells #[.slice Ao15 x189000_1.length co15] 29 (0, 0)) (by (with_reducible repeat (first | refine blk_drewN ?_ _ | refine blk_drew ?_ | refine blk_alloc ?_ _)); exact BK188.out) hb)
                      have n4_ := Aside0.mk (blk_below (g := gb190) (o := .cells #[.int .i64 ((rd_T43 l0 x8_1).f0), .slice A189_1 ((rd_T43 l0 x8_1).f1).length c189_1, .slice A189_2 ((rd_T43 l0 x8_1).f2).length c189_2, .string ((rd_T43 l0 x8_1).f3), .int .i64 ((rd_T43 l0 x8_1).f4.f0), .slice A189_5 ((rd_T43 l0 x8_1).f4.f1).length c189_5, .int .i64 ((rd_T43 l0 x8_1).f5.f0), .int .i64 ((rd_T43 l0 x8_1).f5.f1), .int .i64 ((rd_T43 l0 x8_1).f5.f2), .int .i64 ((rd_T43 l0 x8_1).f5.f3), .int .i64 ((rd_T43 l0 x8_1).f6.f0), .int .i64 ((rd_T43 l0 x8_1).f6.f1), .int .i64 ((rd_T43 l0 x8_1).f6.f2), .bool ((rd_T43 l0 x8_1).f6.f3)] 43 (0, 0)) (by (with_reducible repeat (first | refine blk_drewN ?_ _ | refine blk_drew ?_ | refine blk_alloc ?_ _)); exact BK190.out) hb)
                      have n5_ := Aside0.mk (below_step (by repeat (first | (with_reducible first | exact HB.out | apply below_alloc | apply pw_below_drewN | apply below_drew1 | refine below_set ?_ GE187.out | refine below_set ?_ GE188.out | refine below_set ?_ GE190.out) | exact HB.out)) hb)
                      clear HO_189000
                      clear BK187
                      clear BK188
                      clear BK190
                      clear HB
                      have HO_189000 := n0_
                      have HO193 := n1_
                      have BK187 := n2_
                      have BK188 := n3_
                      have BK190 := n4_
                      have HB := n5_
                      clear n0_ n1_ n2_ n3_ n4_ n5_
                      clear hb ho19
                      refine hK.out _ _ ⟨(blk_cell BK188.out 0).trans rfl, (blk_cell BK190.out 0).trans rfl, (blk_cell BK190.out 1).trans rfl, (blk_cell BK190.out 2).trans rfl, (blk_cell BK190.out 3).trans rfl, (blk_cell BK190.out 4).trans rfl, (blk_cell BK190.out 5).trans rfl, (blk_cell BK190.out 6).trans rfl, (blk_cell BK190.out 7).trans rfl, (blk_cell BK190.out 8).trans rfl, (blk_cell BK190.out 9).trans rfl, (blk_cell BK190.out 10).trans rfl, (blk_cell BK190.out 11).trans rfl, (blk_cell BK190.out 12).trans rfl, (blk_cell BK190.out 13).trans rfl⟩ (fun hHeld => ?_)
                      clear hK K
                      refine norm_ (a' := ?_) ?_ ?_
                      rotate_left
                      · show Act.put _ (some 16) _ = _
                        simp only [Act.put, List.setIfInBounds_toArray, List.set_cons_zero, List.set_cons_succ, i64_w, i32_w]
                        rfl
                      refine two_ (i := 7) (j := 8) (Ni := some 19) (Nj := some 20) #[true, true, true, true, true, true, true, true, false, true, true, false, true, true, true, true, false, true, true, true, true, false, false, false, false, false] #[true, true, true, true, true, true, true, false, true, true, true, false, true, true, true, true, false, true, true, true, true, false, false, false, false, false] rfl rfl rfl rfl (two_of HT_.out (by kernel_rfl)) (by decide) (by decide) (fun K hK => ?_) (fun K hK => ?_)
                      · skip
                        refine Kd.R_append_rows_step (Kd.int .i64) (w0 := w) w.heap.size (by rfl) (.tmp 16) (.tmp 18) 34 3 (.int .i64 0) 8 rfl Tryz.underlying34 info3 rfl (by decide) (by omega) v192 y191 ((rd_T43 l0 x8_1).f1) _ _ _ (fun _ => True) (fun _ => False) rfl rfl ?aO ?aR (fun _ _ h => h) (fun _ h => h.elim) ?aF ?aB ?aS ?aL ?_
                        (case aR => repeat (first | exact (Kd.C_below HR189_1.out HB.out) | (with_reducible refine Kd.C_alloc ?_ _) | (with_reducible refine Kd.C_drewN ?_ _) | (with_reducible refine Kd.C_drew ?_)))
                        (case aB => exact (by repeat (first | (with_reducible first | exact HB.out | apply below_alloc | apply pw_below_drewN | apply below_drew1 | refine below_set ?_ GE187.out | refine below_set ?_ GE188.out | refine below_set ?_ GE190.out) | exact HB.out)))
                        (case aF => exact (fun _ _ => trivial))
                        (case aO => exact (by (with_reducible repeat (first | apply Kd.R_alloc | apply Kd.R_drewN | apply Kd.R_drew)); exact HO193.out))
                        (case aS => exact (below_size (by repeat (first | (with_reducible first | exact HB.out | apply below_alloc | apply pw_below_drewN | apply below_drew1 | refine below_set ?_ GE187.out | refine below_set ?_ GE188.out | refine below_set ?_ GE190.out) | exact HB.out))))
                        (case aL => have := LMc7.out; omega)
                        intro v195 w20 ho hb hg hat
                        rw [← Ny194.out] at ho
                        have n0_ := Aside0.mk (Kd.R_after (ok := (fun _ => True)) (by (with_reducible repeat (first | apply Kd.R_alloc | apply Kd.R_drewN | apply Kd.R_drew)); exact HO_189000.out) hg hat)
                        have n1_ := Aside0.mk (blk_grown (g := gb187) (o := .cells #[.slice none 0 0] 29 (0, 0)) (by (with_reducible repeat (first | refine blk_drewN ?_ _ | refine blk_drew ?_ | refine blk_alloc ?_ _)); exact BK187.out) hg (Kd.R_ne HO193.out BK187.out (by decide)))
                        have n2_ := Aside0.mk (blk_grown (g := gb188) (o := .cells #[.slice Ao15 x189000_1.length co15] 29 (0, 0)) (by (with_reducible repeat (first | refine blk_drewN ?_ _ | refine blk_drew ?_ | refine blk_alloc ?_ _)); exact BK188.out) hg (Kd.R_ne HO193.out BK188.out (by decide)))
                        have n3_ := Aside0.mk (blk_grown (g := gb190) (o := .cells #[.int .i64 ((rd_T43 l0 x8_1).f0), .slice A189_1 ((rd_T43 l0 x8_1).f1).length c189_1, .slice A189_2 ((rd_T43 l0 x8_1).f2).length c189_2, .string ((rd_T43 l0 x8_1).f3), .int .i64 ((rd_T43 l0 x8_1).f4.f0), .slice A189_5 ((rd_T43 l0 x8_1).f4.f1).length c189_5, .int .i64 ((rd_T43 l0 x8_1).f5.f0), .int .i64 ((rd_T43 l0 x8_1).f5.f1), .int .i64 ((rd_T43 l0 x8_1).f5.f2), .int .i64 ((rd_T43 l0 x8_1).f5.f3), .int .i64 ((rd_T43 l0 x8_1).f6.f0), .int .i64 ((rd_T43 l0 x8_1).f6.f1), .int .i64 ((rd_T43 l0 x8_1).f6.f2), .bool ((rd_T43 l0 x8_1).f6.f3)] 43 (0, 0)) (by (with_reducible repeat (first | refine blk_drewN ?_ _ | refine blk_drew ?_ | refine blk_alloc ?_ _)); exact BK190.out) hg (Kd.R_ne HO193.out BK190.out (by decide)))
                        have n4_ := Aside0.mk (hb)
                        have n5_ := Aside0.mk (ho)
                        clear HO_189000
                        clear BK187
                        clear BK188
                        clear BK190
                        clear HB
                        clear HO193
                        have HO_189000 := n0_
                        have BK187 := n1_
                        have BK188 := n2_
                        have BK190 := n3_
                        have HB := n4_
                        have HO196 := n5_
                        clear n0_ n1_ n2_ n3_ n4_ n5_
                        clear ho hb hg hat
                        refine hK.out _ _ ⟨(blk_cell BK188.out 0).trans rfl, (blk_cell BK190.out 0).trans rfl, (blk_cell BK190.out 1).trans rfl, (blk_cell BK190.out 2).trans rfl, (blk_cell BK190.out 3).trans rfl, (blk_cell BK190.out 4).trans rfl, (blk_cell BK190.out 5).trans rfl, (blk_cell BK190.out 6).trans rfl, (blk_cell BK190.out 7).trans rfl, (blk_cell BK190.out 8).trans rfl, (blk_cell BK190.out 9).trans rfl, (blk_cell BK190.out 10).trans rfl, (blk_cell BK190.out 11).trans rfl, (blk_cell BK190.out 12).trans rfl, (blk_cell BK190.out 13).trans rfl⟩ (fun hHeld => ?_)
                        clear hK K
                        refine norm_ (a' := ?_) ?_ ?_
                        rotate_left
                        · show Act.put _ (some 19) _ = _
                          simp only [Act.put, List.setIfInBounds_toArray, List.set_cons_zero, List.set_cons_succ, i64_w, i32_w]
                          rfl
                        refine one_ (i := 8) (N := some 20) #[true, true, true, true, true, true, true, true, true, true, true, false, true, true, true, true, false, true, true, true, true, false, false, false, false, false] rfl rfl (one_of HT_.out (by kernel_rfl)) (by decide) (fun K hK => ?_)
                        refine Kd.R_lit_step (Kd.int .i64) _ 3 ?hg (N := 20) ?hd (xs := ([] : List Int)) (inner := []) (ok := fun _ => True) (okp := fun _ => True) ?hr ?hp (fun _ hk => hk) trivial (Below.refl _ _) (Nat.le_refl _) (by simp) ?_; (case hd => rfl); (case hg => rfl); (case hr => first | (go_simp; done) | (go_simp; rfl)); (case hp => exact (Reps.none _ _))
                        intro v198 w21 ho22 hb hg_ hnew_
                        clear hg_ hnew_
                        (first | rw [← Ny197.out] at ho22 | (simp only [Int.reduceToNat] at ho22; rw [← Ny197.out] at ho22))
                        have n0_ := Aside0.mk (Kd.R_elder' (by (with_reducible repeat (first | apply Kd.R_alloc | apply Kd.R_drewN | apply Kd.R_drew)); exact HO_189000.out) (Kd.R_base ho22) hb)
                        have n1_ := Aside0.mk (Kd.R_elder' (by (with_reducible repeat (first | apply Kd.R_alloc | apply Kd.R_drewN | apply Kd.R_drew)); exact HO196.out) (Kd.R_base ho22) hb)
                        have n2_ := Aside0.mk (Kd.R_lower (Kd.R_new' ho22 (Kd.R_lt (by (with_reducible repeat (first | apply Kd.R_alloc | apply Kd.R_drewN | apply Kd.R_drew)); exact HO196.out))) (below_size (by repeat (first | (with_reducible first | exact HB.out | apply below_alloc | apply pw_below_drewN | apply below_drew1 | refine below_set ?_ GE187.out | refine below_set ?_ GE188.out | refine below_set ?_ GE190.out) | exact HB.out))))
                        have n3_ := Aside0.mk (blk_below (g := gb187) (o := .cells #[.slice none 0 0] 29 (0, 0)) (by (with_reducible repeat (first | refine blk_drewN ?_ _ | refine blk_drew ?_ | refine blk_alloc ?_ _)); exact BK187.out) hb)
                        have n4_ := Aside0.mk (blk_below (g := gb188) (o := .cells #[.slice Ao15 x189000_1.length co15] 29 (0, 0)) (by (with_reducible repeat (first | refine blk_drewN ?_ _ | refine blk_drew ?_ | refine blk_alloc ?_ _)); exact BK188.out) hb)
                        have n5_ := Aside0.mk (blk_below (g := gb190) (o := .cells #[.int .i64 ((rd_T43 l0 x8_1).f0), .slice A189_1 ((rd_T43 l0 x8_1).f1).length c189_1, .slice A189_2 ((rd_T43 l0 x8_1).f2).length c189_2, .string ((rd_T43 l0 x8_1).f3), .int .i64 ((rd_T43 l0 x8_1).f4.f0), .slice A189_5 ((rd_T43 l0 x8_1).f4.f1).length c189_5, .int .i64 ((rd_T43 l0 x8_1).f5.f0), .int .i64 ((rd_T43 l0 x8_1).f5.f1), .int .i64 ((rd_T43 l0 x8_1).f5.f2), .int .i64 ((rd_T43 l0 x8_1).f5.f3), .int .i64 ((rd_T43 l0 x8_1).f6.f0), .int .i64 ((rd_T43 l0 x8_1).f6.f1), .int .i64 ((rd_T43 l0 x8_1).f6.f2), .bool ((rd_T43 l0 x8_1).f6.f3)] 43 (0, 0)) (by (with_reducible repeat (first | refine blk_drewN ?_ _ | refine blk_drew ?_ | refine blk_alloc ?_ _)); exact BK190.out) hb)
                        have n6_ := Aside0.mk (below_step (by repeat (first | (with_reducible first | exact HB.out | apply below_alloc | apply pw_below_drewN | apply below_drew1 | refine below_set ?_ GE187.out | refine below_set ?_ GE188.out | refine below_set ?_ GE190.out) | exact HB.out)) hb)
                        clear HO_189000
                        clear HO196
                        clear BK187
                        clear BK188
                        clear BK190
                        clear HB
                        have HO_189000 := n0_
                        have HO196 := n1_
                        have HO199 := n2_
                        have BK187 := n3_
                        have BK188 := n4_
                        have BK190 := n5_
                        have HB := n6_
                        clear n0_ n1_ n2_ n3_ n4_ n5_ n6_
                        clear hb ho22
                        refine hK.out _ _ ⟨(blk_cell BK188.out 0).trans rfl, (blk_cell BK190.out 0).trans rfl, (blk_cell BK190.out 1).trans rfl, (blk_cell BK190.out 2).trans rfl, (blk_cell BK190.out 3).trans rfl, (blk_cell BK190.out 4).trans rfl, (blk_cell BK190.out 5).trans rfl, (blk_cell BK190.out 6).trans rfl, (blk_cell BK190.out 7).trans rfl, (blk_cell BK190.out 8).trans rfl, (blk_cell BK190.out 9).trans rfl, (blk_cell BK190.out 10).trans rfl, (blk_cell BK190.out 11).trans rfl, (blk_cell BK190.out 12).trans rfl, (blk_cell BK190.out 13).trans rfl⟩ (fun hHeld => ?_)
                        clear hK K
                        refine norm_ (a' := ?_) ?_ ?_
                        rotate_left
                        · show Act.put _ (some 20) _ = _
                          simp only [Act.put, List.setIfInBounds_toArray, List.set_cons_zero, List.set_cons_succ, i64_w, i32_w]
                          rfl
                        exact norm_ (by simp only [putAll, Act.put, List.setIfInBounds_toArray, List.set_cons_zero, List.set_cons_succ]) (hCont (v192, v195, v198) _ ⟨hHeld, (by (with_reducible repeat (first | apply Kd.R_alloc | apply Kd.R_drewN | apply Kd.R_drew)); exact Kd.R_mono HO196.out (fun _ hk => hk.2)), (by (with_reducible repeat (first | apply Kd.R_alloc | apply Kd.R_drewN | apply Kd.R_drew)); exact Kd.R_mono HO199.out (fun _ hk => hk.2)), (by (with_reducible repeat (first | apply Kd.R_alloc | apply Kd.R_drewN | apply Kd.R_drew)); exact Kd.R_mono HO_189000.out (fun _ hk => ⟨hk.1.2, hk.2⟩)), (by (with_reducible repeat (first | refine blk_drewN ?_ _ | refine blk_drew ?_ | refine blk_alloc ?_ _)); exact BK187.out), (by (with_reducible repeat (first | refine blk_drewN ?_ _ | refine blk_drew ?_ | refine blk_alloc ?_ _)); exact BK188.out), (by (with_reducible repeat (first | refine blk_drewN ?_ _ | refine blk_drew ?_ | refine blk_alloc ?_ _)); exact BK190.out), (by repeat (first | (with_reducible first | exact HB.out | apply below_alloc | apply pw_below_drewN | apply below_drew1 | refine below_set ?_ GE187.out | refine below_set ?_ GE188.out | refine below_set ?_ GE190.out) | exact HB.out))⟩)
                      · skip
                        refine Kd.R_lit_step (Kd.int .i64) _ 3 ?hg (N := 20) ?hd (xs := ([] : List Int)) (inner := []) (ok := fun _ => True) (okp := fun _ => True) ?hr ?hp (fun _ hk => hk) trivial (Below.refl _ _) (Nat.le_refl _) (by simp) ?_; (case hd => rfl); (case hg => rfl); (case hr => first | (go_simp; done) | (go_simp; rfl)); (case hp => exact (Reps.none _ _))
                        intro v198 w20 ho21 hb hg_ hnew_
                        clear hg_ hnew_
                        (first | rw [← Ny197.out] at ho21 | (simp only [Int.reduceToNat] at ho21; rw [← Ny197.out] at ho21))
                        have n0_ := Aside0.mk (Kd.R_elder' (by (with_reducible repeat (first | apply Kd.R_alloc | apply Kd.R_drewN | apply Kd.R_drew)); exact HO_189000.out) (Kd.R_base ho21) hb)
                        have n1_ := Aside0.mk (Kd.R_elder' (by (with_reducible repeat (first | apply Kd.R_alloc | apply Kd.R_drewN | apply Kd.R_drew)); exact HO193.out) (Kd.R_base ho21) hb)
                        have n2_ := Aside0.mk (Kd.R_lower (Kd.R_new' ho21 (Kd.R_lt (by (with_reducible repeat (first | apply Kd.R_alloc | apply Kd.R_drewN | apply Kd.R_drew)); exact HO193.out))) (below_size (by repeat (first | (with_reducible first | exact HB.out | apply below_alloc | apply pw_below_drewN | apply below_drew1 | refine below_set ?_ GE187.out | refine below_set ?_ GE188.out | refine below_set ?_ GE190.out) | exact HB.out))))
                        have n3_ := Aside0.mk (blk_below (g := gb187) (o := .cells #[.slice none 0 0] 29 (0, 0)) (by (with_reducible repeat (first | refine blk_drewN ?_ _ | refine blk_drew ?_ | refine blk_alloc ?_ _)); exact BK187.out) hb)
                        have n4_ := Aside0.mk (blk_below (g := gb188) (o := .cells #[.slice Ao15 x189000_1.length co15] 29 (0, 0)) (by (with_reducible repeat (first | refine blk_drewN ?_ _ | refine blk_drew ?_ | refine blk_alloc ?_ _)); exact BK188.out) hb)
                        have n5_ := Aside0.mk (blk_below (g := gb190) (o := .cells #[.int .i64 ((rd_T43 l0 x8_1).f0), .slice A189_1 ((rd_T43 l0 x8_1).f1).length c189_1, .slice A189_2 ((rd_T43 l0 x8_1).f2).length c189_2, .string ((rd_T43 l0 x8_1).f3), .int .i64 ((rd_T43 l0 x8_1).f4.f0), .slice A189_5 ((rd_T43 l0 x8_1).f4.f1).length c189_5, .int .i64 ((rd_T43 l0 x8_1).f5.f0), .int .i64 ((rd_T43 l0 x8_1).f5.f1), .int .i64 ((rd_T43 l0 x8_1).f5.f2), .int .i64 ((rd_T43 l0 x8_1).f5.f3), .int .i64 ((rd_T43 l0 x8_1).f6.f0), .int .i64 ((rd_T43 l0 x8_1).f6.f1), .int .i64 ((rd_T43 l0 x8_1).f6.f2), .bool ((rd_T43 l0 x8_1).f6.f3)] 43 (0, 0)) (by (with_reducible repeat (first | refine blk_drewN ?_ _ | refine blk_drew ?_ | refine blk_alloc ?_ _)); exact BK190.out) hb)
                        have n6_ := Aside0.mk (below_step (by repeat (first | (with_reducible first | exact HB.out | apply below_alloc | apply pw_below_drewN | apply below_drew1 | refine below_set ?_ GE187.out | refine below_set ?_ GE188.out | refine below_set ?_ GE190.out) | exact HB.out)) hb)
                        clear HO_189000
                        clear HO193
                        clear BK187
                        clear BK188
                        clear BK190
                        clear HB
                        have HO_189000 := n0_
                        have HO193 := n1_
                        have HO199 := n2_
                        have BK187 := n3_
                        have BK188 := n4_
                        have BK190 := n5_
                        have HB := n6_
                        clear n0_ n1_ n2_ n3_ n4_ n5_ n6_
                        clear hb ho21
                        refine hK.out _ _ ⟨(blk_cell BK188.out 0).trans rfl, (blk_cell BK190.out 0).trans rfl, (blk_cell BK190.out 1).trans rfl, (blk_cell BK190.out 2).trans rfl, (blk_cell BK190.out 3).trans rfl, (blk_cell BK190.out 4).trans rfl, (blk_cell BK190.out 5).trans rfl, (blk_cell BK190.out 6).trans rfl, (blk_cell BK190.out 7).trans rfl, (blk_cell BK190.out 8).trans rfl, (blk_cell BK190.out 9).trans rfl, (blk_cell BK190.out 10).trans rfl, (blk_cell BK190.out 11).trans rfl, (blk_cell BK190.out 12).trans rfl, (blk_cell BK190.out 13).trans rfl⟩ (fun hHeld => ?_)
                        clear hK K
                        refine norm_ (a' := ?_) ?_ ?_
                        rotate_left
                        · show Act.put _ (some 20) _ = _
                          simp only [Act.put, List.setIfInBounds_toArray, List.set_cons_zero, List.set_cons_succ, i64_w, i32_w]
                          rfl
                        refine one_ (i := 7) (N := some 19) #[true, true, true, true, true, true, true, true, true, true, true, false, true, true, true, true, false, true, true, true, true, false, false, false, false, false] rfl rfl (one_of HT_.out (by kernel_rfl)) (by decide) (fun K hK => ?_)
                        refine Kd.R_append_rows_step (Kd.int .i64) (w0 := w) w.heap.size (by rfl) (.tmp 16) (.tmp 18) 34 3 (.int .i64 0) 8 rfl Tryz.underlying34 info3 rfl (by decide) (by omega) v192 y191 ((rd_T43 l0 x8_1).f1) _ _ _ (fun k_ => some k_ ≠ (v198 : Value).ownBlock) (fun _ => False) rfl rfl ?aO ?aR (fun _ _ h => h) (fun _ h => h.elim) ?aF ?aB ?aS ?aL ?_
                        (case aR => repeat (first | exact (Kd.C_below HR189_1.out HB.out) | (with_reducible refine Kd.C_alloc ?_ _) | (with_reducible refine Kd.C_drewN ?_ _) | (with_reducible refine Kd.C_drew ?_)))
                        (case aB => exact (by repeat (first | (with_reducible first | exact HB.out | apply below_alloc | apply pw_below_drewN | apply below_drew1 | refine below_set ?_ GE187.out | refine below_set ?_ GE188.out | refine below_set ?_ GE190.out) | exact HB.out)))
                        (case aF => exact (fun k_ hk => Kd.fresh' (Kd.R_lt (by (with_reducible repeat (first | apply Kd.R_alloc | apply Kd.R_drewN | apply Kd.R_drew)); exact HO199.out)) k_ hk))
                        (case aO => exact (by (with_reducible repeat (first | apply Kd.R_alloc | apply Kd.R_drewN | apply Kd.R_drew)); exact Kd.R_mono HO193.out (fun _ hk => hk.2)))
                        (case aS => exact (below_size (by repeat (first | (with_reducible first | exact HB.out | apply below_alloc | apply pw_below_drewN | apply below_drew1 | refine below_set ?_ GE187.out | refine below_set ?_ GE188.out | refine below_set ?_ GE190.out) | exact HB.out))))
                        (case aL => have := LMc7.out; omega)
                        intro v195 w22 ho hb hg hat
                        rw [← Ny194.out] at ho
                        have n0_ := Aside0.mk (Kd.R_after (ok := (fun k_ => some k_ ≠ (v198 : Value).ownBlock)) (by (with_reducible repeat (first | apply Kd.R_alloc | apply Kd.R_drewN | apply Kd.R_drew)); exact Kd.R_mono HO_189000.out (fun _ hk => ⟨hk.2, hk.1.2⟩)) hg hat)
                        have n1_ := Aside0.mk (blk_grown (g := gb187) (o := .cells #[.slice none 0 0] 29 (0, 0)) (by (with_reducible repeat (first | refine blk_drewN ?_ _ | refine blk_drew ?_ | refine blk_alloc ?_ _)); exact BK187.out) hg (Kd.R_ne HO193.out BK187.out (by decide)))
                        have n2_ := Aside0.mk (blk_grown (g := gb188) (o := .cells #[.slice Ao15 x189000_1.length co15] 29 (0, 0)) (by (with_reducible repeat (first | refine blk_drewN ?_ _ | refine blk_drew ?_ | refine blk_alloc ?_ _)); exact BK188.out) hg (Kd.R_ne HO193.out BK188.out (by decide)))
                        have n3_ := Aside0.mk (blk_grown (g := gb190) (o := .cells #[.int .i64 ((rd_T43 l0 x8_1).f0), .slice A189_1 ((rd_T43 l0 x8_1).f1).length c189_1, .slice A189_2 ((rd_T43 l0 x8_1).f2).length c189_2, .string ((rd_T43 l0 x8_1).f3), .int .i64 ((rd_T43 l0 x8_1).f4.f0), .slice A189_5 ((rd_T43 l0 x8_1).f4.f1).length c189_5, .int .i64 ((rd_T43 l0 x8_1).f5.f0), .int .i64 ((rd_T43 l0 x8_1).f5.f1), .int .i64 ((rd_T43 l0 x8_1).f5.f2), .int .i64 ((rd_T43 l0 x8_1).f5.f3), .int .i64 ((rd_T43 l0 x8_1).f6.f0), .int .i64 ((rd_T43 l0 x8_1).f6.f1), .int .i64 ((rd_T43 l0 x8_1).f6.f2), .bool ((rd_T43 l0 x8_1).f6.f3)] 43 (0, 0)) (by (with_reducible repeat (first | refine blk_drewN ?_ _ | refine blk_drew ?_ | refine blk_alloc ?_ _)); exact BK190.out) hg (Kd.R_ne HO193.out BK190.out (by decide)))
                        have n4_ := Aside0.mk (Kd.R_after (ok := (fun _ => True)) (by (with_reducible repeat (first | apply Kd.R_alloc | apply Kd.R_drewN | apply Kd.R_drew)); exact HO199.out) hg hat)
                        have n5_ := Aside0.mk (hb)
                        have n6_ := Aside0.mk (ho)
                        clear HO_189000
                        clear BK187
                        clear BK188
                        clear BK190
                        clear HO199
                        clear HB
                        clear HO193
                        have HO_189000 := n0_
                        have BK187 := n1_
                        have BK188 := n2_
                        have BK190 := n3_
                        have HO199 := n4_
                        have HB := n5_
                        have HO196 := n6_
                        clear n0_ n1_ n2_ n3_ n4_ n5_ n6_
                        clear ho hb hg hat
                        refine hK.out _ _ ⟨(blk_cell BK188.out 0).trans rfl, (blk_cell BK190.out 0).trans rfl, (blk_cell BK190.out 1).trans rfl, (blk_cell BK190.out 2).trans rfl, (blk_cell BK190.out 3).trans rfl, (blk_cell BK190.out 4).trans rfl, (blk_cell BK190.out 5).trans rfl, (blk_cell BK190.out 6).trans rfl, (blk_cell BK190.out 7).trans rfl, (blk_cell BK190.out 8).trans rfl, (blk_cell BK190.out 9).trans rfl, (blk_cell BK190.out 10).trans rfl, (blk_cell BK190.out 11).trans rfl, (blk_cell BK190.out 12).trans rfl, (blk_cell BK190.out 13).trans rfl⟩ (fun hHeld => ?_)
                        clear hK K
                        refine norm_ (a' := ?_) ?_ ?_
                        rotate_left
                        · show Act.put _ (some 19) _ = _
                          simp only [Act.put, List.setIfInBounds_toArray, List.set_cons_zero, List.set_cons_succ, i64_w, i32_w]
                          rfl
                        exact norm_ (by simp only [putAll, Act.put, List.setIfInBounds_toArray, List.set_cons_zero, List.set_cons_succ]) (hCont (v192, v195, v198) _ ⟨hHeld, (by (with_reducible repeat (first | apply Kd.R_alloc | apply Kd.R_drewN | apply Kd.R_drew)); exact HO196.out), (by (with_reducible repeat (first | apply Kd.R_alloc | apply Kd.R_drewN | apply Kd.R_drew)); exact Kd.R_mono HO199.out (fun _ hk => hk.2)), (by (with_reducible repeat (first | apply Kd.R_alloc | apply Kd.R_drewN | apply Kd.R_drew)); exact Kd.R_mono HO_189000.out (fun _ hk => ⟨hk.2, hk.1⟩)), (by (with_reducible repeat (first | refine blk_drewN ?_ _ | refine blk_drew ?_ | refine blk_alloc ?_ _)); exact BK187.out), (by (with_reducible repeat (first | refine blk_drewN ?_ _ | refine blk_drew ?_ | refine blk_alloc ?_ _)); exact BK188.out), (by (with_reducible repeat (first | refine blk_drewN ?_ _ | refine blk_drew ?_ | refine blk_alloc ?_ _)); exact BK190.out), (by repeat (first | (with_reducible first | exact HB.out | apply below_alloc | apply pw_below_drewN | apply below_drew1 | refine below_set ?_ GE187.out | refine below_set ?_ GE188.out | refine below_set ?_ GE190.out) | exact HB.out))⟩)
                    · skip
                      refine Kd.R_lit_step (Kd.int .i64) _ 3 ?hg (N := 20) ?hd (xs := ([] : List Int)) (inner := []) (ok := fun _ => True) (okp := fun _ => True) ?hr ?hp (fun _ hk => hk) trivial (Below.refl _ _) (Nat.le_refl _) (by simp) ?_; (case hd => rfl); (case hg => rfl); (case hr => first | (go_simp; done) | (go_simp; rfl)); (case hp => exact (Reps.none _ _))
                      intro v198 w18 ho19 hb hg_ hnew_
                      clear hg_ hnew_
                      (first | rw [← Ny197.out] at ho19 | (simp only [Int.reduceToNat] at ho19; rw [← Ny197.out] at ho19))
                      have n0_ := Aside0.mk (Kd.R_elder' (by (with_reducible repeat (first | apply Kd.R_alloc | apply Kd.R_drewN | apply Kd.R_drew)); exact HO_189000.out) (Kd.R_base ho19) hb)
                      have n1_ := Aside0.mk (Kd.R_lower ho19 (below_size (by repeat (first | (with_reducible first | exact HB.out | apply below_alloc | apply pw_below_drewN | apply below_drew1 | refine below_set ?_ GE187.out | refine below_set ?_ GE188.out | refine below_set ?_ GE190.out) | exact HB.out))))
                      have n2_ := Aside0.mk (blk_below (g := gb187) (o := .cells #[.slice none 0 0] 29 (0, 0)) (by (with_reducible repeat (first | refine blk_drewN ?_ _ | refine blk_drew ?_ | refine blk_alloc ?_ _)); exact BK187.out) hb)
                      have n3_ := Aside0.mk (blk_below (g := gb188) (o := .cells #[.slice Ao15 x189000_1.length co15] 29 (0, 0)) (by (with_reducible repeat (first | refine blk_drewN ?_ _ | refine blk_drew ?_ | refine blk_alloc ?_ _)); exact BK188.out) hb)
                      have n4_ := Aside0.mk (blk_below (g := gb190) (o := .cells #[.int .i64 ((rd_T43 l0 x8_1).f0), .slice A189_1 ((rd_T43 l0 x8_1).f1).length c189_1, .slice A189_2 ((rd_T43 l0 x8_1).f2).length c189_2, .string ((rd_T43 l0 x8_1).f3), .int .i64 ((rd_T43 l0 x8_1).f4.f0), .slice A189_5 ((rd_T43 l0 x8_1).f4.f1).length c189_5, .int .i64 ((rd_T43 l0 x8_1).f5.f0), .int .i64 ((rd_T43 l0 x8_1).f5.f1), .int .i64 ((rd_T43 l0 x8_1).f5.f2), .int .i64 ((rd_T43 l0 x8_1).f5.f3), .int .i64 ((rd_T43 l0 x8_1).f6.f0), .int .i64 ((rd_T43 l0 x8_1).f6.f1), .int .i64 ((rd_T43 l0 x8_1).f6.f2), .bool ((rd_T43 l0 x8_1).f6.f3)] 43 (0, 0)) (by (with_reducible repeat (first | refine blk_drewN ?_ _ | refine blk_drew ?_ | refine blk_alloc ?_ _)); exact BK190.out) hb)
                      have n5_ := Aside0.mk (below_step (by repeat (first | (with_reducible first | exact HB.out | apply below_alloc | apply pw_below_drewN | apply below_drew1 | refine below_set ?_ GE187.out | refine below_set ?_ GE188.out | refine below_set ?_ GE190.out) | exact HB.out)) hb)
                      clear HO_189000
                      clear BK187
                      clear BK188
                      clear BK190
                      clear HB
                      have HO_189000 := n0_
                      have HO199 := n1_
                      have BK187 := n2_
                      have BK188 := n3_
                      have BK190 := n4_
                      have HB := n5_
                      clear n0_ n1_ n2_ n3_ n4_ n5_
                      clear hb ho19
                      refine hK.out _ _ ⟨(blk_cell BK188.out 0).trans rfl, (blk_cell BK190.out 0).trans rfl, (blk_cell BK190.out 1).trans rfl, (blk_cell BK190.out 2).trans rfl, (blk_cell BK190.out 3).trans rfl, (blk_cell BK190.out 4).trans rfl, (blk_cell BK190.out 5).trans rfl, (blk_cell BK190.out 6).trans rfl, (blk_cell BK190.out 7).trans rfl, (blk_cell BK190.out 8).trans rfl, (blk_cell BK190.out 9).trans rfl, (blk_cell BK190.out 10).trans rfl, (blk_cell BK190.out 11).trans rfl, (blk_cell BK190.out 12).trans rfl, (blk_cell BK190.out 13).trans rfl⟩ (fun hHeld => ?_)
                      clear hK K
                      refine norm_ (a' := ?_) ?_ ?_
                      rotate_left
                      · show Act.put _ (some 20) _ = _
                        simp only [Act.put, List.setIfInBounds_toArray, List.set_cons_zero, List.set_cons_succ, i64_w, i32_w]
                        rfl
                      refine one_ (i := 4) (N := some 16) #[true, true, true, true, true, true, true, false, true, true, true, false, true, true, true, true, false, true, true, true, true, false, false, false, false, false] rfl rfl (one_of HT_.out (by kernel_rfl)) (by decide) (fun K hK => ?_)
                      refine Kd.R_lit_step (Kd.int .i64) _ 3 ?hg (N := 16) ?hd (xs := ([] : List Int)) (inner := []) (ok := fun _ => True) (okp := fun _ => True) ?hr ?hp (fun _ hk => hk) trivial (Below.refl _ _) (Nat.le_refl _) (by simp) ?_; (case hd => rfl); (case hg => rfl); (case hr => first | (go_simp; done) | (go_simp; rfl)); (case hp => exact (Reps.none _ _))
                      intro v192 w20 ho21 hb hg_ hnew_
                      clear hg_ hnew_
                      (first | rw [← Ny191.out] at ho21 | (simp only [Int.reduceToNat] at ho21; rw [← Ny191.out] at ho21))
                      have n0_ := Aside0.mk (Kd.R_elder' (by (with_reducible repeat (first | apply Kd.R_alloc | apply Kd.R_drewN | apply Kd.R_drew)); exact HO_189000.out) (Kd.R_base ho21) hb)
                      have n1_ := Aside0.mk (Kd.R_elder' (by (with_reducible repeat (first | apply Kd.R_alloc | apply Kd.R_drewN | apply Kd.R_drew)); exact HO199.out) (Kd.R_base ho21) hb)
                      have n2_ := Aside0.mk (Kd.R_lower (Kd.R_new' ho21 (Kd.R_lt (by (with_reducible repeat (first | apply Kd.R_alloc | apply Kd.R_drewN | apply Kd.R_drew)); exact HO199.out))) (below_size (by repeat (first | (with_reducible first | exact HB.out | apply below_alloc | apply pw_below_drewN | apply below_drew1 | refine below_set ?_ GE187.out | refine below_set ?_ GE188.out | refine below_set ?_ GE190.out) | exact HB.out))))
                      have n3_ := Aside0.mk (blk_below (g := gb187) (o := .cells #[.slice none 0 0] 29 (0, 0)) (by (with_reducible repeat (first | refine blk_drewN ?_ _ | refine blk_drew ?_ | refine blk_alloc ?_ _)); exact BK187.out) hb)
                      have n4_ := Aside0.mk (blk_below (g := gb188) (o := .cells #[.slice Ao15 x189000_1.length co15] 29 (0, 0)) (by (with_reducible repeat (first | refine blk_drewN ?_ _ | refine blk_drew ?_ | refine blk_alloc ?_ _)); exact BK188.out) hb)
                      have n5_ := Aside0.mk (blk_below (g := gb190) (o := .cells #[.int .i64 ((rd_T43 l0 x8_1).f0), .slice A189_1 ((rd_T43 l0 x8_1).f1).length c189_1, .slice A189_2 ((rd_T43 l0 x8_1).f2).length c189_2, .string ((rd_T43 l0 x8_1).f3), .int .i64 ((rd_T43 l0 x8_1).f4.f0), .slice A189_5 ((rd_T43 l0 x8_1).f4.f1).length c189_5, .int .i64 ((rd_T43 l0 x8_1).f5.f0), .int .i64 ((rd_T43 l0 x8_1).f5.f1), .int .i64 ((rd_T43 l0 x8_1).f5.f2), .int .i64 ((rd_T43 l0 x8_1).f5.f3), .int .i64 ((rd_T43 l0 x8_1).f6.f0), .int .i64 ((rd_T43 l0 x8_1).f6.f1), .int .i64 ((rd_T43 l0 x8_1).f6.f2), .bool ((rd_T43 l0 x8_1).f6.f3)] 43 (0, 0)) (by (with_reducible repeat (first | refine blk_drewN ?_ _ | refine blk_drew ?_ | refine blk_alloc ?_ _)); exact BK190.out) hb)
                      have n6_ := Aside0.mk (below_step (by repeat (first | (with_reducible first | exact HB.out | apply below_alloc | apply pw_below_drewN | apply below_drew1 | refine below_set ?_ GE187.out | refine below_set ?_ GE188.out | refine below_set ?_ GE190.out) | exact HB.out)) hb)
                      clear HO_189000
                      clear HO199
                      clear BK187
                      clear BK188
                      clear BK190
                      clear HB
                      have HO_189000 := n0_
                      have HO199 := n1_
                      have HO193 := n2_
                      have BK187 := n3_
                      have BK188 := n4_
                      have BK190 := n5_
                      have HB := n6_
                      clear n0_ n1_ n2_ n3_ n4_ n5_ n6_
                      clear hb ho21
                      refine hK.out _ _ ⟨(blk_cell BK188.out 0).trans rfl, (blk_cell BK190.out 0).trans rfl, (blk_cell BK190.out 1).trans rfl, (blk_cell BK190.out 2).trans rfl, (blk_cell BK190.out 3).trans rfl, (blk_cell BK190.out 4).trans rfl, (blk_cell BK190.out 5).trans rfl, (blk_cell BK190.out 6).trans rfl, (blk_cell BK190.out 7).trans rfl, (blk_cell BK190.out 8).trans rfl, (blk_cell BK190.out 9).trans rfl, (blk_cell BK190.out 10).trans rfl, (blk_cell BK190.out 11).trans rfl, (blk_cell BK190.out 12).trans rfl, (blk_cell BK190.out 13).trans rfl⟩ (fun hHeld => ?_)
                      clear hK K
                      refine norm_ (a' := ?_) ?_ ?_
                      rotate_left
                      · show Act.put _ (some 16) _ = _
                        simp only [Act.put, List.setIfInBounds_toArray, List.set_cons_zero, List.set_cons_succ, i64_w, i32_w]
                        rfl
                      refine one_ (i := 7) (N := some 19) #[true, true, true, true, true, true, true, true, true, true, true, false, true, true, true, true, false, true, true, true, true, false, false, false, false, false] rfl rfl (one_of HT_.out (by kernel_rfl)) (by decide) (fun K hK => ?_)
                      refine Kd.R_append_rows_step (Kd.int .i64) (w0 := w) w.heap.size (by rfl) (.tmp 16) (.tmp 18) 34 3 (.int .i64 0) 8 rfl Tryz.underlying34 info3 rfl (by decide) (by omega) v192 y191 ((rd_T43 l0 x8_1).f1) _ _ _ (fun k_ => some k_ ≠ (v198 : Value).ownBlock) (fun _ => False) rfl rfl ?aO ?aR (fun _ _ h => h) (fun _ h => h.elim) ?aF ?aB ?aS ?aL ?_
                      (case aR => repeat (first | exact (Kd.C_below HR189_1.out HB.out) | (with_reducible refine Kd.C_alloc ?_ _) | (with_reducible refine Kd.C_drewN ?_ _) | (with_reducible refine Kd.C_drew ?_)))
                      (case aB => exact (by repeat (first | (with_reducible first | exact HB.out | apply below_alloc | apply pw_below_drewN | apply below_drew1 | refine below_set ?_ GE187.out | refine below_set ?_ GE188.out | refine below_set ?_ GE190.out) | exact HB.out)))
                      (case aF => exact (fun k_ hk => Kd.fresh' (Kd.R_lt (by (with_reducible repeat (first | apply Kd.R_alloc | apply Kd.R_drewN | apply Kd.R_drew)); exact HO199.out)) k_ hk))
                      (case aO => exact (by (with_reducible repeat (first | apply Kd.R_alloc | apply Kd.R_drewN | apply Kd.R_drew)); exact Kd.R_mono HO193.out (fun _ hk => hk.2)))
                      (case aS => exact (below_size (by repeat (first | (with_reducible first | exact HB.out | apply below_alloc | apply pw_below_drewN | apply below_drew1 | refine below_set ?_ GE187.out | refine below_set ?_ GE188.out | refine below_set ?_ GE190.out) | exact HB.out))))
                      (case aL => have := LMc7.out; omega)
                      intro v195 w22 ho hb hg hat
                      rw [← Ny194.out] at ho
                      have n0_ := Aside0.mk (Kd.R_after (ok := (fun k_ => some k_ ≠ (v198 : Value).ownBlock)) (by (with_reducible repeat (first | apply Kd.R_alloc | apply Kd.R_drewN | apply Kd.R_drew)); exact Kd.R_mono HO_189000.out (fun _ hk => ⟨hk.1.2, hk.2⟩)) hg hat)
                      have n1_ := Aside0.mk (blk_grown (g := gb187) (o := .cells #[.slice none 0 0] 29 (0, 0)) (by (with_reducible repeat (first | refine blk_drewN ?_ _ | refine blk_drew ?_ | refine blk_alloc ?_ _)); exact BK187.out) hg (Kd.R_ne HO193.out BK187.out (by decide)))
                      have n2_ := Aside0.mk (blk_grown (g := gb188) (o := .cells #[.slice Ao15 x189000_1.length co15] 29 (0, 0)) (by (with_reducible repeat (first | refine blk_drewN ?_ _ | refine blk_drew ?_ | refine blk_alloc ?_ _)); exact BK188.out) hg (Kd.R_ne HO193.out BK188.out (by decide)))
                      have n3_ := Aside0.mk (blk_grown (g := gb190) (o := .cells #[.int .i64 ((rd_T43 l0 x8_1).f0), .slice A189_1 ((rd_T43 l0 x8_1).f1).length c189_1, .slice A189_2 ((rd_T43 l0 x8_1).f2).length c189_2, .string ((rd_T43 l0 x8_1).f3), .int .i64 ((rd_T43 l0 x8_1).f4.f0), .slice A189_5 ((rd_T43 l0 x8_1).f4.f1).length c189_5, .int .i64 ((rd_T43 l0 x8_1).f5.f0), .int .i64 ((rd_T43 l0 x8_1).f5.f1), .int .i64 ((rd_T43 l0 x8_1).f5.f2), .int .i64 ((rd_T43 l0 x8_1).f5.f3), .int .i64 ((rd_T43 l0 x8_1).f6.f0), .int .i64 ((rd_T43 l0 x8_1).f6.f1), .int .i64 ((rd_T43 l0 x8_1).f6.f2), .bool ((rd_T43 l0 x8_1).f6.f3)] 43 (0, 0)) (by (with_reducible repeat (first | refine blk_drewN ?_ _ | refine blk_drew ?_ | refine blk_alloc ?_ _)); exact BK190.out) hg (Kd.R_ne HO193.out BK190.out (by decide)))
                      have n4_ := Aside0.mk (Kd.R_after (ok := (fun _ => True)) (by (with_reducible repeat (first | apply Kd.R_alloc | apply Kd.R_drewN | apply Kd.R_drew)); exact HO199.out) hg hat)
                      have n5_ := Aside0.mk (hb)
                      have n6_ := Aside0.mk (ho)
                      clear HO_189000
                      clear BK187
                      clear BK188
                      clear BK190
                      clear HO199
                      clear HB
                      clear HO193
                      have HO_189000 := n0_
                      have BK187 := n1_
                      have BK188 := n2_
                      have BK190 := n3_
                      have HO199 := n4_
                      have HB := n5_
                      have HO196 := n6_
                      clear n0_ n1_ n2_ n3_ n4_ n5_ n6_
                      clear ho hb hg hat
                      refine hK.out _ _ ⟨(blk_cell BK188.out 0).trans rfl, (blk_cell BK190.out 0).trans rfl, (blk_cell BK190.out 1).trans rfl, (blk_cell BK190.out 2).trans rfl, (blk_cell BK190.out 3).trans rfl, (blk_cell BK190.out 4).trans rfl, (blk_cell BK190.out 5).trans rfl, (blk_cell BK190.out 6).trans rfl, (blk_cell BK190.out 7).trans rfl, (blk_cell BK190.out 8).trans rfl, (blk_cell BK190.out 9).trans rfl, (blk_cell BK190.out 10).trans rfl, (blk_cell BK190.out 11).trans rfl, (blk_cell BK190.out 12).trans rfl, (blk_cell BK190.out 13).trans rfl⟩ (fun hHeld => ?_)
                      clear hK K
                      refine norm_ (a' := ?_) ?_ ?_
                      rotate_left
                      · show Act.put _ (some 19) _ = _
                        simp only [Act.put, List.setIfInBounds_toArray, List.set_cons_zero, List.set_cons_succ, i64_w, i32_w]
                        rfl
                      exact norm_ (by simp only [putAll, Act.put, List.setIfInBounds_toArray, List.set_cons_zero, List.set_cons_succ]) (hCont (v192, v195, v198) _ ⟨hHeld, (by (with_reducible repeat (first | apply Kd.R_alloc | apply Kd.R_drewN | apply Kd.R_drew)); exact HO196.out), (by (with_reducible repeat (first | apply Kd.R_alloc | apply Kd.R_drewN | apply Kd.R_drew)); exact Kd.R_mono HO199.out (fun _ hk => hk.2)), (by (with_reducible repeat (first | apply Kd.R_alloc | apply Kd.R_drewN | apply Kd.R_drew)); exact Kd.R_mono HO_189000.out (fun _ hk => ⟨hk.2, hk.1⟩)), (by (with_reducible repeat (first | refine blk_drewN ?_ _ | refine blk_drew ?_ | refine blk_alloc ?_ _)); exact BK187.out), (by (with_reducible repeat (first | refine blk_drewN ?_ _ | refine blk_drew ?_ | refine blk_alloc ?_ _)); exact BK188.out), (by (with_reducible repeat (first | refine blk_drewN ?_ _ | refine blk_drew ?_ | refine blk_alloc ?_ _)); exact BK190.out), (by repeat (first | (with_reducible first | exact HB.out | apply below_alloc | apply pw_below_drewN | apply below_drew1 | refine below_set ?_ GE187.out | refine below_set ?_ GE188.out | refine below_set ?_ GE190.out) | exact HB.out))⟩)
                  rintro ⟨v192, v195, v198⟩ w23 ⟨hS_, h0_, h1_, h2_, h3_, h4_, h5_, h6_⟩
                  have n0_ : Aside0 (Kd.R (Kd.int .i64) 3 w23 w.heap.size (fun k_ => some k_ ≠ (v198 : Value).ownBlock) v195 y194) := ⟨h0_⟩
                  have n1_ : Aside0 (Kd.R (Kd.int .i64) 3 w23 w.heap.size (fun k_ => some k_ ≠ (v195 : Value).ownBlock) v198 y197) := ⟨h1_⟩
                  have n2_ : Aside0 (Kd.R k63 63 w23 w.heap.size (fun k_ => some k_ ≠ (v195 : Value).ownBlock ∧ some k_ ≠ (v198 : Value).ownBlock) (.slice Ao15 x189000_1.length co15) x189000_1) := ⟨h2_⟩
                  have n3_ : Aside0 (w23.heap[gb187]? = some (.cells #[.slice none 0 0] 29 (0, 0))) := ⟨h3_⟩
                  have n4_ : Aside0 (w23.heap[gb188]? = some (.cells #[.slice Ao15 x189000_1.length co15] 29 (0, 0))) := ⟨h4_⟩
                  have n5_ : Aside0 (w23.heap[gb190]? = some (.cells #[.int .i64 ((rd_T43 l0 x8_1).f0), .slice A189_1 ((rd_T43 l0 x8_1).f1).length c189_1, .slice A189_2 ((rd_T43 l0 x8_1).f2).length c189_2, .string ((rd_T43 l0 x8_1).f3), .int .i64 ((rd_T43 l0 x8_1).f4.f0), .slice A189_5 ((rd_T43 l0 x8_1).f4.f1).length c189_5, .int .i64 ((rd_T43 l0 x8_1).f5.f0), .int .i64 ((rd_T43 l0 x8_1).f5.f1), .int .i64 ((rd_T43 l0 x8_1).f5.f2), .int .i64 ((rd_T43 l0 x8_1).f5.f3), .int .i64 ((rd_T43 l0 x8_1).f6.f0), .int .i64 ((rd_T43 l0 x8_1).f6.f1), .int .i64 ((rd_T43 l0 x8_1).f6.f2), .bool ((rd_T43 l0 x8_1).f6.f3)] 43 (0, 0))) := ⟨h5_⟩
                  have n6_ : Aside0 (Below w.heap.size w w23) := ⟨h6_⟩
                  clear HO_189000
                  clear BK187
                  clear BK188
                  clear BK190
                  clear HB
                  clear h0_ h1_ h2_ h3_ h4_ h5_ h6_
                  have HO196 := n0_
                  have HO199 := n1_
                  have HO_189000 := n2_
                  have BK187 := n3_
                  have BK188 := n4_
                  have BK190 := n5_
                  have HB := n6_
                  clear n0_ n1_ n2_ n3_ n4_ n5_ n6_
                  have hHeld : w23.cell? ⟨gb188, 0, none⟩ = some (.slice Ao15 x189000_1.length co15) ∧ w23.cell? ⟨gb190, 0, none⟩ = some (.int .i64 ((rd_T43 l0 x8_1).f0)) ∧ w23.cell? ⟨gb190, 1, none⟩ = some (.slice A189_1 ((rd_T43 l0 x8_1).f1).length c189_1) ∧ w23.cell? ⟨gb190, 2, none⟩ = some (.slice A189_2 ((rd_T43 l0 x8_1).f2).length c189_2) ∧ w23.cell? ⟨gb190, 3, none⟩ = some (.string ((rd_T43 l0 x8_1).f3)) ∧ w23.cell? ⟨gb190, 4, none⟩ = some (.int .i64 ((rd_T43 l0 x8_1).f4.f0)) ∧ w23.cell? ⟨gb190, 5, none⟩ = some (.slice A189_5 ((rd_T43 l0 x8_1).f4.f1).length c189_5) ∧ w23.cell? ⟨gb190, 6, none⟩ = some (.int .i64 ((rd_T43 l0 x8_1).f5.f0)) ∧ w23.cell? ⟨gb190, 7, none⟩ = some (.int .i64 ((rd_T43 l0 x8_1).f5.f1)) ∧ w23.cell? ⟨gb190, 8, none⟩ = some (.int .i64 ((rd_T43 l0 x8_1).f5.f2)) ∧ w23.cell? ⟨gb190, 9, none⟩ = some (.int .i64 ((rd_T43 l0 x8_1).f5.f3)) ∧ w23.cell? ⟨gb190, 10, none⟩ = some (.int .i64 ((rd_T43 l0 x8_1).f6.f0)) ∧ w23.cell? ⟨gb190, 11, none⟩ = some (.int .i64 ((rd_T43 l0 x8_1).f6.f1)) ∧ w23.cell? ⟨gb190, 12, none⟩ = some (.int .i64 ((rd_T43 l0 x8_1).f6.f2)) ∧ w23.cell? ⟨gb190, 13, none⟩ = some (.bool ((rd_T43 l0 x8_1).f6.f3)) := hS_
                  refine norm_ (a' := ?_) ?_ ?_
                  rotate_left
                  · simp only [putAll, Act.put, List.setIfInBounds_toArray, List.set_cons_zero, List.set_cons_succ]
                    rfl
                  refine one_ (i := 11) (N := some 23) #[true, true, true, true, true, true, true, true, true, true, true, true, true, true, true, true, false, true, true, true, true, false, false, false, false, false] rfl rfl (one_of HT_.out (by kernel_rfl)) (by decide) (fun K hK => ?_)
                  refine Kd.R_append_rows_step (Kd.int .i64) (w0 := w) w.heap.size (by rfl) (.tmp 20) (.tmp 22) 34 3 (.int .i64 0) 8 rfl Tryz.underlying34 info3 rfl (by decide) (by omega) v198 y197 ((rd_T43 l0 x8_1).f2) _ _ _ (fun k_ => some k_ ≠ (v195 : Value).ownBlock) (fun _ => False) rfl rfl ?aO ?aR (fun _ _ h => h) (fun _ h => h.elim) ?aF ?aB ?aS ?aL ?_
                  (case aR => repeat (first | exact (Kd.C_below HR189_2.out HB.out) | (with_reducible refine Kd.C_alloc ?_ _) | (with_reducible refine Kd.C_drewN ?_ _) | (with_reducible refine Kd.C_drew ?_)))
                  (case aB => exact (by repeat (first | (with_reducible first | exact HB.out | apply below_alloc | apply pw_below_drewN | apply below_drew1 | refine below_set ?_ GE187.out | refine below_set ?_ GE188.out | refine below_set ?_ GE190.out) | exact HB.out)))
                  (case aF => exact (fun k_ hk => Kd.fresh' (Kd.R_lt (by (with_reducible repeat (first | apply Kd.R_alloc | apply Kd.R_drewN | apply Kd.R_drew)); exact HO196.out)) k_ hk))
                  (case aO => exact (by (with_reducible repeat (first | apply Kd.R_alloc | apply Kd.R_drewN | apply Kd.R_drew)); exact HO199.out))
                  (case aS => exact (below_size (by repeat (first | (with_reducible first | exact HB.out | apply below_alloc | apply pw_below_drewN | apply below_drew1 | refine below_set ?_ GE187.out | refine below_set ?_ GE188.out | refine below_set ?_ GE190.out) | exact HB.out))))
                  (case aL => have := LMc8.out; omega)
                  intro v201 w24 ho hb hg hat
                  rw [← Ny200.out] at ho
                  have n0_ := Aside0.mk (Kd.R_after (ok := (fun k_ => some k_ ≠ (v195 : Value).ownBlock)) (by (with_reducible repeat (first | apply Kd.R_alloc | apply Kd.R_drewN | apply Kd.R_drew)); exact HO_189000.out) hg hat)
                  have n1_ := Aside0.mk (blk_grown (g := gb187) (o := .cells #[.slice none 0 0] 29 (0, 0)) (by (with_reducible repeat (first | refine blk_drewN ?_ _ | refine blk_drew ?_ | refine blk_alloc ?_ _)); exact BK187.out) hg (Kd.R_ne HO199.out BK187.out (by decide)))
                  have n2_ := Aside0.mk (blk_grown (g := gb188) (o := .cells #[.slice Ao15 x189000_1.length co15] 29 (0, 0)) (by (with_reducible repeat (first | refine blk_drewN ?_ _ | refine blk_drew ?_ | refine blk_alloc ?_ _)); exact BK188.out) hg (Kd.R_ne HO199.out BK188.out (by decide)))
                  have n3_ := Aside0.mk (blk_grown (g := gb190) (o := .cells #[.int .i64 ((rd_T43 l0 x8_1).f0), .slice A189_1 ((rd_T43 l0 x8_1).f1).length c189_1, .slice A189_2 ((rd_T43 l0 x8_1).f2).length c189_2, .string ((rd_T43 l0 x8_1).f3), .int .i64 ((rd_T43 l0 x8_1).f4.f0), .slice A189_5 ((rd_T43 l0 x8_1).f4.f1).length c189_5, .int .i64 ((rd_T43 l0 x8_1).f5.f0), .int .i64 ((rd_T43 l0 x8_1).f5.f1), .int .i64 ((rd_T43 l0 x8_1).f5.f2), .int .i64 ((rd_T43 l0 x8_1).f5.f3), .int .i64 ((rd_T43 l0 x8_1).f6.f0), .int .i64 ((rd_T43 l0 x8_1).f6.f1), .int .i64 ((rd_T43 l0 x8_1).f6.f2), .bool ((rd_T43 l0 x8_1).f6.f3)] 43 (0, 0)) (by (with_reducible repeat (first | refine blk_drewN ?_ _ | refine blk_drew ?_ | refine blk_alloc ?_ _)); exact BK190.out) hg (Kd.R_ne HO199.out BK190.out (by decide)))
                  have n4_ := Aside0.mk (Kd.R_after (ok := (fun _ => True)) (by (with_reducible repeat (first | apply Kd.R_alloc | apply Kd.R_drewN | apply Kd.R_drew)); exact Kd.R_mono HO196.out (fun _ hk => ⟨trivial, hk⟩)) hg hat)
                  have n5_ := Aside0.mk (hb)
                  have n6_ := Aside0.mk (ho)
                  clear HO_189000
                  clear BK187
                  clear BK188
                  clear BK190
                  clear HO196
                  clear HB
                  clear HO199
                  have HO_189000 := n0_
                  have BK187 := n1_
                  have BK188 := n2_
                  have BK190 := n3_
                  have HO196 := n4_
                  have HB := n5_
                  have HO202 := n6_
                  clear n0_ n1_ n2_ n3_ n4_ n5_ n6_
                  clear ho hb hg hat
                  refine hK.out _ _ ⟨(blk_cell BK188.out 0).trans rfl, (blk_cell BK190.out 0).trans rfl, (blk_cell BK190.out 1).trans rfl, (blk_cell BK190.out 2).trans rfl, (blk_cell BK190.out 3).trans rfl, (blk_cell BK190.out 4).trans rfl, (blk_cell BK190.out 5).trans rfl, (blk_cell BK190.out 6).trans rfl, (blk_cell BK190.out 7).trans rfl, (blk_cell BK190.out 8).trans rfl, (blk_cell BK190.out 9).trans rfl, (blk_cell BK190.out 10).trans rfl, (blk_cell BK190.out 11).trans rfl, (blk_cell BK190.out 12).trans rfl, (blk_cell BK190.out 13).trans rfl⟩ (fun hHeld => ?_)
                  clear hK K
                  refine norm_ (a' := ?_) ?_ ?_
                  rotate_left
                  · show Act.put _ (some 23) _ = _
                    simp only [Act.put, List.setIfInBounds_toArray, List.set_cons_zero, List.set_cons_succ, i64_w, i32_w]
                    rfl
                  refine one_ (i := 16) (N := some 28) #[true, true, true, true, true, true, true, true, true, true, true, true, true, true, true, true, true, true, true, true, true, false, false, false, false, false] rfl rfl (one_of HT_.out (by kernel_rfl)) (by decide) (fun K hK => ?_)
                  refine goes_ Tryz.func30 (by kernel_rfl) rfl #[.agg #[.int .i64 ((rd_T43 l0 x8_1).f4.f0), .slice A189_5 ((rd_T43 l0 x8_1).f4.f1).length c189_5]] (by rfl) rfl rfl (by (try simp only [List.map_toArray, List.map_cons, List.map_nil]); first | done | rfl | (simp only [List.length_drop, List.length_take]; rfl)) ?_
                  with_reducible refine (watershedlaw11_typ.calls k1 ((rd_T43 l0 x8_1).f4.f0) _ _ ((rd_T43 l0 x8_1).f4.f1) t203 t204 _ ?side1 ?side2 A9.out).mono ?_
                  (case side1 => repeat (first | exact (Kd.C_below HR189_5.out HB.out) | (with_reducible refine Kd.C_alloc ?_ _) | (with_reducible refine Kd.C_drewN ?_ _) | (with_reducible refine Kd.C_drew ?_)))
                  (case side2 => exact HC189_5.out)
                  rintro e w25 ⟨v205, rfl, ho0, hb⟩
                  refine ⟨_, rfl, ?_⟩
                  have n0_ := Aside0.mk (Kd.R_elder' (by (with_reducible repeat (first | apply Kd.R_alloc | apply Kd.R_drewN | apply Kd.R_drew)); exact HO_189000.out) (Kd.R_base ho0) hb)
                  have n1_ := Aside0.mk (Kd.R_below (by (with_reducible repeat (first | apply Kd.R_alloc | apply Kd.R_drewN | apply Kd.R_drew)); exact HO196.out) hb)
                  have n2_ := Aside0.mk (Kd.R_below (by (with_reducible repeat (first | apply Kd.R_alloc | apply Kd.R_drewN | apply Kd.R_drew)); exact HO202.out) hb)
                  have n3_ := Aside0.mk (Kd.R_lower ho0 (below_size (by repeat (first | (with_reducible first | exact HB.out | apply below_alloc | apply pw_below_drewN | apply below_drew1 | refine below_set ?_ GE187.out | refine below_set ?_ GE188.out | refine below_set ?_ GE190.out) | exact HB.out))))
                  have n4_ := Aside0.mk (blk_below (g := gb187) (o := .cells #[.slice none 0 0] 29 (0, 0)) (by (with_reducible repeat (first | refine blk_drewN ?_ _ | refine blk_drew ?_ | refine blk_alloc ?_ _)); exact BK187.out) hb)
                  have n5_ := Aside0.mk (blk_below (g := gb188) (o := .cells #[.slice Ao15 x189000_1.length co15] 29 (0, 0)) (by (with_reducible repeat (first | refine blk_drewN ?_ _ | refine blk_drew ?_ | refine blk_alloc ?_ _)); exact BK188.out) hb)
                  have n6_ := Aside0.mk (blk_below (g := gb190) (o := .cells #[.int .i64 ((rd_T43 l0 x8_1).f0), .slice A189_1 ((rd_T43 l0 x8_1).f1).length c189_1, .slice A189_2 ((rd_T43 l0 x8_1).f2).length c189_2, .string ((rd_T43 l0 x8_1).f3), .int .i64 ((rd_T43 l0 x8_1).f4.f0), .slice A189_5 ((rd_T43 l0 x8_1).f4.f1).length c189_5, .int .i64 ((rd_T43 l0 x8_1).f5.f0), .int .i64 ((rd_T43 l0 x8_1).f5.f1), .int .i64 ((rd_T43 l0 x8_1).f5.f2), .int .i64 ((rd_T43 l0 x8_1).f5.f3), .int .i64 ((rd_T43 l0 x8_1).f6.f0), .int .i64 ((rd_T43 l0 x8_1).f6.f1), .int .i64 ((rd_T43 l0 x8_1).f6.f2), .bool ((rd_T43 l0 x8_1).f6.f3)] 43 (0, 0)) (by (with_reducible repeat (first | refine blk_drewN ?_ _ | refine blk_drew ?_ | refine blk_alloc ?_ _)); exact BK190.out) hb)
                  have n7_ := Aside0.mk (below_step (by repeat (first | (with_reducible first | exact HB.out | apply below_alloc | apply pw_below_drewN | apply below_drew1 | refine below_set ?_ GE187.out | refine below_set ?_ GE188.out | refine below_set ?_ GE190.out) | exact HB.out)) hb)
                  clear HO_189000
                  clear HO196
                  clear HO202
                  clear BK187
                  clear BK188
                  clear BK190
                  clear HB
                  have HO_189000 := n0_
                  have HO196 := n1_
                  have HO202 := n2_
                  have HO206 := n3_
                  have BK187 := n4_
                  have BK188 := n5_
                  have BK190 := n6_
                  have HB := n7_
                  clear n0_ n1_ n2_ n3_ n4_ n5_ n6_ n7_
                  (try clear hb)
                  (try clear hb2)
                  (try clear hk)
                  (try clear hi)
                  (try clear ho0)
                  obtain ⟨Ao26, co26, eo26⟩ := Kd.R_slice HO206.out
                  (first | subst eo26 | (injection eo26 with f1_ f2_ f3_; have f4_ := f1_.symm; have f5_ := f3_.symm; clear f1_ f2_ f3_; subst f4_; subst f5_))
                  obtain ⟨Ao27, co27, eo27⟩ := Kd.R_slice HO202.out
                  (first | subst eo27 | (injection eo27 with f1_ f2_ f3_; have f4_ := f1_.symm; have f5_ := f3_.symm; clear f1_ f2_ f3_; subst f4_; subst f5_))
                  obtain ⟨Ao28, co28, eo28⟩ := Kd.R_slice HO196.out
                  (first | subst eo28 | (injection eo28 with f1_ f2_ f3_; have f4_ := f1_.symm; have f5_ := f3_.symm; clear f1_ f2_ f3_; subst f4_; subst f5_))
                  refine hK.out _ _ ⟨(blk_cell BK188.out 0).trans rfl, (blk_cell BK190.out 0).trans rfl, (blk_cell BK190.out 1).trans rfl, (blk_cell BK190.out 2).trans rfl, (blk_cell BK190.out 3).trans rfl, (blk_cell BK190.out 4).trans rfl, (blk_cell BK190.out 5).trans rfl, (blk_cell BK190.out 6).trans rfl, (blk_cell BK190.out 7).trans rfl, (blk_cell BK190.out 8).trans rfl, (blk_cell BK190.out 9).trans rfl, (blk_cell BK190.out 10).trans rfl, (blk_cell BK190.out 11).trans rfl, (blk_cell BK190.out 12).trans rfl, (blk_cell BK190.out 13).trans rfl⟩ (fun hHeld => ?_)
                  clear hK K
                  refine norm_ (a' := ?_) ?_ ?_
                  rotate_left
                  · show Act.put _ (some 28) _ = _
                    simp only [Act.put, List.setIfInBounds_toArray, List.set_cons_zero, List.set_cons_succ, i64_w, i32_w]
                    rfl
                  refine pure_ (i := 21) (N := some 33) (v := ?_) (a' := ?_) #[true, true, true, true, true, true, true, true, true, true, true, true, true, true, true, true, true, true, true, true, true, true, false, false, false, false] rfl rfl (any_of HT_.out (by kernel_rfl)) (fun _ _ _ h => h) (Or.inl ⟨by rfl, ?_⟩) ?_ ?_
                  rotate_left
                  · intro w'
                    go_simp
                    with_reducible rfl
                  rotate_left
                  · simp only [Act.put, List.setIfInBounds_toArray, List.set_cons_zero, List.set_cons_succ, i64_w, i32_w]
                    rfl
                  refine one_ (i := 22) (N := some 34) #[true, true, true, true, true, true, true, true, true, true, true, true, true, true, true, true, true, true, true, true, true, true, true, false, false, false] rfl rfl (one_of HT_.out (by kernel_rfl)) (by decide) (fun K hK => ?_)
                  refine value_ (w1 := ?_) (v := ?_) (by rfl) rfl ?_ ?_
                  rotate_left 2
                  · go_simp
                    constructor
                    · rfl
                    · rfl
                  refine hK.out _ _ ⟨(blk_cell (blk_alloc BK188.out _) 0).trans rfl, (blk_cell (blk_alloc BK190.out _) 0).trans rfl, (blk_cell (blk_alloc BK190.out _) 1).trans rfl, (blk_cell (blk_alloc BK190.out _) 2).trans rfl, (blk_cell (blk_alloc BK190.out _) 3).trans rfl, (blk_cell (blk_alloc BK190.out _) 4).trans rfl, (blk_cell (blk_alloc BK190.out _) 5).trans rfl, (blk_cell (blk_alloc BK190.out _) 6).trans rfl, (blk_cell (blk_alloc BK190.out _) 7).trans rfl, (blk_cell (blk_alloc BK190.out _) 8).trans rfl, (blk_cell (blk_alloc BK190.out _) 9).trans rfl, (blk_cell (blk_alloc BK190.out _) 10).trans rfl, (blk_cell (blk_alloc BK190.out _) 11).trans rfl, (blk_cell (blk_alloc BK190.out _) 12).trans rfl, (blk_cell (blk_alloc BK190.out _) 13).trans rfl⟩ (fun hHeld => ?_)
                  clear hK K
                  refine norm_ (a' := ?_) ?_ ?_
                  rotate_left
                  · show Act.put _ (some 34) _ = _
                    simp only [Act.put, List.setIfInBounds_toArray, List.set_cons_zero, List.set_cons_succ, i64_w, i32_w]
                    rfl
                  refine one_ (i := 23) (N := some 35) #[true, true, true, true, true, true, true, true, true, true, true, true, true, true, true, true, true, true, true, true, true, true, true, true, false, false] rfl rfl (one_of HT_.out (by kernel_rfl)) (by decide) (fun K hK => ?_)
                  refine Kd.R_append_step k63 (w0 := w) w.heap.size (by rfl) (.tmp 13) (.tmp 34) 27 63 (.agg #[(.int .i64 0), (.slice none 0 0), (.slice none 0 0), (.string ⟨#[]⟩), (.int .i64 0), (.slice none 0 0), (.int .i64 0), (.int .i64 0), (.int .i64 0), (.int .i64 0), (.int .i64 0), (.int .i64 0), (.int .i64 0), (.bool false)]) 168 rfl Tryz.underlying27 info63 rfl (by decide) (by omega) (.slice Ao15 x189000_1.length co15) x189000_1 (⟨(rd_T43 l0 x8_1).f0, y194, y200, (rd_T43 l0 x8_1).f3, (⟨t203, t204⟩ : S59), (⟨(rd_T43 l0 x8_1).f5.f0, (rd_T43 l0 x8_1).f5.f1, (rd_T43 l0 x8_1).f5.f2, (rd_T43 l0 x8_1).f5.f3⟩ : S60), (⟨(rd_T43 l0 x8_1).f6.f0, (rd_T43 l0 x8_1).f6.f1, (rd_T43 l0 x8_1).f6.f2, (rd_T43 l0 x8_1).f6.f3⟩ : S61)⟩ : S63) [.int .i64 ((rd_T43 l0 x8_1).f0), .slice Ao28 y194.length co28, .slice Ao27 y200.length co27, .string ((rd_T43 l0 x8_1).f3), .int .i64 t203, .slice Ao26 t204.length co26, .int .i64 ((rd_T43 l0 x8_1).f5.f0), .int .i64 ((rd_T43 l0 x8_1).f5.f1), .int .i64 ((rd_T43 l0 x8_1).f5.f2), .int .i64 ((rd_T43 l0 x8_1).f5.f3), .int .i64 ((rd_T43 l0 x8_1).f6.f0), .int .i64 ((rd_T43 l0 x8_1).f6.f1), .int .i64 ((rd_T43 l0 x8_1).f6.f2), .bool ((rd_T43 l0 x8_1).f6.f3)] (fun _ => True) (fun k_ => ((fun _ => True)) k_ ∧ some k_ ≠ (.slice Ao15 x189000_1.length co15 : Value).ownBlock) rfl rfl ?aP (fun _ hk => hk) ?aF ?aO ?aB ?aS ?aL ?_
                  (case aP => exact k63_mkM _ _ _ (⟨(rd_T43 l0 x8_1).f0, y194, y200, (rd_T43 l0 x8_1).f3, (⟨t203, t204⟩ : S59), (⟨(rd_T43 l0 x8_1).f5.f0, (rd_T43 l0 x8_1).f5.f1, (rd_T43 l0 x8_1).f5.f2, (rd_T43 l0 x8_1).f5.f3⟩ : S60), (⟨(rd_T43 l0 x8_1).f6.f0, (rd_T43 l0 x8_1).f6.f1, (rd_T43 l0 x8_1).f6.f2, (rd_T43 l0 x8_1).f6.f3⟩ : S61)⟩ : S63) (Kd.R_mono (Kd.R_apart' (HO196.out) (Kd.R_typed HO_189000.out) (by decide)) (fun k_ hk => ⟨trivial, hk.2⟩)) (Kd.R_mono (Kd.R_apart' (HO202.out) (Kd.R_typed HO_189000.out) (by decide)) (fun k_ hk => ⟨trivial, hk.2⟩)) (Kd.R_mono (Kd.R_apart' (HO206.out) (Kd.R_typed HO_189000.out) (by decide)) (fun k_ hk => ⟨trivial, hk.2⟩)))
                  (case aB => exact (by repeat (first | (with_reducible first | exact HB.out | apply below_alloc | apply pw_below_drewN | apply below_drew1 | refine below_set ?_ GE187.out | refine below_set ?_ GE188.out | refine below_set ?_ GE190.out) | exact HB.out)))
                  (case aF => exact (fun _ _ => trivial))
                  (case aO => exact (by (with_reducible repeat (first | apply Kd.R_alloc | apply Kd.R_drewN | apply Kd.R_drew)); exact Kd.R_mono HO_189000.out (fun _ hk => trivial)))
                  (case aS => exact (below_size (by repeat (first | (with_reducible first | exact HB.out | apply below_alloc | apply pw_below_drewN | apply below_drew1 | refine below_set ?_ GE187.out | refine below_set ?_ GE188.out | refine below_set ?_ GE190.out) | exact HB.out))))
                  (case aL => have := LMc10.out; omega)
                  intro v208 w29 ho hb hg hat
                  rw [← Ny207.out] at ho
                  have n0_ := Aside0.mk (blk_grown (g := gb187) (o := .cells #[.slice none 0 0] 29 (0, 0)) (by (with_reducible repeat (first | refine blk_drewN ?_ _ | refine blk_drew ?_ | refine blk_alloc ?_ _)); exact BK187.out) hg (Kd.R_ne HO_189000.out BK187.out (by decide)))
                  have n1_ := Aside0.mk (blk_grown (g := gb188) (o := .cells #[.slice Ao15 x189000_1.length co15] 29 (0, 0)) (by (with_reducible repeat (first | refine blk_drewN ?_ _ | refine blk_drew ?_ | refine blk_alloc ?_ _)); exact BK188.out) hg (Kd.R_ne HO_189000.out BK188.out (by decide)))
                  have n2_ := Aside0.mk (blk_grown (g := gb190) (o := .cells #[.int .i64 ((rd_T43 l0 x8_1).f0), .slice A189_1 ((rd_T43 l0 x8_1).f1).length c189_1, .slice A189_2 ((rd_T43 l0 x8_1).f2).length c189_2, .string ((rd_T43 l0 x8_1).f3), .int .i64 ((rd_T43 l0 x8_1).f4.f0), .slice A189_5 ((rd_T43 l0 x8_1).f4.f1).length c189_5, .int .i64 ((rd_T43 l0 x8_1).f5.f0), .int .i64 ((rd_T43 l0 x8_1).f5.f1), .int .i64 ((rd_T43 l0 x8_1).f5.f2), .int .i64 ((rd_T43 l0 x8_1).f5.f3), .int .i64 ((rd_T43 l0 x8_1).f6.f0), .int .i64 ((rd_T43 l0 x8_1).f6.f1), .int .i64 ((rd_T43 l0 x8_1).f6.f2), .bool ((rd_T43 l0 x8_1).f6.f3)] 43 (0, 0)) (by (with_reducible repeat (first | refine blk_drewN ?_ _ | refine blk_drew ?_ | refine blk_alloc ?_ _)); exact BK190.out) hg (Kd.R_ne HO_189000.out BK190.out (by decide)))
                  have n3_ := Aside0.mk (hb)
                  have n4_ := Aside0.mk (ho)
                  clear BK187
                  clear BK188
                  clear BK190
                  clear HB
                  clear HO_189000
                  clear HO196
                  clear HO202
                  clear HO206
                  have BK187 := n0_
                  have BK188 := n1_
                  have BK190 := n2_
                  have HB := n3_
                  have HO209 := n4_
                  clear n0_ n1_ n2_ n3_ n4_
                  clear ho hb hg hat
                  obtain ⟨Ao30, co30, eo30⟩ := Kd.R_slice HO209.out
                  (first | subst eo30 | (injection eo30 with f1_ f2_ f3_; have f4_ := f1_.symm; have f5_ := f3_.symm; clear f1_ f2_ f3_; subst f4_; subst f5_))
                  refine hK.out _ _ ⟨(blk_cell BK188.out 0).trans rfl, (blk_cell BK190.out 0).trans rfl, (blk_cell BK190.out 1).trans rfl, (blk_cell BK190.out 2).trans rfl, (blk_cell BK190.out 3).trans rfl, (blk_cell BK190.out 4).trans rfl, (blk_cell BK190.out 5).trans rfl, (blk_cell BK190.out 6).trans rfl, (blk_cell BK190.out 7).trans rfl, (blk_cell BK190.out 8).trans rfl, (blk_cell BK190.out 9).trans rfl, (blk_cell BK190.out 10).trans rfl, (blk_cell BK190.out 11).trans rfl, (blk_cell BK190.out 12).trans rfl, (blk_cell BK190.out 13).trans rfl⟩ (fun hHeld => ?_)
                  clear hK K
                  refine norm_ (a' := ?_) ?_ ?_
                  rotate_left
                  · show Act.put _ (some 35) _ = _
                    simp only [Act.put, List.setIfInBounds_toArray, List.set_cons_zero, List.set_cons_succ, i64_w, i32_w]
                    rfl
                  refine pure_ (i := 24) (N := some 36) (v := ?_) (a' := ?_) #[true, true, true, true, true, true, true, true, true, true, true, true, true, true, true, true, true, true, true, true, true, true, true, true, true, false] rfl rfl (any_of HT_.out (by kernel_rfl)) (fun _ _ _ h => h) (Or.inl ⟨by rfl, ?_⟩) ?_ ?_
                  rotate_left
                  · intro w'
                    go_simp
                    with_reducible rfl
                  rotate_left
                  · simp only [Act.put, List.setIfInBounds_toArray, List.set_cons_zero, List.set_cons_succ, i64_w, i32_w]
                    rfl
                  refine last_ (i := 25) (N := none) #[true, true, true, true, true, true, true, true, true, true, true, true, true, true, true, true, true, true, true, true, true, true, true, true, true, true] rfl rfl (one_of HT_.out (by kernel_rfl)) (by decide) (fun K hK => ?_)
                  have hs31 : w29.cell? ⟨gb188, 0, none⟩ = some (.slice Ao15 x189000_1.length co15) := (blk_cell BK188.out 0).trans rfl
                  have hfs31 := blk_frozen BK188.out 0
                  have hns31_0 := NB187_188.out
                  have hns31_2 := NB190_188.out
                  have hms31_0 := NB188_187.out
                  have hms31_2 := NB188_190.out
                  refine skip_ (w1 := ?_) (by rfl) rfl ?_ ?_
                  rotate_left
                  · go_simp
                    rfl
                  refine hK.out _ _ ?_
                  clear hK K
                  refine done_ (done_of HT_.out (by kernel_rfl)) ?_
                  try go_wp2
                  go_roundg k1
                  case measure => have := HK1.out; omega
                  case rel => exact ⟨(wrap64 (x8_1 + 1)), (y207), (.slice Ao30 y207.length co30), (by first | rfl | (simp; done) | (simp [*]; done)), H', ⟨by have := HK1.out; omega⟩, ⟨by (with_reducible repeat (first | apply Kd.R_alloc | apply Kd.R_drewN | apply Kd.R_drew)); exact Kd.R_mono (Kd.R_far (p := ⟨gb188, 0, none⟩) (Kd.R_types HO209.out BK188.out (by decide)) (fun _ hk => hk.2) (.slice Ao30 y207.length co30)) (fun _ hk => trivial)⟩, ⟨by (with_reducible repeat (first | refine blk_drewN ?_ _ | refine blk_drew ?_ | refine blk_alloc ?_ _)); refine blk_far ?_ NB187_188.out _; (with_reducible repeat (first | refine blk_drewN ?_ _ | refine blk_drew ?_ | refine blk_alloc ?_ _)); exact BK187.out⟩, ⟨by (with_reducible repeat (first | refine blk_drewN ?_ _ | refine blk_drew ?_ | refine blk_alloc ?_ _)); refine blk_put (cs := #[.slice Ao15 x189000_1.length co15]) ?_ 0 _ rfl; (with_reducible repeat (first | refine blk_drewN ?_ _ | refine blk_drew ?_ | refine blk_alloc ?_ _)); exact BK188.out⟩, ⟨by repeat (first | (with_reducible first | exact HB.out | apply below_alloc | apply pw_below_drewN | apply below_drew1 | refine below_set ?_ GE187.out | refine below_set ?_ GE188.out | refine below_set ?_ GE190.out) | exact HB.out)⟩⟩
                · rw [if_neg c10] at H
                  exact absurd H (by simp)
              · rw [if_neg c8] at H
                exact absurd H (by simp)
            · rw [if_neg c7] at H
              exact absurd H (by simp)
          · rw [if_neg c6] at H
            exact absurd H (by simp)
        · rw [if_neg c5] at H
          exact absurd H (by simp)
      · rw [if_neg c4] at H
        have c4b0 : decide (x8_1 < (l0.length : Int)) = false := decide_eq_false c4
        clear c4
        obtain rfl := Option.some.inj H
        have hnb32 := NB188_187.out
        have hnc32 := NB187_188.out
        have hcz33_0 : wr.cell? ⟨gb188, 0, none⟩ = some (u189000) := (blk_cell BK188.out 0).trans rfl
        have hfz33_0 := blk_frozen BK188.out 0
        obtain ⟨Ao34, co34, eo34⟩ := Kd.R_slice HO_189000.out
        subst eo34
        have hcz35_0 : wr.cell? ⟨gb187, 0, none⟩ = some (.slice none 0 0) := (blk_cell BK187.out 0).trans rfl
        have hfz35_0 := blk_frozen BK187.out 0
        go_wp2
        refine bodyPost_ret (results_cell_row rfl _ _ gb187 29 #[.slice Ao34 x189000_1.length co34] (0, 0) _ rfl (by (with_reducible repeat (first | refine blk_drewN ?_ _ | refine blk_drew ?_ | refine blk_alloc ?_ _)); refine blk_put (cs := #[.slice none 0 0]) ?_ 0 _ rfl; (with_reducible repeat (first | refine blk_drewN ?_ _ | refine blk_drew ?_ | refine blk_alloc ?_ _)); exact BK187.out) Tryz.underlying29 rfl (by kernel_rfl)) rfl ?_
        exact ⟨_, by first | rfl | (simp [errW_none, errW_some] <;> rfl) | (simp [*, errW_none, errW_some] <;> rfl), by (with_reducible repeat (first | apply Kd.R_alloc | apply Kd.R_drewN | apply Kd.R_drew)); exact Kd.R_mono (Kd.R_far (p := ⟨gb187, 0, none⟩) (Kd.R_types HO_189000.out BK187.out (by decide)) (fun _ hk => hk.2) (.slice Ao34 x189000_1.length co34)) (fun _ hk => trivial), by repeat (first | (with_reducible first | exact HB.out | apply below_alloc | apply pw_below_drewN | apply below_drew1 | refine below_set ?_ GE187.out | refine below_set ?_ GE188.out) | exact HB.out)⟩

-- NOT PRINTED: function 4 (watershedlaw11_GraphLines)

end Go.Proofs.YtamfloegflejnaaGreatDoor.PGraphLines
