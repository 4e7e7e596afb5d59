-- PRINTED BY print.sh 35421559b90ae4d0a3588c463048766b98c2df88dd9212a6774a882060cdf62d: not written by this session
import Derived.Test.YtamfloegflejnaaDoorPExprNumbersx0
namespace Go.Proofs.YtamfloegflejnaaDoor.PExprNumbers
open Go.RowKit Go.Proofs.YtamfloegflejnaaDoorW.PrintWords Go.Proofs.YtamfloegflejnaaDoorW.PrintLast Go.Proofs.YtamfloegflejnaaDoorW.PrintMore
attribute [local go_sem] max2_int min2_int max_two min_two max_three min_three max_four min_four   -- for this text's walks alone
set_option linter.unusedVariables false
set_option linter.unusedSimpArgs false

/-! ### expr_shape: function 13 -/
mutual
def expr_shape.j0 : Nat → ByteArray → Bool → Option (ByteArray × Bool)
  | 0, _, _ => none
  | k + 1, x4, x5 => if x5 = true then (some ((⟨#[]⟩ : ByteArray), true)) else (if x4.toList = ([110, 101, 103] : List UInt8) then (expr_shape.j1 k x4 (x4.toList == ([110, 101, 103] : List UInt8))) else (if x4.toList = ([110, 111, 116] : List UInt8) then (expr_shape.j1 k x4 (x4.toList == ([110, 111, 116] : List UInt8))) else (if x4.toList = ([102, 105, 114, 115, 116] : List UInt8) then (expr_shape.j1 k x4 (x4.toList == ([102, 105, 114, 115, 116] : List UInt8))) else (if x4.toList = ([115, 101, 99, 111, 110, 100] : List UInt8) then (expr_shape.j1 k x4 (x4.toList == ([115, 101, 99, 111, 110, 100] : List UInt8))) else (if x4.toList = ([108, 101, 110] : List UInt8) then (expr_shape.j1 k x4 (x4.toList == ([108, 101, 110] : List UInt8))) else (if x4.toList = ([115, 111, 114, 116] : List UInt8) then (expr_shape.j1 k x4 (x4.toList == ([115, 111, 114, 116] : List UInt8))) else (if x4.toList = ([115, 111, 109, 101] : List UInt8) then (expr_shape.j1 k x4 (x4.toList == ([115, 111, 109, 101] : List UInt8))) else (if x4.toList = ([105, 115, 95, 115, 111, 109, 101] : List UInt8) then (expr_shape.j1 k x4 (x4.toList == ([105, 115, 95, 115, 111, 109, 101] : List UInt8))) else (if x4.toList = ([115, 105, 122, 101] : List UInt8) then (expr_shape.j1 k x4 (x4.toList == ([115, 105, 122, 101] : List UInt8))) else (if x4.toList = ([98, 121, 116, 101, 115] : List UInt8) then (expr_shape.j1 k x4 (x4.toList == ([98, 121, 116, 101, 115] : List UInt8))) else (if x4.toList = ([116, 101, 120, 116] : List UInt8) then (expr_shape.j1 k x4 (x4.toList == ([116, 101, 120, 116] : List UInt8))) else (if x4.toList = ([115, 104, 111, 119] : List UInt8) then (expr_shape.j1 k x4 (x4.toList == ([115, 104, 111, 119] : List UInt8))) else (if x4.toList = ([114, 101] : List UInt8) then (expr_shape.j1 k x4 (x4.toList == ([114, 101] : List UInt8))) else (if x4.toList = ([105, 109] : List UInt8) then (expr_shape.j1 k x4 (x4.toList == ([105, 109] : List UInt8))) else (if x4.toList = ([99, 111, 110, 106] : List UInt8) then (expr_shape.j1 k x4 (x4.toList == ([99, 111, 110, 106] : List UInt8))) else (expr_shape.j1 k x4 (x4.toList == ([114, 97, 110, 103, 101] : List UInt8))))))))))))))))))
def expr_shape.j1 : Nat → ByteArray → Bool → Option (ByteArray × Bool)
  | 0, _, _ => none
  | k + 1, x4, x9 => if x9 = true then (some ((⟨#[101]⟩ : ByteArray), true)) else (if x4.toList = ([97, 100, 100] : List UInt8) then (expr_shape.j2 k x4 (x4.toList == ([97, 100, 100] : List UInt8))) else (if x4.toList = ([115, 117, 98] : List UInt8) then (expr_shape.j2 k x4 (x4.toList == ([115, 117, 98] : List UInt8))) else (if x4.toList = ([109, 117, 108] : List UInt8) then (expr_shape.j2 k x4 (x4.toList == ([109, 117, 108] : List UInt8))) else (if x4.toList = ([100, 105, 118] : List UInt8) then (expr_shape.j2 k x4 (x4.toList == ([100, 105, 118] : List UInt8))) else (if x4.toList = ([109, 111, 100] : List UInt8) then (expr_shape.j2 k x4 (x4.toList == ([109, 111, 100] : List UInt8))) else (if x4.toList = ([101, 113] : List UInt8) then (expr_shape.j2 k x4 (x4.toList == ([101, 113] : List UInt8))) else (if x4.toList = ([108, 116] : List UInt8) then (expr_shape.j2 k x4 (x4.toList == ([108, 116] : List UInt8))) else (if x4.toList = ([97, 110, 100] : List UInt8) then (expr_shape.j2 k x4 (x4.toList == ([97, 110, 100] : List UInt8))) else (if x4.toList = ([111, 114] : List UInt8) then (expr_shape.j2 k x4 (x4.toList == ([111, 114] : List UInt8))) else (if x4.toList = ([112, 97, 105, 114] : List UInt8) then (expr_shape.j2 k x4 (x4.toList == ([112, 97, 105, 114] : List UInt8))) else (if x4.toList = ([99, 111, 110, 115] : List UInt8) then (expr_shape.j2 k x4 (x4.toList == ([99, 111, 110, 115] : List UInt8))) else (if x4.toList = ([99, 111, 110, 99, 97, 116] : List UInt8) then (expr_shape.j2 k x4 (x4.toList == ([99, 111, 110, 99, 97, 116] : List UInt8))) else (if x4.toList = ([97, 116] : List UInt8) then (expr_shape.j2 k x4 (x4.toList == ([97, 116] : List UInt8))) else (if x4.toList = ([111, 114, 95, 101, 108, 115, 101] : List UInt8) then (expr_shape.j2 k x4 (x4.toList == ([111, 114, 95, 101, 108, 115, 101] : List UInt8))) else (if x4.toList = ([106, 111, 105, 110] : List UInt8) then (expr_shape.j2 k x4 (x4.toList == ([106, 111, 105, 110] : List UInt8))) else (expr_shape.j2 k x4 (x4.toList == ([112, 111, 105, 110, 116] : List UInt8))))))))))))))))))
def expr_shape.j2 : Nat → ByteArray → Bool → Option (ByteArray × Bool)
  | 0, _, _ => none
  | k + 1, x4, x26 => if x26 = true then (some ((⟨#[101, 101]⟩ : ByteArray), true)) else (if x4.toList = ([105, 102] : List UInt8) then (expr_shape.j3 k x4 (x4.toList == ([105, 102] : List UInt8))) else (expr_shape.j3 k x4 (x4.toList == ([99, 117, 116] : List UInt8))))
def expr_shape.j3 : Nat → ByteArray → Bool → Option (ByteArray × Bool)
  | 0, _, _ => none
  | k + 1, x4, x43 => if x43 = true then (some ((⟨#[101, 101, 101]⟩ : ByteArray), true)) else (if x4.toList = ([108, 105, 115, 116] : List UInt8) then (some ((⟨#[43]⟩ : ByteArray), true)) else (if x4.toList = ([115, 105, 100, 101] : List UInt8) then (some ((⟨#[100]⟩ : ByteArray), true)) else (if x4.toList = ([110, 105, 108] : List UInt8) then (expr_shape.j4 k x4 (x4.toList == ([110, 105, 108] : List UInt8))) else (expr_shape.j4 k x4 (x4.toList == ([110, 111, 110, 101] : List UInt8))))))
def expr_shape.j4 : Nat → ByteArray → Bool → Option (ByteArray × Bool)
  | 0, _, _ => none
  | k + 1, x4, x50 => if x50 = true then (some ((⟨#[116]⟩ : ByteArray), true)) else (if x4.toList = ([108, 101, 116] : List UInt8) then (some ((⟨#[110, 101, 101]⟩ : ByteArray), true)) else (if x4.toList = ([109, 97, 112] : List UInt8) then (expr_shape.j5 k x4 (x4.toList == ([109, 97, 112] : List UInt8))) else (expr_shape.j5 k x4 (x4.toList == ([102, 105, 108, 116, 101, 114] : List UInt8)))))
def expr_shape.j5 : Nat → ByteArray → Bool → Option (ByteArray × Bool)
  | 0, _, _ => none
  | k + 1, x4, x55 => if x55 = true then (some ((⟨#[101, 110, 101]⟩ : ByteArray), true)) else (if x4.toList = ([102, 111, 108, 100] : List UInt8) then (some ((⟨#[101, 101, 110, 110, 101]⟩ : ByteArray), true)) else (some ((⟨#[]⟩ : ByteArray), false)))
end
def expr_shape.f (k : Nat) (a0 : ByteArray) : Option (ByteArray × Bool) := if a0.toList = ([116, 114, 117, 101] : List UInt8) then (expr_shape.j0 k a0 (a0.toList == ([116, 114, 117, 101] : List UInt8))) else (if a0.toList = ([102, 97, 108, 115, 101] : List UInt8) then (expr_shape.j0 k a0 (a0.toList == ([102, 97, 108, 115, 101] : List UInt8))) else (expr_shape.j0 k a0 (a0.toList == ([105, 116] : List UInt8))))
theorem expr_shape.mono_l : ∀ k, (∀ y0 y1, LeO (expr_shape.j0 k y0 y1) (expr_shape.j0 (k + 1) y0 y1)) ∧ (∀ y0 y1, LeO (expr_shape.j1 k y0 y1) (expr_shape.j1 (k + 1) y0 y1)) ∧ (∀ y0 y1, LeO (expr_shape.j2 k y0 y1) (expr_shape.j2 (k + 1) y0 y1)) ∧ (∀ y0 y1, LeO (expr_shape.j3 k y0 y1) (expr_shape.j3 (k + 1) y0 y1)) ∧ (∀ y0 y1, LeO (expr_shape.j4 k y0 y1) (expr_shape.j4 (k + 1) y0 y1)) ∧ (∀ y0 y1, LeO (expr_shape.j5 k y0 y1) (expr_shape.j5 (k + 1) y0 y1))
  | 0 => ⟨fun _ _ r h => by simp [expr_shape.j0] at h, fun _ _ r h => by simp [expr_shape.j1] at h, fun _ _ r h => by simp [expr_shape.j2] at h, fun _ _ r h => by simp [expr_shape.j3] at h, fun _ _ r h => by simp [expr_shape.j4] at h, fun _ _ r h => by simp [expr_shape.j5] at h⟩
  | k + 1 => by
    obtain ⟨ih0, ih1, ih2, ih3, ih4, ih5⟩ := expr_shape.mono_l k
    refine ⟨?_, ?_, ?_, ?_, ?_, ?_⟩
    · intro y0 y1
      unfold expr_shape.j0
      repeat' first
      | (with_reducible exact ih0 _ _)
      | (with_reducible exact ih1 _ _)
      | (with_reducible exact ih2 _ _)
      | (with_reducible exact ih3 _ _)
      | (with_reducible exact ih4 _ _)
      | (with_reducible exact ih5 _ _)
      | (with_reducible exact LeO.refl _)
      | (with_reducible exact LeO.none _)
      | (with_reducible refine LeO.ite ?_ ?_)
      | (with_reducible refine LeO.bind ?_ (fun _ => ?_))
      | exact ih0 _ _
      | exact ih1 _ _
      | exact ih2 _ _
      | exact ih3 _ _
      | exact ih4 _ _
      | exact ih5 _ _
      | exact LeO.none _
      | refine LeO.ite ?_ ?_
      | refine LeO.bind ?_ (fun _ => ?_)
    · intro y0 y1
      unfold expr_shape.j1
      repeat' first
      | (with_reducible exact ih0 _ _)
      | (with_reducible exact ih1 _ _)
      | (with_reducible exact ih2 _ _)
      | (with_reducible exact ih3 _ _)
      | (with_reducible exact ih4 _ _)
      | (with_reducible exact ih5 _ _)
      | (with_reducible exact LeO.refl _)
      | (with_reducible exact LeO.none _)
      | (with_reducible refine LeO.ite ?_ ?_)
      | (with_reducible refine LeO.bind ?_ (fun _ => ?_))
      | exact ih0 _ _
      | exact ih1 _ _
      | exact ih2 _ _
      | exact ih3 _ _
      | exact ih4 _ _
      | exact ih5 _ _
      | exact LeO.none _
      | refine LeO.ite ?_ ?_
      | refine LeO.bind ?_ (fun _ => ?_)
    · intro y0 y1
      unfold expr_shape.j2
      repeat' first
      | (with_reducible exact ih0 _ _)
      | (with_reducible exact ih1 _ _)
      | (with_reducible exact ih2 _ _)
      | (with_reducible exact ih3 _ _)
      | (with_reducible exact ih4 _ _)
      | (with_reducible exact ih5 _ _)
      | (with_reducible exact LeO.refl _)
      | (with_reducible exact LeO.none _)
      | (with_reducible refine LeO.ite ?_ ?_)
      | (with_reducible refine LeO.bind ?_ (fun _ => ?_))
      | exact ih0 _ _
      | exact ih1 _ _
      | exact ih2 _ _
      | exact ih3 _ _
      | exact ih4 _ _
      | exact ih5 _ _
      | exact LeO.none _
      | refine LeO.ite ?_ ?_
      | refine LeO.bind ?_ (fun _ => ?_)
    · intro y0 y1
      unfold expr_shape.j3
      repeat' first
      | (with_reducible exact ih0 _ _)
      | (with_reducible exact ih1 _ _)
      | (with_reducible exact ih2 _ _)
      | (with_reducible exact ih3 _ _)
      | (with_reducible exact ih4 _ _)
      | (with_reducible exact ih5 _ _)
      | (with_reducible exact LeO.refl _)
      | (with_reducible exact LeO.none _)
      | (with_reducible refine LeO.ite ?_ ?_)
      | (with_reducible refine LeO.bind ?_ (fun _ => ?_))
      | exact ih0 _ _
      | exact ih1 _ _
      | exact ih2 _ _
      | exact ih3 _ _
      | exact ih4 _ _
      | exact ih5 _ _
      | exact LeO.none _
      | refine LeO.ite ?_ ?_
      | refine LeO.bind ?_ (fun _ => ?_)
    · intro y0 y1
      unfold expr_shape.j4
      repeat' first
      | (with_reducible exact ih0 _ _)
      | (with_reducible exact ih1 _ _)
      | (with_reducible exact ih2 _ _)
      | (with_reducible exact ih3 _ _)
      | (with_reducible exact ih4 _ _)
      | (with_reducible exact ih5 _ _)
      | (with_reducible exact LeO.refl _)
      | (with_reducible exact LeO.none _)
      | (with_reducible refine LeO.ite ?_ ?_)
      | (with_reducible refine LeO.bind ?_ (fun _ => ?_))
      | exact ih0 _ _
      | exact ih1 _ _
      | exact ih2 _ _
      | exact ih3 _ _
      | exact ih4 _ _
      | exact ih5 _ _
      | exact LeO.none _
      | refine LeO.ite ?_ ?_
      | refine LeO.bind ?_ (fun _ => ?_)
    · intro y0 y1
      unfold expr_shape.j5
      repeat' first
      | (with_reducible exact ih0 _ _)
      | (with_reducible exact ih1 _ _)
      | (with_reducible exact ih2 _ _)
      | (with_reducible exact ih3 _ _)
      | (with_reducible exact ih4 _ _)
      | (with_reducible exact ih5 _ _)
      | (with_reducible exact LeO.refl _)
      | (with_reducible exact LeO.none _)
      | (with_reducible refine LeO.ite ?_ ?_)
      | (with_reducible refine LeO.bind ?_ (fun _ => ?_))
      | exact ih0 _ _
      | exact ih1 _ _
      | exact ih2 _ _
      | exact ih3 _ _
      | exact ih4 _ _
      | exact ih5 _ _
      | exact LeO.none _
      | refine LeO.ite ?_ ?_
      | refine LeO.bind ?_ (fun _ => ?_)
theorem expr_shape.mono : ∀ a0 k, LeO (expr_shape.f k a0) (expr_shape.f (k + 1) a0) := by
  intro a0 k
  obtain ⟨ih0, ih1, ih2, ih3, ih4, ih5⟩ := expr_shape.mono_l k
  unfold expr_shape.f
  repeat' first
      | (with_reducible exact ih0 _ _)
      | (with_reducible exact ih1 _ _)
      | (with_reducible exact ih2 _ _)
      | (with_reducible exact ih3 _ _)
      | (with_reducible exact ih4 _ _)
      | (with_reducible exact ih5 _ _)
      | (with_reducible exact LeO.refl _)
      | (with_reducible exact LeO.none _)
      | (with_reducible refine LeO.ite ?_ ?_)
      | (with_reducible refine LeO.bind ?_ (fun _ => ?_))
      | exact ih0 _ _
      | exact ih1 _ _
      | exact ih2 _ _
      | exact ih3 _ _
      | exact ih4 _ _
      | exact ih5 _ _
      | exact LeO.none _
      | refine LeO.ite ?_ ?_
      | refine LeO.bind ?_ (fun _ => ?_)
set_option maxHeartbeats 8000000 in
set_option maxRecDepth 100000 in
theorem expr_shape.calls (k : Nat) (a0 : ByteArray) (r1 : ByteArray) (r2 : Bool) (w : World) (h : expr_shape.f k a0 = some (r1, r2)) :
    Calls Tryd.prog 13 #[.string a0] w fun e w' => e = .returned (.tuple #[.string r1, .bool r2]) ∧ Drawn0 w w' := by
  have H : (if a0.toList = ([116, 114, 117, 101] : List UInt8) then (expr_shape.j0 k a0 (a0.toList == ([116, 114, 117, 101] : List UInt8))) else (if a0.toList = ([102, 97, 108, 115, 101] : List UInt8) then (expr_shape.j0 k a0 (a0.toList == ([102, 97, 108, 115, 101] : List UInt8))) else (expr_shape.j0 k a0 (a0.toList == ([105, 116] : List UInt8))))) = some (r1, r2) := h
  clear h
  have HC2 := Aside0.mk H
  clear H
  go_enter Tryd.func13, Tryd.ntmps13
  go_upto_if 5 with (fail)
  go_cut [5] (fun v5 wc => ∃ (kq : Nat) (x5_1 : Bool), v5 = .bool x5_1 ∧ Aside0 (expr_shape.j0 kq a0 x5_1 = some (r1, r2)) ∧ Aside0 (kq ≤ k) ∧ Drawn0 w wc)
  case first =>
    have H := HC2.out
    clear HC2
    by_cases c3 : a0.toList = ([116, 114, 117, 101] : List UInt8)
    · rw [if_pos c3] at H
      have c3b0 : (a0.toList == ([116, 114, 117, 101] : List UInt8)) = true := beq_iff_eq.mpr c3
      have c3b1 : (a0.toList != ([116, 114, 117, 101] : List UInt8)) = false := bne_eq_false_iff_eq.mpr c3
      clear c3
      (first | rw [c3b0] | (simp only [i64_w, i32_w]; rw [c3b0]) | skip)
      have H' := Aside0.mk H
      clear H
      go_wp2
      go_meet
      case rel => exact ⟨_, ((a0.toList == ([116, 114, 117, 101] : List UInt8))), (by first | rfl | (simp; done) | (simp [*]; done)), H', ⟨by first | omega | exact Nat.le_refl _⟩, by repeat (first | exact Drawn0.refl _ | apply Drawn0.step)⟩
    · rw [if_neg c3] at H
      have c3b0 : (a0.toList == ([116, 114, 117, 101] : List UInt8)) = false := beq_eq_false_iff_ne.mpr c3
      have c3b1 : (a0.toList != ([116, 114, 117, 101] : List UInt8)) = true := bne_iff_ne.mpr c3
      (first | rw [c3b0] | (simp only [i64_w, i32_w]; rw [c3b0]) | skip)
      by_cases c4 : a0.toList = ([102, 97, 108, 115, 101] : List UInt8)
      · rw [if_pos c4] at H
        have c4b0 : (a0.toList == ([102, 97, 108, 115, 101] : List UInt8)) = true := beq_iff_eq.mpr c4
        have c4b1 : (a0.toList != ([102, 97, 108, 115, 101] : List UInt8)) = false := bne_eq_false_iff_eq.mpr c4
        clear c4
        have H' := Aside0.mk H
        clear H
        go_wp2
        go_meet
        case rel => exact ⟨_, ((a0.toList == ([102, 97, 108, 115, 101] : List UInt8))), (by first | rfl | (simp; done) | (simp [*]; done)), H', ⟨by first | omega | exact Nat.le_refl _⟩, by repeat (first | exact Drawn0.refl _ | apply Drawn0.step)⟩
      · rw [if_neg c4] at H
        have c4b0 : (a0.toList == ([102, 97, 108, 115, 101] : List UInt8)) = false := beq_eq_false_iff_ne.mpr c4
        have c4b1 : (a0.toList != ([102, 97, 108, 115, 101] : List UInt8)) = true := bne_iff_ne.mpr c4
        have H' := Aside0.mk H
        clear H
        go_wp2
        go_meet
        case rel => exact ⟨_, ((a0.toList == ([105, 116] : List UInt8))), (by first | rfl | (simp; done) | (simp [*]; done)), H', ⟨by first | omega | exact Nat.le_refl _⟩, by repeat (first | exact Drawn0.refl _ | apply Drawn0.step)⟩
  case rest =>
    clear HC2
    try clear c1
    try clear p2
    try clear c3
    try clear c3b0
    try clear c3b1
    try clear c4
    try clear c4b0
    try clear c4b1
    obtain ⟨kq, x5_1, rfl, HA, HJ1, ⟨mc1, rfl⟩⟩ := hcut
    cases kq with
    | zero => exact absurd HA.out (by simp [expr_shape.j0])
    | succ kj1 =>
      have H := HA.out
      clear HA
      simp only [expr_shape.j0] at H
      by_cases c5 : x5_1 = true
      · subst c5
        have H1 : (some ((⟨#[]⟩ : ByteArray), true)) = some (r1, r2) := by rw [if_pos rfl] at H; exact H
        clear H
        have H := H1
        clear H1
        simp only [Option.some.injEq, Prod.mk.injEq] at H
        obtain ⟨rfl, rfl⟩ := H
        go_wp2
        go_ret2
        exact ⟨by first | rfl | (simp; done) | (simp [*]; done), by repeat (first | exact Drawn0.refl _ | apply Drawn0.step)⟩
      · replace c5 := Bool.eq_false_iff.mpr c5
        subst c5
        have H1 : (if a0.toList = ([110, 101, 103] : List UInt8) then (expr_shape.j1 kj1 a0 (a0.toList == ([110, 101, 103] : List UInt8))) else (if a0.toList = ([110, 111, 116] : List UInt8) then (expr_shape.j1 kj1 a0 (a0.toList == ([110, 111, 116] : List UInt8))) else (if a0.toList = ([102, 105, 114, 115, 116] : List UInt8) then (expr_shape.j1 kj1 a0 (a0.toList == ([102, 105, 114, 115, 116] : List UInt8))) else (if a0.toList = ([115, 101, 99, 111, 110, 100] : List UInt8) then (expr_shape.j1 kj1 a0 (a0.toList == ([115, 101, 99, 111, 110, 100] : List UInt8))) else (if a0.toList = ([108, 101, 110] : List UInt8) then (expr_shape.j1 kj1 a0 (a0.toList == ([108, 101, 110] : List UInt8))) else (if a0.toList = ([115, 111, 114, 116] : List UInt8) then (expr_shape.j1 kj1 a0 (a0.toList == ([115, 111, 114, 116] : List UInt8))) else (if a0.toList = ([115, 111, 109, 101] : List UInt8) then (expr_shape.j1 kj1 a0 (a0.toList == ([115, 111, 109, 101] : List UInt8))) else (if a0.toList = ([105, 115, 95, 115, 111, 109, 101] : List UInt8) then (expr_shape.j1 kj1 a0 (a0.toList == ([105, 115, 95, 115, 111, 109, 101] : List UInt8))) else (if a0.toList = ([115, 105, 122, 101] : List UInt8) then (expr_shape.j1 kj1 a0 (a0.toList == ([115, 105, 122, 101] : List UInt8))) else (if a0.toList = ([98, 121, 116, 101, 115] : List UInt8) then (expr_shape.j1 kj1 a0 (a0.toList == ([98, 121, 116, 101, 115] : List UInt8))) else (if a0.toList = ([116, 101, 120, 116] : List UInt8) then (expr_shape.j1 kj1 a0 (a0.toList == ([116, 101, 120, 116] : List UInt8))) else (if a0.toList = ([115, 104, 111, 119] : List UInt8) then (expr_shape.j1 kj1 a0 (a0.toList == ([115, 104, 111, 119] : List UInt8))) else (if a0.toList = ([114, 101] : List UInt8) then (expr_shape.j1 kj1 a0 (a0.toList == ([114, 101] : List UInt8))) else (if a0.toList = ([105, 109] : List UInt8) then (expr_shape.j1 kj1 a0 (a0.toList == ([105, 109] : List UInt8))) else (if a0.toList = ([99, 111, 110, 106] : List UInt8) then (expr_shape.j1 kj1 a0 (a0.toList == ([99, 111, 110, 106] : List UInt8))) else (expr_shape.j1 kj1 a0 (a0.toList == ([114, 97, 110, 103, 101] : List UInt8)))))))))))))))))) = some (r1, r2) := by rw [if_neg (show ¬ (false = true) by decide)] at H; exact H
        clear H
        have H := H1
        clear H1
        have HC6 := Aside0.mk H
        clear H
        go_upto_if 9 with (fail)
        go_cut [9] (fun v9 wc => ∃ (kq : Nat) (x9_5 : Bool), v9 = .bool x9_5 ∧ Aside0 (expr_shape.j1 kq a0 x9_5 = some (r1, r2)) ∧ Aside0 (kq ≤ kj1) ∧ Drawn0 w wc)
        case first =>
          have H := HC6.out
          clear HC6
          by_cases c7 : a0.toList = ([110, 101, 103] : List UInt8)
          · rw [if_pos c7] at H
            have c7b0 : (a0.toList == ([110, 101, 103] : List UInt8)) = true := beq_iff_eq.mpr c7
            have c7b1 : (a0.toList != ([110, 101, 103] : List UInt8)) = false := bne_eq_false_iff_eq.mpr c7
            clear c7
            (first | rw [c7b0] | (simp only [i64_w, i32_w]; rw [c7b0]) | skip)
            have H' := Aside0.mk H
            clear H
            go_wp2
            go_meet
            case rel => exact ⟨_, ((a0.toList == ([110, 101, 103] : List UInt8))), (by first | rfl | (simp; done) | (simp [*]; done)), H', ⟨by have := HJ1.out; first | omega | exact Nat.le_refl _⟩, by repeat (first | exact Drawn0.refl _ | apply Drawn0.step)⟩
          · rw [if_neg c7] at H
            have c7b0 : (a0.toList == ([110, 101, 103] : List UInt8)) = false := beq_eq_false_iff_ne.mpr c7
            have c7b1 : (a0.toList != ([110, 101, 103] : List UInt8)) = true := bne_iff_ne.mpr c7
            (first | rw [c7b0] | (simp only [i64_w, i32_w]; rw [c7b0]) | skip)
            by_cases c8 : a0.toList = ([110, 111, 116] : List UInt8)
            · rw [if_pos c8] at H
              have c8b0 : (a0.toList == ([110, 111, 116] : List UInt8)) = true := beq_iff_eq.mpr c8
              have c8b1 : (a0.toList != ([110, 111, 116] : List UInt8)) = false := bne_eq_false_iff_eq.mpr c8
              clear c8
              have H' := Aside0.mk H
              clear H
              go_wp2
              go_meet
              case rel => exact ⟨_, ((a0.toList == ([110, 111, 116] : List UInt8))), (by first | rfl | (simp; done) | (simp [*]; done)), H', ⟨by have := HJ1.out; first | omega | exact Nat.le_refl _⟩, by repeat (first | exact Drawn0.refl _ | apply Drawn0.step)⟩
            · rw [if_neg c8] at H
              have c8b0 : (a0.toList == ([110, 111, 116] : List UInt8)) = false := beq_eq_false_iff_ne.mpr c8
              have c8b1 : (a0.toList != ([110, 111, 116] : List UInt8)) = true := bne_iff_ne.mpr c8
              by_cases c9 : a0.toList = ([102, 105, 114, 115, 116] : List UInt8)
              · rw [if_pos c9] at H
                have c9b0 : (a0.toList == ([102, 105, 114, 115, 116] : List UInt8)) = true := beq_iff_eq.mpr c9
                have c9b1 : (a0.toList != ([102, 105, 114, 115, 116] : List UInt8)) = false := bne_eq_false_iff_eq.mpr c9
                clear c9
                have H' := Aside0.mk H
                clear H
                go_wp2
                go_meet
                case rel => exact ⟨_, ((a0.toList == ([102, 105, 114, 115, 116] : List UInt8))), (by first | rfl | (simp; done) | (simp [*]; done)), H', ⟨by have := HJ1.out; first | omega | exact Nat.le_refl _⟩, by repeat (first | exact Drawn0.refl _ | apply Drawn0.step)⟩
              · rw [if_neg c9] at H
                have c9b0 : (a0.toList == ([102, 105, 114, 115, 116] : List UInt8)) = false := beq_eq_false_iff_ne.mpr c9
                have c9b1 : (a0.toList != ([102, 105, 114, 115, 116] : List UInt8)) = true := bne_iff_ne.mpr c9
                by_cases c10 : a0.toList = ([115, 101, 99, 111, 110, 100] : List UInt8)
                · rw [if_pos c10] at H
                  have c10b0 : (a0.toList == ([115, 101, 99, 111, 110, 100] : List UInt8)) = true := beq_iff_eq.mpr c10
                  have c10b1 : (a0.toList != ([115, 101, 99, 111, 110, 100] : List UInt8)) = false := bne_eq_false_iff_eq.mpr c10
                  clear c10
                  have H' := Aside0.mk H
                  clear H
                  go_wp2
                  go_meet
                  case rel => exact ⟨_, ((a0.toList == ([115, 101, 99, 111, 110, 100] : List UInt8))), (by first | rfl | (simp; done) | (simp [*]; done)), H', ⟨by have := HJ1.out; first | omega | exact Nat.le_refl _⟩, by repeat (first | exact Drawn0.refl _ | apply Drawn0.step)⟩
                · rw [if_neg c10] at H
                  have c10b0 : (a0.toList == ([115, 101, 99, 111, 110, 100] : List UInt8)) = false := beq_eq_false_iff_ne.mpr c10
                  have c10b1 : (a0.toList != ([115, 101, 99, 111, 110, 100] : List UInt8)) = true := bne_iff_ne.mpr c10
                  by_cases c11 : a0.toList = ([108, 101, 110] : List UInt8)
                  · rw [if_pos c11] at H
                    have c11b0 : (a0.toList == ([108, 101, 110] : List UInt8)) = true := beq_iff_eq.mpr c11
                    have c11b1 : (a0.toList != ([108, 101, 110] : List UInt8)) = false := bne_eq_false_iff_eq.mpr c11
                    clear c11
                    have H' := Aside0.mk H
                    clear H
                    go_wp2
                    go_meet
                    case rel => exact ⟨_, ((a0.toList == ([108, 101, 110] : List UInt8))), (by first | rfl | (simp; done) | (simp [*]; done)), H', ⟨by have := HJ1.out; first | omega | exact Nat.le_refl _⟩, by repeat (first | exact Drawn0.refl _ | apply Drawn0.step)⟩
                  · rw [if_neg c11] at H
                    have c11b0 : (a0.toList == ([108, 101, 110] : List UInt8)) = false := beq_eq_false_iff_ne.mpr c11
                    have c11b1 : (a0.toList != ([108, 101, 110] : List UInt8)) = true := bne_iff_ne.mpr c11
                    by_cases c12 : a0.toList = ([115, 111, 114, 116] : List UInt8)
                    · rw [if_pos c12] at H
                      have c12b0 : (a0.toList == ([115, 111, 114, 116] : List UInt8)) = true := beq_iff_eq.mpr c12
                      have c12b1 : (a0.toList != ([115, 111, 114, 116] : List UInt8)) = false := bne_eq_false_iff_eq.mpr c12
                      clear c12
                      have H' := Aside0.mk H
                      clear H
                      go_wp2
                      go_meet
                      case rel => exact ⟨_, ((a0.toList == ([115, 111, 114, 116] : List UInt8))), (by first | rfl | (simp; done) | (simp [*]; done)), H', ⟨by have := HJ1.out; first | omega | exact Nat.le_refl _⟩, by repeat (first | exact Drawn0.refl _ | apply Drawn0.step)⟩
                    · rw [if_neg c12] at H
                      have c12b0 : (a0.toList == ([115, 111, 114, 116] : List UInt8)) = false := beq_eq_false_iff_ne.mpr c12
                      have c12b1 : (a0.toList != ([115, 111, 114, 116] : List UInt8)) = true := bne_iff_ne.mpr c12
                      by_cases c13 : a0.toList = ([115, 111, 109, 101] : List UInt8)
                      · rw [if_pos c13] at H
                        have c13b0 : (a0.toList == ([115, 111, 109, 101] : List UInt8)) = true := beq_iff_eq.mpr c13
                        have c13b1 : (a0.toList != ([115, 111, 109, 101] : List UInt8)) = false := bne_eq_false_iff_eq.mpr c13
                        clear c13
                        have H' := Aside0.mk H
                        clear H
                        go_wp2
                        go_meet
                        case rel => exact ⟨_, ((a0.toList == ([115, 111, 109, 101] : List UInt8))), (by first | rfl | (simp; done) | (simp [*]; done)), H', ⟨by have := HJ1.out; first | omega | exact Nat.le_refl _⟩, by repeat (first | exact Drawn0.refl _ | apply Drawn0.step)⟩
                      · rw [if_neg c13] at H
                        have c13b0 : (a0.toList == ([115, 111, 109, 101] : List UInt8)) = false := beq_eq_false_iff_ne.mpr c13
                        have c13b1 : (a0.toList != ([115, 111, 109, 101] : List UInt8)) = true := bne_iff_ne.mpr c13
                        by_cases c14 : a0.toList = ([105, 115, 95, 115, 111, 109, 101] : List UInt8)
                        · rw [if_pos c14] at H
                          have c14b0 : (a0.toList == ([105, 115, 95, 115, 111, 109, 101] : List UInt8)) = true := beq_iff_eq.mpr c14
                          have c14b1 : (a0.toList != ([105, 115, 95, 115, 111, 109, 101] : List UInt8)) = false := bne_eq_false_iff_eq.mpr c14
                          clear c14
                          have H' := Aside0.mk H
                          clear H
                          go_wp2
                          go_meet
                          case rel => exact ⟨_, ((a0.toList == ([105, 115, 95, 115, 111, 109, 101] : List UInt8))), (by first | rfl | (simp; done) | (simp [*]; done)), H', ⟨by have := HJ1.out; first | omega | exact Nat.le_refl _⟩, by repeat (first | exact Drawn0.refl _ | apply Drawn0.step)⟩
                        · rw [if_neg c14] at H
                          have c14b0 : (a0.toList == ([105, 115, 95, 115, 111, 109, 101] : List UInt8)) = false := beq_eq_false_iff_ne.mpr c14
                          have c14b1 : (a0.toList != ([105, 115, 95, 115, 111, 109, 101] : List UInt8)) = true := bne_iff_ne.mpr c14
                          by_cases c15 : a0.toList = ([115, 105, 122, 101] : List UInt8)
                          · rw [if_pos c15] at H
                            have c15b0 : (a0.toList == ([115, 105, 122, 101] : List UInt8)) = true := beq_iff_eq.mpr c15
                            have c15b1 : (a0.toList != ([115, 105, 122, 101] : List UInt8)) = false := bne_eq_false_iff_eq.mpr c15
                            clear c15
                            have H' := Aside0.mk H
                            clear H
                            go_wp2
                            go_meet
                            case rel => exact ⟨_, ((a0.toList == ([115, 105, 122, 101] : List UInt8))), (by first | rfl | (simp; done) | (simp [*]; done)), H', ⟨by have := HJ1.out; first | omega | exact Nat.le_refl _⟩, by repeat (first | exact Drawn0.refl _ | apply Drawn0.step)⟩
                          · rw [if_neg c15] at H
                            have c15b0 : (a0.toList == ([115, 105, 122, 101] : List UInt8)) = false := beq_eq_false_iff_ne.mpr c15
                            have c15b1 : (a0.toList != ([115, 105, 122, 101] : List UInt8)) = true := bne_iff_ne.mpr c15
                            by_cases c16 : a0.toList = ([98, 121, 116, 101, 115] : List UInt8)
                            · rw [if_pos c16] at H
                              have c16b0 : (a0.toList == ([98, 121, 116, 101, 115] : List UInt8)) = true := beq_iff_eq.mpr c16
                              have c16b1 : (a0.toList != ([98, 121, 116, 101, 115] : List UInt8)) = false := bne_eq_false_iff_eq.mpr c16
                              clear c16
                              have H' := Aside0.mk H
                              clear H
                              go_wp2
                              go_meet
                              case rel => exact ⟨_, ((a0.toList == ([98, 121, 116, 101, 115] : List UInt8))), (by first | rfl | (simp; done) | (simp [*]; done)), H', ⟨by have := HJ1.out; first | omega | exact Nat.le_refl _⟩, by repeat (first | exact Drawn0.refl _ | apply Drawn0.step)⟩
                            · rw [if_neg c16] at H
                              have c16b0 : (a0.toList == ([98, 121, 116, 101, 115] : List UInt8)) = false := beq_eq_false_iff_ne.mpr c16
                              have c16b1 : (a0.toList != ([98, 121, 116, 101, 115] : List UInt8)) = true := bne_iff_ne.mpr c16
                              by_cases c17 : a0.toList = ([116, 101, 120, 116] : List UInt8)
                              · rw [if_pos c17] at H
                                have c17b0 : (a0.toList == ([116, 101, 120, 116] : List UInt8)) = true := beq_iff_eq.mpr c17
                                have c17b1 : (a0.toList != ([116, 101, 120, 116] : List UInt8)) = false := bne_eq_false_iff_eq.mpr c17
                                clear c17
                                have H' := Aside0.mk H
                                clear H
                                go_wp2
                                go_meet
                                case rel => exact ⟨_, ((a0.toList == ([116, 101, 120, 116] : List UInt8))), (by first | rfl | (simp; done) | (simp [*]; done)), H', ⟨by have := HJ1.out; first | omega | exact Nat.le_refl _⟩, by repeat (first | exact Drawn0.refl _ | apply Drawn0.step)⟩
                              · rw [if_neg c17] at H
                                have c17b0 : (a0.toList == ([116, 101, 120, 116] : List UInt8)) = false := beq_eq_false_iff_ne.mpr c17
                                have c17b1 : (a0.toList != ([116, 101, 120, 116] : List UInt8)) = true := bne_iff_ne.mpr c17
                                by_cases c18 : a0.toList = ([115, 104, 111, 119] : List UInt8)
                                · rw [if_pos c18] at H
                                  have c18b0 : (a0.toList == ([115, 104, 111, 119] : List UInt8)) = true := beq_iff_eq.mpr c18
                                  have c18b1 : (a0.toList != ([115, 104, 111, 119] : List UInt8)) = false := bne_eq_false_iff_eq.mpr c18
                                  clear c18
                                  have H' := Aside0.mk H
                                  clear H
                                  go_wp2
                                  go_meet
                                  case rel => exact ⟨_, ((a0.toList == ([115, 104, 111, 119] : List UInt8))), (by first | rfl | (simp; done) | (simp [*]; done)), H', ⟨by have := HJ1.out; first | omega | exact Nat.le_refl _⟩, by repeat (first | exact Drawn0.refl _ | apply Drawn0.step)⟩
                                · rw [if_neg c18] at H
                                  have c18b0 : (a0.toList == ([115, 104, 111, 119] : List UInt8)) = false := beq_eq_false_iff_ne.mpr c18
                                  have c18b1 : (a0.toList != ([115, 104, 111, 119] : List UInt8)) = true := bne_iff_ne.mpr c18
                                  by_cases c19 : a0.toList = ([114, 101] : List UInt8)
                                  · rw [if_pos c19] at H
                                    have c19b0 : (a0.toList == ([114, 101] : List UInt8)) = true := beq_iff_eq.mpr c19
                                    have c19b1 : (a0.toList != ([114, 101] : List UInt8)) = false := bne_eq_false_iff_eq.mpr c19
                                    clear c19
                                    have H' := Aside0.mk H
                                    clear H
                                    go_wp2
                                    go_meet
                                    case rel => exact ⟨_, ((a0.toList == ([114, 101] : List UInt8))), (by first | rfl | (simp; done) | (simp [*]; done)), H', ⟨by have := HJ1.out; first | omega | exact Nat.le_refl _⟩, by repeat (first | exact Drawn0.refl _ | apply Drawn0.step)⟩
                                  · rw [if_neg c19] at H
                                    have c19b0 : (a0.toList == ([114, 101] : List UInt8)) = false := beq_eq_false_iff_ne.mpr c19
                                    have c19b1 : (a0.toList != ([114, 101] : List UInt8)) = true := bne_iff_ne.mpr c19
                                    by_cases c20 : a0.toList = ([105, 109] : List UInt8)
                                    · rw [if_pos c20] at H
                                      have c20b0 : (a0.toList == ([105, 109] : List UInt8)) = true := beq_iff_eq.mpr c20
                                      have c20b1 : (a0.toList != ([105, 109] : List UInt8)) = false := bne_eq_false_iff_eq.mpr c20
                                      clear c20
                                      have H' := Aside0.mk H
                                      clear H
                                      go_wp2
                                      go_meet
                                      case rel => exact ⟨_, ((a0.toList == ([105, 109] : List UInt8))), (by first | rfl | (simp; done) | (simp [*]; done)), H', ⟨by have := HJ1.out; first | omega | exact Nat.le_refl _⟩, by repeat (first | exact Drawn0.refl _ | apply Drawn0.step)⟩
                                    · rw [if_neg c20] at H
                                      have c20b0 : (a0.toList == ([105, 109] : List UInt8)) = false := beq_eq_false_iff_ne.mpr c20
                                      have c20b1 : (a0.toList != ([105, 109] : List UInt8)) = true := bne_iff_ne.mpr c20
                                      by_cases c21 : a0.toList = ([99, 111, 110, 106] : List UInt8)
                                      · rw [if_pos c21] at H
                                        have c21b0 : (a0.toList == ([99, 111, 110, 106] : List UInt8)) = true := beq_iff_eq.mpr c21
                                        have c21b1 : (a0.toList != ([99, 111, 110, 106] : List UInt8)) = false := bne_eq_false_iff_eq.mpr c21
                                        clear c21
                                        have H' := Aside0.mk H
                                        clear H
                                        go_wp2
                                        go_meet
                                        case rel => exact ⟨_, ((a0.toList == ([99, 111, 110, 106] : List UInt8))), (by first | rfl | (simp; done) | (simp [*]; done)), H', ⟨by have := HJ1.out; first | omega | exact Nat.le_refl _⟩, by repeat (first | exact Drawn0.refl _ | apply Drawn0.step)⟩
                                      · rw [if_neg c21] at H
                                        have c21b0 : (a0.toList == ([99, 111, 110, 106] : List UInt8)) = false := beq_eq_false_iff_ne.mpr c21
                                        have c21b1 : (a0.toList != ([99, 111, 110, 106] : List UInt8)) = true := bne_iff_ne.mpr c21
                                        have H' := Aside0.mk H
                                        clear H
                                        go_wp2
                                        go_meet
                                        case rel => exact ⟨_, ((a0.toList == ([114, 97, 110, 103, 101] : List UInt8))), (by first | rfl | (simp; done) | (simp [*]; done)), H', ⟨by have := HJ1.out; first | omega | exact Nat.le_refl _⟩, by repeat (first | exact Drawn0.refl _ | apply Drawn0.step)⟩
        case rest =>
          clear HC6
          try clear c1
          try clear c2
          try clear p2
          try clear c3
          try clear c3b0
          try clear c3b1
          try clear c4
          try clear c4b0
          try clear c4b1
          try clear c5
          try clear c7
          try clear c7b0
          try clear c7b1
          try clear c8
          try clear c8b0
          try clear c8b1
          try clear c9
          try clear c9b0
          try clear c9b1
          try clear c10
          try clear c10b0
          try clear c10b1
          try clear c11
          try clear c11b0
          try clear c11b1
          try clear c12
          try clear c12b0
          try clear c12b1
          try clear c13
          try clear c13b0
          try clear c13b1
          try clear c14
          try clear c14b0
          try clear c14b1
          try clear c15
          try clear c15b0
          try clear c15b1
          try clear c16
          try clear c16b0
          try clear c16b1
          try clear c17
          try clear c17b0
          try clear c17b1
          try clear c18
          try clear c18b0
          try clear c18b1
          try clear c19
          try clear c19b0
          try clear c19b1
          try clear c20
          try clear c20b0
          try clear c20b1
          try clear c21
          try clear c21b0
          try clear c21b1
          try clear p2
          obtain ⟨kq, x9_5, rfl, HA, HJ5, ⟨mc5, rfl⟩⟩ := hcut
          cases kq with
          | zero => exact absurd HA.out (by simp [expr_shape.j1])
          | succ kj5 =>
            have H := HA.out
            clear HA
            simp only [expr_shape.j1] at H
            by_cases c22 : x9_5 = true
            · subst c22
              have H1 : (some ((⟨#[101]⟩ : ByteArray), true)) = some (r1, r2) := by rw [if_pos rfl] at H; exact H
              clear H
              have H := H1
              clear H1
              simp only [Option.some.injEq, Prod.mk.injEq] at H
              obtain ⟨rfl, rfl⟩ := H
              go_wp2
              go_ret2
              exact ⟨by first | rfl | (simp; done) | (simp [*]; done), by repeat (first | exact Drawn0.refl _ | apply Drawn0.step)⟩
            · replace c22 := Bool.eq_false_iff.mpr c22
              subst c22
              have H1 : (if a0.toList = ([97, 100, 100] : List UInt8) then (expr_shape.j2 kj5 a0 (a0.toList == ([97, 100, 100] : List UInt8))) else (if a0.toList = ([115, 117, 98] : List UInt8) then (expr_shape.j2 kj5 a0 (a0.toList == ([115, 117, 98] : List UInt8))) else (if a0.toList = ([109, 117, 108] : List UInt8) then (expr_shape.j2 kj5 a0 (a0.toList == ([109, 117, 108] : List UInt8))) else (if a0.toList = ([100, 105, 118] : List UInt8) then (expr_shape.j2 kj5 a0 (a0.toList == ([100, 105, 118] : List UInt8))) else (if a0.toList = ([109, 111, 100] : List UInt8) then (expr_shape.j2 kj5 a0 (a0.toList == ([109, 111, 100] : List UInt8))) else (if a0.toList = ([101, 113] : List UInt8) then (expr_shape.j2 kj5 a0 (a0.toList == ([101, 113] : List UInt8))) else (if a0.toList = ([108, 116] : List UInt8) then (expr_shape.j2 kj5 a0 (a0.toList == ([108, 116] : List UInt8))) else (if a0.toList = ([97, 110, 100] : List UInt8) then (expr_shape.j2 kj5 a0 (a0.toList == ([97, 110, 100] : List UInt8))) else (if a0.toList = ([111, 114] : List UInt8) then (expr_shape.j2 kj5 a0 (a0.toList == ([111, 114] : List UInt8))) else (if a0.toList = ([112, 97, 105, 114] : List UInt8) then (expr_shape.j2 kj5 a0 (a0.toList == ([112, 97, 105, 114] : List UInt8))) else (if a0.toList = ([99, 111, 110, 115] : List UInt8) then (expr_shape.j2 kj5 a0 (a0.toList == ([99, 111, 110, 115] : List UInt8))) else (if a0.toList = ([99, 111, 110, 99, 97, 116] : List UInt8) then (expr_shape.j2 kj5 a0 (a0.toList == ([99, 111, 110, 99, 97, 116] : List UInt8))) else (if a0.toList = ([97, 116] : List UInt8) then (expr_shape.j2 kj5 a0 (a0.toList == ([97, 116] : List UInt8))) else (if a0.toList = ([111, 114, 95, 101, 108, 115, 101] : List UInt8) then (expr_shape.j2 kj5 a0 (a0.toList == ([111, 114, 95, 101, 108, 115, 101] : List UInt8))) else (if a0.toList = ([106, 111, 105, 110] : List UInt8) then (expr_shape.j2 kj5 a0 (a0.toList == ([106, 111, 105, 110] : List UInt8))) else (expr_shape.j2 kj5 a0 (a0.toList == ([112, 111, 105, 110, 116] : List UInt8)))))))))))))))))) = some (r1, r2) := by rw [if_neg (show ¬ (false = true) by decide)] at H; exact H
              clear H
              have H := H1
              clear H1
              have HC23 := Aside0.mk H
              clear H
              go_upto_if 26 with (fail)
              go_cut [26] (fun v26 wc => ∃ (kq : Nat) (x26_22 : Bool), v26 = .bool x26_22 ∧ Aside0 (expr_shape.j2 kq a0 x26_22 = some (r1, r2)) ∧ Aside0 (kq ≤ kj5) ∧ Drawn0 w wc)
              case first =>
                have H := HC23.out
                clear HC23
                by_cases c24 : a0.toList = ([97, 100, 100] : List UInt8)
                · rw [if_pos c24] at H
                  have c24b0 : (a0.toList == ([97, 100, 100] : List UInt8)) = true := beq_iff_eq.mpr c24
                  have c24b1 : (a0.toList != ([97, 100, 100] : List UInt8)) = false := bne_eq_false_iff_eq.mpr c24
                  clear c24
                  (first | rw [c24b0] | (simp only [i64_w, i32_w]; rw [c24b0]) | skip)
                  have H' := Aside0.mk H
                  clear H
                  go_wp2
                  go_meet
                  case rel => exact ⟨_, ((a0.toList == ([97, 100, 100] : List UInt8))), (by first | rfl | (simp; done) | (simp [*]; done)), H', ⟨by have := HJ1.out; have := HJ5.out; first | omega | exact Nat.le_refl _⟩, by repeat (first | exact Drawn0.refl _ | apply Drawn0.step)⟩
                · rw [if_neg c24] at H
                  have c24b0 : (a0.toList == ([97, 100, 100] : List UInt8)) = false := beq_eq_false_iff_ne.mpr c24
                  have c24b1 : (a0.toList != ([97, 100, 100] : List UInt8)) = true := bne_iff_ne.mpr c24
                  (first | rw [c24b0] | (simp only [i64_w, i32_w]; rw [c24b0]) | skip)
                  by_cases c25 : a0.toList = ([115, 117, 98] : List UInt8)
                  · rw [if_pos c25] at H
                    have c25b0 : (a0.toList == ([115, 117, 98] : List UInt8)) = true := beq_iff_eq.mpr c25
                    have c25b1 : (a0.toList != ([115, 117, 98] : List UInt8)) = false := bne_eq_false_iff_eq.mpr c25
                    clear c25
                    have H' := Aside0.mk H
                    clear H
                    go_wp2
                    go_meet
                    case rel => exact ⟨_, ((a0.toList == ([115, 117, 98] : List UInt8))), (by first | rfl | (simp; done) | (simp [*]; done)), H', ⟨by have := HJ1.out; have := HJ5.out; first | omega | exact Nat.le_refl _⟩, by repeat (first | exact Drawn0.refl _ | apply Drawn0.step)⟩
                  · rw [if_neg c25] at H
                    have c25b0 : (a0.toList == ([115, 117, 98] : List UInt8)) = false := beq_eq_false_iff_ne.mpr c25
                    have c25b1 : (a0.toList != ([115, 117, 98] : List UInt8)) = true := bne_iff_ne.mpr c25
                    by_cases c26 : a0.toList = ([109, 117, 108] : List UInt8)
                    · rw [if_pos c26] at H
                      have c26b0 : (a0.toList == ([109, 117, 108] : List UInt8)) = true := beq_iff_eq.mpr c26
                      have c26b1 : (a0.toList != ([109, 117, 108] : List UInt8)) = false := bne_eq_false_iff_eq.mpr c26
                      clear c26
                      have H' := Aside0.mk H
                      clear H
                      go_wp2
                      go_meet
                      case rel => exact ⟨_, ((a0.toList == ([109, 117, 108] : List UInt8))), (by first | rfl | (simp; done) | (simp [*]; done)), H', ⟨by have := HJ1.out; have := HJ5.out; first | omega | exact Nat.le_refl _⟩, by repeat (first | exact Drawn0.refl _ | apply Drawn0.step)⟩
                    · rw [if_neg c26] at H
                      have c26b0 : (a0.toList == ([109, 117, 108] : List UInt8)) = false := beq_eq_false_iff_ne.mpr c26
                      have c26b1 : (a0.toList != ([109, 117, 108] : List UInt8)) = true := bne_iff_ne.mpr c26
                      by_cases c27 : a0.toList = ([100, 105, 118] : List UInt8)
                      · rw [if_pos c27] at H
                        have c27b0 : (a0.toList == ([100, 105, 118] : List UInt8)) = true := beq_iff_eq.mpr c27
                        have c27b1 : (a0.toList != ([100, 105, 118] : List UInt8)) = false := bne_eq_false_iff_eq.mpr c27
                        clear c27
                        have H' := Aside0.mk H
                        clear H
                        go_wp2
                        go_meet
                        case rel => exact ⟨_, ((a0.toList == ([100, 105, 118] : List UInt8))), (by first | rfl | (simp; done) | (simp [*]; done)), H', ⟨by have := HJ1.out; have := HJ5.out; first | omega | exact Nat.le_refl _⟩, by repeat (first | exact Drawn0.refl _ | apply Drawn0.step)⟩
                      · rw [if_neg c27] at H
                        have c27b0 : (a0.toList == ([100, 105, 118] : List UInt8)) = false := beq_eq_false_iff_ne.mpr c27
                        have c27b1 : (a0.toList != ([100, 105, 118] : List UInt8)) = true := bne_iff_ne.mpr c27
                        by_cases c28 : a0.toList = ([109, 111, 100] : List UInt8)
                        · rw [if_pos c28] at H
                          have c28b0 : (a0.toList == ([109, 111, 100] : List UInt8)) = true := beq_iff_eq.mpr c28
                          have c28b1 : (a0.toList != ([109, 111, 100] : List UInt8)) = false := bne_eq_false_iff_eq.mpr c28
                          clear c28
                          have H' := Aside0.mk H
                          clear H
                          go_wp2
                          go_meet
                          case rel => exact ⟨_, ((a0.toList == ([109, 111, 100] : List UInt8))), (by first | rfl | (simp; done) | (simp [*]; done)), H', ⟨by have := HJ1.out; have := HJ5.out; first | omega | exact Nat.le_refl _⟩, by repeat (first | exact Drawn0.refl _ | apply Drawn0.step)⟩
                        · rw [if_neg c28] at H
                          have c28b0 : (a0.toList == ([109, 111, 100] : List UInt8)) = false := beq_eq_false_iff_ne.mpr c28
                          have c28b1 : (a0.toList != ([109, 111, 100] : List UInt8)) = true := bne_iff_ne.mpr c28
                          by_cases c29 : a0.toList = ([101, 113] : List UInt8)
                          · rw [if_pos c29] at H
                            have c29b0 : (a0.toList == ([101, 113] : List UInt8)) = true := beq_iff_eq.mpr c29
                            have c29b1 : (a0.toList != ([101, 113] : List UInt8)) = false := bne_eq_false_iff_eq.mpr c29
                            clear c29
                            have H' := Aside0.mk H
                            clear H
                            go_wp2
                            go_meet
                            case rel => exact ⟨_, ((a0.toList == ([101, 113] : List UInt8))), (by first | rfl | (simp; done) | (simp [*]; done)), H', ⟨by have := HJ1.out; have := HJ5.out; first | omega | exact Nat.le_refl _⟩, by repeat (first | exact Drawn0.refl _ | apply Drawn0.step)⟩
                          · rw [if_neg c29] at H
                            have c29b0 : (a0.toList == ([101, 113] : List UInt8)) = false := beq_eq_false_iff_ne.mpr c29
                            have c29b1 : (a0.toList != ([101, 113] : List UInt8)) = true := bne_iff_ne.mpr c29
                            by_cases c30 : a0.toList = ([108, 116] : List UInt8)
                            · rw [if_pos c30] at H
                              have c30b0 : (a0.toList == ([108, 116] : List UInt8)) = true := beq_iff_eq.mpr c30
                              have c30b1 : (a0.toList != ([108, 116] : List UInt8)) = false := bne_eq_false_iff_eq.mpr c30
                              clear c30
                              have H' := Aside0.mk H
                              clear H
                              go_wp2
                              go_meet
                              case rel => exact ⟨_, ((a0.toList == ([108, 116] : List UInt8))), (by first | rfl | (simp; done) | (simp [*]; done)), H', ⟨by have := HJ1.out; have := HJ5.out; first | omega | exact Nat.le_refl _⟩, by repeat (first | exact Drawn0.refl _ | apply Drawn0.step)⟩
                            · rw [if_neg c30] at H
                              have c30b0 : (a0.toList == ([108, 116] : List UInt8)) = false := beq_eq_false_iff_ne.mpr c30
                              have c30b1 : (a0.toList != ([108, 116] : List UInt8)) = true := bne_iff_ne.mpr c30
                              by_cases c31 : a0.toList = ([97, 110, 100] : List UInt8)
                              · rw [if_pos c31] at H
                                have c31b0 : (a0.toList == ([97, 110, 100] : List UInt8)) = true := beq_iff_eq.mpr c31
                                have c31b1 : (a0.toList != ([97, 110, 100] : List UInt8)) = false := bne_eq_false_iff_eq.mpr c31
                                clear c31
                                have H' := Aside0.mk H
                                clear H
                                go_wp2
                                go_meet
                                case rel => exact ⟨_, ((a0.toList == ([97, 110, 100] : List UInt8))), (by first | rfl | (simp; done) | (simp [*]; done)), H', ⟨by have := HJ1.out; have := HJ5.out; first | omega | exact Nat.le_refl _⟩, by repeat (first | exact Drawn0.refl _ | apply Drawn0.step)⟩
                              · rw [if_neg c31] at H
                                have c31b0 : (a0.toList == ([97, 110, 100] : List UInt8)) = false := beq_eq_false_iff_ne.mpr c31
                                have c31b1 : (a0.toList != ([97, 110, 100] : List UInt8)) = true := bne_iff_ne.mpr c31
                                by_cases c32 : a0.toList = ([111, 114] : List UInt8)
                                · rw [if_pos c32] at H
                                  have c32b0 : (a0.toList == ([111, 114] : List UInt8)) = true := beq_iff_eq.mpr c32
                                  have c32b1 : (a0.toList != ([111, 114] : List UInt8)) = false := bne_eq_false_iff_eq.mpr c32
                                  clear c32
                                  have H' := Aside0.mk H
                                  clear H
                                  go_wp2
                                  go_meet
                                  case rel => exact ⟨_, ((a0.toList == ([111, 114] : List UInt8))), (by first | rfl | (simp; done) | (simp [*]; done)), H', ⟨by have := HJ1.out; have := HJ5.out; first | omega | exact Nat.le_refl _⟩, by repeat (first | exact Drawn0.refl _ | apply Drawn0.step)⟩
                                · rw [if_neg c32] at H
                                  have c32b0 : (a0.toList == ([111, 114] : List UInt8)) = false := beq_eq_false_iff_ne.mpr c32
                                  have c32b1 : (a0.toList != ([111, 114] : List UInt8)) = true := bne_iff_ne.mpr c32
                                  by_cases c33 : a0.toList = ([112, 97, 105, 114] : List UInt8)
                                  · rw [if_pos c33] at H
                                    have c33b0 : (a0.toList == ([112, 97, 105, 114] : List UInt8)) = true := beq_iff_eq.mpr c33
                                    have c33b1 : (a0.toList != ([112, 97, 105, 114] : List UInt8)) = false := bne_eq_false_iff_eq.mpr c33
                                    clear c33
                                    have H' := Aside0.mk H
                                    clear H
                                    go_wp2
                                    go_meet
                                    case rel => exact ⟨_, ((a0.toList == ([112, 97, 105, 114] : List UInt8))), (by first | rfl | (simp; done) | (simp [*]; done)), H', ⟨by have := HJ1.out; have := HJ5.out; first | omega | exact Nat.le_refl _⟩, by repeat (first | exact Drawn0.refl _ | apply Drawn0.step)⟩
                                  · rw [if_neg c33] at H
                                    have c33b0 : (a0.toList == ([112, 97, 105, 114] : List UInt8)) = false := beq_eq_false_iff_ne.mpr c33
                                    have c33b1 : (a0.toList != ([112, 97, 105, 114] : List UInt8)) = true := bne_iff_ne.mpr c33
                                    by_cases c34 : a0.toList = ([99, 111, 110, 115] : List UInt8)
                                    · rw [if_pos c34] at H
                                      have c34b0 : (a0.toList == ([99, 111, 110, 115] : List UInt8)) = true := beq_iff_eq.mpr c34
                                      have c34b1 : (a0.toList != ([99, 111, 110, 115] : List UInt8)) = false := bne_eq_false_iff_eq.mpr c34
                                      clear c34
                                      have H' := Aside0.mk H
                                      clear H
                                      go_wp2
                                      go_meet
                                      case rel => exact ⟨_, ((a0.toList == ([99, 111, 110, 115] : List UInt8))), (by first | rfl | (simp; done) | (simp [*]; done)), H', ⟨by have := HJ1.out; have := HJ5.out; first | omega | exact Nat.le_refl _⟩, by repeat (first | exact Drawn0.refl _ | apply Drawn0.step)⟩
                                    · rw [if_neg c34] at H
                                      have c34b0 : (a0.toList == ([99, 111, 110, 115] : List UInt8)) = false := beq_eq_false_iff_ne.mpr c34
                                      have c34b1 : (a0.toList != ([99, 111, 110, 115] : List UInt8)) = true := bne_iff_ne.mpr c34
                                      by_cases c35 : a0.toList = ([99, 111, 110, 99, 97, 116] : List UInt8)
                                      · rw [if_pos c35] at H
                                        have c35b0 : (a0.toList == ([99, 111, 110, 99, 97, 116] : List UInt8)) = true := beq_iff_eq.mpr c35
                                        have c35b1 : (a0.toList != ([99, 111, 110, 99, 97, 116] : List UInt8)) = false := bne_eq_false_iff_eq.mpr c35
                                        clear c35
                                        have H' := Aside0.mk H
                                        clear H
                                        go_wp2
                                        go_meet
                                        case rel => exact ⟨_, ((a0.toList == ([99, 111, 110, 99, 97, 116] : List UInt8))), (by first | rfl | (simp; done) | (simp [*]; done)), H', ⟨by have := HJ1.out; have := HJ5.out; first | omega | exact Nat.le_refl _⟩, by repeat (first | exact Drawn0.refl _ | apply Drawn0.step)⟩
                                      · rw [if_neg c35] at H
                                        have c35b0 : (a0.toList == ([99, 111, 110, 99, 97, 116] : List UInt8)) = false := beq_eq_false_iff_ne.mpr c35
                                        have c35b1 : (a0.toList != ([99, 111, 110, 99, 97, 116] : List UInt8)) = true := bne_iff_ne.mpr c35
                                        by_cases c36 : a0.toList = ([97, 116] : List UInt8)
                                        · rw [if_pos c36] at H
                                          have c36b0 : (a0.toList == ([97, 116] : List UInt8)) = true := beq_iff_eq.mpr c36
                                          have c36b1 : (a0.toList != ([97, 116] : List UInt8)) = false := bne_eq_false_iff_eq.mpr c36
                                          clear c36
                                          have H' := Aside0.mk H
                                          clear H
                                          go_wp2
                                          go_meet
                                          case rel => exact ⟨_, ((a0.toList == ([97, 116] : List UInt8))), (by first | rfl | (simp; done) | (simp [*]; done)), H', ⟨by have := HJ1.out; have := HJ5.out; first | omega | exact Nat.le_refl _⟩, by repeat (first | exact Drawn0.refl _ | apply Drawn0.step)⟩
                                        · rw [if_neg c36] at H
                                          have c36b0 : (a0.toList == ([97, 116] : List UInt8)) = false := beq_eq_false_iff_ne.mpr c36
                                          have c36b1 : (a0.toList != ([97, 116] : List UInt8)) = true := bne_iff_ne.mpr c36
                                          by_cases c37 : a0.toList = ([111, 114, 95, 101, 108, 115, 101] : List UInt8)
                                          · rw [if_pos c37] at H
                                            have c37b0 : (a0.toList == ([111, 114, 95, 101, 108, 115, 101] : List UInt8)) = true := beq_iff_eq.mpr c37
                                            have c37b1 : (a0.toList != ([111, 114, 95, 101, 108, 115, 101] : List UInt8)) = false := bne_eq_false_iff_eq.mpr c37
                                            clear c37
                                            have H' := Aside0.mk H
                                            clear H
                                            go_wp2
                                            go_meet
                                            case rel => exact ⟨_, ((a0.toList == ([111, 114, 95, 101, 108, 115, 101] : List UInt8))), (by first | rfl | (simp; done) | (simp [*]; done)), H', ⟨by have := HJ1.out; have := HJ5.out; first | omega | exact Nat.le_refl _⟩, by repeat (first | exact Drawn0.refl _ | apply Drawn0.step)⟩
                                          · rw [if_neg c37] at H
                                            have c37b0 : (a0.toList == ([111, 114, 95, 101, 108, 115, 101] : List UInt8)) = false := beq_eq_false_iff_ne.mpr c37
                                            have c37b1 : (a0.toList != ([111, 114, 95, 101, 108, 115, 101] : List UInt8)) = true := bne_iff_ne.mpr c37
                                            by_cases c38 : a0.toList = ([106, 111, 105, 110] : List UInt8)
                                            · rw [if_pos c38] at H
                                              have c38b0 : (a0.toList == ([106, 111, 105, 110] : List UInt8)) = true := beq_iff_eq.mpr c38
                                              have c38b1 : (a0.toList != ([106, 111, 105, 110] : List UInt8)) = false := bne_eq_false_iff_eq.mpr c38
                                              clear c38
                                              have H' := Aside0.mk H
                                              clear H
                                              go_wp2
                                              go_meet
                                              case rel => exact ⟨_, ((a0.toList == ([106, 111, 105, 110] : List UInt8))), (by first | rfl | (simp; done) | (simp [*]; done)), H', ⟨by have := HJ1.out; have := HJ5.out; first | omega | exact Nat.le_refl _⟩, by repeat (first | exact Drawn0.refl _ | apply Drawn0.step)⟩
                                            · rw [if_neg c38] at H
                                              have c38b0 : (a0.toList == ([106, 111, 105, 110] : List UInt8)) = false := beq_eq_false_iff_ne.mpr c38
                                              have c38b1 : (a0.toList != ([106, 111, 105, 110] : List UInt8)) = true := bne_iff_ne.mpr c38
                                              have H' := Aside0.mk H
                                              clear H
                                              go_wp2
                                              go_meet
                                              case rel => exact ⟨_, ((a0.toList == ([112, 111, 105, 110, 116] : List UInt8))), (by first | rfl | (simp; done) | (simp [*]; done)), H', ⟨by have := HJ1.out; have := HJ5.out; first | omega | exact Nat.le_refl _⟩, by repeat (first | exact Drawn0.refl _ | apply Drawn0.step)⟩
              case rest =>
                clear HC23
                try clear c1
                try clear c2
                try clear p2
                try clear c3
                try clear c3b0
                try clear c3b1
                try clear c4
                try clear c4b0
                try clear c4b1
                try clear c5
                try clear c7
                try clear c7b0
                try clear c7b1
                try clear c8
                try clear c8b0
                try clear c8b1
                try clear c9
                try clear c9b0
                try clear c9b1
                try clear c10
                try clear c10b0
                try clear c10b1
                try clear c11
                try clear c11b0
                try clear c11b1
                try clear c12
                try clear c12b0
                try clear c12b1
                try clear c13
                try clear c13b0
                try clear c13b1
                try clear c14
                try clear c14b0
                try clear c14b1
                try clear c15
                try clear c15b0
                try clear c15b1
                try clear c16
                try clear c16b0
                try clear c16b1
                try clear c17
                try clear c17b0
                try clear c17b1
                try clear c18
                try clear c18b0
                try clear c18b1
                try clear c19
                try clear c19b0
                try clear c19b1
                try clear c20
                try clear c20b0
                try clear c20b1
                try clear c21
                try clear c21b0
                try clear c21b1
                try clear c22
                try clear c24
                try clear c24b0
                try clear c24b1
                try clear c25
                try clear c25b0
                try clear c25b1
                try clear c26
                try clear c26b0
                try clear c26b1
                try clear c27
                try clear c27b0
                try clear c27b1
                try clear c28
                try clear c28b0
                try clear c28b1
                try clear c29
                try clear c29b0
                try clear c29b1
                try clear c30
                try clear c30b0
                try clear c30b1
                try clear c31
                try clear c31b0
                try clear c31b1
                try clear c32
                try clear c32b0
                try clear c32b1
                try clear c33
                try clear c33b0
                try clear c33b1
                try clear c34
                try clear c34b0
                try clear c34b1
                try clear c35
                try clear c35b0
                try clear c35b1
                try clear c36
                try clear c36b0
                try clear c36b1
                try clear c37
                try clear c37b0
                try clear c37b1
                try clear c38
                try clear c38b0
                try clear c38b1
                try clear p2
                obtain ⟨kq, x26_22, rfl, HA, HJ22, ⟨mc22, rfl⟩⟩ := hcut
                cases kq with
                | zero => exact absurd HA.out (by simp [expr_shape.j2])
                | succ kj22 =>
                  have H := HA.out
                  clear HA
                  simp only [expr_shape.j2] at H
                  by_cases c39 : x26_22 = true
                  · subst c39
                    have H1 : (some ((⟨#[101, 101]⟩ : ByteArray), true)) = some (r1, r2) := by rw [if_pos rfl] at H; exact H
                    clear H
                    have H := H1
                    clear H1
                    simp only [Option.some.injEq, Prod.mk.injEq] at H
                    obtain ⟨rfl, rfl⟩ := H
                    go_wp2
                    go_ret2
                    exact ⟨by first | rfl | (simp; done) | (simp [*]; done), by repeat (first | exact Drawn0.refl _ | apply Drawn0.step)⟩
                  · replace c39 := Bool.eq_false_iff.mpr c39
                    subst c39
                    have H1 : (if a0.toList = ([105, 102] : List UInt8) then (expr_shape.j3 kj22 a0 (a0.toList == ([105, 102] : List UInt8))) else (expr_shape.j3 kj22 a0 (a0.toList == ([99, 117, 116] : List UInt8)))) = some (r1, r2) := by rw [if_neg (show ¬ (false = true) by decide)] at H; exact H
                    clear H
                    have H := H1
                    clear H1
                    have HC40 := Aside0.mk H
                    clear H
                    go_upto_if 43 with (fail)
                    go_cut [43] (fun v43 wc => ∃ (kq : Nat) (x43_39 : Bool), v43 = .bool x43_39 ∧ Aside0 (expr_shape.j3 kq a0 x43_39 = some (r1, r2)) ∧ Aside0 (kq ≤ kj22) ∧ Drawn0 w wc)
                    case first =>
                      have H := HC40.out
                      clear HC40
                      by_cases c41 : a0.toList = ([105, 102] : List UInt8)
                      · rw [if_pos c41] at H
                        have c41b0 : (a0.toList == ([105, 102] : List UInt8)) = true := beq_iff_eq.mpr c41
                        have c41b1 : (a0.toList != ([105, 102] : List UInt8)) = false := bne_eq_false_iff_eq.mpr c41
                        clear c41
                        (first | rw [c41b0] | (simp only [i64_w, i32_w]; rw [c41b0]) | skip)
                        have H' := Aside0.mk H
                        clear H
                        go_wp2
                        go_meet
                        case rel => exact ⟨_, ((a0.toList == ([105, 102] : List UInt8))), (by first | rfl | (simp; done) | (simp [*]; done)), H', ⟨by have := HJ1.out; have := HJ5.out; have := HJ22.out; first | omega | exact Nat.le_refl _⟩, by repeat (first | exact Drawn0.refl _ | apply Drawn0.step)⟩
                      · rw [if_neg c41] at H
                        have c41b0 : (a0.toList == ([105, 102] : List UInt8)) = false := beq_eq_false_iff_ne.mpr c41
                        have c41b1 : (a0.toList != ([105, 102] : List UInt8)) = true := bne_iff_ne.mpr c41
                        (first | rw [c41b0] | (simp only [i64_w, i32_w]; rw [c41b0]) | skip)
                        have H' := Aside0.mk H
                        clear H
                        go_wp2
                        go_meet
                        case rel => exact ⟨_, ((a0.toList == ([99, 117, 116] : List UInt8))), (by first | rfl | (simp; done) | (simp [*]; done)), H', ⟨by have := HJ1.out; have := HJ5.out; have := HJ22.out; first | omega | exact Nat.le_refl _⟩, by repeat (first | exact Drawn0.refl _ | apply Drawn0.step)⟩
                    case rest =>
                      clear HC40
                      try clear c1
                      try clear c2
                      try clear p2
                      try clear c3
                      try clear c3b0
                      try clear c3b1
                      try clear c4
                      try clear c4b0
                      try clear c4b1
                      try clear c5
                      try clear c7
                      try clear c7b0
                      try clear c7b1
                      try clear c8
                      try clear c8b0
                      try clear c8b1
                      try clear c9
                      try clear c9b0
                      try clear c9b1
                      try clear c10
                      try clear c10b0
                      try clear c10b1
                      try clear c11
                      try clear c11b0
                      try clear c11b1
                      try clear c12
                      try clear c12b0
                      try clear c12b1
                      try clear c13
                      try clear c13b0
                      try clear c13b1
                      try clear c14
                      try clear c14b0
                      try clear c14b1
                      try clear c15
                      try clear c15b0
                      try clear c15b1
                      try clear c16
                      try clear c16b0
                      try clear c16b1
                      try clear c17
                      try clear c17b0
                      try clear c17b1
                      try clear c18
                      try clear c18b0
                      try clear c18b1
                      try clear c19
                      try clear c19b0
                      try clear c19b1
                      try clear c20
                      try clear c20b0
                      try clear c20b1
                      try clear c21
                      try clear c21b0
                      try clear c21b1
                      try clear c22
                      try clear c24
                      try clear c24b0
                      try clear c24b1
                      try clear c25
                      try clear c25b0
                      try clear c25b1
                      try clear c26
                      try clear c26b0
                      try clear c26b1
                      try clear c27
                      try clear c27b0
                      try clear c27b1
                      try clear c28
                      try clear c28b0
                      try clear c28b1
                      try clear c29
                      try clear c29b0
                      try clear c29b1
                      try clear c30
                      try clear c30b0
                      try clear c30b1
                      try clear c31
                      try clear c31b0
                      try clear c31b1
                      try clear c32
                      try clear c32b0
                      try clear c32b1
                      try clear c33
                      try clear c33b0
                      try clear c33b1
                      try clear c34
                      try clear c34b0
                      try clear c34b1
                      try clear c35
                      try clear c35b0
                      try clear c35b1
                      try clear c36
                      try clear c36b0
                      try clear c36b1
                      try clear c37
                      try clear c37b0
                      try clear c37b1
                      try clear c38
                      try clear c38b0
                      try clear c38b1
                      try clear c39
                      try clear c41
                      try clear c41b0
                      try clear c41b1
                      try clear p2
                      obtain ⟨kq, x43_39, rfl, HA, HJ39, ⟨mc39, rfl⟩⟩ := hcut
                      cases kq with
                      | zero => exact absurd HA.out (by simp [expr_shape.j3])
                      | succ kj39 =>
                        have H := HA.out
                        clear HA
                        simp only [expr_shape.j3] at H
                        by_cases c42 : x43_39 = true
                        · subst c42
                          have H1 : (some ((⟨#[101, 101, 101]⟩ : ByteArray), true)) = some (r1, r2) := by rw [if_pos rfl] at H; exact H
                          clear H
                          have H := H1
                          clear H1
                          simp only [Option.some.injEq, Prod.mk.injEq] at H
                          obtain ⟨rfl, rfl⟩ := H
                          go_wp2
                          go_ret2
                          exact ⟨by first | rfl | (simp; done) | (simp [*]; done), by repeat (first | exact Drawn0.refl _ | apply Drawn0.step)⟩
                        · replace c42 := Bool.eq_false_iff.mpr c42
                          subst c42
                          have H1 : (if a0.toList = ([108, 105, 115, 116] : List UInt8) then (some ((⟨#[43]⟩ : ByteArray), true)) else (if a0.toList = ([115, 105, 100, 101] : List UInt8) then (some ((⟨#[100]⟩ : ByteArray), true)) else (if a0.toList = ([110, 105, 108] : List UInt8) then (expr_shape.j4 kj39 a0 (a0.toList == ([110, 105, 108] : List UInt8))) else (expr_shape.j4 kj39 a0 (a0.toList == ([110, 111, 110, 101] : List UInt8)))))) = some (r1, r2) := by rw [if_neg (show ¬ (false = true) by decide)] at H; exact H
                          clear H
                          have H := H1
                          clear H1
                          by_cases c43 : a0.toList = ([108, 105, 115, 116] : List UInt8)
                          · rw [if_pos c43] at H
                            have c43b0 : (a0.toList == ([108, 105, 115, 116] : List UInt8)) = true := beq_iff_eq.mpr c43
                            have c43b1 : (a0.toList != ([108, 105, 115, 116] : List UInt8)) = false := bne_eq_false_iff_eq.mpr c43
                            clear c43
                            simp only [Option.some.injEq, Prod.mk.injEq] at H
                            obtain ⟨rfl, rfl⟩ := H
                            go_wp2
                            go_ret2
                            exact ⟨by first | rfl | (simp; done) | (simp [*]; done), by repeat (first | exact Drawn0.refl _ | apply Drawn0.step)⟩
                          · rw [if_neg c43] at H
                            have c43b0 : (a0.toList == ([108, 105, 115, 116] : List UInt8)) = false := beq_eq_false_iff_ne.mpr c43
                            have c43b1 : (a0.toList != ([108, 105, 115, 116] : List UInt8)) = true := bne_iff_ne.mpr c43
                            by_cases c44 : a0.toList = ([115, 105, 100, 101] : List UInt8)
                            · rw [if_pos c44] at H
                              have c44b0 : (a0.toList == ([115, 105, 100, 101] : List UInt8)) = true := beq_iff_eq.mpr c44
                              have c44b1 : (a0.toList != ([115, 105, 100, 101] : List UInt8)) = false := bne_eq_false_iff_eq.mpr c44
                              clear c44
                              simp only [Option.some.injEq, Prod.mk.injEq] at H
                              obtain ⟨rfl, rfl⟩ := H
                              go_wp2
                              go_ret2
                              exact ⟨by first | rfl | (simp; done) | (simp [*]; done), by repeat (first | exact Drawn0.refl _ | apply Drawn0.step)⟩
                            · rw [if_neg c44] at H
                              have c44b0 : (a0.toList == ([115, 105, 100, 101] : List UInt8)) = false := beq_eq_false_iff_ne.mpr c44
                              have c44b1 : (a0.toList != ([115, 105, 100, 101] : List UInt8)) = true := bne_iff_ne.mpr c44
                              have HC45 := Aside0.mk H
                              clear H
                              go_upto_if 50 with (fail)
                              go_cut [50] (fun v50 wc => ∃ (kq : Nat) (x50_44 : Bool), v50 = .bool x50_44 ∧ Aside0 (expr_shape.j4 kq a0 x50_44 = some (r1, r2)) ∧ Aside0 (kq ≤ kj39) ∧ Drawn0 w wc)
                              case first =>
                                have H := HC45.out
                                clear HC45
                                by_cases c46 : a0.toList = ([110, 105, 108] : List UInt8)
                                · rw [if_pos c46] at H
                                  have c46b0 : (a0.toList == ([110, 105, 108] : List UInt8)) = true := beq_iff_eq.mpr c46
                                  have c46b1 : (a0.toList != ([110, 105, 108] : List UInt8)) = false := bne_eq_false_iff_eq.mpr c46
                                  clear c46
                                  (first | rw [c46b0] | (simp only [i64_w, i32_w]; rw [c46b0]) | skip)
                                  have H' := Aside0.mk H
                                  clear H
                                  go_wp2
                                  go_meet
                                  case rel => exact ⟨_, ((a0.toList == ([110, 105, 108] : List UInt8))), (by first | rfl | (simp; done) | (simp [*]; done)), H', ⟨by have := HJ1.out; have := HJ5.out; have := HJ22.out; have := HJ39.out; first | omega | exact Nat.le_refl _⟩, by repeat (first | exact Drawn0.refl _ | apply Drawn0.step)⟩
                                · rw [if_neg c46] at H
                                  have c46b0 : (a0.toList == ([110, 105, 108] : List UInt8)) = false := beq_eq_false_iff_ne.mpr c46
                                  have c46b1 : (a0.toList != ([110, 105, 108] : List UInt8)) = true := bne_iff_ne.mpr c46
                                  (first | rw [c46b0] | (simp only [i64_w, i32_w]; rw [c46b0]) | skip)
                                  have H' := Aside0.mk H
                                  clear H
                                  go_wp2
                                  go_meet
                                  case rel => exact ⟨_, ((a0.toList == ([110, 111, 110, 101] : List UInt8))), (by first | rfl | (simp; done) | (simp [*]; done)), H', ⟨by have := HJ1.out; have := HJ5.out; have := HJ22.out; have := HJ39.out; first | omega | exact Nat.le_refl _⟩, by repeat (first | exact Drawn0.refl _ | apply Drawn0.step)⟩
                              case rest =>
                                clear HC45
                                try clear c1
                                try clear c2
                                try clear p2
                                try clear c3
                                try clear c3b0
                                try clear c3b1
                                try clear c4
                                try clear c4b0
                                try clear c4b1
                                try clear c5
                                try clear c7
                                try clear c7b0
                                try clear c7b1
                                try clear c8
                                try clear c8b0
                                try clear c8b1
                                try clear c9
                                try clear c9b0
                                try clear c9b1
                                try clear c10
                                try clear c10b0
                                try clear c10b1
                                try clear c11
                                try clear c11b0
                                try clear c11b1
                                try clear c12
                                try clear c12b0
                                try clear c12b1
                                try clear c13
                                try clear c13b0
                                try clear c13b1
                                try clear c14
                                try clear c14b0
                                try clear c14b1
                                try clear c15
                                try clear c15b0
                                try clear c15b1
                                try clear c16
                                try clear c16b0
                                try clear c16b1
                                try clear c17
                                try clear c17b0
                                try clear c17b1
                                try clear c18
                                try clear c18b0
                                try clear c18b1
                                try clear c19
                                try clear c19b0
                                try clear c19b1
                                try clear c20
                                try clear c20b0
                                try clear c20b1
                                try clear c21
                                try clear c21b0
                                try clear c21b1
                                try clear c22
                                try clear c24
                                try clear c24b0
                                try clear c24b1
                                try clear c25
                                try clear c25b0
                                try clear c25b1
                                try clear c26
                                try clear c26b0
                                try clear c26b1
                                try clear c27
                                try clear c27b0
                                try clear c27b1
                                try clear c28
                                try clear c28b0
                                try clear c28b1
                                try clear c29
                                try clear c29b0
                                try clear c29b1
                                try clear c30
                                try clear c30b0
                                try clear c30b1
                                try clear c31
                                try clear c31b0
                                try clear c31b1
                                try clear c32
                                try clear c32b0
                                try clear c32b1
                                try clear c33
                                try clear c33b0
                                try clear c33b1
                                try clear c34
                                try clear c34b0
                                try clear c34b1
                                try clear c35
                                try clear c35b0
                                try clear c35b1
                                try clear c36
                                try clear c36b0
                                try clear c36b1
                                try clear c37
                                try clear c37b0
                                try clear c37b1
                                try clear c38
                                try clear c38b0
                                try clear c38b1
                                try clear c39
                                try clear c41
                                try clear c41b0
                                try clear c41b1
                                try clear c42
                                try clear c43
                                try clear c43b0
                                try clear c43b1
                                try clear c44
                                try clear c44b0
                                try clear c44b1
                                try clear c46
                                try clear c46b0
                                try clear c46b1
                                try clear p2
                                obtain ⟨kq, x50_44, rfl, HA, HJ44, ⟨mc44, rfl⟩⟩ := hcut
                                cases kq with
                                | zero => exact absurd HA.out (by simp [expr_shape.j4])
                                | succ kj44 =>
                                  have H := HA.out
                                  clear HA
                                  simp only [expr_shape.j4] at H
                                  by_cases c47 : x50_44 = true
                                  · subst c47
                                    have H1 : (some ((⟨#[116]⟩ : ByteArray), true)) = some (r1, r2) := by rw [if_pos rfl] at H; exact H
                                    clear H
                                    have H := H1
                                    clear H1
                                    simp only [Option.some.injEq, Prod.mk.injEq] at H
                                    obtain ⟨rfl, rfl⟩ := H
                                    go_wp2
                                    go_ret2
                                    exact ⟨by first | rfl | (simp; done) | (simp [*]; done), by repeat (first | exact Drawn0.refl _ | apply Drawn0.step)⟩
                                  · replace c47 := Bool.eq_false_iff.mpr c47
                                    subst c47
                                    have H1 : (if a0.toList = ([108, 101, 116] : List UInt8) then (some ((⟨#[110, 101, 101]⟩ : ByteArray), true)) else (if a0.toList = ([109, 97, 112] : List UInt8) then (expr_shape.j5 kj44 a0 (a0.toList == ([109, 97, 112] : List UInt8))) else (expr_shape.j5 kj44 a0 (a0.toList == ([102, 105, 108, 116, 101, 114] : List UInt8))))) = some (r1, r2) := by rw [if_neg (show ¬ (false = true) by decide)] at H; exact H
                                    clear H
                                    have H := H1
                                    clear H1
                                    by_cases c48 : a0.toList = ([108, 101, 116] : List UInt8)
                                    · rw [if_pos c48] at H
                                      have c48b0 : (a0.toList == ([108, 101, 116] : List UInt8)) = true := beq_iff_eq.mpr c48
                                      have c48b1 : (a0.toList != ([108, 101, 116] : List UInt8)) = false := bne_eq_false_iff_eq.mpr c48
                                      clear c48
                                      simp only [Option.some.injEq, Prod.mk.injEq] at H
                                      obtain ⟨rfl, rfl⟩ := H
                                      go_wp2
                                      go_ret2
                                      exact ⟨by first | rfl | (simp; done) | (simp [*]; done), by repeat (first | exact Drawn0.refl _ | apply Drawn0.step)⟩
                                    · rw [if_neg c48] at H
                                      have c48b0 : (a0.toList == ([108, 101, 116] : List UInt8)) = false := beq_eq_false_iff_ne.mpr c48
                                      have c48b1 : (a0.toList != ([108, 101, 116] : List UInt8)) = true := bne_iff_ne.mpr c48
                                      have HC49 := Aside0.mk H
                                      clear H
                                      go_upto_if 55 with (fail)
                                      go_cut [55] (fun v55 wc => ∃ (kq : Nat) (x55_48 : Bool), v55 = .bool x55_48 ∧ Aside0 (expr_shape.j5 kq a0 x55_48 = some (r1, r2)) ∧ Aside0 (kq ≤ kj44) ∧ Drawn0 w wc)
                                      case first =>
                                        have H := HC49.out
                                        clear HC49
                                        by_cases c50 : a0.toList = ([109, 97, 112] : List UInt8)
                                        · rw [if_pos c50] at H
                                          have c50b0 : (a0.toList == ([109, 97, 112] : List UInt8)) = true := beq_iff_eq.mpr c50
                                          have c50b1 : (a0.toList != ([109, 97, 112] : List UInt8)) = false := bne_eq_false_iff_eq.mpr c50
                                          clear c50
                                          (first | rw [c50b0] | (simp only [i64_w, i32_w]; rw [c50b0]) | skip)
                                          have H' := Aside0.mk H
                                          clear H
                                          go_wp2
                                          go_meet
                                          case rel => exact ⟨_, ((a0.toList == ([109, 97, 112] : List UInt8))), (by first | rfl | (simp; done) | (simp [*]; done)), H', ⟨by have := HJ1.out; have := HJ5.out; have := HJ22.out; have := HJ39.out; have := HJ44.out; first | omega | exact Nat.le_refl _⟩, by repeat (first | exact Drawn0.refl _ | apply Drawn0.step)⟩
                                        · rw [if_neg c50] at H
                                          have c50b0 : (a0.toList == ([109, 97, 112] : List UInt8)) = false := beq_eq_false_iff_ne.mpr c50
                                          have c50b1 : (a0.toList != ([109, 97, 112] : List UInt8)) = true := bne_iff_ne.mpr c50
                                          (first | rw [c50b0] | (simp only [i64_w, i32_w]; rw [c50b0]) | skip)
                                          have H' := Aside0.mk H
                                          clear H
                                          go_wp2
                                          go_meet
                                          case rel => exact ⟨_, ((a0.toList == ([102, 105, 108, 116, 101, 114] : List UInt8))), (by first | rfl | (simp; done) | (simp [*]; done)), H', ⟨by have := HJ1.out; have := HJ5.out; have := HJ22.out; have := HJ39.out; have := HJ44.out; first | omega | exact Nat.le_refl _⟩, by repeat (first | exact Drawn0.refl _ | apply Drawn0.step)⟩
                                      case rest =>
                                        clear HC49
                                        try clear c1
                                        try clear c2
                                        try clear p2
                                        try clear c3
                                        try clear c3b0
                                        try clear c3b1
                                        try clear c4
                                        try clear c4b0
                                        try clear c4b1
                                        try clear c5
                                        try clear c7
                                        try clear c7b0
                                        try clear c7b1
                                        try clear c8
                                        try clear c8b0
                                        try clear c8b1
                                        try clear c9
                                        try clear c9b0
                                        try clear c9b1
                                        try clear c10
                                        try clear c10b0
                                        try clear c10b1
                                        try clear c11
                                        try clear c11b0
                                        try clear c11b1
                                        try clear c12
                                        try clear c12b0
                                        try clear c12b1
                                        try clear c13
                                        try clear c13b0
                                        try clear c13b1
                                        try clear c14
                                        try clear c14b0
                                        try clear c14b1
                                        try clear c15
                                        try clear c15b0
                                        try clear c15b1
                                        try clear c16
                                        try clear c16b0
                                        try clear c16b1
                                        try clear c17
                                        try clear c17b0
                                        try clear c17b1
                                        try clear c18
                                        try clear c18b0
                                        try clear c18b1
                                        try clear c19
                                        try clear c19b0
                                        try clear c19b1
                                        try clear c20
                                        try clear c20b0
                                        try clear c20b1
                                        try clear c21
                                        try clear c21b0
                                        try clear c21b1
                                        try clear c22
                                        try clear c24
                                        try clear c24b0
                                        try clear c24b1
                                        try clear c25
                                        try clear c25b0
                                        try clear c25b1
                                        try clear c26
                                        try clear c26b0
                                        try clear c26b1
                                        try clear c27
                                        try clear c27b0
                                        try clear c27b1
                                        try clear c28
                                        try clear c28b0
                                        try clear c28b1
                                        try clear c29
                                        try clear c29b0
                                        try clear c29b1
                                        try clear c30
                                        try clear c30b0
                                        try clear c30b1
                                        try clear c31
                                        try clear c31b0
                                        try clear c31b1
                                        try clear c32
                                        try clear c32b0
                                        try clear c32b1
                                        try clear c33
                                        try clear c33b0
                                        try clear c33b1
                                        try clear c34
                                        try clear c34b0
                                        try clear c34b1
                                        try clear c35
                                        try clear c35b0
                                        try clear c35b1
                                        try clear c36
                                        try clear c36b0
                                        try clear c36b1
                                        try clear c37
                                        try clear c37b0
                                        try clear c37b1
                                        try clear c38
                                        try clear c38b0
                                        try clear c38b1
                                        try clear c39
                                        try clear c41
                                        try clear c41b0
                                        try clear c41b1
                                        try clear c42
                                        try clear c43
                                        try clear c43b0
                                        try clear c43b1
                                        try clear c44
                                        try clear c44b0
                                        try clear c44b1
                                        try clear c46
                                        try clear c46b0
                                        try clear c46b1
                                        try clear c47
                                        try clear c48
                                        try clear c48b0
                                        try clear c48b1
                                        try clear c50
                                        try clear c50b0
                                        try clear c50b1
                                        try clear p2
                                        obtain ⟨kq, x55_48, rfl, HA, HJ48, ⟨mc48, rfl⟩⟩ := hcut
                                        cases kq with
                                        | zero => exact absurd HA.out (by simp [expr_shape.j5])
                                        | succ kj48 =>
                                          have H := HA.out
                                          clear HA
                                          simp only [expr_shape.j5] at H
                                          by_cases c51 : x55_48 = true
                                          · subst c51
                                            have H1 : (some ((⟨#[101, 110, 101]⟩ : ByteArray), true)) = some (r1, r2) := by rw [if_pos rfl] at H; exact H
                                            clear H
                                            have H := H1
                                            clear H1
                                            simp only [Option.some.injEq, Prod.mk.injEq] at H
                                            obtain ⟨rfl, rfl⟩ := H
                                            go_wp2
                                            go_ret2
                                            exact ⟨by first | rfl | (simp; done) | (simp [*]; done), by repeat (first | exact Drawn0.refl _ | apply Drawn0.step)⟩
                                          · replace c51 := Bool.eq_false_iff.mpr c51
                                            subst c51
                                            have H1 : (if a0.toList = ([102, 111, 108, 100] : List UInt8) then (some ((⟨#[101, 101, 110, 110, 101]⟩ : ByteArray), true)) else (some ((⟨#[]⟩ : ByteArray), false))) = some (r1, r2) := by rw [if_neg (show ¬ (false = true) by decide)] at H; exact H
                                            clear H
                                            have H := H1
                                            clear H1
                                            by_cases c52 : a0.toList = ([102, 111, 108, 100] : List UInt8)
                                            · rw [if_pos c52] at H
                                              have c52b0 : (a0.toList == ([102, 111, 108, 100] : List UInt8)) = true := beq_iff_eq.mpr c52
                                              have c52b1 : (a0.toList != ([102, 111, 108, 100] : List UInt8)) = false := bne_eq_false_iff_eq.mpr c52
                                              clear c52
                                              simp only [Option.some.injEq, Prod.mk.injEq] at H
                                              obtain ⟨rfl, rfl⟩ := H
                                              go_wp2
                                              go_ret2
                                              exact ⟨by first | rfl | (simp; done) | (simp [*]; done), by repeat (first | exact Drawn0.refl _ | apply Drawn0.step)⟩
                                            · rw [if_neg c52] at H
                                              have c52b0 : (a0.toList == ([102, 111, 108, 100] : List UInt8)) = false := beq_eq_false_iff_ne.mpr c52
                                              have c52b1 : (a0.toList != ([102, 111, 108, 100] : List UInt8)) = true := bne_iff_ne.mpr c52
                                              simp only [Option.some.injEq, Prod.mk.injEq] at H
                                              obtain ⟨rfl, rfl⟩ := H
                                              go_wp2
                                              go_ret2
                                              exact ⟨by first | rfl | (simp; done) | (simp [*]; done), by repeat (first | exact Drawn0.refl _ | apply Drawn0.step)⟩

end Go.Proofs.YtamfloegflejnaaDoor.PExprNumbers
