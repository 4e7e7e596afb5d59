/-
  graph's test of a node's text.
-/
import Derived.Test.YtamfloegflejnaaGreatDoorKC
import Derived.Test.YtamfloegflejnaaGreatDoorShelf
import Derived.Laws.RangeString
import Derived.Laws.RangeAny
set_option linter.unusedVariables false
set_option linter.unusedSimpArgs false
namespace Go.Proofs.YtamfloegflejnaaGreatDoor
open Go.RowKit Go.Proofs.YtamfloegflejnaaGreatDoorW.PrintWords Go.Proofs.YtamfloegflejnaaGreatDoorW.PrintLast Go.Proofs.YtamfloegflejnaaGreatDoorW.PrintMore PGraphLines

def badRune (r : Nat) : Bool := decide ((r : Int) < 32) || decide ((126 : Int) < (r : Int))
/-- A node's text: its bytes from 32 to 126, and as many as may be. -/
def textB (s : ByteArray) : Bool := decide (1 ≤ s.size) && decide (s.size ≤ 1000) && s.data.toList.all fun b => decide (32 ≤ b.toNat) && decide (b.toNat ≤ 126)

theorem idx_bad (s : ByteArray) : ∀ (f pos : Nat), s.size ≤ pos + f → (0 ≤ Lib.idxFuncFrom badRune true s f pos ↔ ∃ j, pos ≤ j ∧ ∃ h : j < s.size, badRune (s[j]'h).toNat = true) := by
  intro f
  induction f with
  | zero =>
    intro pos hp
    have h1 : ¬ pos < s.size := by omega
    rw [Lib.idxFuncFrom_end _ _ _ _ _ h1]
    constructor
    · intro h; omega
    · rintro ⟨j, h2, h3, _⟩; omega
  | succ f ih =>
    intro pos hp
    unfold Lib.idxFuncFrom
    by_cases hlt : pos < s.size
    · rw [if_pos hlt]
      by_cases ha : (s[pos]'hlt).toNat < 128
      · rw [decode_ascii s pos hlt ha]
        dsimp only
        by_cases hb : badRune (s[pos]'hlt).toNat = true
        · rw [if_pos hb]
          exact ⟨fun _ => ⟨pos, Nat.le_refl _, hlt, hb⟩, fun _ => by omega⟩
        · rw [if_neg hb, ih (pos + 1) (by omega)]
          constructor
          · rintro ⟨j, h1, h2, h3⟩; exact ⟨j, by omega, h2, h3⟩
          · rintro ⟨j, h1, h2, h3⟩
            refine ⟨j, ?_, h2, h3⟩
            rcases Nat.lt_or_ge pos j with h | h
            · omega
            · obtain rfl : j = pos := by omega
              exact absurd h3 hb
      · obtain ⟨h1, _⟩ := decode_high s pos hlt (by omega)
        have hb1 : badRune (Utf8.decode s pos).1 = true := by unfold badRune; simp; omega
        rw [if_pos hb1]
        exact ⟨fun _ => ⟨pos, Nat.le_refl _, hlt, by unfold badRune; simp; omega⟩, fun _ => by omega⟩
    · rw [if_neg hlt]
      constructor
      · intro h; omega
      · rintro ⟨j, h2, h3, _⟩; omega

theorem idx_text (s : ByteArray) : (!decide (0 ≤ Lib.idxFunc badRune true s)) = s.data.toList.all fun b => decide (32 ≤ b.toNat) && decide (b.toNat ≤ 126) := by
  have h := idx_bad s s.size 0 (by omega)
  unfold Lib.idxFunc
  rw [Bool.eq_iff_iff]
  simp only [Bool.not_eq_true', decide_eq_false_iff_not, h, List.all_eq_true, Bool.and_eq_true, decide_eq_true_eq]
  constructor
  · intro hn b hb
    obtain ⟨j, hj, rfl⟩ := List.mem_iff_getElem.1 hb
    have hjs : j < s.size := by simpa using hj
    have h2 : ¬ badRune (s[j]'hjs).toNat = true := fun hbad => hn ⟨j, Nat.zero_le _, hjs, hbad⟩
    have e : s.data.toList[j] = s[j]'hjs := by simp [ByteArray.getElem_eq_getElem_data]
    rw [e]
    unfold badRune at h2
    simp at h2
    omega
  · rintro hall ⟨j, _, hjs, hbad⟩
    have := hall (s[j]'hjs) (by rw [ByteArray.getElem_eq_getElem_data]; simp)
    unfold badRune at hbad
    simp at hbad
    omega

set_option maxHeartbeats 1000000 in
set_option maxRecDepth 100000 in
theorem bad_rune (r : Nat) (w : World) : Calls Tryz.prog 84 #[.int .i32 (r : Int)] w fun e w' => e = .returned (.bool (badRune r)) ∧ w' = w := by
  unfold badRune
  go_enter Tryz.func84, Tryz.ntmps84
  go_wp2
  all_goals go_ret
  all_goals (refine ⟨?_, rfl⟩; simp only [Array.getD_eq_getD_getElem?, List.getElem?_toArray, List.getElem?_cons_succ, List.getElem?_cons_zero, Option.getD_some, Ending.returned.injEq, Value.bool.injEq]; first | done | (rw [Bool.eq_iff_iff]; first | (simp; done) | (simp; omega)))

theorem bad_at (w : World) : PredAt Tryz.prog 84 #[] encR badRune w := fun W x hb => (bad_rune x W).mono fun e w' ⟨he, hw⟩ => ⟨he, 0, by rw [hw]; rfl⟩

set_option maxHeartbeats 1000000 in
set_option maxRecDepth 100000 in
theorem text_any (s : ByteArray) (hs : s.size ≤ 1152921504606846976) (w : World) : Calls Tryz.prog 63 #[.string s] w fun e w' => e = .returned (.bool (textB s)) ∧ Below w.heap.size w w' := by
  by_cases h1 : 1 ≤ s.size
  · by_cases h2 : s.size ≤ 1000
    · have HX := Lib.hid (Tryz.strings_ContainsFunc 84 #[] (fun args w => by rfl) badRune s w (bad_at w))
      have hx := idx_text s
      have HT : Hid (textB s = !decide (0 ≤ Lib.idxFunc badRune true s)) := by unfold textB; rw [hx]; simp [h1, h2, Hid]
      clear hx
      generalize decide (0 ≤ Lib.idxFunc badRune true s) = q at HX HT
      have e1 : decide ((1 : Int) ≤ (s.size : Int)) = true := by rw [decide_eq_true_iff]; omega
      have e2 : decide ((s.size : Int) ≤ 1000) = true := by rw [decide_eq_true_iff]; omega
      go_enter Tryz.func63, Tryz.ntmps63
      go_wp2_with fail
      refine HX.out.mono ?_
      rintro e w1 ⟨rfl, hb1⟩
      have HB1 := Lib.hid hb1
      clear hb1
      go_wp2_with fail
      exact bodyPost_ret (v := .bool (!q)) (by simp [results, Tryz.results63, go_sem]) rfl ⟨by rw [HT.out], HB1.out⟩
    · have e1 : decide ((1 : Int) ≤ (s.size : Int)) = true := by rw [decide_eq_true_iff]; omega
      have e2 : decide ((s.size : Int) ≤ 1000) = false := by rw [decide_eq_false_iff_not]; omega
      have HT : Hid (textB s = false) := by unfold textB Hid; simp [h2]
      go_enter Tryz.func63, Tryz.ntmps63
      go_wp2_with fail
      exact bodyPost_ret (v := .bool false) (by simp [results, Tryz.results63, go_sem]) rfl ⟨by rw [HT.out], Below.refl _ _⟩
  · have e1 : decide ((1 : Int) ≤ (s.size : Int)) = false := by rw [decide_eq_false_iff_not]; omega
    have HT : Hid (textB s = false) := by unfold textB Hid; simp [h1]
    go_enter Tryz.func63, Tryz.ntmps63
    go_wp2_with fail
    exact bodyPost_ret (v := .bool false) (by simp [results, Tryz.results63, go_sem]) rfl ⟨by rw [HT.out], Below.refl _ _⟩

end Go.Proofs.YtamfloegflejnaaGreatDoor
