/-
 The ref graph's small functions: what they answer (Rises, ahead, Text).
 The ref graph's small functions: what they answer (cut).
-/
import Derived.Test.YtamfloegflejnaaGreatDoorNA
import Derived.Test.YtamfloegflejnaaGreatDoorKG
import Derived.Test.YtamfloegflejnaaGreatDoorMD
set_option linter.unusedVariables false
set_option linter.unusedSimpArgs false
namespace Go.Proofs.YtamfloegflejnaaGreatDoor
open Go.RowKit Go.Proofs.YtamfloegflejnaaGreatDoorW.PrintWords Go.Proofs.YtamfloegflejnaaGreatDoorW.PrintLast Go.Proofs.YtamfloegflejnaaGreatDoorW.PrintMore PGraphLines
theorem drawn_below {w w' : World} (h : Drawn0 w w') : Below w.heap.size w w' := by
 obtain ⟨n, rfl⟩ := h
 exact pw_below_drewN (Below.refl _ _) n
theorem rises_same (l : List Int) (a b : Int) : ∀ (k : Nat) (j : Int), r11_Rises.l0 k l a b j = graph_rises.l0 k l a b j := by
 intro k
 induction k with
 | zero => intro j; rfl
 | succ k ih => intro j; unfold r11_Rises.l0 graph_rises.l0; simp only [ih]
theorem rises2_any (l : List Int) (A : Option Addr) (c : Nat) (a b : Int) (w : World) (hl : l.length <= 1000000) (hC : Kd.C (Kd.int .i64) w A l.length l) (hc : l.length <= c) :
  Calls Tryz.prog 24 #[.slice A l.length c, .int .i64 a, .int .i64 b] w fun e w' => e = .returned (.bool (risesB l a b)) ∧ Below w.heap.size w w' := by
 have h := rises_from l a b hl (l.length + 1) 1 (Nat.le_refl _) (by omega) (by omega)
 rw [<- rises_same] at h
 exact (r11_Rises.calls (l.length + 1) A c l a b (risesB l a b) w hC hc (by unfold r11_Rises.f; exact h)).mono fun e w' ⟨he, hd⟩ => ⟨he, drawn_below hd⟩
/-- A place that no node may read from. -/
def badAt (l : List S43) (i : Int) (k : Int) : Bool := decide (k < 0) || (decide (i <= k) || ((rd_T43 l k).f0 == 6))
theorem ahead_from (l : List S43) (i : Int) (xs : List Int) (hi : i <= l.length) (hx : xs.length <= 1000000) : ∀ (d j : Nat), d + j = xs.length →
  r11_ahead.l0 (d + 1) l i xs (j : Int) = some (!(xs.drop j).any (badAt l i)) := by
 intro d
 induction d with
 | zero =>
  intro j hj
  unfold r11_ahead.l0
  rw [if_neg (by omega), show xs.drop j = [] by rw [List.drop_eq_nil_iff]; omega]
  rfl
 | succ d ih =>
  intro j hj
  have hjl : j < xs.length := by omega
  unfold r11_ahead.l0
  have hrd : rd xs (j : Int) = xs[j] := by simp [rd, List.getD, List.getElem?_eq_getElem hjl]
  rw [if_pos (by omega), if_pos (by omega), hrd, List.drop_eq_getElem_cons hjl, List.any_cons]
  have w1 : wrap64 ((j : Int) + 1) = ((j + 1 : Nat) : Int) := by unfold wrap64; omega
  rw [w1, ih (j + 1) (by omega)]
  unfold badAt
  by_cases h0 : xs[j] < 0
  ·rw [if_pos h0]; simp [h0]
  rw [if_neg h0]
  by_cases h1 : xs[j] ≥ i
  ·rw [if_pos h1]; simp [h1]
  rw [if_neg h1, if_pos (by omega), if_pos (by omega)]
  by_cases h6 : (rd_T43 l xs[j]).f0 = 6
  ·rw [if_pos h6]; simp [h6]
  ·rw [if_neg h6]
   have e1 : decide (xs[j] < 0) = false := by rw [decide_eq_false_iff_not]; exact h0
   have e2 : decide (i <= xs[j]) = false := by rw [decide_eq_false_iff_not]; omega
   have e3 : ((rd_T43 l xs[j]).f0 == 6) = false := by rw [beq_eq_false_iff_ne]; exact h6
   rw [e1, e2, e3]
   simp
theorem text_from (s : ByteArray) (hs : s.size <= 9223372036854775806) : ∀ (d j : Nat), d + j = s.size →
  r11_Text.l0 (d + 1) s (j : Int) = some (((s.data.toList.drop j).all fun b => decide (32 <= b.toNat) && decide (b.toNat <= 126)) && (decide (1 <= s.size) && decide (s.size <= 1000))) := by
 intro d
 have hl : s.data.toList.length = s.size := by simp
 induction d with
 | zero =>
  intro j hj
  unfold r11_Text.l0
  rw [if_neg (by omega), show s.data.toList.drop j = [] by rw [List.drop_eq_nil_iff]; omega]
  by_cases h1 : (s.size : Int) ≥ 1
  ·rw [if_pos h1]
   have : decide (1 <= s.size) = true := by rw [decide_eq_true_iff]; omega
   rw [this]
   simp
   omega
  ·rw [if_neg h1]
   have : decide (1 <= s.size) = false := by rw [decide_eq_false_iff_not]; omega
   rw [this]
   rfl
 | succ d ih =>
  intro j hj
  have hjl : j < s.data.toList.length := by omega
  have hjs : j < s.size := by omega
  unfold r11_Text.l0
  have hb : bt s (j : Int) = (s.data.toList[j].toNat : Int) := by
   unfold bt
   rw [dif_pos (by simpa using hjs)]
   simp [ByteArray.getElem_eq_getElem_data]
  have w1 : wrap64 ((j : Int) + 1) = ((j + 1 : Nat) : Int) := by unfold wrap64; omega
  rw [if_pos (by omega), if_pos (by omega), hb, w1, ih (j + 1) (by omega), List.drop_eq_getElem_cons hjl, List.all_cons]
  generalize s.data.toList[j].toNat = b
  by_cases h1 : (b : Int) < 32
  ·rw [if_pos h1, show decide (32 <= b) = false by rw [decide_eq_false_iff_not]; omega]; rfl
  rw [if_neg h1, show decide (32 <= b) = true by rw [decide_eq_true_iff]; omega]
  by_cases h2 : (b : Int) > 126
  ·rw [if_pos h2, show decide (b <= 126) = false by rw [decide_eq_false_iff_not]; omega]; rfl
  ·rw [if_neg h2, show decide (b <= 126) = true by rw [decide_eq_true_iff]; omega]; rfl
theorem text2_any (s : ByteArray) (w : World) (hs : s.size <= 9223372036854775806) :
  Calls Tryz.prog 26 #[.string s] w fun e w' => e = .returned (.bool (textB s)) ∧ Below w.heap.size w w' := by
 have h := text_from s hs s.size 0 (by omega)
 rw [List.drop_zero] at h
 refine (r11_Text.calls (s.size + 1) s (textB s) w ?_).mono fun e w' ⟨he, hd⟩ => ⟨he, drawn_below hd⟩
 unfold r11_Text.f
 refine h.trans ?_
 unfold textB
 rw [Bool.and_comm]
theorem cut_from (s : ByteArray) (c : UInt8) (hs : s.size <= 9223372036854775806) : ∀ (d j : Nat), d + j = s.size -> c ∉ s.data.toList.take j →
  r11_cut.l0 (d + 1) s (c.toNat : Int) (j : Int) = some (⟨(Lib.cut s.data.toList [c]).1.toArray⟩, ⟨(Lib.cut s.data.toList [c]).2.1.toArray⟩, (Lib.cut s.data.toList [c]).2.2) := by
 intro d
 have hl : s.data.toList.length = s.size := by simp
 induction d with
 | zero =>
  intro j hj hn
  unfold r11_cut.l0
  rw [List.take_of_length_le (by omega)] at hn
  rw [if_neg (by omega), cut_no c _ hn]
 | succ d ih =>
  intro j hj hn
  have hjl : j < s.data.toList.length := by omega
  have hjs : j < s.size := by omega
  unfold r11_cut.l0
  have hb : bt s (j : Int) = (s.data.toList[j].toNat : Int) := by
   unfold bt
   rw [dif_pos (by simpa using hjs)]
   simp [ByteArray.getElem_eq_getElem_data]
  have w1 : wrap64 ((j : Int) + 1) = ((j + 1 : Nat) : Int) := by unfold wrap64; omega
  rw [if_pos (by omega), if_pos (by omega), hb, w1]
  by_cases he : s.data.toList[j] = c
  ·have hsp : s.data.toList = s.data.toList.take j ++ c :: s.data.toList.drop (j + 1) := by
    rw [<- he, <- List.drop_eq_getElem_cons hjl, List.take_append_drop]
   rw [if_pos (by rw [he]), if_pos (by omega), if_pos (by omega), if_pos (by omega)]
   have hc : Lib.cut s.data.toList [c] = (s.data.toList.take j, s.data.toList.drop (j + 1), true) := by
    conv => lhs; rw [hsp]
    exact cut_at c _ _ hn
   rw [hc]
   have e1 : s.extract 0 ((j : Int)).toNat = ⟨(s.data.toList.take j).toArray⟩ := by
    apply ByteArray.ext
    rw [ByteArray.data_extract]
    apply Array.toList_inj.mp
    simp [Array.toList_extract, List.extract]
   have e2 : s.extract (((j + 1 : Nat) : Int)).toNat s.size = ⟨(s.data.toList.drop (j + 1)).toArray⟩ := by
    rw [Int.toNat_natCast, Lib.extract_from]
   rw [e1, e2]
  ·rw [if_neg (by intro h; exact he (UInt8.toNat_inj.mp (by omega)))]
   refine ih (j + 1) (by omega) ?_
   rw [List.take_succ_eq_append_getElem hjl, List.mem_append]
   rintro (h | h)
   ·exact hn h
   ·exact he (List.mem_singleton.1 h).symm
theorem cut2_any (s : ByteArray) (c : UInt8) (w : World) (hs : s.size <= 9223372036854775806) :
  Calls Tryz.prog 21 #[.string s, .int .u8 (c.toNat : Int)] w fun e w' => e = .returned (.tuple #[.string ⟨(Lib.cut s.data.toList [c]).1.toArray⟩, .string ⟨(Lib.cut s.data.toList [c]).2.1.toArray⟩, .bool (Lib.cut s.data.toList [c]).2.2]) ∧ Below w.heap.size w w' := by
 have h := cut_from s c hs s.size 0 (by omega) (by simp)
 exact (r11_cut.calls (s.size + 1) s (c.toNat : Int) _ _ _ w (by unfold r11_cut.f; exact h)).mono fun e w' ⟨he, hd⟩ => ⟨he, drawn_below hd⟩
end Go.Proofs.YtamfloegflejnaaGreatDoor
