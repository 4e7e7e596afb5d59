/-
  The walk of ExprStrings: a text is told in quotes and read back.
-/
import Derived.Test.YtamfloegflejnaaDoorR
set_option linter.unusedVariables false
set_option linter.unusedSimpArgs false
namespace Go.Proofs.YtamfloegflejnaaDoor
open Go.RowKit Go.Proofs.YtamfloegflejnaaDoorW.PrintWords Go.Proofs.YtamfloegflejnaaDoorW.PrintLast Go.Proofs.YtamfloegflejnaaDoorW.PrintMore PExprNumbers
set_option maxHeartbeats 1000000 in
set_option maxRecDepth 100000 in
theorem strings_huge (t : ByteArray) (h : 5000 < t.size) (w : World) :
    Calls Tryd.prog 4 #[.string t] w fun e w' => e = .returned (.bool true) ∧ Below w.heap.size w w' := by
  have hz : decide ((5000 : Int) < (t.size : Int)) = true := by rw [decide_eq_true_iff]; omega
  go_enter Tryd.func4, Tryd.ntmps4
  go_wp2_with fail
  refine (awake_any _).mono ?_
  rintro e w3 ⟨rfl, hb3⟩
  have HB3 := Lib.hid hb3
  clear hb3
  go_wp2_with fail
  exact bodyPost_ret (v := .bool true) (by simp [results, Tryd.results4, go_sem]) rfl ⟨rfl, HB3.out⟩

set_option maxHeartbeats 1000000 in
set_option maxRecDepth 100000 in
theorem strings_long (l : List UInt8) (h : 256 < l.length) (h2 : l.length ≤ 5000) (w : World) :
    Calls Tryd.prog 4 #[.string ⟨l.toArray⟩] w fun e w' => e = .returned (.bool true) ∧ Below w.heap.size w w' := by
  have hsz : ((⟨l.toArray⟩ : ByteArray)).size = l.length := rfl
  have hz : decide ((5000 : Int) < (l.length : Int)) = false := by rw [decide_eq_false_iff_not]; omega
  have hz2 : decide ((256 : Int) < (l.length : Int)) = true := by rw [decide_eq_true_iff]; omega
  go_enter Tryd.func4, Tryd.ntmps4
  go_wp2_with fail
  refine (show_long l h w).mono ?_
  rintro e w1 ⟨rfl, hb1⟩
  have HB1 := Lib.hid hb1
  clear hb1
  go_wp2_with fail
  refine (awake_any _).mono ?_
  rintro e w3 ⟨rfl, hb3⟩
  have HB3 := Lib.hid hb3
  clear hb3
  go_wp2_with fail
  exact bodyPost_ret (v := .bool true) (by simp [results, Tryd.results4, go_sem]) rfl ⟨rfl, HB1.out.trans (HB3.out.mono HB1.out.size)⟩

set_option maxHeartbeats 1000000 in
set_option maxRecDepth 100000 in
theorem strings_short (l : List UInt8) (h : l.length ≤ 256) (w : World) :
    Calls Tryd.prog 4 #[.string ⟨l.toArray⟩] w fun e w' => e = .returned (.bool true) ∧ Below w.heap.size w w' := by
  have hsz : ((⟨l.toArray⟩ : ByteArray)).size = l.length := rfl
  have hz : decide ((5000 : Int) < (l.length : Int)) = false := by rw [decide_eq_false_iff_not]; omega
  have hz2 : decide ((256 : Int) < (l.length : Int)) = false := by rw [decide_eq_false_iff_not]; omega
  obtain ⟨s, hs⟩ : ∃ s : ByteArray, s = ⟨(quoted l).toArray⟩ := ⟨_, rfl⟩
  have hss : s.size = (enc l).length + 2 := by rw [hs]; show (quoted l).length = _; rw [quoted_length]
  have hel := enc_length l
  have hrg : ∀ j (hj : j < s.size), (32 : Int) ≤ ((s[j]'hj).toNat : Int) ∧ ((s[j]'hj).toNat : Int) ≤ 126 := by
    subst hs
    intro j hj
    have := quoted_range l ((quoted l)[j]'hj) (List.getElem_mem hj)
    have e : ((⟨(quoted l).toArray⟩ : ByteArray)[j]'hj) = (quoted l)[j]'hj := by simp [ByteArray.getElem_eq_getElem_data]
    rw [e]; omega
  have HRG := Lib.hid hrg
  clear hrg
  have HSH := Lib.hid (show_text l h w)
  have HPA := Lib.hid (fun W => parse_text l h W)
  rw [← hs] at HSH
  simp only [← hs] at HPA
  clear hs
  have l1 : decide ((2 : Int) + (l.length : Int) ≤ (s.size : Int)) = true := by rw [decide_eq_true_iff]; omega
  have l2 : decide ((s.size : Int) ≤ 2 + 3 * (l.length : Int)) = true := by rw [decide_eq_true_iff]; omega
  have hsl : s.size ≤ 770 := by omega
  clear hss hel
  go_enter Tryd.func4, Tryd.ntmps4
  go_wp2_with fail
  refine HSH.out.mono ?_
  rintro e w1 ⟨rfl, hb1⟩
  have HB1 := Lib.hid hb1
  clear hb1
  go_wp2_with fail
  refine (HPA.out _).mono ?_
  rintro e w2 ⟨A, c, rfl, hb2⟩
  have HB2 := Lib.hid hb2
  clear hb2
  go_wp2_with fail
  go_loop [39] (fun t => ∃ k : Nat, k ≤ s.size ∧ t = .int .i64 k) (fun t => s.size - (intOf t).toNat)
  case atStart => exact ⟨0, by omega, rfl⟩
  case round =>
    obtain ⟨k, hk, rfl⟩ := hrel
    by_cases hlt : k < s.size
    · have hb := HRG.out k hlt
      have hg : ∀ h : k < s.size, ((s[k]'h).toNat : Int) = ((s[k]'hlt).toNat : Int) := fun _ => rfl
      obtain ⟨v, hv⟩ : ∃ v : Int, v = ((s[k]'hlt).toNat : Int) := ⟨_, rfl⟩
      rw [← hv] at hb hg
      have b1 : decide (v < 32) = false := by rw [decide_eq_false_iff_not]; omega
      have b2 : decide (126 < v) = false := by rw [decide_eq_false_iff_not]; omega
      clear hv
      go_wp2_with fail
      go_round
      case rel => exact ⟨k + 1, by omega, by go_num⟩
      case measure => simp [intOf]; omega
    · obtain rfl : k = s.size := by omega
      go_wp2_with fail
      refine (awake_any _).mono ?_
      rintro e w3 ⟨rfl, hb3⟩
      have HB3 := Lib.hid hb3
      clear hb3
      go_wp2_with fail
      exact bodyPost_ret (v := .bool true) (by simp [results, Tryd.results4, go_sem]) rfl ⟨rfl, below3 HB1 HB2 _ HB3⟩

theorem strings_walk (t : ByteArray) (w : World) : Calls Tryd.prog 4 #[.string t] w fun e w' => e = .returned (.bool true) ∧ Below w.heap.size w w' := by
  obtain ⟨l, rfl⟩ : ∃ l : List UInt8, t = ⟨l.toArray⟩ := ⟨t.data.toList, by simp⟩
  by_cases h1 : 5000 < l.length
  · exact strings_huge ⟨l.toArray⟩ (show 5000 < l.length from h1) w
  · by_cases h2 : 256 < l.length
    · exact strings_long l h2 (by omega) w
    · exact strings_short l (by omega) w

end Go.Proofs.YtamfloegflejnaaDoor
