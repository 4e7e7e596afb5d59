/-
  The law GraphLines: it answers true.
-/
import Derived.Test.YtamfloegflejnaaGreatDoorMI
import Derived.Test.YtamfloegflejnaaGreatDoorMC
set_option linter.unusedVariables false
set_option linter.unusedSimpArgs false
namespace Go.Proofs.YtamfloegflejnaaGreatDoor
open Go.RowKit Go.Proofs.YtamfloegflejnaaGreatDoorW.PrintWords Go.Proofs.YtamfloegflejnaaGreatDoorW.PrintLast Go.Proofs.YtamfloegflejnaaGreatDoorW.PrintMore PGraphLines

theorem upN_tame {l : List S43} (h : smallB l = true) : Tame (l.map upN) := by
  intro x hx
  obtain ⟨n, hn, rfl⟩ := List.mem_map.1 hx
  have := (smallB_mem h).2 n hn
  exact ⟨by show n.f1.length ≤ _; omega, by show n.f2.length ≤ _; omega, by show n.f3.size ≤ _; omega⟩

def Yes (w : World) (e : Ending) (w' : World) : Prop := e = .returned (.bool true) ∧ Below w.heap.size w w'

set_option maxHeartbeats 4000000 in
set_option maxRecDepth 100000 in
theorem lines_out (l : List S43) (k : Int) (A : Option Addr) (c : Nat) (w : World) (hE : Env w) (hc : l.length ≤ c) (hC : k43.C w A l.length l) (ho : smallB l = false ∨ k < 1 ∨ (l.length : Int) < k) :
    Calls Tryz.prog 4 #[.slice A l.length c, .int .i64 k] w (Yes w) := by
  have HE := Lib.hid hE
  have HS := Lib.hid (small_any l A c w hc hC)
  cases hsm : smallB l with
  | false =>
    rw [hsm] at HS
    clear ho hsm hC
    go_enter Tryz.func4, Tryz.ntmps4
    go_wp2_with fail
    refine HS.out.mono ?_
    rintro e w1 ⟨rfl, hb1⟩
    have HA := Lib.hid (awake_calls w1 (HE.out.later hb1)); have HB1 := Lib.hid hb1
    clear hb1
    go_wp2_with fail
    refine HA.out.mono ?_
    rintro e w2 ⟨rfl, hb2⟩
    have HB2 := Lib.hid hb2
    clear hb2
    go_wp2_with fail
    exact bodyPost_ret (v := .bool true) (by simp [results, Tryz.results4, go_sem]) rfl ⟨rfl, HB1.out.trans (HB2.out.mono HB1.out.size)⟩
  | true =>
    rw [hsm] at HS
    have ho2 : k < 1 ∨ (l.length : Int) < k := by
      rcases ho with h | h
      · rw [hsm] at h; cases h
      · exact h
    clear ho hsm hC
    by_cases h1 : k < 1
    · have e1 : decide (k < 1) = true := by rw [decide_eq_true_iff]; exact h1
      clear ho2 h1
      go_enter Tryz.func4, Tryz.ntmps4
      go_wp2_with fail
      refine HS.out.mono ?_
      rintro e w1 ⟨rfl, hb1⟩
      have HA := Lib.hid (awake_calls w1 (HE.out.later hb1)); have HB1 := Lib.hid hb1
      clear hb1
      go_wp2_with fail
      refine HA.out.mono ?_
      rintro e w2 ⟨rfl, hb2⟩
      have HB2 := Lib.hid hb2
      clear hb2
      go_wp2_with fail
      exact bodyPost_ret (v := .bool true) (by simp [results, Tryz.results4, go_sem]) rfl ⟨rfl, HB1.out.trans (HB2.out.mono HB1.out.size)⟩
    · have h2 : (l.length : Int) < k := by omega
      have e1 : decide (k < 1) = false := by rw [decide_eq_false_iff_not]; exact h1
      have e2 : decide ((l.length : Int) < k) = true := by rw [decide_eq_true_iff]; exact h2
      clear ho2 h1 h2
      go_enter Tryz.func4, Tryz.ntmps4
      go_wp2_with fail
      refine HS.out.mono ?_
      rintro e w1 ⟨rfl, hb1⟩
      have HA := Lib.hid (awake_calls w1 (HE.out.later hb1)); have HB1 := Lib.hid hb1
      clear hb1
      go_wp2_with fail
      refine HA.out.mono ?_
      rintro e w2 ⟨rfl, hb2⟩
      have HB2 := Lib.hid hb2
      clear hb2
      go_wp2_with fail
      exact bodyPost_ret (v := .bool true) (by simp [results, Tryz.results4, go_sem]) rfl ⟨rfl, HB1.out.trans (HB2.out.mono HB1.out.size)⟩

set_option maxHeartbeats 800000 in
set_option maxRecDepth 100000 in
theorem lines_bad (l : List S43) (k : Int) (A : Option Addr) (c : Nat) (w : World) (hE : Env w) (hc : l.length ≤ c) (hC : k43.C w A l.length l) (hsm : smallB l = true) (h1 : ¬ k < 1) (h2 : ¬ (l.length : Int) < k) (hv : (checkV (l.map upN)).2 ≠ 0) :
    Calls Tryz.prog 4 #[.slice A l.length c, .int .i64 k] w (Yes w) := by
  have HE := Lib.hid hE
  have HS := Lib.hid (small_any l A c w hc hC)
  rw [hsm] at HS
  have HC := Lib.hid hC
  have HSM := Lib.hid hsm
  have htm := upN_tame hsm
  have e1 : decide (k < 1) = false := by rw [decide_eq_false_iff_not]; exact h1
  have e2 : decide ((l.length : Int) < k) = false := by rw [decide_eq_false_iff_not]; exact h2
  clear hC hsm h1 h2
  go_enter Tryz.func4, Tryz.ntmps4
  go_wp2_with fail
  refine HS.out.mono ?_
  rintro e w1 ⟨rfl, hb1⟩
  have HB1 := Lib.hid hb1
  have HPI := Lib.hid (pipe_any l A c w1 HSM.out hc (Kd.C_below HC.out hb1))
  generalize l.map upN = ns at *
  have HTM := Lib.hid htm
  have HV := Lib.hid hv
  clear hb1 hv htm
  go_wp2_with fail
  refine HPI.out.mono ?_
  rintro e w2 ⟨v, rfl, hR, hb2⟩
  obtain ⟨A2, c2, rfl, hc2, hC2⟩ := Kd.R_reads hR
  have HB2 := Lib.hid (HB1.out.trans (hb2.mono HB1.out.size))
  have HSH := Lib.hid (graph_show_bad A2 c2 ns w2 hc2 hC2 HTM.out HV.out)
  obtain ⟨v2, hv2⟩ : ∃ v2, v2 = (checkV ns).2 := ⟨_, rfl⟩
  rw [← hv2] at HSH
  have t0 : (v2 != 0) = true := by rw [bne_iff_ne, hv2]; exact HV.out
  obtain ⟨em, hem⟩ : ∃ em : ByteArray, em = ⟨#[]⟩ := ⟨_, rfl⟩
  rw [← hem] at HSH
  have hemt : em.toList.isEmpty = true := by rw [hem, ByteArray.toList_eq]; rfl
  clear hR hC2 hb2 hc2 hv2 HV hem
  go_wp2_with fail
  refine HSH.out.mono ?_
  rintro e w3 ⟨rfl, hb3⟩
  have HB3 := Lib.hid (HB2.out.trans (hb3.mono HB2.out.size))
  have HA := Lib.hid (awake_calls w3 ((HE.out.later HB2.out).later hb3))
  clear hb3
  go_wp2_with fail
  refine HA.out.mono ?_
  rintro e w4 ⟨rfl, hb4⟩
  have HB4 := Lib.hid (HB3.out.trans (hb4.mono HB3.out.size))
  clear hb4
  go_wp2_with fail
  exact bodyPost_ret (v := .bool true) (by simp [results, Tryz.results4, go_sem]) rfl ⟨rfl, HB4.out⟩

end Go.Proofs.YtamfloegflejnaaGreatDoor
