/-
  The law GraphLines: it answers true where the pipeline is right.
-/
import Derived.Test.YtamfloegflejnaaGreatDoorMJ
set_option linter.unusedVariables false
set_option linter.unusedSimpArgs false
namespace Go.Proofs.YtamfloegflejnaaGreatDoor
open Go.RowKit Go.Proofs.YtamfloegflejnaaGreatDoorW.PrintWords Go.Proofs.YtamfloegflejnaaGreatDoorW.PrintLast Go.Proofs.YtamfloegflejnaaGreatDoorW.PrintMore PGraphLines

/-- What a right pipeline and its front say. -/
structure Front (ns ms : List S63) (n kn : Nat) (s less : ByteArray) : Prop where
  len : ns.length = n
  len2 : ms.length = kn
  ends : s.data.toList.count 10 = n
  small : s.size ≤ 900000
  le : less.size ≤ s.size
  cut : s.extract 0 less.size = less
  back : parseL (less.size + 1) less [] = (ms, true)
  chk : checkV ms = (0, 0)
theorem front_of {ns : List S63} (h : (checkV ns).2 = 0) (kn : Nat) (h1 : 1 ≤ kn) (h2 : kn ≤ ns.length) : Front ns (ns.take kn) ns.length kn ⟨(textT ns).toArray⟩ ⟨(textT (ns.take kn)).toArray⟩ := by
  have ha := okn_all h
  have hat : ∀ x ∈ ns.take kn, Okn x := fun x hx => ha x (List.mem_of_mem_take hx)
  have hf := text_front ns kn
  refine ⟨rfl, by rw [List.length_take]; omega, ?_, text_small h, ?_, ?_, parse_own hat, checkV_take h kn h1 h2⟩
  · rw [ba_eq]; exact text_ends ha
  · show (textT (ns.take kn)).length ≤ (textT ns).length
    rw [hf, List.length_append]; omega
  · apply ByteArray.ext
    rw [ByteArray.data_extract]
    show ((textT ns).toArray.extract 0 (textT (ns.take kn)).length) = (textT (ns.take kn)).toArray
    rw [hf]
    simp

set_option maxHeartbeats 4000000 in
set_option maxRecDepth 100000 in
theorem lines_good (l : List S43) (k : Int) (A : Option Addr) (c : Nat) (w : World) (hE : Env w) (hc : l.length ≤ c) (hC : k43.C w A l.length l) (hsm : smallB l = true) (h1 : ¬ k < 1) (h2 : ¬ (l.length : Int) < k) (hv : (checkV (l.map upN)).2 = 0) :
    Calls Tryz.prog 4 #[.slice A l.length c, .int .i64 k] w (Yes w) := by
  obtain ⟨kn, rfl⟩ : ∃ kn : Nat, k = kn := ⟨k.toNat, by omega⟩
  have HE := Lib.hid hE
  have HS := Lib.hid (small_any l A c w hc hC)
  rw [hsm] at HS
  have HC := Lib.hid hC
  have hsm2 := smallB_take kn hsm
  have hkl : (l.take kn).length = kn := by rw [List.length_take]; omega
  have HSM := Lib.hid hsm; have HSM2 := Lib.hid hsm2
  have htm := upN_tame hsm
  have htm2 := upN_tame hsm2
  have hok := okn_all hv
  have hfr := front_of hv kn (by omega) (by rw [List.length_map]; omega)
  have hmt : (l.take kn).map upN = (l.map upN).take kn := List.map_take
  rw [hmt] at htm2
  have hfit : ∀ x ∈ l.map upN, Fit x := fun x hx => okn_fit (hok x hx)
  have hfit2 : ∀ x ∈ (l.map upN).take kn, Fit x := fun x hx => hfit x (List.mem_of_mem_take hx)
  have hcv := checkV_both hv
  have h32 := (checkV_zero hv).1
  have hnl : (l.map upN).length = l.length := List.length_map ..
  rw [hnl] at hfr
  have HPI : ∀ W, Below w.heap.size w W → Hid _ := fun W hb => Lib.hid (pipe_any l A c W hsm hc (Kd.C_below hC hb))
  have HPI2 : ∀ W, Below w.heap.size w W → Hid _ := fun W hb => Lib.hid (pipe_any (l.take kn) A c W hsm2 (by omega) (Kd.C_take (Kd.C_below hC hb) (by omega)))
  rw [hkl, hmt] at HPI2
  generalize (l.map upN).take kn = ms at *
  generalize l.map upN = ns at *
  have HF := Lib.hid hfit; have HF2 := Lib.hid hfit2; have HTM := Lib.hid htm; have HTM2 := Lib.hid htm2; have HFR := Lib.hid hfr
  have HCV := Lib.hid hcv; have HNL := Lib.hid hnl; have HPA := Lib.hid HPI; have HPB := Lib.hid HPI2; have H32 := Lib.hid h32
  have e1 : decide ((kn : Int) < 1) = false := by rw [decide_eq_false_iff_not]; exact h1
  have e2 : decide ((l.length : Int) < (kn : Int)) = false := by rw [decide_eq_false_iff_not]; exact h2
  have hk1 : 1 ≤ kn := by omega
  have hk2 : kn ≤ l.length := by omega
  clear hC hsm hsm2 hkl htm htm2 hok hfr hmt hfit hfit2 hcv h32 hnl HPI HPI2 hv h1 h2 HSM HSM2 HC hE
  go_enter Tryz.func4, Tryz.ntmps4
  go_wp2_with fail
  refine HS.out.mono ?_
  rintro e w1 ⟨rfl, hb1⟩
  have HB1 := Lib.hid hb1
  have HP1 := Lib.hid (HPA.out w1 hb1)
  clear hb1 HPA HS
  go_wp2_with fail
  refine HP1.out.mono ?_
  rintro e w2 ⟨v, rfl, hR, hb2⟩
  obtain ⟨A2, c2, rfl, hc2, hC2⟩ := Kd.R_reads hR
  have HB2 := Lib.hid (HB1.out.trans (hb2.mono HB1.out.size))
  have hsh := graph_show_ok A2 c2 ns w2 (HE.out.later HB2.out) hc2 hC2 HTM.out HCV.out H32.out.1 H32.out.2 HF.out
  obtain ⟨s, hs⟩ : ∃ s : ByteArray, s = ⟨(textT ns).toArray⟩ := ⟨_, rfl⟩
  rw [← hs] at hsh HFR
  rw [HNL.out] at hsh ⊢
  have HSH := Lib.hid hsh
  clear hR hC2 hb2 hc2 hs hsh HP1 HB1 HTM HF
  go_wp2_with fail
  refine HSH.out.mono ?_
  rintro e w3 ⟨rfl, hb3⟩
  have HB3 := Lib.hid (HB2.out.trans (hb3.mono HB2.out.size))
  have HP2 := Lib.hid (HPB.out w3 HB3.out)
  clear hb3 HSH HPB HB2
  go_wp2_with fail
  refine HP2.out.mono ?_
  rintro e w4 ⟨v, rfl, hR, hb4⟩
  obtain ⟨A4, c4, rfl, hc4, hC4⟩ := Kd.R_reads hR
  have HB4 := Lib.hid (HB3.out.trans (hb4.mono HB3.out.size))
  have hl2 := HFR.out.len2
  have hsh := graph_show_ok A4 c4 ms w4 (HE.out.later HB4.out) hc4 hC4 HTM2.out HFR.out.chk (by omega) (by have := H32.out; have := HNL.out; omega) HF2.out
  obtain ⟨less, hs⟩ : ∃ s : ByteArray, s = ⟨(textT ms).toArray⟩ := ⟨_, rfl⟩
  rw [← hs] at hsh HFR
  rw [hl2] at hsh ⊢
  have HSH := Lib.hid hsh
  clear hR hC4 hb4 hc4 hs hsh HP2 HB3 HTM2 HF2 hl2
  go_wp2_with fail
  refine HSH.out.mono ?_
  rintro e w5 ⟨rfl, hb5⟩
  have HB5 := Lib.hid (HB4.out.trans (hb5.mono HB4.out.size))
  clear hb5 HSH HB4
  have HGP := Lib.hid (graph_parse less (by have := HFR.out.le; have := HFR.out.small; omega) w5 (HE.out.later HB5.out))
  rw [HFR.out.back] at HGP
  have hsz := HFR.out.small
  go_wp2_with fail
  go_loopg [9, 51] s.size (fun n v t wr => ∃ j : Nat, n + j = s.size ∧ t = .int .i64 j ∧ v = .int .i64 (((s.data.toList.take j).count 10 : Nat) : Int) ∧ wr = w5)
  case atStart => exact ⟨0, by omega, rfl, rfl, rfl⟩
  case round =>
    obtain ⟨j, hj, rfl, rfl, rfl⟩ := hrel
    by_cases hlt : j < s.size
    · obtain ⟨m, rfl⟩ : ∃ m, gk = m + 1 := ⟨gk - 1, by omega⟩
      have hln : s.data.toList.length = s.size := by simp
      have hlt2 : j < s.data.toList.length := by omega
      have hct := List.count_le_length (a := (10 : UInt8)) (l := s.data.toList.take j)
      rw [List.length_take] at hct
      have HCT : Hid ((s.data.toList.take (j + 1)).count 10 = (s.data.toList.take j).count 10 + (if s[j] = 10 then 1 else 0)) := by
        rw [List.take_succ_eq_append_getElem hlt2, List.count_append]
        congr 1
        rw [List.count_singleton]
        show (if (s.data.toList[j] == 10) = true then 1 else 0) = _
        by_cases hh : s.data.toList[j] = 10
        · rw [if_pos (by rw [hh]; rfl), if_pos (show s[j] = 10 from hh)]
        · rw [if_neg (by simpa using hh), if_neg (show ¬ s[j] = 10 from hh)]
      obtain ⟨cn, hcn⟩ : ∃ cn, cn = (s.data.toList.take j).count 10 := ⟨_, rfl⟩
      rw [← hcn] at hct HCT ⊢
      clear hcn
      by_cases hh : s[j] = 10
      · have t0 : (((s[j].toNat : Nat) : Int) == 10) = true := by rw [hh]; rfl
        have HC1 : Hid ((s.data.toList.take (j + 1)).count 10 = cn + 1) := by have := HCT.out; rw [if_pos hh] at this; exact this
        clear hh HCT
        go_wp2_with fail
        go_roundg m
        case measure => omega
        case rel => exact ⟨j + 1, by omega, by go_num, by rw [HC1.out]; go_num, rfl⟩
      · have t0 : (((s[j].toNat : Nat) : Int) == 10) = false := by
          rw [beq_eq_false_iff_ne]
          intro he
          exact hh (UInt8.toNat_inj.mp (by show s[j].toNat = 10; omega))
        have HC1 : Hid ((s.data.toList.take (j + 1)).count 10 = cn) := by have := HCT.out; rw [if_neg hh] at this; exact this
        clear hh HCT
        go_wp2_with fail
        go_roundg m
        case measure => omega
        case rel => exact ⟨j + 1, by omega, by go_num, by rw [HC1.out], rfl⟩
    · obtain rfl : j = s.size := by omega
      have hct : (s.data.toList.take s.size).count 10 = l.length := by
        rw [List.take_of_length_le (by simp)]; exact HFR.out.ends
      rw [hct]
      go_wp2_with fail
      refine HGP.out.mono ?_
      rintro e w6 ⟨hr, hb6⟩
      rw [if_neg (by simp), if_pos (by rw [HFR.out.chk])] at hr
      obtain ⟨A6, c6, rfl, hR6⟩ := hr
      rw [show (ms, true).1.length = kn from HFR.out.len2]
      have HB6 := Lib.hid (HB5.out.trans (hb6.mono HB5.out.size))
      clear hb6 hR6 HGP hct
      have HX := Lib.hid (heap_alloc_new w6 (.cells #[.slice A6 kn c6] 29))
      have hba := below_alloc (Below.refl w6.heap.size w6) (.cells #[.slice A6 kn c6] 29)
      have HA := Lib.hid (awake_calls (w6.alloc (.cells #[.slice A6 kn c6] 29)) ((HE.out.later HB6.out).later hba))
      have HB7 := Lib.hid (HB6.out.trans (hba.mono HB6.out.size))
      clear hba
      have hle := HFR.out.le
      have t1 : ((s.extract 0 less.size).toList == less.toList) = true := by rw [HFR.out.cut, beq_iff_eq]
      have t2 : decide ((less.size : Int) ≤ (s.size : Int)) = true := by rw [decide_eq_true_iff]; omega
      go_upto_region 15 with fail
      generalize w6.alloc (.cells #[.slice A6 kn c6] 29) = w7 at *
      generalize w6.heap.size = N at *
      have p0 : w7.cell? ⟨N, 0, none⟩ = some (.slice A6 kn c6) := (blk_cell HX.out 0).trans rfl
      go_wp2_with fail
      refine HA.out.mono ?_
      rintro e w8 ⟨rfl, hb8⟩
      have HB8 := Lib.hid (HB7.out.trans (hb8.mono HB7.out.size))
      clear hb8
      go_wp2_with fail
      exact bodyPost_ret (v := .bool true) (by simp [results, Tryz.results4, go_sem]) rfl ⟨rfl, HB8.out⟩

theorem law_lines (l : List S43) (k : Int) (A : Option Addr) (c : Nat) (w : World) (hE : Env w) (hc : l.length ≤ c) (hC : k43.C w A l.length l) :
    Calls Tryz.prog 4 #[.slice A l.length c, .int .i64 k] w (Yes w) := by
  by_cases ho : smallB l = false ∨ k < 1 ∨ (l.length : Int) < k
  · exact lines_out l k A c w hE hc hC ho
  · have hsm : smallB l = true := by
      cases h : smallB l with
      | false => exact absurd (.inl h) ho
      | true => rfl
    have h1 : ¬ k < 1 := fun h => ho (.inr (.inl h))
    have h2 : ¬ (l.length : Int) < k := fun h => ho (.inr (.inr h))
    by_cases hv : (checkV (l.map upN)).2 = 0
    · exact lines_good l k A c w hE hc hC hsm h1 h2 hv
    · exact lines_bad l k A c w hE hc hC hsm h1 h2 hv

end Go.Proofs.YtamfloegflejnaaGreatDoor
