/-
  The law's awake.
-/
import Derived.Test.YtamfloegflejnaaGreatDoorMH
set_option linter.unusedVariables false
set_option linter.unusedSimpArgs false
namespace Go.Proofs.YtamfloegflejnaaGreatDoor
open Go.RowKit Go.Proofs.YtamfloegflejnaaGreatDoorW.PrintWords Go.Proofs.YtamfloegflejnaaGreatDoorW.PrintLast Go.Proofs.YtamfloegflejnaaGreatDoorW.PrintMore PGraphLines

def two : List S63 := [⟨1, [], [], ⟨#[]⟩, ⟨2, []⟩, ⟨0, 0, 0, 0⟩, ⟨0, 0, 0, false⟩⟩, ⟨6, [0], [], ⟨#[]⟩, ⟨0, []⟩, ⟨0, 0, 0, 0⟩, ⟨0, 0, 0, false⟩⟩]
def twoT : ByteArray := ⟨#[115, 111, 117, 114, 99, 101, 32, 105, 110, 116, 10, 115, 105, 110, 107, 32, 48, 10]⟩
theorem itoa_nought : Lib.itoa 0 = [48] := by
  rw [itoa_dec 0 (by decide)]
  unfold Lib.decDigits
  rfl
theorem two_text : (⟨(textT two).toArray⟩ : ByteArray) = twoT := by
  unfold two textT textT textT lineT bodyT partsT
  simp only [if_true, if_neg (show ¬ (6 : Int) = 1 by decide), if_neg (show ¬ (6 : Int) = 2 by decide), if_neg (show ¬ (6 : Int) = 3 by decide), if_neg (show ¬ (6 : Int) = 4 by decide), if_neg (show ¬ (6 : Int) = 5 by decide), join2, Lib.join_one, places_one, itoa_nought]
  rfl
theorem two_check : checkV two = (0, 0) := by
  have he : (⟨#[]⟩ : ByteArray).toList = [] := by rw [ByteArray.toList_eq]
  have h0 : nodeErr two 0 = 0 := by
    unfold nodeErr
    rw [show rd_T63 two ((0 : Nat) : Int) = two[0] from rfl]
    rw [if_neg (by decide), if_pos (by decide), if_pos]
    unfold formN formB
    show (_ && _) = true
    rw [show two[0].f3 = (⟨#[]⟩ : ByteArray) from rfl, he]
    decide
  have h1 : nodeErr two 1 = 0 := by
    unfold nodeErr
    rw [show rd_T63 two ((1 : Nat) : Int) = two[1] from rfl]
    rw [if_neg (by decide), if_pos (by decide), if_pos]
    unfold formN formB
    show (_ && _) = true
    rw [show two[1].f3 = (⟨#[]⟩ : ByteArray) from rfl, he]
    decide
  rw [show checkV two = checkL two (List.range two.length) from if_neg (by decide)]
  refine checkL_end two 2 (fun j hj => ?_)
  have : j = 0 ∨ j = 1 := by omega
  rcases this with rfl | rfl
  · exact h0
  · exact h1
theorem two_reads : ∀ k, k < two.length → readsN (rd_T63 two (k : Int)) 0 4 = some (decide (k = 1)) := by
  intro k hk
  have : k = 0 ∨ k = 1 := by have : two.length = 2 := rfl; omega
  rcases this with rfl | rfl <;> rfl

set_option maxHeartbeats 4000000 in
set_option maxRecDepth 100000 in
theorem awake_calls (w : World) (hE : Env w) : Calls Tryz.prog 6 #[] w fun e w' => e = .returned (.bool true) ∧ Below w.heap.size w w' := by
  have HE := Lib.hid hE
  have hok : ∀ x ∈ two, Okn x := okn_all (by rw [two_check])
  have hpv : parseL (twoT.size + 1) twoT [] = (two, true) := by rw [← two_text]; exact parse_own hok
  have HG := Lib.hid (graph_parse twoT (by decide) w hE)
  rw [hpv] at HG
  have HFI := Lib.hid (fun x hx => okn_fit (hok x hx)); have HTM := Lib.hid (okn_tame hok)
  clear hE hok hpv
  unfold twoT at HG
  go_enter Tryz.func6, Tryz.ntmps6
  go_wp2_with fail
  refine HG.out.mono ?_
  rintro e w1 ⟨hr, hb1⟩
  rw [if_neg (by simp), if_pos (by rw [two_check])] at hr
  obtain ⟨A, c, rfl, hO⟩ := hr
  obtain ⟨A', c', hv, hc', hC'⟩ := Kd.R_reads hO
  injection hv with hA hk' hcc
  subst hA
  obtain rfl : c = c' := hcc
  have HC1 := Lib.hid hC'; have HCC := Lib.hid hc'
  have HB1 := Lib.hid hb1
  have HE1 := Lib.hid (HE.out.later hb1)
  clear hk' hO hc' hC' hb1 HG HE
  rw [show (two, true).1 = two from rfl] at *
  have HX := Lib.hid (heap_alloc_new w1 (.cells #[.slice A two.length c] 29))
  have hba := below_alloc (Below.refl w1.heap.size w1) (.cells #[.slice A two.length c] 29)
  have HB2 := Lib.hid (HB1.out.trans (hba.mono HB1.out.size))
  have HC2 := Lib.hid (Kd.C_below HC1.out hba)
  have HE2 := Lib.hid (HE1.out.later hba)
  clear hba HC1 HB1 HE1
  go_upto_region 2 with fail
  generalize w1.alloc (.cells #[.slice A two.length c] 29) = w2 at *
  generalize w1.heap.size = N at *
  have p0 : w2.cell? ⟨N, 0, none⟩ = some (.slice A two.length c) := (blk_cell HX.out 0).trans rfl
  have HS := Lib.hid (graph_show_ok A c two w2 HE2.out HCC.out HC2.out HTM.out two_check (by decide) (by decide) HFI.out)
  rw [two_text] at HS
  unfold twoT at HS
  go_wp2_with fail
  refine HS.out.mono ?_
  rintro e w3 ⟨rfl, hb3⟩
  have HX3 := Lib.hid (blk_below HX.out hb3)
  have HB3 := Lib.hid (HB2.out.trans (hb3.mono HB2.out.size))
  have HC3 := Lib.hid (Kd.C_below HC2.out hb3)
  have HU := Lib.hid (graph_users A c two 0 4 (fun k => decide (k = 1)) w3 HCC.out HC3.out HTM.out (by rw [two_check]) two_reads)
  clear hb3 HB2 HC2 HX HS p0
  have p0 : w3.cell? ⟨N, 0, none⟩ = some (.slice A two.length c) := (blk_cell HX3.out 0).trans rfl
  rw [show (picks (fun k => decide (k = 1)) two.length).length = 1 from rfl] at HU
  go_wp2_with fail
  refine HU.out.mono ?_
  rintro e w4 ⟨⟨A4, c4, rfl⟩, hb4⟩
  have HB4 := Lib.hid (HB3.out.trans (hb4.mono HB3.out.size))
  clear hb4
  go_wp2_with fail
  exact bodyPost_ret (v := .bool true) (by simp [results, Tryz.results6, go_sem]) rfl ⟨rfl, HB4.out⟩

end Go.Proofs.YtamfloegflejnaaGreatDoor
