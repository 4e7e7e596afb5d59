/-
  graph's reader of a line: texts and numbers.
-/
import Derived.Test.YtamfloegflejnaaGreatDoorKL
import Derived.Lib.SmallJoins
import Derived.Lib.AtoiAll
set_option linter.unusedVariables false
set_option linter.unusedSimpArgs false
namespace Go.Proofs.YtamfloegflejnaaGreatDoor
open Go.RowKit Go.Proofs.YtamfloegflejnaaGreatDoorW.PrintWords Go.Proofs.YtamfloegflejnaaGreatDoorW.PrintLast Go.Proofs.YtamfloegflejnaaGreatDoorW.PrintMore PGraphLines
set_option maxHeartbeats 1000000 in
set_option maxRecDepth 100000 in
theorem rd_text (w0 w : World) (g : Nat) (rest : ByteArray) (bad : Bool) (h : RdAt w0 w g rest bad) (hs : rest.size ≤ 1152921504606846976) :
    Calls Tryz.prog 40 #[.pointer (some ⟨g, 0, none⟩)] w fun e w' => e = .returned (.string rest) ∧ RdStep w0 w w' g rest (bad || !textB rest) := by
  have H := Lib.hid h
  have d1 : w.cell? ⟨g, 1, none⟩ = some (.bool bad) := (blk_cell h.blk 1).trans rfl
  have f1 := blk_frozen h.blk 1
  clear h
  cases bad with
  | true =>
    go_enter Tryz.func40, Tryz.ntmps40
    go_wp2_with fail
    refine (part_last w0 w g rest true H.out).mono ?_
    rintro e w1 ⟨rfl, rfl⟩
    go_wp2_with fail
    exact bodyPost_ret (v := .string rest) (by simp [results, Tryz.results40, go_sem]) rfl ⟨rfl, (RdStep.refl H.out).set1 _⟩
  | false =>
    go_enter Tryz.func40, Tryz.ntmps40
    go_wp2_with fail
    refine (part_last w0 w g rest false H.out).mono ?_
    rintro e w1 ⟨rfl, rfl⟩
    go_wp2_with fail
    refine (text_any rest hs w1).mono ?_
    rintro e w2 ⟨rfl, hb2⟩
    have S2 := Lib.hid (H.out.of_below hb2)
    have d2 : w2.cell? ⟨g, 1, none⟩ = some (.bool false) := (blk_cell S2.out.1.blk 1).trans rfl
    have f2 := blk_frozen S2.out.1.blk 1
    clear hb2 d1 f1
    go_wp2_with fail
    exact bodyPost_ret (v := .string rest) (by simp [results, Tryz.results40, go_sem]) rfl ⟨rfl, S2.out.set1 _⟩


/-- A number as it must be written, and not longer than this. -/
def numV (s : ByteArray) (d : Int) : Option Int := match Lib.atoiAll s.data.toList with
  | .ok v => if 0 ≤ v ∧ (s.size : Int) ≤ d ∧ (⟨(Lib.itoa v).toArray⟩ : ByteArray) = s then some v else none
  | _ => none

theorem atoi_fits {l : List UInt8} {v : Int} (h : Lib.atoiAll l = .ok v) : -9223372036854775808 ≤ v ∧ v ≤ 9223372036854775807 := by
  unfold Lib.atoiAll at h
  cases l with
  | nil => cases h
  | cons c r =>
    dsimp only at h
    generalize Lib.parseMag (if c.toNat = 43 ∨ c.toNat = 45 then r else c :: r) = q at h
    rcases q with u | _ | _
    rotate_left
    · cases h
    · cases h
    ·
      dsimp only at h
      by_cases h1 : ¬ c.toNat = 45 ∧ 9223372036854775808 ≤ u
      · rw [if_pos h1] at h; cases h
      · rw [if_neg h1] at h
        by_cases h2 : c.toNat = 45 ∧ 9223372036854775808 < u
        · rw [if_pos h2] at h; cases h
        · rw [if_neg h2] at h
          by_cases hn : c.toNat = 45
          · rw [if_pos hn] at h
            injection h with h
            omega
          · rw [if_neg hn] at h
            injection h with h
            omega

theorem below_bytes (w : World) (e : TypeId) (s : ByteArray) : Below w.heap.size w (Lib.bytesWorld w e s) := _root_.Go.Joins.below_bytesWorld w.heap.size w e s (Nat.le_refl _)
theorem below_grow2 (w : World) (k : Nat) (os : Array Obj) : Below w.heap.size w (Go.Sort.grow (w.drewN k) os) :=
  ⟨rfl, rfl, rfl, by simp [Go.Sort.grow], fun i hi => Go.Sort.heap_grow_old (w.drewN k) os hi⟩

set_option maxHeartbeats 1000000 in
set_option maxRecDepth 100000 in
theorem rd_number (w0 w : World) (g : Nat) (rest s : ByteArray) (bad : Bool) (d : Int) (hE : Env w0) (h : RdAt w0 w g rest bad) (hs : s.size ≤ 281474976710656) :
    Calls Tryz.prog 60 #[.pointer (some ⟨g, 0, none⟩), .string s, .int .i64 d] w fun e w' => e = .returned (.int .i64 ((numV s d).getD 0)) ∧ RdStep w0 w w' g rest (bad || (numV s d).isNone) := by
  have H := Lib.hid h
  have HE := Lib.hid (hE.later h.below)
  clear h hE
  rcases ha : Lib.atoiAll s.data.toList with v | _ | _
  rotate_left
  ·
    obtain ⟨tp, p, hv⟩ := HE.out.syn
    have HX := Lib.hid (Tryz.strconv_Atoi_syntax_var s hs ha tp p w hv)
    have HN : Hid (numV s d = none) := by unfold numV Hid; rw [ha]
    clear hv ha
    go_enter Tryz.func60, Tryz.ntmps60
    go_wp2_with fail
    refine HX.out.mono ?_
    rintro e w1 ⟨N, rfl, _, _, hb1⟩
    have SX := Lib.hid (H.out.of_below hb1)
    have d1 : w1.cell? ⟨g, 1, none⟩ = some (.bool bad) := (blk_cell SX.out.1.blk 1).trans rfl
    have f1 := blk_frozen SX.out.1.blk 1
    clear hb1

    go_wp2_with fail
    exact bodyPost_ret (v := .int .i64 0) (by simp [results, Tryz.results60, go_sem]) rfl ⟨by rw [HN.out]; rfl, by rw [HN.out]; simpa using SX.out.set1 true⟩
  ·
    obtain ⟨tp, p, hv⟩ := HE.out.ran
    have HX := Lib.hid (Tryz.strconv_Atoi_range_var s hs ha tp p w hv)
    have HN : Hid (numV s d = none) := by unfold numV Hid; rw [ha]
    clear hv ha
    go_enter Tryz.func60, Tryz.ntmps60
    go_wp2_with fail
    refine HX.out.mono ?_
    rintro e w1 ⟨N, rfl, _, _, hb1⟩
    have SX := Lib.hid (H.out.of_below hb1)
    have d1 : w1.cell? ⟨g, 1, none⟩ = some (.bool bad) := (blk_cell SX.out.1.blk 1).trans rfl
    have f1 := blk_frozen SX.out.1.blk 1
    clear hb1

    go_wp2_with fail
    exact bodyPost_ret (v := .int .i64 0) (by simp [results, Tryz.results60, go_sem]) rfl ⟨by rw [HN.out]; rfl, by rw [HN.out]; simpa using SX.out.set1 true⟩
  ·
    obtain ⟨hv0, hv1⟩ := atoi_fits ha
    have HX := Lib.hid (Tryz.strconv_Atoi_ok s (by omega) v ha w)
    have HN0 : Hid (numV s d = if 0 ≤ v ∧ (s.size : Int) ≤ d ∧ (⟨(Lib.itoa v).toArray⟩ : ByteArray) = s then some v else none) := by unfold numV Hid; rw [ha]
    clear ha
    go_enter Tryz.func60, Tryz.ntmps60
    go_wp2_with fail
    refine HX.out.mono ?_
    rintro e w1 ⟨rfl, hw⟩
    have hb1 : Below w.heap.size w w1 := by
      rcases hw with rfl | ⟨t, rfl⟩
      · exact Below.refl _ _
      · exact below_bytes _ _ _
    have SX := Lib.hid (H.out.of_below hb1)
    have HE1 := Lib.hid (HE.out.later hb1)
    have d1 : w1.cell? ⟨g, 1, none⟩ = some (.bool bad) := (blk_cell SX.out.1.blk 1).trans rfl
    have f1 := blk_frozen SX.out.1.blk 1
    clear hb1 hw
    by_cases h1 : v < 0
    · have e1 : decide (v < 0) = true := by rw [decide_eq_true_iff]; exact h1
      have HN := Lib.hid (HN0.out.trans (if_neg (by omega)))
      clear h1

      go_wp2_with fail
      exact bodyPost_ret (v := .int .i64 0) (by simp [results, Tryz.results60, go_sem]) rfl ⟨by rw [HN.out]; rfl, by rw [HN.out]; simpa using SX.out.set1 true⟩
    have e1 : decide (v < 0) = false := by rw [decide_eq_false_iff_not]; exact h1
    by_cases h2 : d < (s.size : Int)
    · have e2 : decide (d < (s.size : Int)) = true := by rw [decide_eq_true_iff]; exact h2
      have HN := Lib.hid (HN0.out.trans (if_neg (by omega)))
      clear h1 h2

      go_wp2_with fail
      exact bodyPost_ret (v := .int .i64 0) (by simp [results, Tryz.results60, go_sem]) rfl ⟨by rw [HN.out]; rfl, by rw [HN.out]; simpa using SX.out.set1 true⟩
    have e2 : decide (d < (s.size : Int)) = false := by rw [decide_eq_false_iff_not]; exact h2
    obtain ⟨t, ht⟩ : ∃ t : ByteArray, t = ⟨(Lib.itoa v).toArray⟩ := ⟨_, rfl⟩
    have HI := Lib.hid (Tryz.strconv_Itoa v hv0 hv1 w1 HE1.out.tab)
    rw [← ht] at HI HN0
    have h1' : 0 ≤ v := by omega
    have h2' : (s.size : Int) ≤ d := by omega
    clear h1 h2 ht d1 f1
    go_wp2_with fail
    refine HI.out.mono ?_
    rintro e w2 ⟨rfl, k, os, rfl⟩
    have SY := Lib.hid (SX.out.trans (SX.out.1.of_below (below_grow2 w1 k os)))
    generalize Go.Sort.grow (w1.drewN k) os = w2 at SY ⊢
    clear SX
    have SX := SY
    have d1 : w2.cell? ⟨g, 1, none⟩ = some (.bool bad) := (blk_cell SX.out.1.blk 1).trans rfl
    have f1 := blk_frozen SX.out.1.blk 1
    by_cases h3 : t = s
    · have HN := Lib.hid (HN0.out.trans (if_pos ⟨h1', h2', h3⟩))
      subst h3
      go_wp2_with fail
      exact bodyPost_ret (v := .int .i64 v) (by simp [results, Tryz.results60, go_sem]) rfl ⟨by rw [HN.out]; rfl, by rw [HN.out]; simpa using SX.out⟩
    · have HN := Lib.hid (HN0.out.trans (if_neg (fun h => h3 h.2.2)))
      have n1 : (t.toList == s.toList) = false := by
        rw [beq_eq_false_iff_ne, ByteArray.toList_eq, ByteArray.toList_eq]
        exact fun h => h3 (ByteArray.ext (Array.toList_inj.mp h))

      go_wp2_with fail
      exact bodyPost_ret (v := .int .i64 0) (by simp [results, Tryz.results60, go_sem]) rfl ⟨by rw [HN.out]; rfl, by rw [HN.out]; simpa using SX.out.set1 true⟩

end Go.Proofs.YtamfloegflejnaaGreatDoor
