/-
 graph's reader of a line: places.
-/
import Derived.Test.YtamfloegflejnaaGreatDoorKL
import Derived.Deep.QuietTactic
import Derived.BigQuiet
import Derived.Lib.SplitLaws
set_option linter.unusedVariables false
set_option linter.unusedSimpArgs false
set_option maxHeartbeats 1000000
set_option maxRecDepth 100000
namespace Go.Proofs.YtamfloegflejnaaGreatDoor
open Lib (hid)
open Go.RowKit Go.Proofs.YtamfloegflejnaaGreatDoorW.PrintWords Go.Proofs.YtamfloegflejnaaGreatDoorW.PrintLast Go.Proofs.YtamfloegflejnaaGreatDoorW.PrintMore PGraphLines
def piecesS (s : ByteArray) : List ByteArray := Lib.splitB ⟨#[44]⟩ 0 (Lib.countB s ⟨#[44]⟩) s
def numsS (l : List ByteArray) : List Int := l.map fun x => (numV x 3).getD 0
def badS (l : List ByteArray) : Bool := l.any fun x => (numV x 3).isNone
/-- Places that rise, as they are read: and whether all is well. -/
def placesV (s : ByteArray) : List Int × Bool := (numsS (piecesS s), !badS (piecesS s) && risesB (numsS (piecesS s)) 1 4)
/-- The same, where a sign says that there are none. -/
def sidesV (s : ByteArray) : List Int × Bool := if s.data.toList = [45] then ([], true) else placesV s
theorem pieces_len (s : ByteArray) : (piecesS s).length = Lib.countB s ⟨#[44]⟩ + 1 := Lib.splitB_all ⟨#[44]⟩ (by decide) 0 _ s rfl
theorem split_size (n : Nat) : ∀ (k : Nat) (s : ByteArray), s.size <= n -> ∀ x ∈ Lib.splitB ⟨#[44]⟩ 0 k s, x.size <= n
 | 0, s, h, x, hx => by rw [Lib.splitB_zero] at hx; simp at hx; rw [hx]; exact h
 | k + 1, s, h, x, hx => by
  rcases Lib.indexB_cases s ⟨#[44]⟩ with hix | ⟨i, hix, hroom⟩
  ·rw [Lib.splitB_miss _ _ _ _ hix] at hx; simp at hx; rw [hx]; exact h
  ·rw [Lib.splitB_hit _ _ _ _ i hix] at hx
   rcases List.mem_cons.1 hx with rfl | hx
   ·rw [ByteArray.size_extract]; omega
   ·exact split_size n k _ (by rw [ByteArray.size_extract]; omega) x hx
theorem pieces_small (s : ByteArray) (h : s.size <= 900000) : (piecesS s).length <= 1000000 ∧ ∀ x ∈ piecesS s, x.size <= 1000000 := by
 refine ⟨?_, fun x hx => split_size 1000000 _ s (by omega) x hx⟩
 rw [pieces_len]
 have := Lib.countB_le ⟨#[44]⟩ (by decide) s.size s (Nat.le_refl _)
 omega
theorem rd_putR {w0 w1 W w3 : World} {g : Nat} {r : ByteArray} {b : Bool} {v : Value} (hS : RdStep w0 w1 W g r b) (hbase : ∀ k, v.ownBlock = some k -> w1.heap.size <= k) (hg : W.grownBy w3 v.ownBlock) (hgl : g < w1.heap.size) (hw : w0.heap.size <= w1.heap.size) : RdStep w0 w1 w3 g r b := by
 refine ⟨⟨blk_grown hS.1.blk hg (fun e => by have := hbase g e.symm; omega), hS.1.ge, ?_⟩, hS.2.trans (KeepBut.of_grown hg g) ?_⟩
 ·exact pw_below_grown hS.1.below _ hS.1.below.size hg (fun k e => by have := hbase k e; omega)
 ·cases h : v.ownBlock with
  | none => exact .inl rfl
  | some k => exact .inr ⟨k, rfl, hbase k h⟩
theorem places_last (w0 w : World) (g : Nat) (rest : ByteArray) (bad : Bool) (hE : Env w0) (h : RdAt w0 w g rest bad) (hs : rest.size <= 900000) :
  Calls Tryz.prog 39 #[.pointer (some ⟨g, 0, none⟩), .bool true, .bool false] w fun e w' => (∃ v, e = .returned v ∧ (Kd.int .i64).R 3 w' w.heap.size (fun k => k ≠ g) v (placesV rest).1) ∧ RdStep w0 w w' g rest (bad || !(placesV rest).2) := by
 have H := hid h
 have HE := hid hE
 have hgl := blk_lt h.blk
 have hw0 := h.below.size
 clear h
 go_enter Tryz.func39, Tryz.ntmps39
 go_wp2_with fail
 refine (part_last w0 w g rest bad H.out).mono ?_
 rintro e w1 ⟨rfl, hw⟩
 have S1 : Hid (RdStep w0 w w1 g rest bad) := by rw [hw]; exact RdStep.refl H.out
 clear hw
 obtain ⟨s, hsd⟩ : ∃ s : ByteArray, s = rest := ⟨_, rfl⟩
 have HSD := hid hsd
 rw [<- hsd]
 have hss : s.size <= 900000 := by rw [hsd]; exact hs
 have HB2 : Hid (bad = bad) := rfl
 obtain ⟨rest2, hr2⟩ : ∃ r : ByteArray, r = rest := ⟨_, rfl⟩
 obtain ⟨bad2, hb2⟩ : ∃ b : Bool, b = bad := ⟨_, rfl⟩
 have HR2 := hid hr2; have HBD := hid hb2
 rw [<- hr2, <- hb2] at S1
 clear hsd hr2 hb2 HB2
 obtain ⟨m, hm⟩ := (HE.out.later S1.out.1.below).maxLen
 have HX := hid (Tryz.strings_Split s ⟨#[44]⟩ m w1 (by omega) hm (by decide))
 clear hm
 go_wp2_with fail
 refine HX.out.mono ?_
 rintro e w2 ⟨rfl, hw2⟩
 go_wp2_with fail
 have hp : Lib.splitB ⟨#[44]⟩ 0 (Lib.countB s ⟨#[44]⟩) s = piecesS s := rfl
 have hlen := pieces_len s
 obtain ⟨hn, hsz⟩ := pieces_small s hss
 have hli : ((Lib.countB s ⟨#[44]⟩ : Nat) : Int) + 1 = ((piecesS s).length : Int) := by omega
 rw [hp] at hw2 ⊢
 rw [hli, <- hlen]
 have HPV : Hid (placesV s = (numsS (piecesS s), !badS (piecesS s) && risesB (numsS (piecesS s)) 1 4)) := rfl
 have HSZ := hid hsz
 clear hp hli hlen hsz HX
 have S0 := hid (S1.out.trans (S1.out.1.of_below (Below.alloc (Below.refl w1.heap.size w1) (Nat.le_refl _) (.cells ((piecesS s).map Value.string).toArray 9))))
 have HP0 := hid (heap_alloc_new w1 (.cells ((piecesS s).map Value.string).toArray 9))
 have hw01 : w.heap.size <= w1.heap.size := S1.out.2.1
 generalize piecesS s = Xs at *
 subst hw2
 generalize w1.alloc (.cells (Xs.map Value.string).toArray 9) = W at S0 HP0 ⊢
 generalize w1.heap.size = G at HP0 hw01 ⊢
 go_loopg [8, 22] Xs.length (fun n v t wr => ∃ k : Nat, n + k = Xs.length ∧ t = .int .i64 k ∧ (∃ A c, v = .slice A k c) ∧ Aside0 ((Kd.int .i64).R 3 wr w.heap.size (fun k => k ≠ g) v (numsS (Xs.take k))) ∧ Aside0 (RdStep w0 w wr g rest2 (bad2 || badS (Xs.take k))) ∧ Aside0 (wr.heap[G]? = some (.cells (Xs.map Value.string).toArray 9)))
 case atStart => exact ⟨0, by omega, rfl, ⟨none, 0, rfl⟩, ⟨Kd.R_nil _ _ _ _ _⟩, ⟨by simpa [badS] using S0.out⟩, ⟨HP0.out⟩⟩
 case round =>
  obtain ⟨k, hk, rfl, ⟨A, c, rfl⟩, ⟨hO⟩, ⟨hS⟩, ⟨hP⟩⟩ := hrel
  have HO := hid hO; have HS := hid hS; have HP := hid hP
  clear hO hS hP
  by_cases hlt : k < Xs.length
  ·obtain ⟨m2, rfl⟩ : ∃ m, gk = m + 1 := ⟨gk - 1, by omega⟩
   have hc : wr.cell? ⟨G, k, none⟩ = some (.string Xs[k]) := (blk_cell HP.out k).trans (by simp [List.getElem?_eq_getElem hlt])
   have hx1 := HSZ.out Xs[k] (List.getElem_mem hlt)
   have hnu : numsS (Xs.take (k + 1)) = numsS (Xs.take k) ++ [(numV Xs[k] 3).getD 0] := by unfold numsS; rw [List.take_succ_eq_append_getElem hlt, List.map_append]; rfl
   have hbu : badS (Xs.take (k + 1)) = (badS (Xs.take k) || (numV Xs[k] 3).isNone) := by unfold badS; rw [List.take_succ_eq_append_getElem hlt, List.any_append]; simp
   have NU := hid hnu; have BU := hid hbu
   have hnl : (numsS (Xs.take k)).length = k := by unfold numsS; rw [List.length_map, List.length_take]; omega
   have NL := hid hnl
   clear hnu hbu hnl
   generalize Xs[k] = x at hc hx1 NU BU
   generalize numsS (Xs.take k) = ys at *
   go_wp2_with fail
   refine (rd_number w0 wr g rest2 x _ 3 HE.out HS.out.1 (by omega)).mono ?_
   rintro e w2 ⟨rfl, s2⟩
   have HP2 := hid (s2.2.blk HP.out (by omega) (by simp))
   have HO2 := hid (Kd.R_keep HO.out s2.2 (fun _ h => h))
   have HS2 := hid (HS.out.trans s2)
   clear s2 hc
   generalize (numV x 3).getD 0 = y at NU ⊢
   go_wp2_with (at_builtin; refine Kd.R_append (Kd.int .i64) (w0 := w2) w.heap.size rfl _ _ 34 3 (.int .i64 0) 8 rfl Tryz.underlying34 info3 rfl (by decide) (by decide) (.slice A k c) ys y [.int .i64 y] (fun k => k ≠ g) (fun _ => False) rfl rfl rfl (fun _ h => h.elim) (fun k h => by have := HS2.out.2.1; omega) HO2.out (Below.refl _ _) HS2.out.2.1 ?c1 ?_)
   case c1 => rw [NL.out]; omega
   intro v1 w3 hO3 _ hg3 _
   have HS3 := hid (rd_putR HS2.out (Kd.R_base HO2.out) hg3 hgl hw0)
   have HP3 := hid (blk_grown HP2.out hg3 (Kd.R_ne HO2.out HP2.out (by decide)))
   obtain ⟨A3, c3, hv3⟩ := Kd.R_slice hO3
   rw [List.length_append, NL.out, List.length_singleton] at hv3
   subst hv3
   have HO3 := hid hO3
   clear hO3 hg3
   go_wp2_with fail
   go_roundg m2
   case measure => omega
   case rel => exact ⟨k + 1, by omega, by go_num, ⟨_, _, rfl⟩, ⟨by rw [NU.out]; exact HO3.out⟩, ⟨by rw [BU.out, <- Bool.or_assoc]; exact HS3.out⟩, ⟨HP3.out⟩⟩
  ·obtain rfl : k = Xs.length := by omega
   have hO := HO.out
   have hS := HS.out
   rw [List.take_length] at hO hS
   have hnl : (numsS Xs).length = Xs.length := by unfold numsS; rw [List.length_map]
   have HNL := hid hnl
   clear HO HS hlt hk
   have HO := hid hO
   obtain ⟨A2, c2, hv, hc2, hC2⟩ := Kd.R_reads hO
   have HCC := hid hC2
   rw [hnl] at hv hc2
   injection hv with hA hl hcc
   subst hA
   have hcc' : c = c2 := hcc
   subst hcc'
   clear hl hcc hO hC2
   have HSF := hid hS
   clear hS hnl
   have hfin : ∀ bv : Bool, (bad2 || badS Xs) = bv -> ((bv || !risesB (numsS Xs) 1 4) = (bad2 || !(placesV s).2)) := by
    intro bv hbv
    rw [HPV.out, <- hbv]
    show _ = (bad2 || !(!badS Xs && risesB (numsS Xs) 1 4))
    cases bad2 <;> cases badS Xs <;> cases risesB (numsS Xs) 1 4 <;> rfl
   have hval : (placesV s).1 = numsS Xs := by rw [HPV.out]
   have HFI := hid hfin; have HVA := hid hval
   have r1 := rises_any (numsS Xs) A c 1 4 wr (by rw [HNL.out]; omega) HCC.out (by rw [HNL.out]; exact hc2)
   rw [HNL.out] at r1
   have HR1 := hid r1
   clear r1 hfin hval
   have d1 : wr.cell? ⟨g, 1, none⟩ = some (.bool (bad2 || badS Xs)) := (blk_cell HSF.out.1.blk 1).trans rfl
   have f1 := blk_frozen HSF.out.1.blk 1
   cases hbv : (bad2 || badS Xs) with
   | true =>
    have HBV := hid hbv
    rw [hbv] at d1
    clear hbv
    go_wp2_with fail
    refine bodyPost_ret (v := .slice A Xs.length c) (by simp [results, Tryz.results39, go_sem]) rfl ⟨⟨_, rfl, ?_⟩, ?_⟩
    ·rw [<- HSD.out, HVA.out]
     exact Kd.R_far HO.out (fun _ h => h) _
    ·have := HSF.out.set1 true
     have hh := HFI.out _ HBV.out
     rw [HBD.out, HSD.out] at hh
     rw [<- hh]
     rw [HR2.out] at this
     simpa using this
   | false =>
    have HBV := hid hbv
    rw [hbv] at d1
    clear hbv
    go_wp2_with fail
    refine HR1.out.mono ?_
    rintro e w4 ⟨rfl, hb4⟩
    have HO4 := hid (Kd.R_below HO.out hb4)
    have HS4 := hid (HSF.out.trans (HSF.out.1.of_below hb4))
    have d4 : w4.cell? ⟨g, 1, none⟩ = some (.bool (bad2 || badS Xs)) := (blk_cell HS4.out.1.blk 1).trans rfl
    have f4 := blk_frozen HS4.out.1.blk 1
    clear hb4 d1 f1
    go_wp2_with fail
    refine bodyPost_ret (v := .slice A Xs.length c) (by simp [results, Tryz.results39, go_sem]) rfl ⟨⟨_, rfl, ?_⟩, ?_⟩
    ·rw [<- HSD.out, HVA.out]
     exact Kd.R_far HO4.out (fun _ h => h) _
    ·have := HS4.out.set1 (!risesB (numsS Xs) 1 4)
     have hh := HFI.out _ HBV.out
     rw [HBD.out, HSD.out] at hh
     rw [<- hh]
     rw [HR2.out] at this
     simpa using this
theorem places_cut (w0 w : World) (g : Nat) (rest : ByteArray) (bad : Bool) (hE : Env w0) (h : RdAt w0 w g rest bad) (hs : rest.size <= 900000) :
  Calls Tryz.prog 39 #[.pointer (some ⟨g, 0, none⟩), .bool false, .bool true] w fun e w' => (∃ v, e = .returned v ∧ (Kd.int .i64).R 3 w' w.heap.size (fun k => k ≠ g) v (sidesV ⟨(cutS rest).1.toArray⟩).1) ∧ RdStep w0 w w' g ⟨(cutS rest).2.1.toArray⟩ ((bad || !(cutS rest).2.2) || !(sidesV ⟨(cutS rest).1.toArray⟩).2) := by
 have H := hid h
 have HE := hid hE
 have hgl := blk_lt h.blk
 have hw0 := h.below.size
 clear h
 go_enter Tryz.func39, Tryz.ntmps39
 go_wp2_with fail
 refine (part_cut w0 w g rest bad hE H.out (by omega)).mono ?_
 rintro e w1 ⟨rfl, s1⟩
 have S1 := hid s1
 clear s1
 obtain ⟨s, hsd⟩ : ∃ s : ByteArray, s = ⟨(cutS rest).1.toArray⟩ := ⟨_, rfl⟩
 have hss : s.size <= 900000 := by have := (cut_size rest).1; rw [hsd]; omega
 obtain ⟨rest2, hr2⟩ : ∃ r : ByteArray, r = ⟨(cutS rest).2.1.toArray⟩ := ⟨_, rfl⟩
 obtain ⟨bad2, hb2⟩ : ∃ b : Bool, b = (bad || !(cutS rest).2.2) := ⟨_, rfl⟩
 have HSD := hid hsd; have HR2 := hid hr2; have HBD := hid hb2
 rw [<- hsd]
 rw [<- hr2, <- hb2] at S1
 clear hsd hr2 hb2
 by_cases hd : s.data.toList = [45]
 ·have d1 : (s.toList == [45]) = true := by
   rw [beq_iff_eq, ByteArray.toList_eq]; exact hd
  have HV : Hid (sidesV s = ([], true)) := if_pos hd
  have e45 : s = ⟨#[45]⟩ := ByteArray.ext (Array.toList_inj.mp hd)
  clear hd
  subst e45
  go_wp2_with fail
  refine bodyPost_ret (v := .slice none 0 0) (by simp [results, Tryz.results39, go_sem]) rfl ⟨⟨_, rfl, by rw [<- HSD.out, HV.out]; exact Kd.R_nil _ _ _ _ _⟩, by rw [<- HSD.out, HV.out, <- HR2.out, <- HBD.out]; simpa using S1.out⟩
 have d1 : (s.toList == [45]) = false := by
  rw [beq_eq_false_iff_ne, ByteArray.toList_eq]; exact hd
 have HV : Hid (sidesV s = placesV s) := if_neg hd
 clear hd
 obtain ⟨m, hm⟩ := (HE.out.later S1.out.1.below).maxLen
 have HX := hid (Tryz.strings_Split s ⟨#[44]⟩ m w1 (by omega) hm (by decide))
 clear hm
 go_wp2_with fail
 refine HX.out.mono ?_
 rintro e w2 ⟨rfl, hw2⟩
 go_wp2_with fail
 have hp : Lib.splitB ⟨#[44]⟩ 0 (Lib.countB s ⟨#[44]⟩) s = piecesS s := rfl
 have hlen := pieces_len s
 obtain ⟨hn, hsz⟩ := pieces_small s hss
 have hli : ((Lib.countB s ⟨#[44]⟩ : Nat) : Int) + 1 = ((piecesS s).length : Int) := by omega
 rw [hp] at hw2 ⊢
 rw [hli, <- hlen]
 have HPV : Hid (placesV s = (numsS (piecesS s), !badS (piecesS s) && risesB (numsS (piecesS s)) 1 4)) := rfl
 have HSZ := hid hsz
 clear hp hli hlen hsz HX
 have S0 := hid (S1.out.trans (S1.out.1.of_below (Below.alloc (Below.refl w1.heap.size w1) (Nat.le_refl _) (.cells ((piecesS s).map Value.string).toArray 9))))
 have HP0 := hid (heap_alloc_new w1 (.cells ((piecesS s).map Value.string).toArray 9))
 have hw01 : w.heap.size <= w1.heap.size := S1.out.2.1
 generalize piecesS s = Xs at *
 subst hw2
 generalize w1.alloc (.cells (Xs.map Value.string).toArray 9) = W at S0 HP0 ⊢
 generalize w1.heap.size = G at HP0 hw01 ⊢
 go_loopg [8, 22] Xs.length (fun n v t wr => ∃ k : Nat, n + k = Xs.length ∧ t = .int .i64 k ∧ (∃ A c, v = .slice A k c) ∧ Aside0 ((Kd.int .i64).R 3 wr w.heap.size (fun k => k ≠ g) v (numsS (Xs.take k))) ∧ Aside0 (RdStep w0 w wr g rest2 (bad2 || badS (Xs.take k))) ∧ Aside0 (wr.heap[G]? = some (.cells (Xs.map Value.string).toArray 9)))
 case atStart => exact ⟨0, by omega, rfl, ⟨none, 0, rfl⟩, ⟨Kd.R_nil _ _ _ _ _⟩, ⟨by simpa [badS] using S0.out⟩, ⟨HP0.out⟩⟩
 case round =>
  obtain ⟨k, hk, rfl, ⟨A, c, rfl⟩, ⟨hO⟩, ⟨hS⟩, ⟨hP⟩⟩ := hrel
  have HO := hid hO; have HS := hid hS; have HP := hid hP
  clear hO hS hP
  by_cases hlt : k < Xs.length
  ·obtain ⟨m2, rfl⟩ : ∃ m, gk = m + 1 := ⟨gk - 1, by omega⟩
   have hc : wr.cell? ⟨G, k, none⟩ = some (.string Xs[k]) := (blk_cell HP.out k).trans (by simp [List.getElem?_eq_getElem hlt])
   have hx1 := HSZ.out Xs[k] (List.getElem_mem hlt)
   have hnu : numsS (Xs.take (k + 1)) = numsS (Xs.take k) ++ [(numV Xs[k] 3).getD 0] := by unfold numsS; rw [List.take_succ_eq_append_getElem hlt, List.map_append]; rfl
   have hbu : badS (Xs.take (k + 1)) = (badS (Xs.take k) || (numV Xs[k] 3).isNone) := by unfold badS; rw [List.take_succ_eq_append_getElem hlt, List.any_append]; simp
   have NU := hid hnu; have BU := hid hbu
   have hnl : (numsS (Xs.take k)).length = k := by unfold numsS; rw [List.length_map, List.length_take]; omega
   have NL := hid hnl
   clear hnu hbu hnl
   generalize Xs[k] = x at hc hx1 NU BU
   generalize numsS (Xs.take k) = ys at *
   go_wp2_with fail
   refine (rd_number w0 wr g rest2 x _ 3 HE.out HS.out.1 (by omega)).mono ?_
   rintro e w2 ⟨rfl, s2⟩
   have HP2 := hid (s2.2.blk HP.out (by omega) (by simp))
   have HO2 := hid (Kd.R_keep HO.out s2.2 (fun _ h => h))
   have HS2 := hid (HS.out.trans s2)
   clear s2 hc
   generalize (numV x 3).getD 0 = y at NU ⊢
   go_wp2_with (at_builtin; refine Kd.R_append (Kd.int .i64) (w0 := w2) w.heap.size rfl _ _ 34 3 (.int .i64 0) 8 rfl Tryz.underlying34 info3 rfl (by decide) (by decide) (.slice A k c) ys y [.int .i64 y] (fun k => k ≠ g) (fun _ => False) rfl rfl rfl (fun _ h => h.elim) (fun k h => by have := HS2.out.2.1; omega) HO2.out (Below.refl _ _) HS2.out.2.1 ?c1 ?_)
   case c1 => rw [NL.out]; omega
   intro v1 w3 hO3 _ hg3 _
   have HS3 := hid (rd_putR HS2.out (Kd.R_base HO2.out) hg3 hgl hw0)
   have HP3 := hid (blk_grown HP2.out hg3 (Kd.R_ne HO2.out HP2.out (by decide)))
   obtain ⟨A3, c3, hv3⟩ := Kd.R_slice hO3
   rw [List.length_append, NL.out, List.length_singleton] at hv3
   subst hv3
   have HO3 := hid hO3
   clear hO3 hg3
   go_wp2_with fail
   go_roundg m2
   case measure => omega
   case rel => exact ⟨k + 1, by omega, by go_num, ⟨_, _, rfl⟩, ⟨by rw [NU.out]; exact HO3.out⟩, ⟨by rw [BU.out, <- Bool.or_assoc]; exact HS3.out⟩, ⟨HP3.out⟩⟩
  ·obtain rfl : k = Xs.length := by omega
   have hO := HO.out
   have hS := HS.out
   rw [List.take_length] at hO hS
   have hnl : (numsS Xs).length = Xs.length := by unfold numsS; rw [List.length_map]
   have HNL := hid hnl
   clear HO HS hlt hk
   have HO := hid hO
   obtain ⟨A2, c2, hv, hc2, hC2⟩ := Kd.R_reads hO
   have HCC := hid hC2
   rw [hnl] at hv hc2
   injection hv with hA hl hcc
   subst hA
   have hcc' : c = c2 := hcc
   subst hcc'
   clear hl hcc hO hC2
   have HSF := hid hS
   clear hS hnl
   have hfin : ∀ bv : Bool, (bad2 || badS Xs) = bv -> ((bv || !risesB (numsS Xs) 1 4) = (bad2 || !(placesV s).2)) := by
    intro bv hbv
    rw [HPV.out, <- hbv]
    show _ = (bad2 || !(!badS Xs && risesB (numsS Xs) 1 4))
    cases bad2 <;> cases badS Xs <;> cases risesB (numsS Xs) 1 4 <;> rfl
   have hval : (placesV s).1 = numsS Xs := by rw [HPV.out]
   have HFI := hid hfin; have HVA := hid hval
   have r1 := rises_any (numsS Xs) A c 1 4 wr (by rw [HNL.out]; omega) HCC.out (by rw [HNL.out]; exact hc2)
   rw [HNL.out] at r1
   have HR1 := hid r1
   clear r1 hfin hval
   have d1 : wr.cell? ⟨g, 1, none⟩ = some (.bool (bad2 || badS Xs)) := (blk_cell HSF.out.1.blk 1).trans rfl
   have f1 := blk_frozen HSF.out.1.blk 1
   cases hbv : (bad2 || badS Xs) with
   | true =>
    have HBV := hid hbv
    rw [hbv] at d1
    clear hbv
    go_wp2_with fail
    refine bodyPost_ret (v := .slice A Xs.length c) (by simp [results, Tryz.results39, go_sem]) rfl ⟨⟨_, rfl, ?_⟩, ?_⟩
    ·rw [<- HSD.out, HV.out, HVA.out]
     exact Kd.R_far HO.out (fun _ h => h) _
    ·have := HSF.out.set1 true
     have hh := HFI.out _ HBV.out
     rw [<- HV.out, HBD.out, HSD.out] at hh
     rw [<- hh]
     rw [HR2.out] at this
     simpa using this
   | false =>
    have HBV := hid hbv
    rw [hbv] at d1
    clear hbv
    go_wp2_with fail
    refine HR1.out.mono ?_
    rintro e w4 ⟨rfl, hb4⟩
    have HO4 := hid (Kd.R_below HO.out hb4)
    have HS4 := hid (HSF.out.trans (HSF.out.1.of_below hb4))
    have d4 : w4.cell? ⟨g, 1, none⟩ = some (.bool (bad2 || badS Xs)) := (blk_cell HS4.out.1.blk 1).trans rfl
    have f4 := blk_frozen HS4.out.1.blk 1
    clear hb4 d1 f1
    go_wp2_with fail
    refine bodyPost_ret (v := .slice A Xs.length c) (by simp [results, Tryz.results39, go_sem]) rfl ⟨⟨_, rfl, ?_⟩, ?_⟩
    ·rw [<- HSD.out, HV.out, HVA.out]
     exact Kd.R_far HO4.out (fun _ h => h) _
    ·have := HS4.out.set1 (!risesB (numsS Xs) 1 4)
     have hh := HFI.out _ HBV.out
     rw [<- HV.out, HBD.out, HSD.out] at hh
     rw [<- hh]
     rw [HR2.out] at this
     simpa using this
end Go.Proofs.YtamfloegflejnaaGreatDoor
