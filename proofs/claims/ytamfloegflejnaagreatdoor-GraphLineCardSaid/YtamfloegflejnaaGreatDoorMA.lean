/-
 graph.Parse: the pipeline of a text.
-/
import Derived.Test.YtamfloegflejnaaGreatDoorKZ
import Derived.Test.YtamfloegflejnaaGreatDoorKS
set_option linter.unusedVariables false
set_option linter.unusedSimpArgs false
set_option maxHeartbeats 4000000
set_option maxRecDepth 100000
namespace Go.Proofs.YtamfloegflejnaaGreatDoor
open Lib (hid)
open Go.RowKit Go.Proofs.YtamfloegflejnaaGreatDoorW.PrintWords Go.Proofs.YtamfloegflejnaaGreatDoorW.PrintLast Go.Proofs.YtamfloegflejnaaGreatDoorW.PrintMore PGraphLines
def cutN (s : ByteArray) : List UInt8 × List UInt8 × Bool := Lib.cut s.data.toList [10]
def lnS (s : ByteArray) : ByteArray := ⟨(cutN s).1.toArray⟩
def nxS (s : ByteArray) : ByteArray := ⟨(cutN s).2.1.toArray⟩
/-- The nodes of a text's lines, and whether all are; else those ahead of the first line that is none. -/
def parseL : Nat -> ByteArray -> List S63 -> List S63 × Bool
 | 0, _, acc => (acc, false)
 | f + 1, s, acc => if s.size = 0 then (acc, true) else if (cutN s).2.2 = true ∧ (readV (lnS s)).2 = true then parseL f (nxS s) (acc ++ [(readV (lnS s)).1]) else (acc, false)
theorem cutN_size (s : ByteArray) : (lnS s).size <= s.size ∧ ((cutN s).2.2 = true -> (nxS s).size < s.size) := by
 have hl : s.data.toList.length = s.size := by simp
 unfold lnS nxS cutN Lib.cut
 split
 ·refine ⟨?_, fun _ => ?_⟩
  ·show (List.take _ _).length <= _; rw [List.length_take]; omega
  ·rename_i i hi
   have hb := Lib.index_room s.data.toList [10] (by first | omega | (simp at hi; omega) | exact hi)
   show (List.drop _ _).length < _
   rw [List.length_drop]
   have h1 : ([10] : List UInt8).length = 1 := rfl
   omega
 ·refine ⟨?_, fun h => by cases h⟩
  show s.data.toList.length <= _; omega
def Tame1 (x : S63) : Prop := x.f1.length <= 1000000 ∧ x.f2.length <= 1000000 ∧ x.f3.size <= 1152921504606846976
theorem hd_size (s : ByteArray) : (hdS s).size <= s.size := (cut_size s).1
theorem tl_size (s : ByteArray) : (tlS s).size <= s.size := (cut_size s).2
theorem places_len (s : ByteArray) (h : s.size <= 900000) : (placesV s).1.length <= 1000000 := by
 unfold placesV numsS
 rw [List.length_map]
 exact (pieces_small s h).1
theorem sides_len (s : ByteArray) (h : s.size <= 900000) : (sidesV s).1.length <= 1000000 := by
 unfold sidesV
 split
 ·exact Nat.zero_le _
 ·exact places_len s h
theorem read_tame (s : ByteArray) (h : s.size <= 900000) : Tame1 (readV s).1 := by
 have h1 := tl_size s
 unfold readV
 split
 ·exact ⟨Nat.zero_le _, Nat.zero_le _, Nat.zero_le _⟩
 split
 ·unfold eachV numC sidesC Tame1
  dsimp only
  have h2 := tl_size (tlS s); have h3 := tl_size (tlS (tlS s)); have h4 := hd_size (tlS (tlS s))
  exact ⟨by show 1 <= _; omega, sides_len _ (by omega), by omega⟩
 split
 ·exact ⟨by show 1 <= 1000000; omega, Nat.zero_le _, Nat.zero_le _⟩
 split
 ·unfold grpV numC Tame1
  dsimp only
  have h2 := tl_size (tlS s); have h3 := tl_size (tlS (tlS s)); have h4 := tl_size (tlS (tlS (tlS s))); have h5 := tl_size (tlS (tlS (tlS (tlS s)))); have h6 := tl_size (tlS (tlS (tlS (tlS (tlS s)))))
  exact ⟨by show 1 <= 1000000; omega, Nat.zero_le _, by omega⟩
 split
 ·exact ⟨places_len _ (by omega), Nat.zero_le _, Nat.zero_le _⟩
 split
 ·exact ⟨by show 1 <= 1000000; omega, Nat.zero_le _, Nat.zero_le _⟩
 ·exact ⟨Nat.zero_le _, Nat.zero_le _, Nat.zero_le _⟩
/-- What Parse answers: the nodes of its lines, and whether all are lines; then Check. -/
def GParse (r : List S63 × Bool) (w : World) (e : Ending) (w' : World) : Prop :=
 (if r.2 = false then e = .returned (.tuple #[.agg #[.slice none 0 0], .int .i64 r.1.length, .int .i64 40])
  else if (checkV r.1).2 = 0 then ∃ A c, e = .returned (.tuple #[.agg #[.slice A r.1.length c], .int .i64 0, .int .i64 0]) ∧ k63.R 63 w' w.heap.size (fun _ => True) (.slice A r.1.length c) r.1
  else e = .returned (.tuple #[.agg #[.slice none 0 0], .int .i64 (checkV r.1).1, .int .i64 (checkV r.1).2])) ∧ Below w.heap.size w w'
theorem gparse_no {r : List S63 × Bool} {acc : List S63} {w W : World} (h : r = (acc, false)) (hb : Below w.heap.size w W) : GParse r w (.returned (.tuple #[.agg #[.slice none 0 0], .int .i64 acc.length, .int .i64 40])) W := by
 subst h
 exact ⟨by rw [if_pos rfl], hb⟩
theorem gparse_bad {r : List S63 × Bool} {acc : List S63} {w W : World} {p q : Int} (h : r = (acc, true)) (hp : p = (checkV acc).1) (hq : q = (checkV acc).2) (h0 : q ≠ 0) (hb : Below w.heap.size w W) : GParse r w (.returned (.tuple #[.agg #[.slice none 0 0], .int .i64 p, .int .i64 q])) W := by
 subst h; subst hp; subst hq
 exact ⟨by rw [if_neg (by simp), if_neg h0], hb⟩
theorem gparse_yes {r : List S63 × Bool} {acc : List S63} {w W : World} {A : Option Addr} {n c : Nat} {ok : Nat -> Prop} (h : r = (acc, true)) (h0 : (checkV acc).2 = 0) (hn : n = acc.length) (hR : k63.R 63 W w.heap.size ok (.slice A n c) acc) (hb : Below w.heap.size w W) : GParse r w (.returned (.tuple #[.agg #[.slice A n c], .int .i64 0, .int .i64 0])) W := by
 subst h; subst hn
 exact ⟨by rw [if_neg (by simp), if_pos h0]; exact ⟨A, c, rfl, Kd.R_mono hR (fun _ _ => trivial)⟩, hb⟩
theorem graph_parse (s : ByteArray) (hs : s.size <= 900000) (w : World) (hE : Env w) :
  Calls Tryz.prog 8 #[.string s] w (GParse (parseL (s.size + 1) s []) w) := by
 have HE := hid hE
 have HB2 := hid (heap_alloc_new w (.cells #[.slice none 0 0] 29))
 have HB0 := hid (below_alloc (Below.refl w.heap.size w) (.cells #[.slice none 0 0] 29))
 clear hE
 go_enter Tryz.func8, Tryz.ntmps8
 go_wp2_with fail
 generalize w.alloc (.cells #[.slice none 0 0] 29) = W0 at *
 obtain ⟨res, hres⟩ : ∃ r, r = parseL (s.size + 1) s [] := ⟨_, rfl⟩
 have HRES := hid hres
 rw [<- hres]
 clear hres
 go_loopg [0, 5] (s.size + 1) (fun n v0 v5 wr => ∃ (s' : ByteArray) (acc : List S63) (k : Nat), v0 = .string s' ∧ v5 = .int .i64 k ∧ acc.length = k ∧ s'.size < n ∧ k + s'.size <= s.size ∧ Aside0 (res = parseL n s' acc) ∧ Aside0 (∀ x ∈ acc, Tame1 x) ∧ ∃ A c, Aside0 (wr.heap[w.heap.size]? = some (.cells #[.slice A k c] 29 (0, 0))) ∧ Aside0 (k63.R 63 wr w.heap.size (fun k => k ≠ w.heap.size) (.slice A k c) acc) ∧ Aside0 (Below w.heap.size w wr))
 case atStart => exact ⟨s, [], 0, rfl, rfl, rfl, by omega, by omega, ⟨HRES.out⟩, ⟨by simp⟩, none, 0, ⟨HB2.out⟩, ⟨Kd.R_nil _ _ _ _ _⟩, ⟨HB0.out⟩⟩
 case round =>
  obtain ⟨s', acc, k, rfl, rfl, hak, hfu, hks, ⟨hV⟩, ⟨hT⟩, A, c, ⟨hP⟩, ⟨hO⟩, ⟨hB⟩⟩ := hrel
  have HAK := hid hak; have HV := hid hV; have HT := hid hT; have HP := hid hP; have HO := hid hO; have HB := hid hB
  clear hak hV hT hP hO hB HB2 HB0
  obtain ⟨m, rfl⟩ : ∃ m, gk = m + 1 := ⟨gk - 1, by omega⟩
  by_cases h0 : s'.size = 0
  ·have hse : s'.toList = [] := by rw [ByteArray.toList_eq]; exact List.eq_nil_of_length_eq_zero (by simpa using h0)
   have hem : s'.toList.isEmpty = true := by rw [hse]; rfl
   have HRE : Hid (res = (acc, true)) := HV.out.trans (by unfold parseL; rw [if_pos h0])
   have c0 : wr.cell? ⟨w.heap.size, 0, none⟩ = some (.slice A k c) := (blk_cell HP.out 0).trans rfl
   clear h0
   have HCK := hid (Kd.R_reads HO.out)
   go_wp2_with fail
   obtain ⟨A', c', hv, hc', hC'⟩ := HCK.out
   rw [HAK.out] at hv hc' hC'
   injection hv with hA hk' hcc
   subst hA
   have hcc' : c = c' := hcc
   subst hcc'
   have hck := graph_check A c acc wr (by rw [HAK.out]; exact hc') (by rw [HAK.out]; exact hC') (fun x hx => HT.out x hx)
   rw [HAK.out] at hck
   clear hcc hk' HCK hse hem c0 hc' hC'
   refine hck.mono ?_
   rintro e w2 ⟨rfl, hb2⟩
   obtain ⟨p, hp⟩ : ∃ p, p = (checkV acc).1 := ⟨_, rfl⟩
   obtain ⟨q, hq⟩ : ∃ q, q = (checkV acc).2 := ⟨_, rfl⟩
   rw [<- hp, <- hq]
   have HPE := hid hp; have HQE := hid hq
   have HP2 := hid (blk_below HP.out hb2)
   have HO2 := hid (Kd.R_below HO.out hb2)
   have HB2 := hid (HB.out.trans (hb2.mono HB.out.size))
   clear hck hb2 hp hq HO HP HB
   have c0 : w2.cell? ⟨w.heap.size, 0, none⟩ = some (.slice A k c) := (blk_cell HP2.out 0).trans rfl
   have f0 : w2.frozen? ⟨w.heap.size, 0, none⟩ = false := blk_frozen HP2.out 0
   by_cases hq0 : q = 0
   ·have t0 : (q != 0) = false := by rw [hq0]; rfl
    have HQ0 : Hid ((checkV acc).2 = 0) := HQE.out.symm.trans hq0
    clear hq0
    go_wp2_with fail
    have hX3 : (w2.setCell ⟨w.heap.size, 0, none⟩ (.slice A k c)).heap[w.heap.size]? = some (.cells #[.slice A k c] 29 (0, 0)) := by simpa using blk_set HP2.out 0 (.slice A k c)
    have HX3 := hid hX3
    have HO3 := hid (Kd.R_far HO2.out (p := ⟨w.heap.size, 0, none⟩) (fun _ h => h) (.slice A k c))
    have HB3 := hid (HB2.out.setCell (p := ⟨w.heap.size, 0, none⟩) (Nat.le_refl _) (.slice A k c))
    clear hX3 c0 f0
    generalize w2.setCell ⟨w.heap.size, 0, none⟩ (.slice A k c) = w3 at *
    exact bodyPost_ret (results_ctt (p := 2) (u := 3) (v := 4) (ty := 29) rfl _ _ w.heap.size 29 _ (0, 0) _ rfl HX3.out Tryz.underlying29 rfl (by kernel_rfl)) rfl (gparse_yes (HRES.out.symm.trans HRE.out) HQ0.out HAK.out.symm HO3.out HB3.out)
   ·have t0 : (q != 0) = true := by rw [bne_iff_ne]; exact hq0
    have HQ0 := hid hq0
    clear hq0
    go_wp2_with fail
    have hX3 : (w2.setCell ⟨w.heap.size, 0, none⟩ (.slice none 0 0)).heap[w.heap.size]? = some (.cells #[.slice none 0 0] 29 (0, 0)) := by simpa using blk_set HP2.out 0 (.slice none 0 0)
    have HX3 := hid hX3
    have HB3 := hid (HB2.out.setCell (p := ⟨w.heap.size, 0, none⟩) (Nat.le_refl _) (.slice none 0 0))
    clear hX3 c0 f0
    generalize w2.setCell ⟨w.heap.size, 0, none⟩ (.slice none 0 0) = w3 at *
    exact bodyPost_ret (results_ctt (p := 2) (u := 3) (v := 4) (ty := 29) rfl _ _ w.heap.size 29 _ (0, 0) _ rfl HX3.out Tryz.underlying29 rfl (by kernel_rfl)) rfl (gparse_bad (HRES.out.symm.trans HRE.out) HPE.out HQE.out HQ0.out HB3.out)
  ·have hse : ¬ s'.toList = [] := by rw [ByteArray.toList_eq]; intro h; apply h0; have := congrArg List.length h; simpa using this
   have hem : s'.toList.isEmpty = false := by rw [List.isEmpty_eq_false_iff]; exact hse
   obtain ⟨mm, hmm⟩ := (HE.out.later HB.out).maxLen
   have HC := hid (Tryz.strings_Cut s' ⟨#[10]⟩ mm wr (by omega) hmm)
   have HCS : Hid (cutN s' = Lib.cut s'.data.toList (⟨#[10]⟩ : ByteArray).data.toList) := rfl
   rw [<- HCS.out] at HC
   have HSTEP : Hid (res = if (cutN s').2.2 = true ∧ (readV (lnS s')).2 = true then parseL m (nxS s') (acc ++ [(readV (lnS s')).1]) else (acc, false)) := HV.out.trans (by rw [parseL, if_neg h0])
   have hcz := cutN_size s'
   have HCZ := hid hcz
   clear hmm HCS h0 hcz
   go_wp2_with fail
   refine HC.out.mono ?_
   rintro e wc ⟨rfl, nd, hwc⟩
   have hbc : Below wr.heap.size wr wc := by rw [hwc]; exact pw_below_drewN (Below.refl _ _) nd
   have hws : (⟨(cutN s').1.toArray⟩ : ByteArray) = lnS s' := rfl
   have hwt : (⟨(cutN s').2.1.toArray⟩ : ByteArray) = nxS s' := rfl
   rw [hws, hwt]
   have htm := read_tame (lnS s') (by have := HCZ.out.1; omega)
   have HRN := hid (read_node (lnS s') (by have := HCZ.out.1; omega) wc ((HE.out.later HB.out).later hbc))
   have HPc := hid (blk_below HP.out hbc)
   have HOc := hid (Kd.R_below HO.out hbc)
   have HBc := hid (HB.out.trans (hbc.mono HB.out.size))
   have HTM := hid htm
   clear hws hwt hwc hbc HC HP HO HB htm hse hem
   generalize nxS s' = nx at *
   generalize (cutN s').2.2 = o at *
   generalize readV (lnS s') = rv at *
   generalize lnS s' = ln at *
   obtain ⟨x, fine⟩ := rv
   dsimp only at HSTEP HTM
   go_wp2_with fail
   refine HRN.out.mono ?_
   rintro e w2 ⟨⟨cs, rfl, hM⟩, hb2⟩
   obtain ⟨v1, v2, v5, rfl, g1, g2, g5⟩ := k63_openM hM
   obtain ⟨A1, c1, rfl⟩ := Kd.R_slice g1
   obtain ⟨A2, c2, rfl⟩ := Kd.R_slice g2
   obtain ⟨A5, c5, rfl⟩ := Kd.R_slice g5
   have hszc := HBc.out.size
   have HP2 := hid (blk_below HPc.out hb2)
   have HO2 := hid (Kd.R_below HOc.out hb2)
   have HB2 := hid (HBc.out.trans (hb2.mono HBc.out.size))
   have HM2 := hid (k63.M_lower hszc (k63.M_mono (ok' := fun k' => k' ≠ w.heap.size ∧ some k' ≠ (Value.slice A k c).ownBlock) (fun k' hk' => ⟨by have := blk_lt HPc.out; have := hk'.2.1; omega, fun he => by have := Kd.R_lt HOc.out k' he.symm; have := hk'.2.1; omega⟩) (k63.M_bound hM)))
   have c0 : w2.cell? ⟨w.heap.size, 0, none⟩ = some (.slice A k c) := (blk_cell HP2.out 0).trans rfl
   have f0 : w2.frozen? ⟨w.heap.size, 0, none⟩ = false := blk_frozen HP2.out 0
   have hz2 := blk_lt HP2.out
   clear hM g1 g2 g5 hb2 hszc HPc HOc HBc HRN
   by_cases hof : o = true ∧ fine = true
   ·obtain ⟨rfl, rfl⟩ := hof
    have HST := hid (HSTEP.out.trans (if_pos ⟨rfl, rfl⟩))
    go_upto_region 8 with fail
    have HX9 := hid (heap_alloc_new w2 (.cells #[.int .i64 x.f0, .slice A1 x.f1.length c1, .slice A2 x.f2.length c2, .string x.f3, .int .i64 x.f4.f0, .slice A5 x.f4.f1.length c5, .int .i64 x.f5.f0, .int .i64 x.f5.f1, .int .i64 x.f5.f2, .int .i64 x.f5.f3, .int .i64 x.f6.f0, .int .i64 x.f6.f1, .int .i64 x.f6.f2, .bool x.f6.f3] 63))
    have hba := below_alloc (Below.refl w2.heap.size w2) (.cells #[.int .i64 x.f0, .slice A1 x.f1.length c1, .slice A2 x.f2.length c2, .string x.f3, .int .i64 x.f4.f0, .slice A5 x.f4.f1.length c5, .int .i64 x.f5.f0, .int .i64 x.f5.f1, .int .i64 x.f5.f2, .int .i64 x.f5.f3, .int .i64 x.f6.f0, .int .i64 x.f6.f1, .int .i64 x.f6.f2, .bool x.f6.f3] 63)
    have HP3 := hid (blk_below HP2.out hba)
    have HO3 := hid (Kd.R_below HO2.out hba)
    have HB3 := hid (HB2.out.trans (hba.mono HB2.out.size))
    have HM3 := hid (Kd.M_below HM2.out hba)
    clear hba HP2 HO2 HB2 HM2 c0 f0 hz2
    generalize w2.alloc (.cells #[.int .i64 x.f0, .slice A1 x.f1.length c1, .slice A2 x.f2.length c2, .string x.f3, .int .i64 x.f4.f0, .slice A5 x.f4.f1.length c5, .int .i64 x.f5.f0, .int .i64 x.f5.f1, .int .i64 x.f5.f2, .int .i64 x.f5.f3, .int .i64 x.f6.f0, .int .i64 x.f6.f1, .int .i64 x.f6.f2, .bool x.f6.f3] 63) = w3 at *
    generalize w2.heap.size = N9 at *
    have s0 : w3.cell? ⟨N9, 0, none⟩ = some (.int .i64 x.f0) := (blk_cell HX9.out 0).trans rfl
    have s1 : w3.cell? ⟨N9, 1, none⟩ = some (.slice A1 x.f1.length c1) := (blk_cell HX9.out 1).trans rfl
    have s2 : w3.cell? ⟨N9, 2, none⟩ = some (.slice A2 x.f2.length c2) := (blk_cell HX9.out 2).trans rfl
    have s3 : w3.cell? ⟨N9, 3, none⟩ = some (.string x.f3) := (blk_cell HX9.out 3).trans rfl
    have s4 : w3.cell? ⟨N9, 4, none⟩ = some (.int .i64 x.f4.f0) := (blk_cell HX9.out 4).trans rfl
    have s5 : w3.cell? ⟨N9, 5, none⟩ = some (.slice A5 x.f4.f1.length c5) := (blk_cell HX9.out 5).trans rfl
    have s6 : w3.cell? ⟨N9, 6, none⟩ = some (.int .i64 x.f5.f0) := (blk_cell HX9.out 6).trans rfl
    have s7 : w3.cell? ⟨N9, 7, none⟩ = some (.int .i64 x.f5.f1) := (blk_cell HX9.out 7).trans rfl
    have s8 : w3.cell? ⟨N9, 8, none⟩ = some (.int .i64 x.f5.f2) := (blk_cell HX9.out 8).trans rfl
    have s9 : w3.cell? ⟨N9, 9, none⟩ = some (.int .i64 x.f5.f3) := (blk_cell HX9.out 9).trans rfl
    have s10 : w3.cell? ⟨N9, 10, none⟩ = some (.int .i64 x.f6.f0) := (blk_cell HX9.out 10).trans rfl
    have s11 : w3.cell? ⟨N9, 11, none⟩ = some (.int .i64 x.f6.f1) := (blk_cell HX9.out 11).trans rfl
    have s12 : w3.cell? ⟨N9, 12, none⟩ = some (.int .i64 x.f6.f2) := (blk_cell HX9.out 12).trans rfl
    have s13 : w3.cell? ⟨N9, 13, none⟩ = some (.bool x.f6.f3) := (blk_cell HX9.out 13).trans rfl
    have c0 : w3.cell? ⟨w.heap.size, 0, none⟩ = some (.slice A k c) := (blk_cell HP3.out 0).trans rfl
    have hz3 := HB3.out.size
    have hz4 := blk_lt HP3.out
    go_wp2_with (at_builtin; refine Kd.R_append k63 (w0 := w3) w.heap.size rfl _ _ 27 63 (.agg #[(.int .i64 0), (.slice none 0 0), (.slice none 0 0), (.string ⟨#[]⟩), (.int .i64 0), (.slice none 0 0), (.int .i64 0), (.int .i64 0), (.int .i64 0), (.int .i64 0), (.int .i64 0), (.int .i64 0), (.int .i64 0), (.bool false)]) 168 rfl Tryz.underlying27 info63 rfl (by decide) (by decide) (.slice A k c) acc x [.int .i64 x.f0, .slice A1 x.f1.length c1, .slice A2 x.f2.length c2, .string x.f3, .int .i64 x.f4.f0, .slice A5 x.f4.f1.length c5, .int .i64 x.f5.f0, .int .i64 x.f5.f1, .int .i64 x.f5.f2, .int .i64 x.f5.f3, .int .i64 x.f6.f0, .int .i64 x.f6.f1, .int .i64 x.f6.f2, .bool x.f6.f3] (fun k' => k' ≠ w.heap.size) (fun k' => k' ≠ w.heap.size ∧ some k' ≠ (Value.slice A k c).ownBlock) rfl rfl HM3.out (fun _ h => h) ?cf HO3.out (Below.refl _ _) hz3 ?c1 ?_)
    case cf => exact fun k' hk' => by omega
    case c1 => rw [HAK.out]; omega
    intro v1 w4 hO4 _ hg4 _
    have hb4 := pw_below_grown (Below.refl w.heap.size w3) _ hz3 hg4 (Kd.R_base HO3.out)
    have HP4 := hid (blk_grown HP3.out hg4 (Kd.R_away HO3.out (fun _ h => h)))
    have HB4 := hid (HB3.out.trans hb4)
    obtain ⟨A4, c4, hv4⟩ := Kd.R_slice hO4
    rw [List.length_append, HAK.out, List.length_singleton] at hv4
    subst hv4
    have HO4 := hid hO4
    clear hO4 hg4 hb4 HP3 HO3 HB3 HM3 HX9 c0 hz3 hz4 s0 s1 s2 s3 s4 s5 s6 s7 s8 s9 s10 s11 s12 s13
    have c0 : w4.cell? ⟨w.heap.size, 0, none⟩ = some (.slice A k c) := (blk_cell HP4.out 0).trans rfl
    have f0 : w4.frozen? ⟨w.heap.size, 0, none⟩ = false := blk_frozen HP4.out 0
    go_wp2_with fail
    have hX5 : (w4.setCell ⟨w.heap.size, 0, none⟩ (.slice A4 (k + 1) c4)).heap[w.heap.size]? = some (.cells #[.slice A4 (k + 1) c4] 29 (0, 0)) := by simpa using blk_set HP4.out 0 (.slice A4 (k + 1) c4)
    have HX5 := hid hX5
    have HO5 := hid (Kd.R_far HO4.out (p := ⟨w.heap.size, 0, none⟩) (fun _ h => h) (.slice A4 (k + 1) c4))
    have HB5 := hid (HB4.out.setCell (p := ⟨w.heap.size, 0, none⟩) (Nat.le_refl _) (.slice A4 (k + 1) c4))
    clear hX5 c0 f0 HP4 HO4 HB4
    generalize w4.setCell ⟨w.heap.size, 0, none⟩ (.slice A4 (k + 1) c4) = w5 at *
    have hlt := HCZ.out.2 (by first | exact trivial | rfl)
    go_roundg m
    case measure => omega
    case rel => exact ⟨nx, acc ++ [x], k + 1, rfl, by go_num, by rw [List.length_append, HAK.out]; rfl, by omega, by omega, ⟨HST.out⟩, ⟨fun y hy => by
     rcases List.mem_append.1 hy with h | h
     ·exact HT.out y h
     ·rw [List.mem_singleton.1 h]; exact HTM.out⟩, A4, c4, ⟨HX5.out⟩, ⟨HO5.out⟩, ⟨HB5.out⟩⟩
   ·have HST := hid (HSTEP.out.trans (if_neg hof))
    have hof2 : (o = false) ∨ (o = true ∧ fine = false) := by
     cases o with
     | false => exact .inl rfl
     | true => cases fine with
      | false => exact .inr ⟨rfl, rfl⟩
      | true => exact absurd ⟨rfl, rfl⟩ hof
    clear hof
    rcases hof2 with rfl | ⟨rfl, rfl⟩
    all_goals
     go_wp2_with fail
     have hX3 := blk_set HP2.out 0 (.slice none 0 0)
     have HX3 : Hid ((w2.setCell ⟨w.heap.size, 0, none⟩ (.slice none 0 0)).heap[w.heap.size]? = some (.cells #[.slice none 0 0] 29 (0, 0))) := hid (by simpa using hX3)
     have HB3 := hid (HB2.out.setCell (p := ⟨w.heap.size, 0, none⟩) (Nat.le_refl _) (.slice none 0 0))
     have HX4 := hid (blk_alloc HX3.out (.cells #[.int .i64 x.f0, .slice A1 x.f1.length c1, .slice A2 x.f2.length c2, .string x.f3, .int .i64 x.f4.f0, .slice A5 x.f4.f1.length c5, .int .i64 x.f5.f0, .int .i64 x.f5.f1, .int .i64 x.f5.f2, .int .i64 x.f5.f3, .int .i64 x.f6.f0, .int .i64 x.f6.f1, .int .i64 x.f6.f2, .bool x.f6.f3] 63))
     have HB4 := hid (below_alloc HB3.out (.cells #[.int .i64 x.f0, .slice A1 x.f1.length c1, .slice A2 x.f2.length c2, .string x.f3, .int .i64 x.f4.f0, .slice A5 x.f4.f1.length c5, .int .i64 x.f5.f0, .int .i64 x.f5.f1, .int .i64 x.f5.f2, .int .i64 x.f5.f3, .int .i64 x.f6.f0, .int .i64 x.f6.f1, .int .i64 x.f6.f2, .bool x.f6.f3] 63))
     clear hX3 c0 f0 HX3 HB3
     generalize (w2.setCell ⟨w.heap.size, 0, none⟩ (.slice none 0 0)).alloc (.cells #[.int .i64 x.f0, .slice A1 x.f1.length c1, .slice A2 x.f2.length c2, .string x.f3, .int .i64 x.f4.f0, .slice A5 x.f4.f1.length c5, .int .i64 x.f5.f0, .int .i64 x.f5.f1, .int .i64 x.f5.f2, .int .i64 x.f5.f3, .int .i64 x.f6.f0, .int .i64 x.f6.f1, .int .i64 x.f6.f2, .bool x.f6.f3] 63) = w3 at *
     exact bodyPost_ret (results_ctt (p := 2) (u := 3) (v := 4) (ty := 29) rfl _ _ w.heap.size 29 _ (0, 0) _ rfl HX4.out Tryz.underlying29 rfl (by kernel_rfl)) rfl (by rw [<- HAK.out]; exact gparse_no HST.out HB4.out)
end Go.Proofs.YtamfloegflejnaaGreatDoor
