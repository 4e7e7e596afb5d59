/-
 graph's reader of a line: what it stands on, and its parts.
 graph's reader of a line: texts and numbers.
 graph's reader of a line: a number as a part; one place.
-/
import Derived.Test.YtamfloegflejnaaGreatDoorKK
import Derived.Lib.LaidTab
import Derived.Lib.SmallJoins
import Derived.Lib.AtoiAll
set_option linter.unusedVariables false
set_option linter.unusedSimpArgs false
set_option maxHeartbeats 1000000
set_option maxRecDepth 100000
namespace Go.Proofs.YtamfloegflejnaaGreatDoor
open Lib (hid)
open Go.RowKit Go.Proofs.YtamfloegflejnaaGreatDoorW.PrintWords Go.Proofs.YtamfloegflejnaaGreatDoorW.PrintLast Go.Proofs.YtamfloegflejnaaGreatDoorW.PrintMore PGraphLines
/-- What the library's variables hold. -/
structure Env (w : World) : Prop where
 maxLen : ∃ m, w.cell? ⟨0, 0, none⟩ = some (.int .i64 m)
 tab : Lib.TabIs Tryz.prog w "internal/strconv.uint64pow10" .u64 Lib.pow10Tab
 syn : ∃ tp p, w.var? Tryz.prog "strconv.ErrSyntax" = some #[.iface tp p]
 ran : ∃ tp p, w.var? Tryz.prog "strconv.ErrRange" = some #[.iface tp p]
theorem var_later {w W : World} {name : String} {v : Array Value} (hb : Below w.heap.size w W) (h : w.var? Tryz.prog name = some v) : W.var? Tryz.prog name = some v := by
 unfold World.var? at *
 cases hg : Tryz.prog.globalNamed name with
 | none => rw [hg] at h; simp at h
 | some g =>
  rw [hg] at h
  simp only [Option.bind_some] at h ⊢
  have hlt : g < w.heap.size := by
   rcases Nat.lt_or_ge g w.heap.size with h' | h'
   ·exact h'
   ·rw [Array.getElem?_eq_none h'] at h; simp at h
  rw [hb.block g hlt]
  exact h
theorem cell_later {w W : World} {a : Addr} {v : Value} (hb : Below w.heap.size w W) (h : w.cell? a = some v) : W.cell? a = some v := by
 have hlt : a.block < w.heap.size := by
  rcases Nat.lt_or_ge a.block w.heap.size with h' | h'
  ·exact h'
  ·unfold World.cell? at h
   rw [Array.getElem?_eq_none h'] at h
   simp at h
 exact (hb.cell hlt).trans h
theorem Env.later {w W : World} (h : Env w) (hb : Below w.heap.size w W) : Env W where
 maxLen := by obtain ⟨m, hm⟩ := h.maxLen; exact ⟨m, cell_later hb hm⟩
 tab := var_later hb h.tab
 syn := by obtain ⟨t, p, hm⟩ := h.syn; exact ⟨t, p, var_later hb hm⟩
 ran := by obtain ⟨t, p, hm⟩ := h.ran; exact ⟨t, p, var_later hb hm⟩
/-- A reader at block g: what is left of its line, and its mark. -/
structure RdAt (w0 w : World) (g : Nat) (rest : ByteArray) (bad : Bool) : Prop where
 blk : w.heap[g]? = some (.cells #[.string rest, .bool bad] 96 (0, 0))
 ge : w0.heap.size <= g
 below : Below w0.heap.size w0 w
def RdStep (w0 w w' : World) (g : Nat) (rest : ByteArray) (bad : Bool) : Prop := RdAt w0 w' g rest bad ∧ KeepBut w w' g none
theorem RdAt.of_below {w0 w w' : World} {g : Nat} {rest : ByteArray} {bad : Bool} (h : RdAt w0 w g rest bad) (hb : Below w.heap.size w w') : RdStep w0 w w' g rest bad :=
 ⟨⟨(hb.block g (blk_lt h.blk)).trans h.blk, h.ge, h.below.trans (hb.mono h.below.size)⟩, KeepBut.of_below hb g none⟩
theorem RdStep.refl {w0 w : World} {g : Nat} {rest : ByteArray} {bad : Bool} (h : RdAt w0 w g rest bad) : RdStep w0 w w g rest bad := ⟨h, KeepBut.refl w g none⟩
theorem RdStep.trans {w0 w w1 w2 : World} {g : Nat} {r1 r2 : ByteArray} {b1 b2 : Bool} (h : RdStep w0 w w1 g r1 b1) (k : RdStep w0 w1 w2 g r2 b2) : RdStep w0 w w2 g r2 b2 := ⟨k.1, h.2.trans k.2 (.inl rfl)⟩
theorem RdStep.set0 {w0 w w1 : World} {g : Nat} {r : ByteArray} {b : Bool} (h : RdStep w0 w w1 g r b) (r' : ByteArray) : RdStep w0 w (w1.setCell ⟨g, 0, none⟩ (.string r')) g r' b :=
 ⟨⟨by simpa using blk_set h.1.blk 0 (.string r'), h.1.ge, below_set h.1.below h.1.ge⟩, KeepBut.set_ h.2 0 _⟩
theorem RdStep.set1 {w0 w w1 : World} {g : Nat} {r : ByteArray} {b : Bool} (h : RdStep w0 w w1 g r b) (b' : Bool) : RdStep w0 w (w1.setCell ⟨g, 1, none⟩ (.bool b')) g r b' :=
 ⟨⟨by simpa using blk_set h.1.blk 1 (.bool b'), h.1.ge, below_set h.1.below h.1.ge⟩, KeepBut.set_ h.2 1 _⟩
/-- What stands ahead of the first blank, what behind it, and whether there is one. -/
def cutS (s : ByteArray) : List UInt8 × List UInt8 × Bool := Lib.cut s.data.toList [32]
theorem part_last (w0 w : World) (g : Nat) (rest : ByteArray) (bad : Bool) (h : RdAt w0 w g rest bad) :
  Calls Tryz.prog 42 #[.pointer (some ⟨g, 0, none⟩), .bool true] w fun e w' => e = .returned (.string rest) ∧ w' = w := by
 have c0 : w.cell? ⟨g, 0, none⟩ = some (.string rest) := (blk_cell h.blk 0).trans rfl
 go_enter Tryz.func42, Tryz.ntmps42
 go_wp2_with fail
 exact bodyPost_ret (v := .string rest) (by simp [results, Tryz.results42, go_sem]) rfl ⟨rfl, rfl⟩
theorem part_cut (w0 w : World) (g : Nat) (rest : ByteArray) (bad : Bool) (hE : Env w0) (h : RdAt w0 w g rest bad) (hs : rest.size < 4294967281) :
  Calls Tryz.prog 42 #[.pointer (some ⟨g, 0, none⟩), .bool false] w fun e w' => e = .returned (.string ⟨(cutS rest).1.toArray⟩) ∧ RdStep w0 w w' g ⟨(cutS rest).2.1.toArray⟩ (bad || !(cutS rest).2.2) := by
 have c0 : w.cell? ⟨g, 0, none⟩ = some (.string rest) := (blk_cell h.blk 0).trans rfl
 obtain ⟨m, hm⟩ := (hE.later h.below).maxLen
 have HC := hid (Tryz.strings_Cut rest ⟨#[32]⟩ m w hs hm)
 have H := hid h
 have HCS : Hid (cutS rest = Lib.cut rest.data.toList (⟨#[32]⟩ : ByteArray).data.toList) := rfl
 clear h hm
 rw [<- HCS.out] at HC
 clear HCS
 generalize cutS rest = q at HC ⊢
 obtain ⟨q1, q2, q3⟩ := q
 go_enter Tryz.func42, Tryz.ntmps42
 go_wp2_with fail
 refine HC.out.mono ?_
 rintro e w1 ⟨rfl, n, rfl⟩
 have S1 := hid (H.out.of_below (pw_below_drewN (Below.refl w.heap.size w) n))
 have d0 : (w.drewN n).cell? ⟨g, 0, none⟩ = some (.string rest) := (blk_cell S1.out.1.blk 0).trans rfl
 have d1 : (w.drewN n).cell? ⟨g, 1, none⟩ = some (.bool bad) := (blk_cell S1.out.1.blk 1).trans rfl
 have f0 := blk_frozen S1.out.1.blk 0
 have f1 := blk_frozen S1.out.1.blk 1
 clear c0
 generalize w.drewN n = w2 at S1 d0 d1 f0 f1 ⊢
 cases bad with
 | true =>
  go_wp2_with fail
  exact bodyPost_ret (v := .string ⟨q1.toArray⟩) (by simp [results, Tryz.results42, go_sem]) rfl ⟨rfl, (S1.out.set0 _).set1 _⟩
 | false =>
  go_wp2_with fail
  exact bodyPost_ret (v := .string ⟨q1.toArray⟩) (by simp [results, Tryz.results42, go_sem]) rfl ⟨rfl, (S1.out.set0 _).set1 _⟩
set_option maxHeartbeats 1000000
set_option maxRecDepth 100000
theorem rd_text (w0 w : World) (g : Nat) (rest : ByteArray) (bad : Bool) (h : RdAt w0 w g rest bad) (hs : rest.size <= 1152921504606846976) :
  Calls Tryz.prog 40 #[.pointer (some ⟨g, 0, none⟩)] w fun e w' => e = .returned (.string rest) ∧ RdStep w0 w w' g rest (bad || !textB rest) := by
 have H := hid h
 have d1 : w.cell? ⟨g, 1, none⟩ = some (.bool bad) := (blk_cell h.blk 1).trans rfl
 have f1 := blk_frozen h.blk 1
 clear h
 cases bad with
 | true =>
  go_enter Tryz.func40, Tryz.ntmps40
  go_wp2_with fail
  refine (part_last w0 w g rest true H.out).mono ?_
  rintro e w1 ⟨rfl, rfl⟩
  go_wp2_with fail
  exact bodyPost_ret (v := .string rest) (by simp [results, Tryz.results40, go_sem]) rfl ⟨rfl, (RdStep.refl H.out).set1 _⟩
 | false =>
  go_enter Tryz.func40, Tryz.ntmps40
  go_wp2_with fail
  refine (part_last w0 w g rest false H.out).mono ?_
  rintro e w1 ⟨rfl, rfl⟩
  go_wp2_with fail
  refine (text_any rest hs w1).mono ?_
  rintro e w2 ⟨rfl, hb2⟩
  have S2 := hid (H.out.of_below hb2)
  have d2 : w2.cell? ⟨g, 1, none⟩ = some (.bool false) := (blk_cell S2.out.1.blk 1).trans rfl
  have f2 := blk_frozen S2.out.1.blk 1
  clear hb2 d1 f1
  go_wp2_with fail
  exact bodyPost_ret (v := .string rest) (by simp [results, Tryz.results40, go_sem]) rfl ⟨rfl, S2.out.set1 _⟩
/-- A number as it must be written, and not longer than this. -/
def numV (s : ByteArray) (d : Int) : Option Int := match Lib.atoiAll s.data.toList with
 | .ok v => if 0 <= v ∧ (s.size : Int) <= d ∧ (⟨(Lib.itoa v).toArray⟩ : ByteArray) = s then some v else none
 | _ => none
theorem atoi_fits {l : List UInt8} {v : Int} (h : Lib.atoiAll l = .ok v) : -9223372036854775808 <= v ∧ v <= 9223372036854775807 := by
 unfold Lib.atoiAll at h
 cases l with
 | nil => cases h
 | cons c r =>
  dsimp only at h
  generalize Lib.parseMag (if c.toNat = 43 ∨ c.toNat = 45 then r else c :: r) = q at h
  rcases q with u | _ | _
  rotate_left
  ·cases h
  ·cases h
  ·
   dsimp only at h
   by_cases h1 : ¬ c.toNat = 45 ∧ 9223372036854775808 <= u
   ·rw [if_pos h1] at h; cases h
   ·rw [if_neg h1] at h
    by_cases h2 : c.toNat = 45 ∧ 9223372036854775808 < u
    ·rw [if_pos h2] at h; cases h
    ·rw [if_neg h2] at h
     by_cases hn : c.toNat = 45
     ·rw [if_pos hn] at h
      injection h with h
      omega
     ·rw [if_neg hn] at h
      injection h with h
      omega
theorem below_bytes (w : World) (e : TypeId) (s : ByteArray) : Below w.heap.size w (Lib.bytesWorld w e s) := _root_.Go.Joins.below_bytesWorld w.heap.size w e s (Nat.le_refl _)
theorem below_grow2 (w : World) (k : Nat) (os : Array Obj) : Below w.heap.size w (Go.Sort.grow (w.drewN k) os) :=
 ⟨rfl, rfl, rfl, by simp [Go.Sort.grow], fun i hi => Go.Sort.heap_grow_old (w.drewN k) os hi⟩
theorem rd_number (w0 w : World) (g : Nat) (rest s : ByteArray) (bad : Bool) (d : Int) (hE : Env w0) (h : RdAt w0 w g rest bad) (hs : s.size <= 281474976710656) :
  Calls Tryz.prog 60 #[.pointer (some ⟨g, 0, none⟩), .string s, .int .i64 d] w fun e w' => e = .returned (.int .i64 ((numV s d).getD 0)) ∧ RdStep w0 w w' g rest (bad || (numV s d).isNone) := by
 have H := hid h
 have HE := hid (hE.later h.below)
 clear h hE
 rcases ha : Lib.atoiAll s.data.toList with v | _ | _
 rotate_left
 ·
  obtain ⟨tp, p, hv⟩ := HE.out.syn
  have HX := hid (Tryz.strconv_Atoi_syntax_var s hs ha tp p w hv)
  have HN : Hid (numV s d = none) := by unfold numV Hid; rw [ha]
  clear hv ha
  go_enter Tryz.func60, Tryz.ntmps60
  go_wp2_with fail
  refine HX.out.mono ?_
  rintro e w1 ⟨N, rfl, _, _, hb1⟩
  have SX := hid (H.out.of_below hb1)
  have d1 : w1.cell? ⟨g, 1, none⟩ = some (.bool bad) := (blk_cell SX.out.1.blk 1).trans rfl
  have f1 := blk_frozen SX.out.1.blk 1
  clear hb1
  go_wp2_with fail
  exact bodyPost_ret (v := .int .i64 0) (by simp [results, Tryz.results60, go_sem]) rfl ⟨by rw [HN.out]; rfl, by rw [HN.out]; simpa using SX.out.set1 true⟩
 ·
  obtain ⟨tp, p, hv⟩ := HE.out.ran
  have HX := hid (Tryz.strconv_Atoi_range_var s hs ha tp p w hv)
  have HN : Hid (numV s d = none) := by unfold numV Hid; rw [ha]
  clear hv ha
  go_enter Tryz.func60, Tryz.ntmps60
  go_wp2_with fail
  refine HX.out.mono ?_
  rintro e w1 ⟨N, rfl, _, _, hb1⟩
  have SX := hid (H.out.of_below hb1)
  have d1 : w1.cell? ⟨g, 1, none⟩ = some (.bool bad) := (blk_cell SX.out.1.blk 1).trans rfl
  have f1 := blk_frozen SX.out.1.blk 1
  clear hb1
  go_wp2_with fail
  exact bodyPost_ret (v := .int .i64 0) (by simp [results, Tryz.results60, go_sem]) rfl ⟨by rw [HN.out]; rfl, by rw [HN.out]; simpa using SX.out.set1 true⟩
 ·
  obtain ⟨hv0, hv1⟩ := atoi_fits ha
  have HX := hid (Tryz.strconv_Atoi_ok s (by omega) v ha w)
  have HN0 : Hid (numV s d = if 0 <= v ∧ (s.size : Int) <= d ∧ (⟨(Lib.itoa v).toArray⟩ : ByteArray) = s then some v else none) := by unfold numV Hid; rw [ha]
  clear ha
  go_enter Tryz.func60, Tryz.ntmps60
  go_wp2_with fail
  refine HX.out.mono ?_
  rintro e w1 ⟨rfl, hw⟩
  have hb1 : Below w.heap.size w w1 := by
   rcases hw with rfl | ⟨t, rfl⟩
   ·exact Below.refl _ _
   ·exact below_bytes _ _ _
  have SX := hid (H.out.of_below hb1)
  have HE1 := hid (HE.out.later hb1)
  have d1 : w1.cell? ⟨g, 1, none⟩ = some (.bool bad) := (blk_cell SX.out.1.blk 1).trans rfl
  have f1 := blk_frozen SX.out.1.blk 1
  clear hb1 hw
  by_cases h1 : v < 0
  ·have e1 : decide (v < 0) = true := by rw [decide_eq_true_iff]; exact h1
   have HN := hid (HN0.out.trans (if_neg (by omega)))
   clear h1
   go_wp2_with fail
   exact bodyPost_ret (v := .int .i64 0) (by simp [results, Tryz.results60, go_sem]) rfl ⟨by rw [HN.out]; rfl, by rw [HN.out]; simpa using SX.out.set1 true⟩
  have e1 : decide (v < 0) = false := by rw [decide_eq_false_iff_not]; exact h1
  by_cases h2 : d < (s.size : Int)
  ·have e2 : decide (d < (s.size : Int)) = true := by rw [decide_eq_true_iff]; exact h2
   have HN := hid (HN0.out.trans (if_neg (by omega)))
   clear h1 h2
   go_wp2_with fail
   exact bodyPost_ret (v := .int .i64 0) (by simp [results, Tryz.results60, go_sem]) rfl ⟨by rw [HN.out]; rfl, by rw [HN.out]; simpa using SX.out.set1 true⟩
  have e2 : decide (d < (s.size : Int)) = false := by rw [decide_eq_false_iff_not]; exact h2
  obtain ⟨t, ht⟩ : ∃ t : ByteArray, t = ⟨(Lib.itoa v).toArray⟩ := ⟨_, rfl⟩
  have HI := hid (Tryz.strconv_Itoa v hv0 hv1 w1 HE1.out.tab)
  rw [<- ht] at HI HN0
  have h1' : 0 <= v := by omega
  have h2' : (s.size : Int) <= d := by omega
  clear h1 h2 ht d1 f1
  go_wp2_with fail
  refine HI.out.mono ?_
  rintro e w2 ⟨rfl, k, os, rfl⟩
  have SY := hid (SX.out.trans (SX.out.1.of_below (below_grow2 w1 k os)))
  generalize Go.Sort.grow (w1.drewN k) os = w2 at SY ⊢
  clear SX
  have SX := SY
  have d1 : w2.cell? ⟨g, 1, none⟩ = some (.bool bad) := (blk_cell SX.out.1.blk 1).trans rfl
  have f1 := blk_frozen SX.out.1.blk 1
  by_cases h3 : t = s
  ·have HN := hid (HN0.out.trans (if_pos ⟨h1', h2', h3⟩))
   subst h3
   go_wp2_with fail
   exact bodyPost_ret (v := .int .i64 v) (by simp [results, Tryz.results60, go_sem]) rfl ⟨by rw [HN.out]; rfl, by rw [HN.out]; simpa using SX.out⟩
  ·have HN := hid (HN0.out.trans (if_neg (fun h => h3 h.2.2)))
   have n1 : (t.toList == s.toList) = false := by
    rw [beq_eq_false_iff_ne, ByteArray.toList_eq, ByteArray.toList_eq]
    exact fun h => h3 (ByteArray.ext (Array.toList_inj.mp h))
   go_wp2_with fail
   exact bodyPost_ret (v := .int .i64 0) (by simp [results, Tryz.results60, go_sem]) rfl ⟨by rw [HN.out]; rfl, by rw [HN.out]; simpa using SX.out.set1 true⟩
set_option maxHeartbeats 1000000
set_option maxRecDepth 100000
theorem cut_size (s : ByteArray) : (⟨(cutS s).1.toArray⟩ : ByteArray).size <= s.size ∧ (⟨(cutS s).2.1.toArray⟩ : ByteArray).size <= s.size := by
 have hl : s.data.toList.length = s.size := by simp
 unfold cutS Lib.cut
 split
 ·constructor
  ·show (List.take _ _).length <= _; rw [List.length_take]; omega
  ·show (List.drop _ _).length <= _; rw [List.length_drop]; omega
 ·constructor
  ·show s.data.toList.length <= _; omega
  ·show ([] : List UInt8).length <= _; simp
theorem num_last (w0 w : World) (g : Nat) (rest : ByteArray) (bad : Bool) (hE : Env w0) (h : RdAt w0 w g rest bad) (hs : rest.size <= 1000000) :
  Calls Tryz.prog 41 #[.pointer (some ⟨g, 0, none⟩), .bool true] w fun e w' => e = .returned (.int .i64 ((numV rest 7).getD 0)) ∧ RdStep w0 w w' g rest (bad || (numV rest 7).isNone) := by
 have H := hid h
 clear h
 go_enter Tryz.func41, Tryz.ntmps41
 go_wp2_with fail
 refine (part_last w0 w g rest bad H.out).mono ?_
 rintro e w1 ⟨rfl, rfl⟩
 have S1 := hid (RdStep.refl H.out)
 go_wp2_with fail
 refine (rd_number w0 w1 g _ rest _ 7 hE S1.out.1 (by omega)).mono ?_
 rintro e w2 ⟨rfl, s2⟩
 have S2 := hid (S1.out.trans s2)
 clear s2 S1
 go_wp2_with fail
 exact bodyPost_ret (v := .int .i64 ((numV rest 7).getD 0)) (by simp [results, Tryz.results41, go_sem]) rfl ⟨rfl, S2.out⟩
theorem num_cut (w0 w : World) (g : Nat) (rest : ByteArray) (bad : Bool) (hE : Env w0) (h : RdAt w0 w g rest bad) (hs : rest.size <= 1000000) :
  Calls Tryz.prog 41 #[.pointer (some ⟨g, 0, none⟩), .bool false] w fun e w' => e = .returned (.int .i64 ((numV ⟨(cutS rest).1.toArray⟩ 7).getD 0)) ∧ RdStep w0 w w' g ⟨(cutS rest).2.1.toArray⟩ ((bad || !(cutS rest).2.2) || (numV ⟨(cutS rest).1.toArray⟩ 7).isNone) := by
 have H := hid h
 clear h
 go_enter Tryz.func41, Tryz.ntmps41
 go_wp2_with fail
 refine (part_cut w0 w g rest bad hE H.out (by omega)).mono ?_
 rintro e w1 ⟨rfl, s1⟩
 have S1 := hid s1
 clear s1
 go_wp2_with fail
 refine (rd_number w0 w1 g _ ⟨(cutS rest).1.toArray⟩ _ 7 hE S1.out.1 (by have := (cut_size rest).1; omega)).mono ?_
 rintro e w2 ⟨rfl, s2⟩
 have S2 := hid (S1.out.trans s2)
 clear s2 S1
 go_wp2_with fail
 exact bodyPost_ret (v := .int .i64 ((numV ⟨(cutS rest).1.toArray⟩ 7).getD 0)) (by simp [results, Tryz.results41, go_sem]) rfl ⟨rfl, S2.out⟩
theorem one_last (w0 w : World) (g : Nat) (rest : ByteArray) (bad : Bool) (hE : Env w0) (h : RdAt w0 w g rest bad) (hs : rest.size <= 1000000) :
  Calls Tryz.prog 38 #[.pointer (some ⟨g, 0, none⟩), .bool true] w fun e w' => (∃ N, e = .returned (.slice (some ⟨N, 0, none⟩) 1 1) ∧ w'.heap[N]? = some (.cells #[.int .i64 ((numV rest 3).getD 0)] 3 (0, 0)) ∧ w.heap.size <= N) ∧ RdStep w0 w w' g rest (bad || (numV rest 3).isNone) := by
 have H := hid h
 clear h
 go_enter Tryz.func38, Tryz.ntmps38
 go_wp2_with fail
 refine (part_last w0 w g rest bad H.out).mono ?_
 rintro e w1 ⟨rfl, rfl⟩
 have S1 := hid (RdStep.refl H.out)
 go_wp2_with fail
 refine (rd_number w0 w1 g _ rest _ 3 hE S1.out.1 (by omega)).mono ?_
 rintro e w2 ⟨rfl, s2⟩
 have S2 := hid (S1.out.trans s2)
 clear s2 S1
 go_wp2_with fail
 refine bodyPost_ret (v := .slice (some ⟨w2.heap.size, 0, none⟩) 1 1) (by simp [results, Tryz.results38, go_sem]) rfl ⟨⟨w2.heap.size, rfl, by simpa using heap_alloc_new w2 _, S2.out.2.1⟩, S2.out.trans (S2.out.1.of_below (Below.alloc (Below.refl _ _) (Nat.le_refl _) _))⟩
theorem one_cut (w0 w : World) (g : Nat) (rest : ByteArray) (bad : Bool) (hE : Env w0) (h : RdAt w0 w g rest bad) (hs : rest.size <= 1000000) :
  Calls Tryz.prog 38 #[.pointer (some ⟨g, 0, none⟩), .bool false] w fun e w' => (∃ N, e = .returned (.slice (some ⟨N, 0, none⟩) 1 1) ∧ w'.heap[N]? = some (.cells #[.int .i64 ((numV ⟨(cutS rest).1.toArray⟩ 3).getD 0)] 3 (0, 0)) ∧ w.heap.size <= N) ∧ RdStep w0 w w' g ⟨(cutS rest).2.1.toArray⟩ ((bad || !(cutS rest).2.2) || (numV ⟨(cutS rest).1.toArray⟩ 3).isNone) := by
 have H := hid h
 clear h
 go_enter Tryz.func38, Tryz.ntmps38
 go_wp2_with fail
 refine (part_cut w0 w g rest bad hE H.out (by omega)).mono ?_
 rintro e w1 ⟨rfl, s1⟩
 have S1 := hid s1
 clear s1
 go_wp2_with fail
 refine (rd_number w0 w1 g _ ⟨(cutS rest).1.toArray⟩ _ 3 hE S1.out.1 (by have := (cut_size rest).1; omega)).mono ?_
 rintro e w2 ⟨rfl, s2⟩
 have S2 := hid (S1.out.trans s2)
 clear s2 S1
 go_wp2_with fail
 refine bodyPost_ret (v := .slice (some ⟨w2.heap.size, 0, none⟩) 1 1) (by simp [results, Tryz.results38, go_sem]) rfl ⟨⟨w2.heap.size, rfl, by simpa using heap_alloc_new w2 _, S2.out.2.1⟩, S2.out.trans (S2.out.1.of_below (Below.alloc (Below.refl _ _) (Nat.le_refl _) _))⟩
end Go.Proofs.YtamfloegflejnaaGreatDoor
