/-
 The ref scan of a type: what it finds.
 The ref Parse of a type: whether the whole text is one.
-/
import Derived.Test.YtamfloegflejnaaGreatDoorH1
import Derived.Test.YtamfloegflejnaaGreatDoorUA
import Derived.Test.YtamfloegflejnaaGreatDoorKW
import Derived.Test.YtamfloegflejnaaGreatDoorNB
import Derived.RegionTactic
set_option linter.unusedVariables false
set_option linter.unusedSimpArgs false
set_option maxHeartbeats 4000000
set_option maxRecDepth 100000
namespace Go.Proofs.YtamfloegflejnaaGreatDoor
open Lib (hid)
open Go.RowKit Go.Proofs.YtamfloegflejnaaGreatDoorW.PrintWords Go.Proofs.YtamfloegflejnaaGreatDoorW.PrintLast Go.Proofs.YtamfloegflejnaaGreatDoorW.PrintMore PGraphLines
def wordB (k : Nat) : ByteArray := ⟨(wordT (k : Int)).toArray⟩
def beginsB (a b : ByteArray) : Bool := decide ((a.size : Int) <= (b.size : Int)) && ((b.extract 0 (a.size : Int).toNat).toList == a.toList)
/-- Does this kind's word stand here, and may it? -/
def okW (d : Nat) (s : ByteArray) (q k : Nat) : Bool := !(wordB k).toList.isEmpty && (!(((d : Int) == 1) && decide (wargs (k : Int) > 0)) && beginsB (wordB k) (s.extract q s.size))
/-- The first kind from this one on whose word stands here. -/
def findW (d : Nat) (s : ByteArray) (q : Nat) : Nat -> Nat -> Option Nat
 | 0, _ => none
 | n + 1, k => if okW d s q k = true then some k else findW d s q n (k + 1)
def scanA (f : ByteArray -> Nat -> Option Nat) : Nat -> Nat -> ByteArray -> Nat -> Option Nat
 | 0, _, _, q => some q
 | n + 1, i, s, q => if signB s q (sepT i) = true then (match f s (q + 1) with
   | none => none
   | some q' => scanA f n (i + 1) s q') else none
/-- The place behind the type that stands here. -/
def scanF : Nat -> ByteArray -> Nat -> Option Nat
 | 0, _, _ => none
 | d + 1, s, q => match findW (d + 1) s q 9 1 with
  | none => none
  | some k => match scanA (scanF d) (wargs (k : Int)).toNat 0 s (q + (wordB k).size) with
   | none => none
   | some q2 => if wargs (k : Int) = 0 then some q2 else if signB s q2 41 = true then some (q2 + 1) else none
theorem word2_any (k : Int) (w : World) : Calls Tryz.prog 55 #[.int .i64 k] w fun e w' => e = .returned (.string ⟨(wordT k).toArray⟩) ∧ Below w.heap.size w w' :=
 (r02_Word.calls k _ w (word_ev k)).mono fun e w' ⟨he, hd⟩ => ⟨he, drawn_below hd⟩
theorem count2_any (k : Int) (w : World) : Calls Tryz.prog 56 #[.int .i64 k] w fun e w' => e = .returned (.int .i64 (wargs k)) ∧ Below w.heap.size w w' :=
 (r02_Count.calls k _ w (count_ev k)).mono fun e w' ⟨he, hd⟩ => ⟨he, drawn_below hd⟩
theorem begins2_any (a b : ByteArray) (w : World) : Calls Tryz.prog 69 #[.string a, .string b] w fun e w' => e = .returned (.bool (beginsB a b)) ∧ Below w.heap.size w w' := by
 refine (r02_begins.calls a b (beginsB a b) w ?_).mono fun e w' ⟨he, hd⟩ => ⟨he, drawn_below hd⟩
 unfold r02_begins.f beginsB
 by_cases h : (a.size : Int) <= (b.size : Int)
 ·rw [if_pos h, if_pos (by omega)]
  simp [h]
 ·rw [if_neg h]
  simp [h]
/-- What scan answers. -/
def ScanPost (d : Nat) (s : ByteArray) (q : Nat) (w : World) (e : Ending) (w' : World) : Prop :=
 (∃ (kd : Int) (A : Option Addr) (n c : Nat) (at_ : Int) (ok : Bool) (l : List S37), e = .returned (.tuple #[.agg #[.int .i64 kd, .slice A n c], .int .i64 at_, .bool ok]) ∧ k37.R 37 w' w.heap.size (fun _ => True) (.slice A n c) l ∧ (ok = true -> ∃ q' : Nat, at_ = q' ∧ q' <= s.size ∧ scanF d s q = some q') ∧ (ok = false -> scanF d s q = none)) ∧ Below w.heap.size w w'
theorem wordB_size (k : Nat) : (wordB k).size <= 6 := by
 unfold wordB
 show (wordT (k : Int)).length <= 6
 rcases wordT_cases (k : Int) with ⟨j, hj, _, _, hw, _⟩ | ⟨_, hw⟩
 ·rw [hw]; exact (wT_len j hj).2
 ·rw [hw]; exact Nat.zero_le _
theorem begins_fits {a s : ByteArray} {q : Nat} (hq : q <= s.size) (h : beginsB a (s.extract q s.size) = true) : q + a.size <= s.size := by
 unfold beginsB at h
 rw [Bool.and_eq_true, decide_eq_true_eq, ByteArray.size_extract] at h
 have := h.1
 omega
/-- What lies in memory while the types of a kind are read. -/
structure ScMem (w W : World) (T k : Nat) (v : Value) (l : List S37) : Prop where
 res : W.heap[w.heap.size]? = some (.cells #[.int .i64 0, .slice none 0 0] 37 (0, 0))
 tree : W.heap[T]? = some (.cells #[.int .i64 k, v] 37 (0, 0))
 row : k37.R 37 W w.heap.size (fun b => b ≠ w.heap.size ∧ b ≠ T) v l
 below : Below w.heap.size w W
theorem ScMem.on {w W W' : World} {T k : Nat} {v : Value} {l : List S37} (h : ScMem w W T k v l) (hb : Below W.heap.size W W') : ScMem w W' T k v l :=
 ⟨blk_below h.res hb, blk_below h.tree hb, Kd.R_below h.row hb, h.below.trans (hb.mono h.below.size)⟩
theorem res_put {w W : World} {a b : Value} (h : W.heap[w.heap.size]? = some (.cells #[a, b] 37 (0, 0))) (x y : Value) : ((W.setCell ⟨w.heap.size, 0, none⟩ x).setCell ⟨w.heap.size, 1, none⟩ y).heap[w.heap.size]? = some (.cells #[x, y] 37 (0, 0)) := by
 simpa using blk_set (blk_set h 0 x) 1 y
theorem below_put {w W : World} (h : Below w.heap.size w W) (x y : Value) : Below w.heap.size w ((W.setCell ⟨w.heap.size, 0, none⟩ x).setCell ⟨w.heap.size, 1, none⟩ y) :=
 (h.setCell (p := ⟨w.heap.size, 0, none⟩) (Nat.le_refl _) x).setCell (p := ⟨w.heap.size, 1, none⟩) (Nat.le_refl _) y
theorem scan_no {d : Nat} {s : ByteArray} {q : Nat} {w W : World} {a : Int} (h : scanF d s q = none) (hb : Below w.heap.size w W) : ScanPost d s q w (.returned (.tuple #[.agg #[.int .i64 0, .slice none 0 0], .int .i64 a, .bool false])) W :=
 ⟨⟨0, none, 0, 0, a, false, [], rfl, Kd.R_nil _ _ _ _ _, (fun h2 => absurd h2 (by decide)), (fun _ => h)⟩, hb⟩
theorem scan_yes {d : Nat} {s : ByteArray} {q q' : Nat} {w W : World} {a kd : Int} {A : Option Addr} {n c : Nat} {l : List S37} (ha : a = (q' : Int)) (hq : q' <= s.size) (h : scanF d s q = some q') (hR : k37.R 37 W w.heap.size (fun _ => True) (.slice A n c) l) (hb : Below w.heap.size w W) : ScanPost d s q w (.returned (.tuple #[.agg #[.int .i64 kd, .slice A n c], .int .i64 a, .bool true])) W :=
 ⟨⟨kd, A, n, c, a, true, l, rfl, hR, (fun _ => ⟨q', ha, hq, h⟩), (fun h2 => absurd h2 (by decide))⟩, hb⟩
theorem two_at (q j n m : Nat) (hq : q <= 1000000) (hj : j <= 6) (h1 : j < m) (h2 : q + j < n) : ∃ z : Int, IntKind.i64.wrap ((q : Int) + (j : Int)) = z ∧ decide (z < (n : Int)) = true ∧ (0 <= z) = True ∧ (z < (n : Int)) = True ∧ (0 <= (j : Int)) = True ∧ ((j : Int) < (m : Int)) = True := by
 have hw : wrap64 ((q : Int) + (j : Int)) = (q : Int) + (j : Int) := by unfold wrap64; omega
 refine ⟨(q : Int) + (j : Int), (i64_w _).trans hw, ?_, eq_true ?_, eq_true ?_, eq_true ?_, eq_true ?_⟩
 ·rw [decide_eq_true_iff]; omega
 all_goals omega
theorem scan_any (s : ByteArray) (hs : s.size <= 1000000) (d : Nat) : 1 <= d -> d <= 6 -> ∀ (q : Nat) (w : World), q <= s.size →
  Calls Tryz.prog 48 #[.string s, .int .i64 q, .int .i64 d] w (ScanPost d s q w) := by
 induction d with
 | zero => intro h; omega
 | succ d ih =>
  intro _ hd6 q w hq
  have hqs : q <= 1000000 := Nat.le_trans hq hs
  have HIH := hid ih
  clear ih
  have HN := hid (heap_alloc_new w (.cells #[.int .i64 0, .slice none 0 0] 37))
  have HB := hid (below_alloc (Below.refl w.heap.size w) (.cells #[.int .i64 0, .slice none 0 0] 37))
  have HRD : Hid (∀ r, findW (d + 1) s q 9 1 = r -> scanF (d + 1) s q = match r with
   | none => none
   | some k => match scanA (scanF d) (wargs (k : Int)).toNat 0 s (q + (wordB k).size) with
    | none => none
    | some q2 => if wargs (k : Int) = 0 then some q2 else if signB s q2 41 = true then some (q2 + 1) else none) := by
   intro r hr; subst hr; rfl
  have hcast : ((d + 1 : Nat) : Int) = (d : Int) + 1 := by omega
  rw [hcast]
  go_enter Tryz.func48, Tryz.ntmps48
  go_wp2_with fail
  generalize w.alloc (.cells #[.int .i64 0, .slice none 0 0] 37) = W0 at HN HB ⊢
  go_loopg [1, 9] 9 (fun n v1 v9 wr => ∃ k : Nat, 1 <= k ∧ n + k = 10 ∧ v1 = .int .i64 q ∧ v9 = .int .i64 k ∧ Aside0 (findW (d + 1) s q 9 1 = findW (d + 1) s q (10 - k) k) ∧ Aside0 (wr.heap[w.heap.size]? = some (.cells #[.int .i64 0, .slice none 0 0] 37 (0, 0))) ∧ Aside0 (Below w.heap.size w wr))
  case atStart => exact ⟨1, by omega, by omega, rfl, rfl, ⟨rfl⟩, ⟨HN.out⟩, ⟨HB.out⟩⟩
  case round =>
   obtain ⟨k, hk1, hk, rfl, rfl, ⟨hF⟩, ⟨hX⟩, ⟨hB⟩⟩ := hrel
   have HF := hid hF; have HX := hid hX; have HBr := hid hB
   clear hF hX hB HN HB
   by_cases hlt : k <= 9
   ·obtain ⟨m, rfl⟩ : ∃ m, gk = m + 1 := ⟨gk - 1, by omega⟩
    have t0 : decide ((k : Int) <= 9) = true := by rw [decide_eq_true_iff]; omega
    go_wp2_with fail
    refine (word2_any (k : Int) wr).mono ?_
    rintro e w1 ⟨rfl, hb1⟩
    have HX1 := hid (blk_below HX.out hb1); have HB1 := hid (HBr.out.trans (hb1.mono HBr.out.size))
    clear hb1
    rw [show (⟨(wordT (k : Int)).toArray⟩ : ByteArray) = wordB k from rfl]
    have HOK : Hid (okW (d + 1) s q k = (!(wordB k).toList.isEmpty && (!((d : Int) + 1 == 1 && decide (wargs (k : Int) > 0)) && beginsB (wordB k) (s.extract q s.size)))) := by unfold Hid okW; rw [hcast]
    have HWS := hid (wordB_size k)
    have HFN : Hid (findW (d + 1) s q 9 1 = if okW (d + 1) s q k = true then some k else findW (d + 1) s q (10 - (k + 1)) (k + 1)) := by
     unfold Hid
     rw [HF.out, show 10 - k = (10 - (k + 1)) + 1 by omega]
     rfl
    have HRK : Hid (findW (d + 1) s q 9 1 = some k -> scanF (d + 1) s q = match scanA (scanF d) (wargs (k : Int)).toNat 0 s (q + (wordB k).size) with
     | none => none
     | some q2 => if wargs (k : Int) = 0 then some q2 else if signB s q2 41 = true then some (q2 + 1) else none) := HRD.out (some k)
    have HFIT := hid (begins_fits (a := wordB k) (s := s) hq)
    generalize wordB k = wb at *
    go_upto_region 5 with fail
    go_cut [45] (fun v45 wc => v45 = .bool (!okW (d + 1) s q k) ∧ Aside0 (wc.heap[w.heap.size]? = some (.cells #[.int .i64 0, .slice none 0 0] 37 (0, 0))) ∧ Aside0 (Below w.heap.size w wc))
    case first =>
     cases hem : wb.toList.isEmpty with
     | true =>
      rw [hem] at HOK
      have HO2 : Hid (okW (d + 1) s q k = false) := HOK.out
      have hem2 : (wb.toList == ([] : List UInt8)) = true := by rw [beq_iff_eq]; exact List.isEmpty_iff.1 hem
      go_wp2_with fail
      go_meet
      case rel => exact ⟨by rw [HO2.out]; rfl, ⟨HX1.out⟩, ⟨HB1.out⟩⟩
     | false =>
      rw [hem] at HOK
      have hem2 : (wb.toList == ([] : List UInt8)) = false := by rw [beq_eq_false_iff_ne]; intro h; rw [h] at hem; cases hem
      by_cases hd1 : (d : Int) + 1 = 1
      ·have t1 : ((d : Int) + 1 == 1) = true := by rw [beq_iff_eq]; exact hd1
       clear hd1
       rw [t1, Bool.true_and] at HOK
       go_wp2_with fail
       refine (count2_any (k : Int) w1).mono ?_
       rintro e w2 ⟨rfl, hb2⟩
       have HX2 := hid (blk_below HX1.out hb2); have HB2 := hid (HB1.out.trans (hb2.mono HB1.out.size))
       clear hb2
       by_cases hc0 : 0 < wargs (k : Int)
       ·have t2 : decide (0 < wargs (k : Int)) = true := by rw [decide_eq_true_iff]; exact hc0
        have HO2 : Hid (okW (d + 1) s q k = false) := HOK.out.trans (by rw [show decide (wargs (k : Int) > 0) = true from t2]; rfl)
        go_wp2_with fail
        go_meet
        case rel => exact ⟨by rw [HO2.out]; rfl, ⟨HX2.out⟩, ⟨HB2.out⟩⟩
       ·have t2 : decide (0 < wargs (k : Int)) = false := by rw [decide_eq_false_iff_not]; exact hc0
        have HO2 : Hid (okW (d + 1) s q k = beginsB wb (s.extract q s.size)) := HOK.out.trans (by rw [show decide (wargs (k : Int) > 0) = false from t2]; rfl)
        go_wp2_with fail
        refine (begins2_any wb (s.extract q s.size) w2).mono ?_
        rintro e w3 ⟨rfl, hb3⟩
        have HX3 := hid (blk_below HX2.out hb3); have HB3 := hid (HB2.out.trans (hb3.mono HB2.out.size))
        clear hb3
        generalize beginsB wb (s.extract q s.size) = bv at *
        go_wp2_with fail
        go_meet
        case rel => exact ⟨by rw [HO2.out], ⟨HX3.out⟩, ⟨HB3.out⟩⟩
      ·have t1 : ((d : Int) + 1 == 1) = false := by rw [beq_eq_false_iff_ne]; exact hd1
       clear hd1
       rw [t1] at HOK
       have HO2 : Hid (okW (d + 1) s q k = beginsB wb (s.extract q s.size)) := HOK.out
       go_wp2_with fail
       refine (begins2_any wb (s.extract q s.size) w1).mono ?_
       rintro e w3 ⟨rfl, hb3⟩
       have HX3 := hid (blk_below HX1.out hb3); have HB3 := hid (HB1.out.trans (hb3.mono HB1.out.size))
       clear hb3
       generalize beginsB wb (s.extract q s.size) = bv at *
       go_wp2_with fail
       go_meet
       case rel => exact ⟨by rw [HO2.out], ⟨HX3.out⟩, ⟨HB3.out⟩⟩
    case rest =>
     obtain ⟨rfl, ⟨hX2⟩, ⟨hB2⟩⟩ := hcut
     have HX2 := hid hX2; have HB2 := hid hB2
     clear hX2 hB2 HX1 HB1 HX HBr
     cases hok : okW (d + 1) s q k with
     | false =>
      have HF2 := hid (HFN.out.trans (by rw [hok, if_neg (by decide)]))
      go_wp2_with fail
      go_roundg m
      case measure => omega
      case rel => exact ⟨k + 1, by omega, by omega, rfl, by go_num, ⟨HF2.out⟩, ⟨HX2.out⟩, ⟨HB2.out⟩⟩
     | true =>
      have hR := HRK.out (HFN.out.trans (by rw [hok, if_pos rfl]))
      have hfit : q + wb.size <= s.size := HFIT.out (by have := HOK.out; rw [hok] at this; simp only [Bool.true_eq, Bool.and_eq_true] at this; exact this.2.2)
      have hdd : 0 < wargs (k : Int) -> 1 <= d := by
       intro hw
       have := HOK.out
       rw [hok] at this
       simp only [Bool.true_eq, Bool.and_eq_true, Bool.not_eq_true', Bool.and_eq_false_iff, decide_eq_false_iff_not, beq_eq_false_iff_ne] at this
       rcases this.2.1 with h | h
       ·omega
       ·omega
      have HR := hid hR; have HDD := hid hdd
      clear hR hdd HRD HRK HF HFN HOK HFIT
      go_wp2_with fail
      have HM := hid (show ScMem w (wc.alloc (.cells #[.int .i64 k, .slice none 0 0] 37)) wc.heap.size k (.slice none 0 0) [] from ⟨blk_alloc HX2.out _, heap_alloc_new _ _, Kd.R_nil _ _ _ _ _, below_alloc HB2.out _⟩)
      have hT := blk_lt HX2.out
      clear HX2 HB2
      generalize wc.alloc (.cells #[.int .i64 k, .slice none 0 0] 37) = W1 at HM ⊢
      generalize wc.heap.size = T at *
      have hwa := wargs_two (k : Int)
      obtain ⟨q1, hq1⟩ : ∃ q1, q1 = q + wb.size := ⟨_, rfl⟩
      rw [<- hq1] at hfit HR
      go_loopg [1, 12] (wargs (k : Int)).toNat (fun n v1 v12 wr => ∃ (i q' : Nat) (l : List S37) (A : Option Addr) (c : Nat), n + i = (wargs (k : Int)).toNat ∧ v1 = .int .i64 q' ∧ v12 = .int .i64 i ∧ l.length = i ∧ q' <= s.size ∧ Aside0 (ScMem w wr T k (.slice A i c) l) ∧ Aside0 (scanA (scanF d) (wargs (k : Int)).toNat 0 s q1 = scanA (scanF d) ((wargs (k : Int)).toNat - i) i s q'))
      case atStart => exact ⟨0, q1, [], none, 0, by omega, by rw [show (q : Int) + (wb.size : Int) = (q1 : Int) by omega], rfl, rfl, hfit, ⟨HM.out⟩, ⟨rfl⟩⟩
      case round =>
       obtain ⟨i, q', l, A, c, hi, rfl, rfl, hl, hq', ⟨hM⟩, ⟨hS⟩⟩ := hrel
       have HM2 := hid hM; have HS := hid hS
       clear hM hS HM
       go_wp2_with fail
       refine (count2_any (k : Int) wr).mono ?_
       rintro e w2 ⟨rfl, hb2⟩
       have HM3 := hid (HM2.out.on hb2)
       clear hb2 HM2
       by_cases hiw : (i : Int) < wargs (k : Int)
       ·obtain ⟨m2, rfl⟩ : ∃ m2, gk = m2 + 1 := ⟨gk - 1, by omega⟩
        have t2 : decide ((i : Int) < wargs (k : Int)) = true := by rw [decide_eq_true_iff]; exact hiw
        have hd1 : 1 <= d := HDD.out (by omega)
        have HSN : Hid (scanA (scanF d) (wargs (k : Int)).toNat 0 s q1 = if signB s q' (sepT i) = true then (match scanF d s (q' + 1) with
          | none => none
          | some q2 => scanA (scanF d) ((wargs (k : Int)).toNat - (i + 1)) (i + 1) s q2) else none) := by
         unfold Hid
         rw [HS.out, show (wargs (k : Int)).toNat - i = ((wargs (k : Int)).toNat - (i + 1)) + 1 by omega]
         rfl
        go_upto_if 59 with fail
        go_cut [13] (fun v13 wc2 => v13 = .int .u8 ((sepT i).toNat : Int) ∧ wc2 = w2)
        case first =>
         by_cases hi0 : 0 < i
         ·have t3 : decide ((0 : Int) < (i : Int)) = true := by rw [decide_eq_true_iff]; omega
          have hsp : sepT i = 44 := if_neg (by omega)
          go_wp2_with fail
          go_meet
          case rel => exact ⟨by rw [hsp]; rfl, rfl⟩
         ·have t3 : decide ((0 : Int) < (i : Int)) = false := by rw [decide_eq_false_iff_not]; omega
          have hsp : sepT i = 40 := if_pos (by omega)
          go_wp2_with fail
          go_meet
          case rel => exact ⟨by rw [hsp]; rfl, rfl⟩
        case rest =>
         obtain ⟨rfl, hwc⟩ := hcut
         rw [hwc]
         clear hwc
         have HSB : Hid (signB s q' (sepT i) = (decide (q' < s.size) && (bt s (q' : Int) == ((sepT i).toNat : Int)))) := rfl
         generalize signB s q' (sepT i) = sg at *
         go_upto_region 14 with fail
         go_cut [70] (fun v70 wc2 => v70 = .bool (!sg) ∧ wc2 = w2)
         case first =>
          by_cases hql : q' < s.size
          ·have t4 : decide ((s.size : Int) <= (q' : Int)) = false := by rw [decide_eq_false_iff_not]; omega
           have hSG : sg = (bt s (q' : Int) == ((sepT i).toNat : Int)) := by have := HSB.out; rw [decide_eq_true hql, Bool.true_and] at this; exact this
           have hbt : bt s (q' : Int) = ((s[q']'hql).toNat : Int) := by
            unfold bt
            rw [dif_pos (by simpa using hql)]
            simp
           go_wp2_with fail
           go_meet
           case rel => exact ⟨by rw [hSG, hbt, show decide (s.size <= q') = false by rw [decide_eq_false_iff_not]; omega]; rfl, rfl⟩
          ·have t4 : decide ((s.size : Int) <= (q' : Int)) = true := by rw [decide_eq_true_iff]; omega
           have hSG : sg = false := by have := HSB.out; rw [decide_eq_false hql, Bool.false_and] at this; exact this
           go_wp2_with fail
           go_meet
           case rel => exact ⟨by rw [hSG]; rfl, rfl⟩
         case rest =>
          obtain ⟨rfl, hwc⟩ := hcut
          rw [hwc]
          clear hwc
          have r0 : w2.cell? ⟨w.heap.size, 0, none⟩ = some (.int .i64 0) := (blk_cell HM3.out.res 0).trans rfl
          have r1 : w2.cell? ⟨w.heap.size, 1, none⟩ = some (.slice none 0 0) := (blk_cell HM3.out.res 1).trans rfl
          have z0 : w2.frozen? ⟨w.heap.size, 0, none⟩ = false := blk_frozen HM3.out.res 0
          have z1 : w2.frozen? ⟨w.heap.size, 1, none⟩ = false := blk_frozen HM3.out.res 1
          cases sg with
          | false =>
           have HSF := hid (HR.out.trans (by rw [HSN.out, if_neg (by decide)]))
           go_wp2_with fail
           have HF := hid (res_put HM3.out.res (.int .i64 0) (.slice none 0 0)); have HBF := hid (below_put HM3.out.below (.int .i64 0) (.slice none 0 0))
           clear r0 r1 z0 z1
           generalize (w2.setCell ⟨w.heap.size, 0, none⟩ (.int .i64 0)).setCell ⟨w.heap.size, 1, none⟩ (.slice none 0 0) = WF at HF HBF ⊢
           exact bodyPost_ret (results_ctt (p := 6) (u := 7) (v := 8) (ty := 37) rfl _ _ w.heap.size 37 _ (0, 0) _ rfl HF.out Tryz.underlying37 rfl (by kernel_rfl)) rfl (scan_no HSF.out HBF.out)
          | true =>
           have hql : q' < s.size := by have := HSB.out; simp only [Bool.true_eq, Bool.and_eq_true, decide_eq_true_eq] at this; exact this.1
           have HSM : Hid (scanA (scanF d) (wargs (k : Int)).toNat 0 s q1 = match scanF d s (q' + 1) with
            | none => none
            | some q2 => scanA (scanF d) ((wargs (k : Int)).toNat - (i + 1)) (i + 1) s q2) := HSN.out.trans (if_pos rfl)
           have hK : Calls Tryz.prog 48 #[.string s, .int .i64 ((q' : Int) + 1), .int .i64 d] w2 (ScanPost d s (q' + 1) w2) := by
            have := HIH.out hd1 (by omega) (q' + 1) w2 (by omega)
            rw [show ((q' + 1 : Nat) : Int) = (q' : Int) + 1 by omega] at this
            exact this
           have HK := hid hK
           clear hK HSN r0 r1 z0 z1
           go_wp2_with fail
           refine HK.out.mono ?_
           rintro e w4 ⟨⟨kd2, A2, n2, c2, at2, ok2, l2, rfl, hR2, hok, hno⟩, hb4⟩
           have HM4 := hid (HM3.out.on hb4)
           have r0 : w4.cell? ⟨w.heap.size, 0, none⟩ = some (.int .i64 0) := (blk_cell HM4.out.res 0).trans rfl
           have r1 : w4.cell? ⟨w.heap.size, 1, none⟩ = some (.slice none 0 0) := (blk_cell HM4.out.res 1).trans rfl
           have z0 : w4.frozen? ⟨w.heap.size, 0, none⟩ = false := blk_frozen HM4.out.res 0
           have z1 : w4.frozen? ⟨w.heap.size, 1, none⟩ = false := blk_frozen HM4.out.res 1
           cases ok2 with
           | false =>
            have HSF := hid (HR.out.trans (by rw [HSM.out, hno rfl]))
            have hz4 : w.heap.size < w4.heap.size := blk_lt HM4.out.res
            clear hok hno hR2 hb4
            go_wp2_with fail
            have HF := hid (blk_alloc (res_put HM4.out.res (.int .i64 0) (.slice none 0 0)) (.cells #[.int .i64 kd2, .slice A2 n2 c2] 37)); have HBF := hid (below_alloc (below_put HM4.out.below (.int .i64 0) (.slice none 0 0)) (.cells #[.int .i64 kd2, .slice A2 n2 c2] 37))
            clear r0 r1 z0 z1
            generalize ((w4.setCell ⟨w.heap.size, 0, none⟩ (.int .i64 0)).setCell ⟨w.heap.size, 1, none⟩ (.slice none 0 0)).alloc (.cells #[.int .i64 kd2, .slice A2 n2 c2] 37) = WF at HF HBF ⊢
            exact bodyPost_ret (results_ctt (p := 6) (u := 7) (v := 8) (ty := 37) rfl _ _ w.heap.size 37 _ (0, 0) _ rfl HF.out Tryz.underlying37 rfl (by kernel_rfl)) rfl (scan_no HSF.out HBF.out)
           | true =>
            obtain ⟨q4, rfl, hq4, hsc⟩ := hok rfl
            have HSN : Hid (scanA (scanF d) (wargs (k : Int)).toNat 0 s q1 = scanA (scanF d) ((wargs (k : Int)).toNat - (i + 1)) (i + 1) s q4) := HSM.out.trans (by rw [hsc])
            have hz4 : w.heap.size < w4.heap.size := blk_lt HM4.out.res
            have hT4 : T < w4.heap.size := blk_lt HM4.out.tree
            have e1 : w4.cell? ⟨T, 1, none⟩ = some (.slice A i c) := (blk_cell HM4.out.tree 1).trans rfl
            have HR2 := hid hR2; have HB4 := hid hb4
            have hw2 : w.heap.size <= w2.heap.size := HM3.out.below.size
            have HP : Hid (k37.M (w4.alloc (.cells #[.int .i64 kd2, .slice A2 n2 c2] 37)) w.heap.size (fun k' => (k' ≠ w.heap.size ∧ k' ≠ T) ∧ some k' ≠ (Value.slice A i c).ownBlock) (⟨kd2, l2⟩ : S37) [.int .i64 kd2, .slice A2 n2 c2]) := by
             have h1 := Kd.R_newR hR2 HM3.out.row
             have h2 := Kd.R_bound h1
             have hT2 := blk_lt HM3.out.tree
             have hW2 := blk_lt HM3.out.res
             have h3 := Kd.R_mono (ok' := fun k' => (k' ≠ w.heap.size ∧ k' ≠ T) ∧ some k' ≠ (Value.slice A i c).ownBlock) h2 (fun k' hk' => ⟨⟨by omega, by omega⟩, hk'.1.2⟩)
             exact k37_mkM _ _ _ ⟨kd2, l2⟩ (Kd.R_alloc (Kd.R_lower h3 hw2) _)
            have HM5 := hid (HM4.out.on (below_alloc (Below.refl _ _) (.cells #[.int .i64 kd2, .slice A2 n2 c2] 37)))
            have HN5 := hid (heap_alloc_new w4 (.cells #[.int .i64 kd2, .slice A2 n2 c2] 37))
            clear hok hno hR2 hb4 hsc r0 r1 z0 z1
            go_upto_region 19 with fail
            have e5 : (w4.alloc (.cells #[.int .i64 kd2, .slice A2 n2 c2] 37)).cell? ⟨T, 1, none⟩ = some (.slice A i c) := (blk_cell HM5.out.tree 1).trans rfl
            have n0 : (w4.alloc (.cells #[.int .i64 kd2, .slice A2 n2 c2] 37)).cell? ⟨w4.heap.size, 0, none⟩ = some (.int .i64 kd2) := (blk_cell HN5.out 0).trans rfl
            have n1 : (w4.alloc (.cells #[.int .i64 kd2, .slice A2 n2 c2] 37)).cell? ⟨w4.heap.size, 1, none⟩ = some (.slice A2 n2 c2) := (blk_cell HN5.out 1).trans rfl
            have h5s : w.heap.size <= (w4.alloc (.cells #[.int .i64 kd2, .slice A2 n2 c2] 37)).heap.size := HM5.out.below.size
            clear e1
            generalize w4.alloc (.cells #[.int .i64 kd2, .slice A2 n2 c2] 37) = w5 at *
            generalize w4.heap.size = T10 at *
            go_wp2_with (at_builtin; refine Kd.R_append k37 (w0 := w5) w.heap.size rfl _ _ 35 37 (.agg #[.int .i64 0, .slice none 0 0]) 32 rfl Tryz.underlying35 info37 rfl (by decide) (by decide) (.slice A i c) l (⟨kd2, l2⟩ : S37) [.int .i64 kd2, .slice A2 n2 c2] (fun k' => k' ≠ w.heap.size ∧ k' ≠ T) (fun k' => (k' ≠ w.heap.size ∧ k' ≠ T) ∧ some k' ≠ (Value.slice A i c).ownBlock) rfl rfl HP.out (fun _ h => h) ?cf HM5.out.row (Below.refl _ _) h5s ?c1 ?_)
            case cf => have hT5 := blk_lt HM5.out.tree; have hW5 := blk_lt HM5.out.res; exact fun k' hk' => ⟨by omega, by omega⟩
            case c1 => rw [hl]; omega
            intro v1 w6 hO6 _ hg6 _
            have hr1 := Kd.R_away HM5.out.row (fun _ h => h.1)
            have hr2 := Kd.R_away HM5.out.row (fun _ h => h.2)
            have hx6 := blk_grown HM5.out.res hg6 hr1
            have ht6 := blk_grown HM5.out.tree hg6 hr2
            have hb6 := pw_below_grown HM5.out.below _ HM5.out.below.size hg6 (fun k hk => Kd.R_base HM5.out.row k hk)
            obtain ⟨A6, c6, hv6⟩ := Kd.R_slice hO6
            rw [List.length_append, hl, List.length_singleton] at hv6
            subst hv6
            have e6 : w6.cell? ⟨T, 1, none⟩ = some (.slice A i c) := (blk_cell ht6 1).trans rfl
            have f6 : w6.frozen? ⟨T, 1, none⟩ = false := blk_frozen ht6 1
            have HX6 := hid hx6; have HT6 := hid ht6; have HB6 := hid hb6; have HO6 := hid hO6
            clear hO6 hg6 e5 n0 n1 hr1 hr2 hx6 ht6 hb6
            go_wp2_with fail
            have HM7 := hid (show ScMem w (w6.setCell ⟨T, 1, none⟩ (.slice A6 (i + 1) c6)) T k (.slice A6 (i + 1) c6) (l ++ [⟨kd2, l2⟩]) from ⟨(Below.heap_setCell w6 ⟨T, 1, none⟩ _ _ (by show w.heap.size ≠ T; omega)).trans HX6.out, by simpa using blk_set HT6.out 1 (.slice A6 (i + 1) c6), Kd.R_far HO6.out (p := ⟨T, 1, none⟩) (fun _ h => h.2) (.slice A6 (i + 1) c6), HB6.out.setCell (p := ⟨T, 1, none⟩) (by show w.heap.size <= T; omega) _⟩)
            clear e6 f6
            generalize w6.setCell ⟨T, 1, none⟩ (.slice A6 (i + 1) c6) = w7 at *
            go_roundg m2
            case measure => omega
            case rel => exact ⟨i + 1, q4, l ++ [⟨kd2, l2⟩], A6, c6, by omega, by go_num, by go_num, by rw [List.length_append, hl]; rfl, hq4, ⟨HM7.out⟩, ⟨HSN.out⟩⟩
       ·have t2 : decide ((i : Int) < wargs (k : Int)) = false := by rw [decide_eq_false_iff_not]; exact hiw
        go_wp2_with fail
        refine (count2_any (k : Int) w2).mono ?_
        rintro e w3 ⟨rfl, hb3⟩
        have HM4 := hid (HM3.out.on hb3)
        clear hb3 HM3
        have hT4 : T < w3.heap.size := blk_lt HM4.out.tree
        have hie : (wargs (k : Int)).toNat - i = 0 := by omega
        have HSE : Hid (scanA (scanF d) (wargs (k : Int)).toNat 0 s q1 = some q') := by unfold Hid; rw [HS.out, hie]; rfl
        have r0 : w3.cell? ⟨w.heap.size, 0, none⟩ = some (.int .i64 0) := (blk_cell HM4.out.res 0).trans rfl
        have r1 : w3.cell? ⟨w.heap.size, 1, none⟩ = some (.slice none 0 0) := (blk_cell HM4.out.res 1).trans rfl
        have z0 : w3.frozen? ⟨w.heap.size, 0, none⟩ = false := blk_frozen HM4.out.res 0
        have z1 : w3.frozen? ⟨w.heap.size, 1, none⟩ = false := blk_frozen HM4.out.res 1
        have e0 : w3.cell? ⟨T, 0, none⟩ = some (.int .i64 k) := (blk_cell HM4.out.tree 0).trans rfl
        have e1 : w3.cell? ⟨T, 1, none⟩ = some (.slice A i c) := (blk_cell HM4.out.tree 1).trans rfl
        have HSB : Hid (signB s q' 41 = (decide (q' < s.size) && (bt s (q' : Int) == 41))) := rfl
        have hno : signB s q' 41 = false -> 0 < wargs (k : Int) -> scanF (d + 1) s q = none := fun h h2 => HR.out.trans (by rw [HSE.out]; dsimp only; rw [if_neg (by omega), if_neg (by rw [h]; decide)])
        have hyes : signB s q' 41 = true -> 0 < wargs (k : Int) -> scanF (d + 1) s q = some (q' + 1) := fun h h2 => HR.out.trans (by rw [HSE.out]; dsimp only; rw [if_neg (by omega), if_pos h])
        have hflat : wargs (k : Int) = 0 -> scanF (d + 1) s q = some q' := fun h2 => HR.out.trans (by rw [HSE.out]; dsimp only; rw [if_pos h2])
        have HNO := hid hno; have HYES := hid hyes; have HFL := hid hflat
        have HRES := hid (fun x y => res_put HM4.out.res x y); have HBEL := hid (fun x y => below_put HM4.out.below x y)
        have HROW : Hid (k37.R 37 ((w3.setCell ⟨w.heap.size, 0, none⟩ (.int .i64 k)).setCell ⟨w.heap.size, 1, none⟩ (.slice A i c)) w.heap.size (fun _ => True) (.slice A i c) l) :=
         hid (Kd.R_mono (Kd.R_far (Kd.R_far HM4.out.row (p := ⟨w.heap.size, 0, none⟩) (fun _ h => h.1) (.int .i64 k)) (p := ⟨w.heap.size, 1, none⟩) (fun _ h => h.1) (.slice A i c)) (fun _ _ => trivial))
        clear hno hyes hflat
        by_cases hw0 : 0 < wargs (k : Int)
        ·have t3 : decide (0 < wargs (k : Int)) = true := by rw [decide_eq_true_iff]; exact hw0
         by_cases hql : q' < s.size
         ·have hbt : bt s (q' : Int) = ((s[q']'hql).toNat : Int) := by
           unfold bt
           rw [dif_pos (by simpa using hql)]
           simp
          have HSG : Hid (signB s q' 41 = (((s[q']'hql).toNat : Int) == 41)) := by have := HSB.out; rw [decide_eq_true hql, Bool.true_and, hbt] at this; exact this
          cases hc : (((s[q']'hql).toNat : Int) == 41) with
          | false =>
           have hc2 : (((s[q']'hql).toNat : Int) != 41) = true := by unfold bne; rw [hc]; rfl
           go_wp2_with fail
           have HF := hid (HRES.out (.int .i64 0) (.slice none 0 0)); have HBF := hid (HBEL.out (.int .i64 0) (.slice none 0 0))
           have HSF := hid (HNO.out (HSG.out.trans hc) hw0)
           clear r0 r1 z0 z1 e0 e1
           generalize (w3.setCell ⟨w.heap.size, 0, none⟩ (.int .i64 0)).setCell ⟨w.heap.size, 1, none⟩ (.slice none 0 0) = WF at HF HBF ⊢
           exact bodyPost_ret (results_ctt (p := 6) (u := 7) (v := 8) (ty := 37) rfl _ _ w.heap.size 37 _ (0, 0) _ rfl HF.out Tryz.underlying37 rfl (by kernel_rfl)) rfl (scan_no HSF.out HBF.out)
          | true =>
           have hc2 : (((s[q']'hql).toNat : Int) != 41) = false := by unfold bne; rw [hc]; rfl
           go_wp2_with fail
           have HF := hid (HRES.out (.int .i64 k) (.slice A i c)); have HBF := hid (HBEL.out (.int .i64 k) (.slice A i c))
           have HSF := hid (HYES.out (HSG.out.trans hc) hw0)
           clear r0 r1 z0 z1 e0 e1
           generalize (w3.setCell ⟨w.heap.size, 0, none⟩ (.int .i64 k)).setCell ⟨w.heap.size, 1, none⟩ (.slice A i c) = WF at HF HBF HROW ⊢
           exact bodyPost_ret (results_ctt (p := 6) (u := 7) (v := 8) (ty := 37) rfl _ _ w.heap.size 37 _ (0, 0) _ rfl HF.out Tryz.underlying37 rfl (by kernel_rfl)) rfl (scan_yes (q' := q' + 1) (by omega) hql HSF.out HROW.out HBF.out)
         ·have HSG : Hid (signB s q' 41 = false) := by have := HSB.out; rw [decide_eq_false hql, Bool.false_and] at this; exact this
          go_wp2_with fail
          have HF := hid (HRES.out (.int .i64 0) (.slice none 0 0)); have HBF := hid (HBEL.out (.int .i64 0) (.slice none 0 0))
          have HSF := hid (HNO.out HSG.out hw0)
          clear r0 r1 z0 z1 e0 e1
          generalize (w3.setCell ⟨w.heap.size, 0, none⟩ (.int .i64 0)).setCell ⟨w.heap.size, 1, none⟩ (.slice none 0 0) = WF at HF HBF ⊢
          exact bodyPost_ret (results_ctt (p := 6) (u := 7) (v := 8) (ty := 37) rfl _ _ w.heap.size 37 _ (0, 0) _ rfl HF.out Tryz.underlying37 rfl (by kernel_rfl)) rfl (scan_no HSF.out HBF.out)
        ·have t3 : decide (0 < wargs (k : Int)) = false := by rw [decide_eq_false_iff_not]; exact hw0
         go_wp2_with fail
         have HF := hid (HRES.out (.int .i64 k) (.slice A i c)); have HBF := hid (HBEL.out (.int .i64 k) (.slice A i c))
         have HSF := hid (HFL.out (by omega))
         clear r0 r1 z0 z1 e0 e1
         generalize (w3.setCell ⟨w.heap.size, 0, none⟩ (.int .i64 k)).setCell ⟨w.heap.size, 1, none⟩ (.slice A i c) = WF at HF HBF HROW ⊢
         exact bodyPost_ret (results_ctt (p := 6) (u := 7) (v := 8) (ty := 37) rfl _ _ w.heap.size 37 _ (0, 0) _ rfl HF.out Tryz.underlying37 rfl (by kernel_rfl)) rfl (scan_yes (q' := q') rfl hq' HSF.out HROW.out HBF.out)
   ·have t0 : decide ((k : Int) <= 9) = false := by rw [decide_eq_false_iff_not]; omega
    have hnone : findW (d + 1) s q 9 1 = none := by
     rw [HF.out, show 10 - k = 0 by omega]
     rfl
    have HSF := hid (HRD.out none hnone)
    clear hnone HF HRD
    go_wp2_with fail
    go_loopg [17, 18] 9 (fun n v17 v18 wr2 => ∃ k2 b : Nat, 1 <= k2 ∧ n + k2 = 10 ∧ b <= 6 ∧ v17 = .int .i64 b ∧ v18 = .int .i64 k2 ∧ Aside0 (wr2.heap[w.heap.size]? = some (.cells #[.int .i64 0, .slice none 0 0] 37 (0, 0))) ∧ Aside0 (Below w.heap.size w wr2))
    case atStart => exact ⟨1, 0, by omega, by omega, by omega, rfl, rfl, ⟨HX.out⟩, ⟨HBr.out⟩⟩
    case round =>
     obtain ⟨k2, b, hk21, hk2, hb6, rfl, rfl, ⟨hX⟩, ⟨hB⟩⟩ := hrel
     have HX1 := hid hX; have HB1 := hid hB
     clear hX hB HX HBr
     by_cases hlt2 : k2 <= 9
     ·obtain ⟨m, rfl⟩ : ∃ m, gk = m + 1 := ⟨gk - 1, by omega⟩
      have t0 : decide ((k2 : Int) <= 9) = true := by rw [decide_eq_true_iff]; omega
      go_wp2_with fail
      refine (word2_any (k2 : Int) wr).mono ?_
      rintro e w1 ⟨rfl, hb1⟩
      have HX2 := hid (blk_below HX1.out hb1); have HB2 := hid (HB1.out.trans (hb1.mono HB1.out.size))
      clear hb1 HX1 HB1
      rw [show (⟨(wordT (k2 : Int)).toArray⟩ : ByteArray) = wordB k2 from rfl]
      have hws := wordB_size k2
      generalize wordB k2 = wb at *
      go_upto_region 31 with fail
      go_cut [129] (fun v129 wc => ∃ bv : Bool, v129 = .bool bv ∧ Aside0 (wc.heap[w.heap.size]? = some (.cells #[.int .i64 0, .slice none 0 0] 37 (0, 0))) ∧ Aside0 (Below w.heap.size w wc))
      case first =>
       cases hem : wb.toList.isEmpty with
       | true =>
        go_wp2_with fail
        go_meet
        case rel => exact ⟨_, rfl, ⟨HX2.out⟩, ⟨HB2.out⟩⟩
       | false =>
        by_cases hd1 : (d : Int) + 1 = 1
        ·have t1 : ((d : Int) + 1 == 1) = true := by rw [beq_iff_eq]; exact hd1
         clear hd1
         go_wp2_with fail
         refine (count2_any (k2 : Int) w1).mono ?_
         rintro e w2 ⟨rfl, hb2⟩
         have HX3 := hid (blk_below HX2.out hb2); have HB3 := hid (HB2.out.trans (hb2.mono HB2.out.size))
         clear hb2
         go_wp2_with fail
         go_meet
         case rel => exact ⟨_, rfl, ⟨HX3.out⟩, ⟨HB3.out⟩⟩
        ·have t1 : ((d : Int) + 1 == 1) = false := by rw [beq_eq_false_iff_ne]; exact hd1
         clear hd1
         go_wp2_with fail
         go_meet
         case rel => exact ⟨_, rfl, ⟨HX2.out⟩, ⟨HB2.out⟩⟩
      case rest =>
       obtain ⟨bv, rfl, ⟨hX⟩, ⟨hB⟩⟩ := hcut
       have HX3 := hid hX; have HB3 := hid hB
       clear hX hB HX2 HB2
       cases bv with
       | true =>
        go_wp2_with fail
        go_roundg m
        case measure => omega
        case rel => exact ⟨k2 + 1, b, by omega, by omega, hb6, rfl, by go_num, ⟨HX3.out⟩, ⟨HB3.out⟩⟩
       | false =>
        go_wp2_with fail
        go_loopg [20] wb.size (fun n v20 wr => ∃ j : Nat, n + j = wb.size ∧ v20 = .int .i64 j ∧ Aside0 (wr.heap[w.heap.size]? = some (.cells #[.int .i64 0, .slice none 0 0] 37 (0, 0))) ∧ Aside0 (Below w.heap.size w wr))
        case atStart => exact ⟨0, by omega, rfl, ⟨HX3.out⟩, ⟨HB3.out⟩⟩
        case round =>
         obtain ⟨j, hj, rfl, ⟨hX⟩, ⟨hB⟩⟩ := hrel
         have HX4 := hid hX; have HB4 := hid hB
         clear hX hB HX3 HB3
         go_upto_region 33 with fail
         go_cut [152] (fun v152 wc => ∃ bv : Bool, v152 = .bool bv ∧ (bv = true -> j < wb.size) ∧ Aside0 (wc.heap[w.heap.size]? = some (.cells #[.int .i64 0, .slice none 0 0] 37 (0, 0))) ∧ Aside0 (Below w.heap.size w wc))
         case first =>
          by_cases hj1 : j < wb.size
          ·have t1 : decide ((j : Int) < (wb.size : Int)) = true := by rw [decide_eq_true_iff]; omega
           by_cases hj2 : q + j < s.size
           ·obtain ⟨z, hzw, t2, p1, p2, p4, p5⟩ := two_at q j s.size wb.size hqs (Nat.le_trans (Nat.le_of_lt hj1) hws) hj1 hj2
            have p3 := bt_at s z
            have p6 := bt_at wb (j : Int)
            clear hj2
            go_quiet (fail)
            try go_wp2_with fail
            go_meet
            case rel => exact ⟨_, rfl, fun _ => hj1, ⟨blk_drewN HX4.out _⟩, ⟨pw_below_drewN HB4.out _⟩⟩
           ·have t2 : decide ((q : Int) + (j : Int) < (s.size : Int)) = false := by rw [decide_eq_false_iff_not]; omega
            go_quiet (fail)
            try go_wp2_with fail
            go_meet
            case rel => exact ⟨_, rfl, fun _ => hj1, ⟨blk_drewN HX4.out _⟩, ⟨pw_below_drewN HB4.out _⟩⟩
          ·have t1 : decide ((j : Int) < (wb.size : Int)) = false := by rw [decide_eq_false_iff_not]; omega
           go_quiet (fail)
           try go_wp2_with fail
           go_meet
           case rel => exact ⟨false, rfl, fun h => (by cases h), ⟨blk_drewN HX4.out _⟩, ⟨pw_below_drewN HB4.out _⟩⟩
         case rest =>
          obtain ⟨bv, rfl, hbj, ⟨hX⟩, ⟨hB⟩⟩ := hcut
          have HX5 := hid hX; have HB5 := hid hB
          clear hX hB HX4 HB4
          cases bv with
          | true =>
           have hj1 := hbj rfl
           obtain ⟨m2, rfl⟩ : ∃ m2, gk = m2 + 1 := ⟨gk - 1, by omega⟩
           go_wp2_with fail
           go_roundg m2
           case measure => omega
           case rel => exact ⟨j + 1, by omega, by go_num, ⟨HX5.out⟩, ⟨HB5.out⟩⟩
          | false =>
           by_cases hjb : b < j
           ·have t1 : decide ((b : Int) < (j : Int)) = true := by rw [decide_eq_true_iff]; omega
            go_wp2_with fail
            go_roundg m
            case measure => omega
            case rel => exact ⟨k2 + 1, j, by omega, by omega, by omega, rfl, by go_num, ⟨HX5.out⟩, ⟨HB5.out⟩⟩
           ·have t1 : decide ((b : Int) < (j : Int)) = false := by rw [decide_eq_false_iff_not]; omega
            go_wp2_with fail
            go_roundg m
            case measure => omega
            case rel => exact ⟨k2 + 1, b, by omega, by omega, by omega, rfl, by go_num, ⟨HX5.out⟩, ⟨HB5.out⟩⟩
     ·have t0 : decide ((k2 : Int) <= 9) = false := by rw [decide_eq_false_iff_not]; omega
      have r0 : wr.cell? ⟨w.heap.size, 0, none⟩ = some (.int .i64 0) := (blk_cell HX1.out 0).trans rfl
      have r1 : wr.cell? ⟨w.heap.size, 1, none⟩ = some (.slice none 0 0) := (blk_cell HX1.out 1).trans rfl
      have z0 : wr.frozen? ⟨w.heap.size, 0, none⟩ = false := blk_frozen HX1.out 0
      have z1 : wr.frozen? ⟨w.heap.size, 1, none⟩ = false := blk_frozen HX1.out 1
      go_wp2_with fail
      have HF := hid (res_put HX1.out (.int .i64 0) (.slice none 0 0)); have HBF := hid (below_put HB1.out (.int .i64 0) (.slice none 0 0))
      clear r0 r1 z0 z1
      generalize (wr.setCell ⟨w.heap.size, 0, none⟩ (.int .i64 0)).setCell ⟨w.heap.size, 1, none⟩ (.slice none 0 0) = WF at HF HBF ⊢
      exact bodyPost_ret (results_ctt (p := 6) (u := 7) (v := 8) (ty := 37) rfl _ _ w.heap.size 37 _ (0, 0) _ rfl HF.out Tryz.underlying37 rfl (by kernel_rfl)) rfl (scan_no HSF.out HBF.out)
set_option maxHeartbeats 2000000
set_option maxRecDepth 100000
/-- Is the whole text a type's? -/
def typeB (s : ByteArray) : Bool := match scanF 6 s 0 with
 | none => false
 | some q => decide (s.size <= q)
def TypePost (s : ByteArray) (w : World) (e : Ending) (w' : World) : Prop :=
 (∃ (kd : Int) (A : Option Addr) (n c : Nat) (at_ : Int), e = .returned (.tuple #[.agg #[.int .i64 kd, .slice A n c], .int .i64 at_, .bool (typeB s)])) ∧ Below w.heap.size w w'
theorem type_post {s : ByteArray} {w W : World} {kd a : Int} {A : Option Addr} {n c : Nat} {b : Bool} (h : typeB s = b) (hb : Below w.heap.size w W) : TypePost s w (.returned (.tuple #[.agg #[.int .i64 kd, .slice A n c], .int .i64 a, .bool b])) W := by
 subst h
 exact ⟨⟨kd, A, n, c, a, rfl⟩, hb⟩
theorem type_any (s : ByteArray) (hs : s.size <= 1000000) (w : World) : Calls Tryz.prog 22 #[.string s] w (TypePost s w) := by
 have HX := hid (heap_alloc_new w (.cells #[.int .i64 0, .slice none 0 0] 37))
 have HB := hid (below_alloc (Below.refl w.heap.size w) (.cells #[.int .i64 0, .slice none 0 0] 37))
 have HK := hid (scan_any s hs 6 (by omega) (by omega) 0 (w.alloc (.cells #[.int .i64 0, .slice none 0 0] 37)) (Nat.zero_le _))
 have HT : Hid (∀ r, scanF 6 s 0 = r -> typeB s = match r with | none => false | some q => decide (s.size <= q)) := by
  intro r hr; subst hr; rfl
 go_enter Tryz.func22, Tryz.ntmps22
 go_wp2_with fail
 generalize w.alloc (.cells #[.int .i64 0, .slice none 0 0] 37) = W at *
 refine HK.out.mono ?_
 rintro e w2 ⟨⟨kd, A, n, c, at2, ok, l, rfl, hR, hok, hno⟩, hb⟩
 have HX2 := hid (blk_below HX.out hb); have HB2 := hid (HB.out.trans (hb.mono HB.out.size))
 have hz2 : w.heap.size < w2.heap.size := blk_lt HX2.out
 have r0 : w2.cell? ⟨w.heap.size, 0, none⟩ = some (.int .i64 0) := (blk_cell HX2.out 0).trans rfl
 have r1 : w2.cell? ⟨w.heap.size, 1, none⟩ = some (.slice none 0 0) := (blk_cell HX2.out 1).trans rfl
 have z0 : w2.frozen? ⟨w.heap.size, 0, none⟩ = false := blk_frozen HX2.out 0
 have z1 : w2.frozen? ⟨w.heap.size, 1, none⟩ = false := blk_frozen HX2.out 1
 cases ok with
 | false =>
  have HV := hid (HT.out none (hno rfl))
  clear hok hno hR hb
  go_wp2_with fail
  have HF := hid (blk_alloc (res_put HX2.out (.int .i64 0) (.slice none 0 0)) (.cells #[.int .i64 kd, .slice A n c] 37)); have HBF := hid (below_alloc (below_put HB2.out (.int .i64 0) (.slice none 0 0)) (.cells #[.int .i64 kd, .slice A n c] 37))
  clear r0 r1 z0 z1
  generalize ((w2.setCell ⟨w.heap.size, 0, none⟩ (.int .i64 0)).setCell ⟨w.heap.size, 1, none⟩ (.slice none 0 0)).alloc (.cells #[.int .i64 kd, .slice A n c] 37) = WF at HF HBF ⊢
  exact bodyPost_ret (results_ctt (p := 2) (u := 3) (v := 4) (ty := 37) rfl _ _ w.heap.size 37 _ (0, 0) _ rfl HF.out Tryz.underlying37 rfl (by kernel_rfl)) rfl (type_post HV.out HBF.out)
 | true =>
  obtain ⟨q, rfl, hq, hsc⟩ := hok rfl
  have HV := hid (HT.out (some q) hsc)
  clear hok hno hR hb hsc
  by_cases hlt : q < s.size
  ·have t0 : decide ((q : Int) < (s.size : Int)) = true := by rw [decide_eq_true_iff]; omega
   go_wp2_with fail
   have HF := hid (blk_alloc (res_put HX2.out (.int .i64 0) (.slice none 0 0)) (.cells #[.int .i64 kd, .slice A n c] 37)); have HBF := hid (below_alloc (below_put HB2.out (.int .i64 0) (.slice none 0 0)) (.cells #[.int .i64 kd, .slice A n c] 37))
   clear r0 r1 z0 z1
   generalize ((w2.setCell ⟨w.heap.size, 0, none⟩ (.int .i64 0)).setCell ⟨w.heap.size, 1, none⟩ (.slice none 0 0)).alloc (.cells #[.int .i64 kd, .slice A n c] 37) = WF at HF HBF ⊢
   exact bodyPost_ret (results_ctt (p := 2) (u := 3) (v := 4) (ty := 37) rfl _ _ w.heap.size 37 _ (0, 0) _ rfl HF.out Tryz.underlying37 rfl (by kernel_rfl)) rfl (type_post (HV.out.trans (by rw [decide_eq_false_iff_not]; omega)) HBF.out)
  ·have t0 : decide ((q : Int) < (s.size : Int)) = false := by rw [decide_eq_false_iff_not]; omega
   go_wp2_with fail
   have HF := hid (blk_alloc (res_put HX2.out (.int .i64 kd) (.slice A n c)) (.cells #[.int .i64 kd, .slice A n c] 37)); have HBF := hid (below_alloc (below_put HB2.out (.int .i64 kd) (.slice A n c)) (.cells #[.int .i64 kd, .slice A n c] 37))
   clear r0 r1 z0 z1
   generalize ((w2.setCell ⟨w.heap.size, 0, none⟩ (.int .i64 kd)).setCell ⟨w.heap.size, 1, none⟩ (.slice A n c)).alloc (.cells #[.int .i64 kd, .slice A n c] 37) = WF at HF HBF ⊢
   exact bodyPost_ret (results_ctt (p := 2) (u := 3) (v := 4) (ty := 37) rfl _ _ w.heap.size 37 _ (0, 0) _ rfl HF.out Tryz.underlying37 rfl (by kernel_rfl)) rfl (type_post (HV.out.trans (by rw [decide_eq_true_iff]; omega)) HBF.out)
end Go.Proofs.YtamfloegflejnaaGreatDoor
