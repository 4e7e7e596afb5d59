/-
 kind's check of a type: what it answers is what the type's tree says.
 graph's test of a node's text.
 graph's test of what a node reads from.
-/
import Derived.Test.YtamfloegflejnaaGreatDoorH1
import Derived.Test.YtamfloegflejnaaGreatDoorKB
import Derived.Deep.RegionHeld3
import Derived.Deep.QuietTactic
import Derived.BigQuiet
import Derived.Deep.LoopGhost
import Derived.Deep.CutRange
import Derived.Test.YtamfloegflejnaaGreatDoorShelf
import Derived.Laws.RangeString
import Derived.Laws.RangeAny
set_option linter.unusedVariables false
set_option linter.unusedSimpArgs false
set_option maxHeartbeats 1000000
set_option maxRecDepth 100000
namespace Go.Proofs.YtamfloegflejnaaGreatDoor
open Lib (hid)
open Go.RowKit Go.Proofs.YtamfloegflejnaaGreatDoorW.PrintWords Go.Proofs.YtamfloegflejnaaGreatDoorW.PrintLast Go.Proofs.YtamfloegflejnaaGreatDoorW.PrintMore PGraphLines
def wargs (k : Int) : Int := if k = 6 then 2 else if k = 7 then 1 else if k = 9 then 1 else 0
/-- A type is right, and not deeper than this. -/
def rightT : Nat -> S59 -> Bool
 | 0, _ => false
 | d + 1, t => decide (0 <= widx t.f0) && ((t.f1.length : Int) == wargs t.f0) && t.f1.all (rightT d)
theorem widx_cases (k : Int) : widx k = -1 ∨ ∃ i : Nat, i < 8 ∧ widx k = i ∧ wordCells[3 * i + 2]? = some (.int .i64 (wargs k)) := by
 by_cases h : k = 1 ∨ k = 2 ∨ k = 3 ∨ k = 4 ∨ k = 5 ∨ k = 6 ∨ k = 7 ∨ k = 9
 ·right
  rcases h with rfl | rfl | rfl | rfl | rfl | rfl | rfl | rfl
  ·exact ⟨0, by decide, rfl, rfl⟩
  ·exact ⟨1, by decide, rfl, rfl⟩
  ·exact ⟨2, by decide, rfl, rfl⟩
  ·exact ⟨3, by decide, rfl, rfl⟩
  ·exact ⟨4, by decide, rfl, rfl⟩
  ·exact ⟨5, by decide, rfl, rfl⟩
  ·exact ⟨6, by decide, rfl, rfl⟩
  ·exact ⟨7, by decide, rfl, rfl⟩
 ·left
  unfold widx
  simp only [not_or] at h
  obtain ⟨h1, h2, h3, h4, h5, h6, h7, h8⟩ := h
  rw [if_neg h1, if_neg h2, if_neg h3, if_neg h4, if_neg h5, if_neg h6, if_neg h7, if_neg h8]
/-- What right says of every type of a row, in every world that leaves the row. -/
def RightDoes (d : Nat) : Prop := ∀ (t : S59) (A : Option Addr) (c : Nat) (w : World), d <= 6 -> t.f1.length <= c -> k59.C w A t.f1.length t.f1 →
  Calls Tryz.prog 86 #[.agg #[.int .i64 t.f0, .slice A t.f1.length c], .int .i64 d] w fun e w' => e = .returned (.bool (rightT d t)) ∧ Below w.heap.size w w'
theorem not_right (d : Nat) (hd : d <= 6) (IH : RightDoes d) (t : S59) (A : Option Addr) (c D : Nat) (w : World) (hc : t.f1.length <= c) (hC : k59.C w A t.f1.length t.f1) (hD : w.cell? ⟨D, 0, none⟩ = some (.int .i64 ((d : Int) + 1))) (hDs : D < w.heap.size) :
  Calls Tryz.prog 107 #[.agg #[.int .i64 t.f0, .slice A t.f1.length c], .pointer (some ⟨D, 0, none⟩)] w fun e w' => e = .returned (.bool (!rightT d t)) ∧ Below w.heap.size w w' := by
 have hb := Below.alloc (Below.refl w.heap.size w) (Nat.le_refl _) (.cells #[.int .i64 t.f0, .slice A t.f1.length c] 59)
 have HI := hid (IH t A c _ hd hc (Kd.C_below hC hb))
 have hD2 := (hb.cell (p := ⟨D, 0, none⟩) hDs).trans hD
 have HB := hid hb
 have hdi : wrap64 ((d : Int) + 1 - 1) = d := by unfold wrap64; omega
 clear hb hC hD
 go_enter Tryz.func107, Tryz.ntmps107
 go_wp2_with fail
 refine HI.out.mono ?_
 rintro e w1 ⟨rfl, hb1⟩
 have HB1 := hid (HB.out.trans (hb1.mono HB.out.size))
 clear hb1
 go_wp2_with fail
 exact bodyPost_ret (v := .bool (!rightT d t)) (by simp [results, Tryz.results107, go_sem]) rfl ⟨rfl, HB1.out⟩
theorem index_type (d : Nat) (hd : d <= 6) (IH : RightDoes d) (xs : List S59) (A : Option Addr) (c D : Nat) (w : World) (hc : xs.length <= c) (hn : xs.length <= 1000000) (hC : k59.C w A xs.length xs) (hD : w.cell? ⟨D, 0, none⟩ = some (.int .i64 ((d : Int) + 1))) (hDs : D < w.heap.size) :
  Calls Tryz.prog 122 #[.slice A xs.length c, .func (.func 107) #[] #[.pointer (some ⟨D, 0, none⟩)]] w fun e w' => (∃ r : Int, e = .returned (.int .i64 r) ∧ decide (0 <= r) = !xs.all (rightT d)) ∧ Below w.heap.size w w' := by
 have HB := hid (Below.refl w.heap.size w)
 have HC := hid hC; have HD := hid hD
 clear hC hD
 go_enter Tryz.func122, Tryz.ntmps122
 go_wp2_with fail
 go_loopg [8] xs.length (fun n i wr => ∃ k : Nat, n + k = xs.length ∧ i = .int .i64 k ∧ Aside0 ((xs.take k).all (rightT d) = true) ∧ Aside0 (Below w.heap.size w wr))
 case atStart => exact ⟨0, by omega, rfl, ⟨by simp⟩, ⟨HB.out⟩⟩
 case round =>
  obtain ⟨k, hk, rfl, ⟨hall⟩, ⟨hB⟩⟩ := hrel
  have HK := hid hall; have HBK := hid hB
  clear hall hB
  by_cases hlt : k < xs.length
  ·obtain ⟨m, rfl⟩ : ∃ m, gk = m + 1 := ⟨gk - 1, by omega⟩
   have hCk := Kd.C_below HC.out HBK.out
   obtain ⟨ad, A1, c1, rfl, e0, e1, hc1, hC1⟩ := at_T59 hCk (k : Int) (by omega) (by omega)
   have hrd : rd_T59 xs (k : Int) = xs[k] := by simp [rd_T59, List.getD, List.getElem?_eq_getElem hlt]
   rw [hrd] at e0 e1 hc1 hC1
   obtain ⟨x, hx⟩ : ∃ x, x = xs[k] := ⟨_, rfl⟩
   rw [<- hx] at e0 e1 hc1 hC1
   rw [Int.toNat_natCast] at e0 e1
   have hsucc : (xs.take (k + 1)).all (rightT d) = ((xs.take k).all (rightT d) && rightT d x) := by
    rw [List.take_succ_eq_append_getElem hlt, List.all_append, <- hx]; simp
   have hmem : xs.all (rightT d) = true -> rightT d x = true := fun h => List.all_eq_true.1 h x (by rw [hx]; exact List.getElem_mem hlt)
   have SU := hid hsucc; have ME := hid hmem
   have HC1 := hid hC1
   have hDk := (HBK.out.cell (p := ⟨D, 0, none⟩) hDs).trans HD.out
   have HDK := hid hDk
   have hDsk : D < wr.heap.size := Nat.lt_of_lt_of_le hDs HBK.out.size
   clear hsucc hmem hrd hx hCk hC1 hDk
   go_wp2_with fail
   refine (not_right d hd IH x A1 c1 D wr hc1 HC1.out HDK.out hDsk).mono ?_
   rintro e w2 ⟨rfl, hb2⟩
   have HB2 := hid (HBK.out.trans (hb2.mono HBK.out.size))
   clear hb2 e0 e1
   cases hr : rightT d x with
   | true =>
    have HR := hid hr
    clear hr
    go_wp2_with fail
    go_roundg m
    case measure => omega
    case rel => exact ⟨k + 1, by omega, by go_num, ⟨by rw [SU.out, HK.out, HR.out]; rfl⟩, ⟨HB2.out⟩⟩
   | false =>
    have HR := hid hr
    clear hr
    go_wp2_with fail
    refine bodyPost_ret (v := .int .i64 k) (by simp [results, Tryz.results122, go_sem]) rfl ⟨⟨k, rfl, ?_⟩, HB2.out⟩
    have : xs.all (rightT d) = false := by
     cases h : xs.all (rightT d) with
     | false => rfl
     | true => have := ME.out h; rw [HR.out] at this; cases this
    rw [this]; simp
  ·obtain rfl : k = xs.length := by omega
   go_wp2_with fail
   refine bodyPost_ret (v := .int .i64 (-1)) (by simp [results, Tryz.results122, go_sem]) rfl ⟨⟨-1, rfl, ?_⟩, HBK.out⟩
   have := HK.out
   rw [List.take_length] at this
   rw [this]; rfl
theorem any_type (d : Nat) (hd : d <= 6) (IH : RightDoes d) (xs : List S59) (A : Option Addr) (c D : Nat) (w : World) (hc : xs.length <= c) (hn : xs.length <= 1000000) (hC : k59.C w A xs.length xs) (hD : w.cell? ⟨D, 0, none⟩ = some (.int .i64 ((d : Int) + 1))) (hDs : D < w.heap.size) :
  Calls Tryz.prog 106 #[.slice A xs.length c, .func (.func 107) #[] #[.pointer (some ⟨D, 0, none⟩)]] w fun e w' => e = .returned (.bool (!xs.all (rightT d))) ∧ Below w.heap.size w w' := by
 have HX := hid (index_type d hd IH xs A c D w hc hn hC hD hDs)
 clear hC hD
 go_enter Tryz.func106, Tryz.ntmps106
 go_wp2_with fail
 refine HX.out.mono ?_
 rintro e w1 ⟨⟨r, rfl, hr⟩, hb1⟩
 have HB1 := hid hb1; have HR := hid hr
 clear hb1 hr
 go_wp2_with fail
 refine bodyPost_ret (v := .bool (decide (0 <= r))) (by simp [results, Tryz.results106, go_sem]) rfl ⟨by rw [HR.out], HB1.out⟩
theorem wargs_le (k : Int) : wargs k <= 2 := by
 unfold wargs
 repeat' split
 all_goals decide
theorem right_any (d : Nat) : ∀ (t : S59) (A : Option Addr) (c : Nat) (w : World), d <= 6 -> t.f1.length <= c -> k59.C w A t.f1.length t.f1 →
  Calls Tryz.prog 86 #[.agg #[.int .i64 t.f0, .slice A t.f1.length c], .int .i64 d] w fun e w' => e = .returned (.bool (rightT d t)) ∧ Below w.heap.size w w' := by
 induction d with
 | zero =>
  intro t A c w hd hc hC
  obtain ⟨kind, xs⟩ := t
  dsimp only at hc hC ⊢
  have HC := hid hC
  clear hC
  go_enter Tryz.func86, Tryz.ntmps86
  go_wp2_with fail
  refine (words_any _).mono ?_
  rintro e w1 ⟨rfl, rfl⟩
  go_wp2_with fail
  refine (index_word kind (w.heap.size + 1 + 1) w.heap.size _ (by simpa using heap_alloc_new ((w.alloc (.cells #[.int .i64 kind, .slice A xs.length c] 59)).alloc (.cells #[.int .i64 0] 3)) (.cells wordCells 135)) ?_ (by simp; omega)).mono ?_
  ·refine (blk_cell (blk_alloc (blk_alloc (heap_alloc_new w (.cells #[.int .i64 kind, .slice A xs.length c] 59)) _) _) 0).trans rfl
  rintro e V ⟨rfl, hb⟩
  have hT0 := blk_alloc (blk_alloc (heap_alloc_new w (.cells #[.int .i64 kind, .slice A xs.length c] 59)) (.cells #[.int .i64 0] 3)) (.cells wordCells 135)
  have hD0 := blk_alloc (heap_alloc_new (w.alloc (.cells #[.int .i64 kind, .slice A xs.length c] 59)) (.cells #[.int .i64 0] 3)) (.cells wordCells 135)
  have HT := hid ((hb.block _ (blk_lt hT0)).trans hT0)
  have hD1 := (hb.block _ (blk_lt hD0)).trans hD0
  rw [World.size_alloc] at hD1
  have HD := hid hD1
  have HB := hid ((below_alloc (below_alloc (below_alloc (Below.refl w.heap.size w) _) _) _).trans (hb.mono (by simp; omega)))
  clear hb hT0 hD0 hD1
  have hd0 : decide ((0 : Int) < 1) = true := rfl
  have c0 : V.cell? ⟨w.heap.size + 1, 0, none⟩ = some (.int .i64 0) := (blk_cell HD.out 0).trans rfl
  rcases widx_cases kind with hw | ⟨i, hi, hw, hat⟩
  ·rw [hw]
   clear hw
   go_wp2_with fail
   first | go_quiet (fail) | skip
   go_wp2_with fail
   exact bodyPost_ret (v := .bool false) (by simp [results, Tryz.results86, go_sem]) rfl ⟨rfl, by first | exact HB.out | exact below_drewN HB.out _ | exact pw_below_drewN HB.out _⟩
  ·rw [hw]
   clear hw hat
   have hi0 : decide ((i : Int) < 0) = false := by rw [decide_eq_false_iff_not]; omega
   go_wp2_with fail
   first | go_quiet (fail) | skip
   go_wp2_with fail
   exact bodyPost_ret (v := .bool false) (by simp [results, Tryz.results86, go_sem]) rfl ⟨rfl, by first | exact HB.out | exact below_drewN HB.out _ | exact pw_below_drewN HB.out _⟩
 | succ d ih =>
  intro t A c w hd hc hC
  obtain ⟨kind, xs⟩ := t
  dsimp only at hc hC ⊢
  have HC := hid hC
  clear hC
  have IH := hid ih
  clear ih
  go_enter Tryz.func86, Tryz.ntmps86
  go_wp2_with fail
  refine (words_any _).mono ?_
  rintro e w1 ⟨rfl, rfl⟩
  go_wp2_with fail
  refine (index_word kind (w.heap.size + 1 + 1) w.heap.size _ (by simpa using heap_alloc_new ((w.alloc (.cells #[.int .i64 kind, .slice A xs.length c] 59)).alloc (.cells #[.int .i64 ((d : Int) + 1)] 3)) (.cells wordCells 135)) ?_ (by simp; omega)).mono ?_
  ·refine (blk_cell (blk_alloc (blk_alloc (heap_alloc_new w (.cells #[.int .i64 kind, .slice A xs.length c] 59)) _) _) 0).trans rfl
  rintro e V ⟨rfl, hb⟩
  have hT0 := blk_alloc (blk_alloc (heap_alloc_new w (.cells #[.int .i64 kind, .slice A xs.length c] 59)) (.cells #[.int .i64 ((d : Int) + 1)] 3)) (.cells wordCells 135)
  have hD0 := blk_alloc (heap_alloc_new (w.alloc (.cells #[.int .i64 kind, .slice A xs.length c] 59)) (.cells #[.int .i64 ((d : Int) + 1)] 3)) (.cells wordCells 135)
  have HT := hid ((hb.block _ (blk_lt hT0)).trans hT0)
  have hD1 := (hb.block _ (blk_lt hD0)).trans hD0
  rw [World.size_alloc] at hD1
  have HD := hid hD1
  have HB := hid ((below_alloc (below_alloc (below_alloc (Below.refl w.heap.size w) _) _) _).trans (hb.mono (by simp; omega)))
  clear hb hT0 hD0 hD1
  have hd0 : decide ((d : Int) + 1 < 1) = false := by rw [decide_eq_false_iff_not]; omega
  rcases widx_cases kind with hw | ⟨i, hi, hw, hat⟩
  ·have HW := hid hw
   rw [hw]
   clear hw
   have c0 : V.cell? ⟨w.heap.size + 1, 0, none⟩ = some (.int .i64 ((d : Int) + 1)) := (blk_cell HD.out 0).trans rfl
   go_wp2_with fail
   first | go_quiet (fail) | skip
   go_wp2_with fail
   exact bodyPost_ret (v := .bool false) (by simp [results, Tryz.results86, go_sem]) rfl ⟨by unfold rightT; rw [HW.out]; rfl, by first | exact HB.out | exact below_drewN HB.out _ | exact pw_below_drewN HB.out _⟩
  ·have HW := hid hw
   rw [hw]
   clear hw
   have HAT := hid hat
   clear hat
   have hi0 : decide ((i : Int) < 0) = false := by rw [decide_eq_false_iff_not]; omega
   have hi8 : (i : Int) < 8 := by omega
   by_cases hlen : (xs.length : Int) = wargs kind
   ·have LE := hid hlen
    have hl1 : ((xs.length : Int) == wargs kind) = true := by rw [beq_iff_eq]; exact hlen
    have hl2 : ((xs.length : Int) != wargs kind) = false := by simp [hlen]
    clear hlen
    go_upto_region 2 with fail
    refine start_ (n := 17) (S := fun w' => w'.cell? ⟨w.heap.size, 1, none⟩ = some (.slice A xs.length c) ∧ w'.cell? ⟨w.heap.size + 1, 0, none⟩ = some (.int .i64 ((d : Int) + 1))) (ds := []) (bts 17 0) (by kernel_rfl) rfl rfl ⟨(blk_cell (w := V.drew) HT.out 1).trans rfl, (blk_cell (w := V.drew) HD.out 0).trans rfl⟩ (fun hHeld => ?_)
    have HTd : Hid (V.drew.heap[w.heap.size]? = some (.cells #[.int .i64 kind, .slice A xs.length c] 59 (0, 0))) := HT.out
    have HDd : Hid (V.drew.heap[w.heap.size + 1]? = some (.cells #[.int .i64 ((d : Int) + 1)] 3 (0, 0))) := HD.out
    have HBd := hid (Below.drew HB.out)
    clear HT HD HB
    generalize V.drew = Vd at HTd HDd HBd hHeld ⊢
    refine pure_ (i := 0) (N := some 9) (bts 17 1) rfl rfl (by kernel_rfl) (fun _ _ _ h => h) (Or.inl ⟨by rfl, by intro w'; go_simp; with_reducible rfl⟩) (by simp only [Act.put, pq1, pq2, pq3, i64_w, i32_w]; rfl) ?_
    refine pure_ (i := 1) (N := some 10) (bts 17 3) rfl rfl (by kernel_rfl) (fun _ _ _ h => h) (Or.inl ⟨by rfl, by intro w'; go_simp; with_reducible rfl⟩) (by simp only [Act.put, pq1, pq2, pq3, i64_w, i32_w]; rfl) ?_
    refine pure_ (i := 2) (N := some 11) (bts 17 7) rfl rfl (by kernel_rfl) (fun _ _ _ h => h) (Or.inl ⟨by rfl, by intro w'; go_simp; with_reducible rfl⟩) (by simp only [Act.put, pq1, pq2, pq3, i64_w, i32_w]; rfl) ?_
    refine take_ (i := 3) (N := some 12) (bts 17 15) rfl rfl (by kernel_rfl) (fun _ _ _ h => h) (Or.inl ⟨by rfl, by intro w' hSw; (try dsimp only at hSw); go_simp; with_reducible rfl⟩) (by assumption) (by simp only [Act.put, pq1, pq2, pq3, i64_w, i32_w]; rfl) ?_
    refine pure_ (i := 4) (N := some 13) (bts 17 31) rfl rfl (by kernel_rfl) (fun _ _ _ h => h) (Or.inl ⟨by rfl, by intro w'; go_simp; with_reducible rfl⟩) (by simp only [Act.put, pq1, pq2, pq3, i64_w, i32_w]; rfl) ?_
    refine pure_ (i := 5) (N := some 14) (bts 17 63) rfl rfl (by kernel_rfl) (fun _ _ _ h => h) (Or.inl ⟨by rfl, by intro w'; go_simp; with_reducible rfl⟩) (by simp only [Act.put, pq1, pq2, pq3, i64_w, i32_w]; rfl) ?_
    refine pure_ (i := 6) (N := some 15) (bts 17 127) rfl rfl (by kernel_rfl) (fun _ _ _ h => h) (Or.inl ⟨by rfl, by intro w'; go_simp; with_reducible rfl⟩) (by simp only [Act.put, pq1, pq2, pq3, i64_w, i32_w]; rfl) ?_
    refine pure_ (i := 7) (N := some 16) (bts 17 255) rfl rfl (by kernel_rfl) (fun _ _ _ h => h) (Or.inl ⟨by rfl, by intro w'; go_simp; with_reducible rfl⟩) (by simp only [Act.put, pq1, pq2, pq3, i64_w, i32_w]; rfl) ?_
    refine take_ (i := 8) (N := some 17) (bts 17 511) rfl rfl (by kernel_rfl) (fun _ _ _ h => h) (Or.inl ⟨by rfl, by intro w' hSw; (try dsimp only at hSw); go_simp; with_reducible rfl⟩) (by assumption) (by simp only [Act.put, pq1, pq2, pq3, i64_w, i32_w]; rfl) ?_
    refine pure_ (i := 9) (N := some 18) (bts 17 1023) rfl rfl (by kernel_rfl) (fun _ _ _ h => h) (Or.inl ⟨by rfl, by intro w'; go_simp; with_reducible rfl⟩) (by simp only [Act.put, pq1, pq2, pq3, i64_w, i32_w]; rfl) ?_
    refine pure_ (i := 11) (N := some 20) (bts 17 3071) rfl rfl (by kernel_rfl) (fun _ _ _ h => h) (Or.inl ⟨by rfl, by intro w'; go_simp; with_reducible rfl⟩) (by simp only [Act.put, pq1, pq2, pq3, i64_w, i32_w]; rfl) ?_
    refine one_ (i := 10) (N := some 19) (bts 17 4095) rfl rfl (by kernel_rfl) (by decide) (fun K hK => ?_)
    refine goes_ Tryz.func89 (by kernel_rfl) rfl #[] (by rfl) rfl rfl (by (try simp only [List.map_toArray, List.map_cons, List.map_nil]); first | done | rfl) ?_
    refine (words_any Vd).mono ?_
    rintro e V2 ⟨rfl, hV2⟩
    refine ⟨_, rfl, ?_⟩
    have HG2 : Hid (V2.heap[Vd.heap.size]? = some (.cells wordCells 135 (0, 0))) := by rw [hV2]; exact heap_alloc_new Vd _
    have hbv : Below Vd.heap.size Vd V2 := by rw [hV2]; exact Below.alloc (Below.refl _ _) (Nat.le_refl _) _
    have HT2 := hid ((hbv.block _ (blk_lt HTd.out)).trans HTd.out)
    have HD2 := hid ((hbv.block _ (blk_lt HDd.out)).trans HDd.out)
    have HB2 := hid (HBd.out.trans (hbv.mono HBd.out.size))
    generalize Vd.heap.size = G at HG2 ⊢
    clear hV2 hbv HTd HDd HBd
    have hS2 : V2.cell? ⟨w.heap.size, 1, none⟩ = some (.slice A xs.length c) ∧ V2.cell? ⟨w.heap.size + 1, 0, none⟩ = some (.int .i64 ((d : Int) + 1)) := ⟨(blk_cell HT2.out 1).trans rfl, (blk_cell HD2.out 0).trans rfl⟩
    refine hK.out _ _ hS2 (fun hHeld => ?_)
    clear hK K
    refine norm_ (a' := ?_) ?_ ?_
    rotate_left
    ·show Act.put _ (some 19) _ = _
     simp only [Act.put, pq1, pq2, pq3, i64_w, i32_w]
     rfl
    refine pure_ (i := 12) (N := some 21) (bts 17 8191) rfl rfl (by kernel_rfl) (fun _ _ _ h => h) (Or.inl ⟨by rfl, by intro w'; go_simp; with_reducible rfl⟩) (by simp only [Act.put, pq1, pq2, pq3, i64_w, i32_w]; rfl) ?_
    refine pure_ (i := 13) (N := some 22) (bts 17 16383) rfl rfl (by kernel_rfl) (fun _ _ _ h => h) (Or.inl ⟨by rfl, by intro w'; go_simp; with_reducible rfl⟩) (by simp only [Act.put, pq1, pq2, pq3, i64_w, i32_w]; rfl) ?_
    have hc23 : V2.cell? ⟨G, i * 3 + 2, none⟩ = some (.int .i64 (wargs kind)) := (blk_cell HG2.out (i * 3 + 2)).trans (by rw [Nat.mul_comm]; exact HAT.out)
    refine one_ (i := 14) (N := some 23) (bts 17 32767) rfl rfl (by kernel_rfl) (by decide) (fun K hK => ?_)
    refine value_ (w1 := ?_) (v := ?_) (by rfl) rfl ?_ ?_
    rotate_left 2
    ·go_simp
     constructor
     ·rfl
     ·rfl
    refine hK.out _ _ hS2 (fun hHeld => ?_)
    clear hK K
    refine norm_ (a' := ?_) ?_ ?_
    rotate_left
    ·show Act.put _ (some 23) _ = _
     simp only [Act.put, pq1, pq2, pq3, i64_w, i32_w]
     rfl
    refine pure_ (i := 15) (N := some 24) (bts 17 65535) rfl rfl (by kernel_rfl) (fun _ _ _ h => h) (Or.inl ⟨by rfl, by intro w'; go_simp; with_reducible rfl⟩) (by simp only [Act.put, pq1, pq2, pq3, i64_w, i32_w]; rfl) ?_
    refine pure_ (i := 16) (N := some 25) (bts 17 131071) rfl rfl (by kernel_rfl) (fun _ _ _ h => h) (Or.inl ⟨by rfl, by intro w'; go_simp; with_reducible rfl⟩) (by simp only [Act.put, pq1, pq2, pq3, i64_w, i32_w]; rfl) ?_
    refine done_ (by kernel_rfl) ?_
    clear hc23 hS2 hHeld
    clear hl1 hl2
    have t1 : V2.cell? ⟨w.heap.size, 1, none⟩ = some (.slice A xs.length c) := (blk_cell HT2.out 1).trans rfl
    go_wp2_with fail
    have hn2 : xs.length <= 1000000 := by have h1 := LE.out; have h2 := wargs_le kind; omega
    refine (any_type d (by omega) IH.out xs A c (w.heap.size + 1) V2 hc hn2 (Kd.C_below HC.out HB2.out) ((blk_cell HD2.out 0).trans rfl) (blk_lt HD2.out)).mono ?_
    rintro e V3 ⟨rfl, hb3⟩
    have HB3 := hid (HB2.out.trans (hb3.mono HB2.out.size))
    clear hb3
    go_wp2_with fail
    exact bodyPost_ret (v := .bool (xs.all (rightT d))) (by simp [results, Tryz.results86, go_sem]) rfl ⟨by unfold rightT; rw [HW.out]; simp [LE.out], HB3.out⟩
   ·have LE := hid hlen
    have hl1 : ((xs.length : Int) == wargs kind) = false := by rw [beq_eq_false_iff_ne]; exact hlen
    have hl2 : ((xs.length : Int) != wargs kind) = true := by simp [hlen]
    clear hlen
    go_upto_region 2 with fail
    refine start_ (n := 17) (S := fun w' => w'.cell? ⟨w.heap.size, 1, none⟩ = some (.slice A xs.length c) ∧ w'.cell? ⟨w.heap.size + 1, 0, none⟩ = some (.int .i64 ((d : Int) + 1))) (ds := []) (bts 17 0) (by kernel_rfl) rfl rfl ⟨(blk_cell (w := V.drew) HT.out 1).trans rfl, (blk_cell (w := V.drew) HD.out 0).trans rfl⟩ (fun hHeld => ?_)
    have HTd : Hid (V.drew.heap[w.heap.size]? = some (.cells #[.int .i64 kind, .slice A xs.length c] 59 (0, 0))) := HT.out
    have HDd : Hid (V.drew.heap[w.heap.size + 1]? = some (.cells #[.int .i64 ((d : Int) + 1)] 3 (0, 0))) := HD.out
    have HBd := hid (Below.drew HB.out)
    clear HT HD HB
    generalize V.drew = Vd at HTd HDd HBd hHeld ⊢
    refine pure_ (i := 0) (N := some 9) (bts 17 1) rfl rfl (by kernel_rfl) (fun _ _ _ h => h) (Or.inl ⟨by rfl, by intro w'; go_simp; with_reducible rfl⟩) (by simp only [Act.put, pq1, pq2, pq3, i64_w, i32_w]; rfl) ?_
    refine pure_ (i := 1) (N := some 10) (bts 17 3) rfl rfl (by kernel_rfl) (fun _ _ _ h => h) (Or.inl ⟨by rfl, by intro w'; go_simp; with_reducible rfl⟩) (by simp only [Act.put, pq1, pq2, pq3, i64_w, i32_w]; rfl) ?_
    refine pure_ (i := 2) (N := some 11) (bts 17 7) rfl rfl (by kernel_rfl) (fun _ _ _ h => h) (Or.inl ⟨by rfl, by intro w'; go_simp; with_reducible rfl⟩) (by simp only [Act.put, pq1, pq2, pq3, i64_w, i32_w]; rfl) ?_
    refine take_ (i := 3) (N := some 12) (bts 17 15) rfl rfl (by kernel_rfl) (fun _ _ _ h => h) (Or.inl ⟨by rfl, by intro w' hSw; (try dsimp only at hSw); go_simp; with_reducible rfl⟩) (by assumption) (by simp only [Act.put, pq1, pq2, pq3, i64_w, i32_w]; rfl) ?_
    refine pure_ (i := 4) (N := some 13) (bts 17 31) rfl rfl (by kernel_rfl) (fun _ _ _ h => h) (Or.inl ⟨by rfl, by intro w'; go_simp; with_reducible rfl⟩) (by simp only [Act.put, pq1, pq2, pq3, i64_w, i32_w]; rfl) ?_
    refine pure_ (i := 5) (N := some 14) (bts 17 63) rfl rfl (by kernel_rfl) (fun _ _ _ h => h) (Or.inl ⟨by rfl, by intro w'; go_simp; with_reducible rfl⟩) (by simp only [Act.put, pq1, pq2, pq3, i64_w, i32_w]; rfl) ?_
    refine pure_ (i := 6) (N := some 15) (bts 17 127) rfl rfl (by kernel_rfl) (fun _ _ _ h => h) (Or.inl ⟨by rfl, by intro w'; go_simp; with_reducible rfl⟩) (by simp only [Act.put, pq1, pq2, pq3, i64_w, i32_w]; rfl) ?_
    refine pure_ (i := 7) (N := some 16) (bts 17 255) rfl rfl (by kernel_rfl) (fun _ _ _ h => h) (Or.inl ⟨by rfl, by intro w'; go_simp; with_reducible rfl⟩) (by simp only [Act.put, pq1, pq2, pq3, i64_w, i32_w]; rfl) ?_
    refine take_ (i := 8) (N := some 17) (bts 17 511) rfl rfl (by kernel_rfl) (fun _ _ _ h => h) (Or.inl ⟨by rfl, by intro w' hSw; (try dsimp only at hSw); go_simp; with_reducible rfl⟩) (by assumption) (by simp only [Act.put, pq1, pq2, pq3, i64_w, i32_w]; rfl) ?_
    refine pure_ (i := 9) (N := some 18) (bts 17 1023) rfl rfl (by kernel_rfl) (fun _ _ _ h => h) (Or.inl ⟨by rfl, by intro w'; go_simp; with_reducible rfl⟩) (by simp only [Act.put, pq1, pq2, pq3, i64_w, i32_w]; rfl) ?_
    refine pure_ (i := 11) (N := some 20) (bts 17 3071) rfl rfl (by kernel_rfl) (fun _ _ _ h => h) (Or.inl ⟨by rfl, by intro w'; go_simp; with_reducible rfl⟩) (by simp only [Act.put, pq1, pq2, pq3, i64_w, i32_w]; rfl) ?_
    refine one_ (i := 10) (N := some 19) (bts 17 4095) rfl rfl (by kernel_rfl) (by decide) (fun K hK => ?_)
    refine goes_ Tryz.func89 (by kernel_rfl) rfl #[] (by rfl) rfl rfl (by (try simp only [List.map_toArray, List.map_cons, List.map_nil]); first | done | rfl) ?_
    refine (words_any Vd).mono ?_
    rintro e V2 ⟨rfl, hV2⟩
    refine ⟨_, rfl, ?_⟩
    have HG2 : Hid (V2.heap[Vd.heap.size]? = some (.cells wordCells 135 (0, 0))) := by rw [hV2]; exact heap_alloc_new Vd _
    have hbv : Below Vd.heap.size Vd V2 := by rw [hV2]; exact Below.alloc (Below.refl _ _) (Nat.le_refl _) _
    have HT2 := hid ((hbv.block _ (blk_lt HTd.out)).trans HTd.out)
    have HD2 := hid ((hbv.block _ (blk_lt HDd.out)).trans HDd.out)
    have HB2 := hid (HBd.out.trans (hbv.mono HBd.out.size))
    generalize Vd.heap.size = G at HG2 ⊢
    clear hV2 hbv HTd HDd HBd
    have hS2 : V2.cell? ⟨w.heap.size, 1, none⟩ = some (.slice A xs.length c) ∧ V2.cell? ⟨w.heap.size + 1, 0, none⟩ = some (.int .i64 ((d : Int) + 1)) := ⟨(blk_cell HT2.out 1).trans rfl, (blk_cell HD2.out 0).trans rfl⟩
    refine hK.out _ _ hS2 (fun hHeld => ?_)
    clear hK K
    refine norm_ (a' := ?_) ?_ ?_
    rotate_left
    ·show Act.put _ (some 19) _ = _
     simp only [Act.put, pq1, pq2, pq3, i64_w, i32_w]
     rfl
    refine pure_ (i := 12) (N := some 21) (bts 17 8191) rfl rfl (by kernel_rfl) (fun _ _ _ h => h) (Or.inl ⟨by rfl, by intro w'; go_simp; with_reducible rfl⟩) (by simp only [Act.put, pq1, pq2, pq3, i64_w, i32_w]; rfl) ?_
    refine pure_ (i := 13) (N := some 22) (bts 17 16383) rfl rfl (by kernel_rfl) (fun _ _ _ h => h) (Or.inl ⟨by rfl, by intro w'; go_simp; with_reducible rfl⟩) (by simp only [Act.put, pq1, pq2, pq3, i64_w, i32_w]; rfl) ?_
    have hc23 : V2.cell? ⟨G, i * 3 + 2, none⟩ = some (.int .i64 (wargs kind)) := (blk_cell HG2.out (i * 3 + 2)).trans (by rw [Nat.mul_comm]; exact HAT.out)
    refine one_ (i := 14) (N := some 23) (bts 17 32767) rfl rfl (by kernel_rfl) (by decide) (fun K hK => ?_)
    refine value_ (w1 := ?_) (v := ?_) (by rfl) rfl ?_ ?_
    rotate_left 2
    ·go_simp
     constructor
     ·rfl
     ·rfl
    refine hK.out _ _ hS2 (fun hHeld => ?_)
    clear hK K
    refine norm_ (a' := ?_) ?_ ?_
    rotate_left
    ·show Act.put _ (some 23) _ = _
     simp only [Act.put, pq1, pq2, pq3, i64_w, i32_w]
     rfl
    refine pure_ (i := 15) (N := some 24) (bts 17 65535) rfl rfl (by kernel_rfl) (fun _ _ _ h => h) (Or.inl ⟨by rfl, by intro w'; go_simp; with_reducible rfl⟩) (by simp only [Act.put, pq1, pq2, pq3, i64_w, i32_w]; rfl) ?_
    refine pure_ (i := 16) (N := some 25) (bts 17 131071) rfl rfl (by kernel_rfl) (fun _ _ _ h => h) (Or.inl ⟨by rfl, by intro w'; go_simp; with_reducible rfl⟩) (by simp only [Act.put, pq1, pq2, pq3, i64_w, i32_w]; rfl) ?_
    refine done_ (by kernel_rfl) ?_
    clear hc23 hS2 hHeld
    clear hl1 hl2
    go_wp2_with fail
    exact bodyPost_ret (v := .bool false) (by simp [results, Tryz.results86, go_sem]) rfl ⟨by unfold rightT; simp [LE.out], HB2.out⟩
theorem check_any (t : S59) (A : Option Addr) (c : Nat) (w : World) (hc : t.f1.length <= c) (hC : k59.C w A t.f1.length t.f1) :
  Calls Tryz.prog 66 #[.agg #[.int .i64 t.f0, .slice A t.f1.length c]] w fun e w' => e = .returned (.int .i64 (if rightT 6 t = true then 0 else 20)) ∧ Below w.heap.size w w' := by
 have hb := Below.alloc (Below.refl w.heap.size w) (Nat.le_refl _) (.cells #[.int .i64 t.f0, .slice A t.f1.length c] 59)
 have HI := hid (right_any 6 t A c _ (by decide) hc (Kd.C_below hC hb))
 have HB := hid hb
 clear hb hC
 cases hr : rightT 6 t with
 | true =>
  rw [hr] at HI
  go_enter Tryz.func66, Tryz.ntmps66
  go_wp2_with fail
  refine HI.out.mono ?_
  rintro e w1 ⟨rfl, hb1⟩
  have HB1 := hid (HB.out.trans (hb1.mono HB.out.size))
  clear hb1
  go_wp2_with fail
  exact bodyPost_ret (v := .int .i64 0) (by simp [results, Tryz.results66, go_sem]) rfl ⟨rfl, HB1.out⟩
 | false =>
  rw [hr] at HI
  go_enter Tryz.func66, Tryz.ntmps66
  go_wp2_with fail
  refine HI.out.mono ?_
  rintro e w1 ⟨rfl, hb1⟩
  have HB1 := hid (HB.out.trans (hb1.mono HB.out.size))
  clear hb1
  go_wp2_with fail
  exact bodyPost_ret (v := .int .i64 20) (by simp [results, Tryz.results66, go_sem]) rfl ⟨rfl, HB1.out⟩
set_option maxHeartbeats 1000000
set_option maxRecDepth 100000
def badRune (r : Nat) : Bool := decide ((r : Int) < 32) || decide ((126 : Int) < (r : Int))
/-- A node's text: its bytes from 32 to 126, and as many as may be. -/
def textB (s : ByteArray) : Bool := decide (1 <= s.size) && decide (s.size <= 1000) && s.data.toList.all fun b => decide (32 <= b.toNat) && decide (b.toNat <= 126)
theorem idx_bad (s : ByteArray) : ∀ (f pos : Nat), s.size <= pos + f -> (0 <= Lib.idxFuncFrom badRune true s f pos ↔ ∃ j, pos <= j ∧ ∃ h : j < s.size, badRune (s[j]'h).toNat = true) := by
 intro f
 induction f with
 | zero =>
  intro pos hp
  have h1 : ¬ pos < s.size := by omega
  rw [Lib.idxFuncFrom_end _ _ _ _ _ h1]
  constructor
  ·intro h; omega
  ·rintro ⟨j, h2, h3, _⟩; omega
 | succ f ih =>
  intro pos hp
  unfold Lib.idxFuncFrom
  by_cases hlt : pos < s.size
  ·rw [if_pos hlt]
   by_cases ha : (s[pos]'hlt).toNat < 128
   ·rw [decode_ascii s pos hlt ha]
    dsimp only
    by_cases hb : badRune (s[pos]'hlt).toNat = true
    ·rw [if_pos hb]
     exact ⟨fun _ => ⟨pos, Nat.le_refl _, hlt, hb⟩, fun _ => by omega⟩
    ·rw [if_neg hb, ih (pos + 1) (by omega)]
     constructor
     ·rintro ⟨j, h1, h2, h3⟩; exact ⟨j, by omega, h2, h3⟩
     ·rintro ⟨j, h1, h2, h3⟩
      refine ⟨j, ?_, h2, h3⟩
      rcases Nat.lt_or_ge pos j with h | h
      ·omega
      ·obtain rfl : j = pos := by omega
       exact absurd h3 hb
   ·obtain ⟨h1, _⟩ := decode_high s pos hlt (by omega)
    have hb1 : badRune (Utf8.decode s pos).1 = true := by unfold badRune; simp; omega
    rw [if_pos hb1]
    exact ⟨fun _ => ⟨pos, Nat.le_refl _, hlt, by unfold badRune; simp; omega⟩, fun _ => by omega⟩
  ·rw [if_neg hlt]
   constructor
   ·intro h; omega
   ·rintro ⟨j, h2, h3, _⟩; omega
theorem idx_text (s : ByteArray) : (!decide (0 <= Lib.idxFunc badRune true s)) = s.data.toList.all fun b => decide (32 <= b.toNat) && decide (b.toNat <= 126) := by
 have h := idx_bad s s.size 0 (by omega)
 unfold Lib.idxFunc
 rw [Bool.eq_iff_iff]
 simp only [Bool.not_eq_true', decide_eq_false_iff_not, h, List.all_eq_true, Bool.and_eq_true, decide_eq_true_eq]
 constructor
 ·intro hn b hb
  obtain ⟨j, hj, rfl⟩ := List.mem_iff_getElem.1 hb
  have hjs : j < s.size := by simpa using hj
  have h2 : ¬ badRune (s[j]'hjs).toNat = true := fun hbad => hn ⟨j, Nat.zero_le _, hjs, hbad⟩
  have e : s.data.toList[j] = s[j]'hjs := by simp [ByteArray.getElem_eq_getElem_data]
  rw [e]
  unfold badRune at h2
  simp at h2
  omega
 ·rintro hall ⟨j, _, hjs, hbad⟩
  have := hall (s[j]'hjs) (by rw [ByteArray.getElem_eq_getElem_data]; simp)
  unfold badRune at hbad
  simp at hbad
  omega
theorem bad_rune (r : Nat) (w : World) : Calls Tryz.prog 84 #[.int .i32 (r : Int)] w fun e w' => e = .returned (.bool (badRune r)) ∧ w' = w := by
 unfold badRune
 go_enter Tryz.func84, Tryz.ntmps84
 go_wp2
 all_goals go_ret
 all_goals (refine ⟨?_, rfl⟩; simp only [Array.getD_eq_getD_getElem?, List.getElem?_toArray, List.getElem?_cons_succ, List.getElem?_cons_zero, Option.getD_some, Ending.returned.injEq, Value.bool.injEq]; first | done | (rw [Bool.eq_iff_iff]; first | (simp; done) | (simp; omega)))
theorem bad_at (w : World) : PredAt Tryz.prog 84 #[] encR badRune w := fun W x hb => (bad_rune x W).mono fun e w' ⟨he, hw⟩ => ⟨he, 0, by rw [hw]; rfl⟩
theorem text_any (s : ByteArray) (hs : s.size <= 1152921504606846976) (w : World) : Calls Tryz.prog 63 #[.string s] w fun e w' => e = .returned (.bool (textB s)) ∧ Below w.heap.size w w' := by
 by_cases h1 : 1 <= s.size
 ·by_cases h2 : s.size <= 1000
  ·have HX := hid (Tryz.strings_ContainsFunc 84 #[] (fun args w => by rfl) badRune s w (bad_at w))
   have hx := idx_text s
   have HT : Hid (textB s = !decide (0 <= Lib.idxFunc badRune true s)) := by unfold textB; rw [hx]; simp [h1, h2, Hid]
   clear hx
   generalize decide (0 <= Lib.idxFunc badRune true s) = q at HX HT
   have e1 : decide ((1 : Int) <= (s.size : Int)) = true := by rw [decide_eq_true_iff]; omega
   have e2 : decide ((s.size : Int) <= 1000) = true := by rw [decide_eq_true_iff]; omega
   go_enter Tryz.func63, Tryz.ntmps63
   go_wp2_with fail
   refine HX.out.mono ?_
   rintro e w1 ⟨rfl, hb1⟩
   have HB1 := hid hb1
   clear hb1
   go_wp2_with fail
   exact bodyPost_ret (v := .bool (!q)) (by simp [results, Tryz.results63, go_sem]) rfl ⟨by rw [HT.out], HB1.out⟩
  ·have e1 : decide ((1 : Int) <= (s.size : Int)) = true := by rw [decide_eq_true_iff]; omega
   have e2 : decide ((s.size : Int) <= 1000) = false := by rw [decide_eq_false_iff_not]; omega
   have HT : Hid (textB s = false) := by unfold textB Hid; simp [h2]
   go_enter Tryz.func63, Tryz.ntmps63
   go_wp2_with fail
   exact bodyPost_ret (v := .bool false) (by simp [results, Tryz.results63, go_sem]) rfl ⟨by rw [HT.out], Below.refl _ _⟩
 ·have e1 : decide ((1 : Int) <= (s.size : Int)) = false := by rw [decide_eq_false_iff_not]; omega
  have HT : Hid (textB s = false) := by unfold textB Hid; simp [h1]
  go_enter Tryz.func63, Tryz.ntmps63
  go_wp2_with fail
  exact bodyPost_ret (v := .bool false) (by simp [results, Tryz.results63, go_sem]) rfl ⟨by rw [HT.out], Below.refl _ _⟩
set_option maxHeartbeats 1000000
set_option maxRecDepth 100000
theorem at_I {w : World} {A : Option Addr} {n : Nat} {xs : List Int} (h : Kd.C (Kd.int .i64) w A n xs) (k : Nat) (h1 : k < n) (hk : k < xs.length) : ∃ ad, A = some ad ∧ w.cell? (ad.add k) = some (.int .i64 xs[k]) := by
 obtain ⟨ad, c, e, _, hK, hc0⟩ := Kd.C_get h 0 (k : Int) (by omega) (by omega)
 have hc : ∀ j u, c[j]? = some u -> w.cell? (ad.add ((k : Int).toNat * 1 + j)) = some u := hc0
 refine ⟨ad, e, ?_⟩
 have hK2 : c = [.int .i64 (xs.getD (k : Int).toNat 0)] := hK
 subst hK2
 have := hc 0 _ rfl
 simpa [List.getD, List.getElem?_eq_getElem hk] using this
/-- A place that a node must not read from. -/
def badIn (ns : List S63) (i : Int) (k : Int) : Bool := decide (k < 0) || decide (i <= k) || ((rd_T63 ns k).f0 == 6)
/-- What the test's closure holds on to. -/
structure PlaceAt (w : World) (A : Option Addr) (c : Nat) (ns : List S63) (i : Int) (I P : Nat) : Prop where
 ci : w.cell? ⟨I, 0, none⟩ = some (.int .i64 i)
 cp : w.cell? ⟨P, 0, none⟩ = some (.slice A ns.length c)
 row : k63.C w A ns.length ns
 cap : ns.length <= c
 le : i <= ns.length
 li : I < w.heap.size
 lp : P < w.heap.size
theorem PlaceAt.later {w w' : World} {A : Option Addr} {c : Nat} {ns : List S63} {i : Int} {I P : Nat} (h : PlaceAt w A c ns i I P) (hb : Below w.heap.size w w') : PlaceAt w' A c ns i I P where
 ci := (hb.cell (p := ⟨I, 0, none⟩) h.li).trans h.ci
 cp := (hb.cell (p := ⟨P, 0, none⟩) h.lp).trans h.cp
 row := Kd.C_below h.row hb
 cap := h.cap
 le := h.le
 li := Nat.lt_of_lt_of_le h.li hb.size
 lp := Nat.lt_of_lt_of_le h.lp hb.size
theorem bad_place (w : World) (A : Option Addr) (c : Nat) (ns : List S63) (i k : Int) (I P : Nat) (h : PlaceAt w A c ns i I P) :
  Calls Tryz.prog 64 #[.int .i64 k, .pointer (some ⟨I, 0, none⟩), .pointer (some ⟨P, 0, none⟩)] w fun e w' => e = .returned (.bool (badIn ns i k)) ∧ Below w.heap.size w w' := by
 have hci := h.ci; have hcp := h.cp
 unfold badIn
 by_cases h0 : k < 0
 ·have e0 : decide (k < 0) = true := by rw [decide_eq_true_iff]; exact h0
  go_enter Tryz.func64, Tryz.ntmps64
  go_wp2_with fail
  refine bodyPost_ret (v := .bool true) (by simp [results, Tryz.results64, go_sem]) rfl ⟨by first | rfl | (rw [e0]; rfl), Below.refl _ _⟩
 ·have e0 : decide (k < 0) = false := by rw [decide_eq_false_iff_not]; exact h0
  by_cases h1 : i <= k
  ·have e1 : decide (i <= k) = true := by rw [decide_eq_true_iff]; exact h1
   go_enter Tryz.func64, Tryz.ntmps64
   go_wp2_with fail
   refine bodyPost_ret (v := .bool true) (by simp [results, Tryz.results64, go_sem]) rfl ⟨by first | rfl | (rw [e0, e1]; rfl), Below.refl _ _⟩
  ·have e1 : decide (i <= k) = false := by rw [decide_eq_false_iff_not]; exact h1
   have hle := h.le
   obtain ⟨ad, A1, c1, A2, c2, A5, c5, rfl, g0, _⟩ := at_T63 h.row k (by omega) (by omega)
   obtain ⟨m, rfl⟩ := Int.eq_ofNat_of_zero_le (show 0 <= k by omega)
   rw [Int.toNat_natCast] at g0
   have hml : (m : Int) < (ns.length : Int) := by omega
   generalize (rd_T63 ns (m : Int)).f0 = op at g0
   go_enter Tryz.func64, Tryz.ntmps64
   go_wp2_with fail
   refine bodyPost_ret (v := .bool (op == 6)) (by simp [results, Tryz.results64, go_sem]) rfl ⟨by first | rfl | (rw [e0, e1]; rfl), Below.refl _ _⟩
theorem index_int (xs : List Int) (B : Option Addr) (cB : Nat) (A : Option Addr) (c : Nat) (ns : List S63) (i : Int) (I P : Nat) (w : World) (hc : xs.length <= cB) (hn : xs.length <= 1000000) (hC : Kd.C (Kd.int .i64) w B xs.length xs) (hP : PlaceAt w A c ns i I P) :
  Calls Tryz.prog 85 #[.slice B xs.length cB, .func (.func 64) #[] #[.pointer (some ⟨I, 0, none⟩), .pointer (some ⟨P, 0, none⟩)]] w fun e w' => (∃ r : Int, e = .returned (.int .i64 r) ∧ decide (0 <= r) = xs.any (badIn ns i)) ∧ Below w.heap.size w w' := by
 have HB := hid (Below.refl w.heap.size w)
 have HC := hid hC; have HP := hid hP
 clear hC hP
 go_enter Tryz.func85, Tryz.ntmps85
 go_wp2_with fail
 go_loopg [8] xs.length (fun n t wr => ∃ k : Nat, n + k = xs.length ∧ t = .int .i64 k ∧ Aside0 ((xs.take k).any (badIn ns i) = false) ∧ Aside0 (Below w.heap.size w wr))
 case atStart => exact ⟨0, by omega, rfl, ⟨by simp⟩, ⟨HB.out⟩⟩
 case round =>
  obtain ⟨k, hk, rfl, ⟨hall⟩, ⟨hB⟩⟩ := hrel
  have HK := hid hall; have HBK := hid hB
  clear hall hB
  by_cases hlt : k < xs.length
  ·obtain ⟨m, rfl⟩ : ∃ m, gk = m + 1 := ⟨gk - 1, by omega⟩
   obtain ⟨ad, rfl, e0⟩ := at_I (Kd.C_below HC.out HBK.out) k hlt hlt
   obtain ⟨x, hx⟩ : ∃ x, x = xs[k] := ⟨_, rfl⟩
   rw [<- hx] at e0
   have hsucc : (xs.take (k + 1)).any (badIn ns i) = ((xs.take k).any (badIn ns i) || badIn ns i x) := by
    rw [List.take_succ_eq_append_getElem hlt, List.any_append, <- hx]; simp
   have hmem : badIn ns i x = true -> xs.any (badIn ns i) = true := fun h => List.any_eq_true.2 ⟨x, by rw [hx]; exact List.getElem_mem hlt, h⟩
   have SU := hid hsucc; have ME := hid hmem
   clear hsucc hmem hx
   go_wp2_with fail
   refine (bad_place wr A c ns i x I P (HP.out.later HBK.out)).mono ?_
   rintro e w2 ⟨rfl, hb2⟩
   have HB2 := hid (HBK.out.trans (hb2.mono HBK.out.size))
   clear hb2 e0
   cases hr : badIn ns i x with
   | false =>
    have HR := hid hr
    clear hr
    go_wp2_with fail
    go_roundg m
    case measure => omega
    case rel => exact ⟨k + 1, by omega, by go_num, ⟨by rw [SU.out, HK.out, HR.out]; rfl⟩, ⟨HB2.out⟩⟩
   | true =>
    have HR := hid hr
    clear hr
    go_wp2_with fail
    refine bodyPost_ret (v := .int .i64 k) (by simp [results, Tryz.results85, go_sem]) rfl ⟨⟨k, rfl, ?_⟩, HB2.out⟩
    rw [ME.out HR.out]; simp
  ·obtain rfl : k = xs.length := by omega
   go_wp2_with fail
   refine bodyPost_ret (v := .int .i64 (-1)) (by simp [results, Tryz.results85, go_sem]) rfl ⟨⟨-1, rfl, ?_⟩, HBK.out⟩
   have := HK.out
   rw [List.take_length] at this
   rw [this]; rfl
theorem any_int (xs : List Int) (B : Option Addr) (cB : Nat) (A : Option Addr) (c : Nat) (ns : List S63) (i : Int) (I P : Nat) (w : World) (hc : xs.length <= cB) (hn : xs.length <= 1000000) (hC : Kd.C (Kd.int .i64) w B xs.length xs) (hP : PlaceAt w A c ns i I P) :
  Calls Tryz.prog 65 #[.slice B xs.length cB, .func (.func 64) #[] #[.pointer (some ⟨I, 0, none⟩), .pointer (some ⟨P, 0, none⟩)]] w fun e w' => e = .returned (.bool (xs.any (badIn ns i))) ∧ Below w.heap.size w w' := by
 have HX := hid (index_int xs B cB A c ns i I P w hc hn hC hP)
 clear hC hP
 go_enter Tryz.func65, Tryz.ntmps65
 go_wp2_with fail
 refine HX.out.mono ?_
 rintro e w1 ⟨⟨r, rfl, hr⟩, hb1⟩
 have HB1 := hid hb1; have HR := hid hr
 clear hb1 hr
 go_wp2_with fail
 refine bodyPost_ret (v := .bool (decide (0 <= r))) (by simp [results, Tryz.results65, go_sem]) rfl ⟨by rw [HR.out], HB1.out⟩
end Go.Proofs.YtamfloegflejnaaGreatDoor
