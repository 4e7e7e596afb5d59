/-
  graph's test of what a node reads from.
-/
import Derived.Test.YtamfloegflejnaaGreatDoorKD
set_option linter.unusedVariables false
set_option linter.unusedSimpArgs false
namespace Go.Proofs.YtamfloegflejnaaGreatDoor
open Go.RowKit Go.Proofs.YtamfloegflejnaaGreatDoorW.PrintWords Go.Proofs.YtamfloegflejnaaGreatDoorW.PrintLast Go.Proofs.YtamfloegflejnaaGreatDoorW.PrintMore PGraphLines

theorem at_I {w : World} {A : Option Addr} {n : Nat} {xs : List Int} (h : Kd.C (Kd.int .i64) w A n xs) (k : Nat) (h1 : k < n) (hk : k < xs.length) : ∃ ad, A = some ad ∧ w.cell? (ad.add k) = some (.int .i64 xs[k]) := by
  obtain ⟨ad, c, e, _, hK, hc0⟩ := Kd.C_get h 0 (k : Int) (by omega) (by omega)
  have hc : ∀ j u, c[j]? = some u → w.cell? (ad.add ((k : Int).toNat * 1 + j)) = some u := hc0
  refine ⟨ad, e, ?_⟩
  have hK2 : c = [.int .i64 (xs.getD (k : Int).toNat 0)] := hK
  subst hK2
  have := hc 0 _ rfl
  simpa [List.getD, List.getElem?_eq_getElem hk] using this

/-- A place that a node must not read from. -/
def badIn (ns : List S63) (i : Int) (k : Int) : Bool := decide (k < 0) || decide (i ≤ k) || ((rd_T63 ns k).f0 == 6)

/-- What the test's closure holds on to. -/
structure PlaceAt (w : World) (A : Option Addr) (c : Nat) (ns : List S63) (i : Int) (I P : Nat) : Prop where
  ci : w.cell? ⟨I, 0, none⟩ = some (.int .i64 i)
  cp : w.cell? ⟨P, 0, none⟩ = some (.slice A ns.length c)
  row : k63.C w A ns.length ns
  cap : ns.length ≤ c
  le : i ≤ ns.length
  li : I < w.heap.size
  lp : P < w.heap.size

theorem PlaceAt.later {w w' : World} {A : Option Addr} {c : Nat} {ns : List S63} {i : Int} {I P : Nat} (h : PlaceAt w A c ns i I P) (hb : Below w.heap.size w w') : PlaceAt w' A c ns i I P where
  ci := (hb.cell (p := ⟨I, 0, none⟩) h.li).trans h.ci
  cp := (hb.cell (p := ⟨P, 0, none⟩) h.lp).trans h.cp
  row := Kd.C_below h.row hb
  cap := h.cap
  le := h.le
  li := Nat.lt_of_lt_of_le h.li hb.size
  lp := Nat.lt_of_lt_of_le h.lp hb.size

set_option maxHeartbeats 1000000 in
set_option maxRecDepth 100000 in
theorem bad_place (w : World) (A : Option Addr) (c : Nat) (ns : List S63) (i k : Int) (I P : Nat) (h : PlaceAt w A c ns i I P) :
    Calls Tryz.prog 64 #[.int .i64 k, .pointer (some ⟨I, 0, none⟩), .pointer (some ⟨P, 0, none⟩)] w fun e w' => e = .returned (.bool (badIn ns i k)) ∧ Below w.heap.size w w' := by
  have hci := h.ci; have hcp := h.cp
  unfold badIn
  by_cases h0 : k < 0
  · have e0 : decide (k < 0) = true := by rw [decide_eq_true_iff]; exact h0
    go_enter Tryz.func64, Tryz.ntmps64
    go_wp2_with fail
    refine bodyPost_ret (v := .bool true) (by simp [results, Tryz.results64, go_sem]) rfl ⟨by first | rfl | (rw [e0]; rfl), Below.refl _ _⟩
  · have e0 : decide (k < 0) = false := by rw [decide_eq_false_iff_not]; exact h0
    by_cases h1 : i ≤ k
    · have e1 : decide (i ≤ k) = true := by rw [decide_eq_true_iff]; exact h1
      go_enter Tryz.func64, Tryz.ntmps64
      go_wp2_with fail
      refine bodyPost_ret (v := .bool true) (by simp [results, Tryz.results64, go_sem]) rfl ⟨by first | rfl | (rw [e0, e1]; rfl), Below.refl _ _⟩
    · have e1 : decide (i ≤ k) = false := by rw [decide_eq_false_iff_not]; exact h1
      have hle := h.le
      obtain ⟨ad, A1, c1, A2, c2, A5, c5, rfl, g0, _⟩ := at_T63 h.row k (by omega) (by omega)
      obtain ⟨m, rfl⟩ := Int.eq_ofNat_of_zero_le (show 0 ≤ k by omega)
      rw [Int.toNat_natCast] at g0
      have hml : (m : Int) < (ns.length : Int) := by omega
      generalize (rd_T63 ns (m : Int)).f0 = op at g0
      go_enter Tryz.func64, Tryz.ntmps64
      go_wp2_with fail
      refine bodyPost_ret (v := .bool (op == 6)) (by simp [results, Tryz.results64, go_sem]) rfl ⟨by first | rfl | (rw [e0, e1]; rfl), Below.refl _ _⟩

set_option maxHeartbeats 1000000 in
set_option maxRecDepth 100000 in
theorem index_int (xs : List Int) (B : Option Addr) (cB : Nat) (A : Option Addr) (c : Nat) (ns : List S63) (i : Int) (I P : Nat) (w : World) (hc : xs.length ≤ cB) (hn : xs.length ≤ 1000000) (hC : Kd.C (Kd.int .i64) w B xs.length xs) (hP : PlaceAt w A c ns i I P) :
    Calls Tryz.prog 85 #[.slice B xs.length cB, .func (.func 64) #[] #[.pointer (some ⟨I, 0, none⟩), .pointer (some ⟨P, 0, none⟩)]] w fun e w' => (∃ r : Int, e = .returned (.int .i64 r) ∧ decide (0 ≤ r) = xs.any (badIn ns i)) ∧ Below w.heap.size w w' := by
  have HB := Lib.hid (Below.refl w.heap.size w)
  have HC := Lib.hid hC; have HP := Lib.hid hP
  clear hC hP
  go_enter Tryz.func85, Tryz.ntmps85
  go_wp2_with fail
  go_loopg [8] xs.length (fun n t wr => ∃ k : Nat, n + k = xs.length ∧ t = .int .i64 k ∧ Aside0 ((xs.take k).any (badIn ns i) = false) ∧ Aside0 (Below w.heap.size w wr))
  case atStart => exact ⟨0, by omega, rfl, ⟨by simp⟩, ⟨HB.out⟩⟩
  case round =>
    obtain ⟨k, hk, rfl, ⟨hall⟩, ⟨hB⟩⟩ := hrel
    have HK := Lib.hid hall; have HBK := Lib.hid hB
    clear hall hB
    by_cases hlt : k < xs.length
    · obtain ⟨m, rfl⟩ : ∃ m, gk = m + 1 := ⟨gk - 1, by omega⟩
      obtain ⟨ad, rfl, e0⟩ := at_I (Kd.C_below HC.out HBK.out) k hlt hlt
      obtain ⟨x, hx⟩ : ∃ x, x = xs[k] := ⟨_, rfl⟩
      rw [← hx] at e0
      have hsucc : (xs.take (k + 1)).any (badIn ns i) = ((xs.take k).any (badIn ns i) || badIn ns i x) := by
        rw [List.take_succ_eq_append_getElem hlt, List.any_append, ← hx]; simp
      have hmem : badIn ns i x = true → xs.any (badIn ns i) = true := fun h => List.any_eq_true.2 ⟨x, by rw [hx]; exact List.getElem_mem hlt, h⟩
      have SU := Lib.hid hsucc; have ME := Lib.hid hmem
      clear hsucc hmem hx
      go_wp2_with fail
      refine (bad_place wr A c ns i x I P (HP.out.later HBK.out)).mono ?_
      rintro e w2 ⟨rfl, hb2⟩
      have HB2 := Lib.hid (HBK.out.trans (hb2.mono HBK.out.size))
      clear hb2 e0
      cases hr : badIn ns i x with
      | false =>
        have HR := Lib.hid hr
        clear hr
        go_wp2_with fail
        go_roundg m
        case measure => omega
        case rel => exact ⟨k + 1, by omega, by go_num, ⟨by rw [SU.out, HK.out, HR.out]; rfl⟩, ⟨HB2.out⟩⟩
      | true =>
        have HR := Lib.hid hr
        clear hr
        go_wp2_with fail
        refine bodyPost_ret (v := .int .i64 k) (by simp [results, Tryz.results85, go_sem]) rfl ⟨⟨k, rfl, ?_⟩, HB2.out⟩
        rw [ME.out HR.out]; simp
    · obtain rfl : k = xs.length := by omega
      go_wp2_with fail
      refine bodyPost_ret (v := .int .i64 (-1)) (by simp [results, Tryz.results85, go_sem]) rfl ⟨⟨-1, rfl, ?_⟩, HBK.out⟩
      have := HK.out
      rw [List.take_length] at this
      rw [this]; rfl

set_option maxHeartbeats 1000000 in
set_option maxRecDepth 100000 in
theorem any_int (xs : List Int) (B : Option Addr) (cB : Nat) (A : Option Addr) (c : Nat) (ns : List S63) (i : Int) (I P : Nat) (w : World) (hc : xs.length ≤ cB) (hn : xs.length ≤ 1000000) (hC : Kd.C (Kd.int .i64) w B xs.length xs) (hP : PlaceAt w A c ns i I P) :
    Calls Tryz.prog 65 #[.slice B xs.length cB, .func (.func 64) #[] #[.pointer (some ⟨I, 0, none⟩), .pointer (some ⟨P, 0, none⟩)]] w fun e w' => e = .returned (.bool (xs.any (badIn ns i))) ∧ Below w.heap.size w w' := by
  have HX := Lib.hid (index_int xs B cB A c ns i I P w hc hn hC hP)
  clear hC hP
  go_enter Tryz.func65, Tryz.ntmps65
  go_wp2_with fail
  refine HX.out.mono ?_
  rintro e w1 ⟨⟨r, rfl, hr⟩, hb1⟩
  have HB1 := Lib.hid hb1; have HR := Lib.hid hr
  clear hb1 hr
  go_wp2_with fail
  refine bodyPost_ret (v := .bool (decide (0 ≤ r))) (by simp [results, Tryz.results65, go_sem]) rfl ⟨by rw [HR.out], HB1.out⟩


end Go.Proofs.YtamfloegflejnaaGreatDoor
