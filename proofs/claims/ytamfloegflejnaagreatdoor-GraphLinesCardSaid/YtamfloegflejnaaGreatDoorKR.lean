/-
  graph's places and the text of a line.
-/
import Derived.Test.YtamfloegflejnaaGreatDoorKQ
import Derived.Test.YtamfloegflejnaaGreatDoorKN
import Derived.Lib.ItoaLen
set_option linter.unusedVariables false
set_option linter.unusedSimpArgs false
namespace Go.Proofs.YtamfloegflejnaaGreatDoor
open Go.RowKit Go.Proofs.YtamfloegflejnaaGreatDoorW.PrintWords Go.Proofs.YtamfloegflejnaaGreatDoorW.PrintLast Go.Proofs.YtamfloegflejnaaGreatDoorW.PrintMore PGraphLines

/-- How places are written. -/
def placesT (l : List Int) : List UInt8 := if l.length = 0 then [45] else Lib.join (l.map Lib.itoa) [44]
theorem info9 : (Tryz.prog.info? 9).map (fun i => (i.zero, i.size, i.bytes)) = some (some (.string ⟨#[]⟩), 1, 16) := by kernel_rfl
theorem lens_le (xs : List (List UInt8)) (n : Nat) (h : ∀ x ∈ xs, x.length ≤ n) : Lib.lens xs ≤ xs.length * n := by
  induction xs with
  | nil => simp [Lib.lens]
  | cons x r ih =>
    have h1 := h x (by simp)
    have h2 := ih (fun y hy => h y (by simp [hy]))
    simp only [Lib.lens, List.length_cons, Nat.add_mul, List.map_cons, List.sum_cons] at *
    omega
theorem join_le (xs : List (List UInt8)) (c : UInt8) (n : Nat) (h : ∀ x ∈ xs, x.length ≤ n) : (Lib.join xs [c]).length ≤ xs.length * (n + 1) := by
  cases xs with
  | nil => simp [Lib.join_nil]
  | cons x r =>
    rw [Lib.join_length]
    have := lens_le (x :: r) n h
    rw [show ([c] : List UInt8).length = 1 from rfl, List.length_cons] at *
    rw [Nat.mul_add]
    omega
theorem strs_data (l : List Int) : (l.map fun n => (⟨(Lib.itoa n).toArray⟩ : ByteArray)).map (·.data.toList) = l.map Lib.itoa := by simp

theorem strJoin (g cap : Nat) (l : List Int) (w : World) (base : Nat) (hO : Kd.string.R 9 w base (fun _ => True) (.slice (some ⟨g, 0, none⟩) l.length cap) (l.map fun n => (⟨(Lib.itoa n).toArray⟩ : ByteArray))) (hg : g < w.heap.size) (hn : l.length ≤ 1000) (hr : ∀ x ∈ l, -9223372036854775808 ≤ x ∧ x ≤ 9223372036854775807) :
    Calls Tryz.prog 53 #[.slice (some ⟨g, 0, none⟩) l.length cap, .string ⟨#[44]⟩] w fun e w' => e = .returned (.string ⟨(Lib.join (l.map Lib.itoa) [44]).toArray⟩) ∧ Below w.heap.size w w' := by
  obtain ⟨hl, hcap, hC⟩ := Kd.R_reads' hO
  have h := Tryz.strings_Join g 0 cap (l.map fun n => (⟨(Lib.itoa n).toArray⟩ : ByteArray)) ⟨#[44]⟩ w ?_ hg (by rw [List.length_map]; omega) (by rw [List.length_map]; exact hcap) ?_
  · rw [strs_data, List.length_map] at h
    exact h
  · intro j x hj
    obtain ⟨hjl, hx⟩ := List.getElem?_eq_some_iff.1 hj
    obtain ⟨ad, h1, h2⟩ := Kd.at_string hC (j : Int) (by omega) (by omega)
    rw [Int.toNat_natCast] at h2
    injection h1 with h1
    subst h1
    rw [add_plain] at h2
    rw [Nat.zero_add, h2, ← hx]
    simp only [rdOf, List.getD, Int.toNat_natCast, hj, Option.getD_some]
    rw [← hx]
  · rw [strs_data]
    have := join_le (l.map Lib.itoa) 44 21 (fun x hx => by
      obtain ⟨n, hn, rfl⟩ := List.mem_map.1 hx
      exact Lib.itoa_length_le n (hr n hn).1 (hr n hn).2)
    rw [List.length_map] at this
    show (Lib.join (l.map Lib.itoa) [44]).length ≤ _
    omega

set_option maxHeartbeats 1000000 in
set_option maxRecDepth 100000 in
theorem places_show (l : List Int) (A : Option Addr) (c : Nat) (w : World) (hE : Env w) (hn : l.length ≤ 1000) (hc : l.length ≤ c) (hr : ∀ x ∈ l, -9223372036854775808 ≤ x ∧ x ≤ 9223372036854775807) (hC : Kd.C (Kd.int .i64) w A l.length l) :
    Calls Tryz.prog 50 #[.slice A l.length c] w fun e w' => e = .returned (.string ⟨(placesT l).toArray⟩) ∧ Below w.heap.size w w' := by
  have HE := Lib.hid hE; have HC := Lib.hid hC; have HR := Lib.hid hr
  have HP : Hid (placesT l = if l.length = 0 then [45] else Lib.join (l.map Lib.itoa) [44]) := rfl
  clear hE hC hr
  by_cases h0 : l.length = 0
  · have t0 : ((l.length : Int) == 0) = true := by rw [beq_iff_eq]; omega
    have HP0 := Lib.hid (HP.out.trans (if_pos h0))
    clear h0
    go_enter Tryz.func50, Tryz.ntmps50
    go_wp2_with fail
    exact bodyPost_ret (v := .string ⟨#[45]⟩) (by simp [results, Tryz.results50, go_sem]) rfl ⟨by rw [HP0.out], Below.refl _ _⟩
  · have t0 : ((l.length : Int) == 0) = false := by rw [beq_eq_false_iff_ne]; omega
    have HP0 := Lib.hid (HP.out.trans (if_neg h0))
    have hpos : 0 < l.length := by omega
    clear h0
    go_enter Tryz.func50, Tryz.ntmps50
    go_wp2_with fail
    go_loopg [3, 11] l.length (fun n v i wr => ∃ k : Nat, n + k = l.length ∧ i = .int .i64 k ∧ (∃ A c, v = .slice A k c) ∧ Aside0 (Kd.string.R 9 wr w.heap.size (fun _ => True) v ((l.take k).map fun n => (⟨(Lib.itoa n).toArray⟩ : ByteArray))) ∧ Aside0 (Below w.heap.size w wr))
    case atStart => exact ⟨0, by omega, rfl, ⟨none, 0, rfl⟩, ⟨Kd.R_nil _ _ _ _ _⟩, ⟨Below.refl _ _⟩⟩
    case round =>
      obtain ⟨k, hk, rfl, ⟨A1, c1, rfl⟩, ⟨hO⟩, ⟨hB⟩⟩ := hrel
      have HO := Lib.hid hO; have HB := Lib.hid hB
      clear hO hB
      by_cases hlt : k < l.length
      · obtain ⟨m, rfl⟩ : ∃ m, gk = m + 1 := ⟨gk - 1, by omega⟩
        obtain ⟨ad, rfl, e0⟩ := at_I (Kd.C_below HC.out HB.out) k hlt hlt
        have hx := HR.out l[k] (List.getElem_mem hlt)
        have HT : Hid ((l.take (k + 1)).map (fun n => (⟨(Lib.itoa n).toArray⟩ : ByteArray)) = (l.take k).map (fun n => (⟨(Lib.itoa n).toArray⟩ : ByteArray)) ++ [⟨(Lib.itoa l[k]).toArray⟩]) := by
          rw [List.take_succ_eq_append_getElem hlt, List.map_append]; rfl
        have HL : Hid (((l.take k).map fun n => (⟨(Lib.itoa n).toArray⟩ : ByteArray)).length = k) := by
          rw [List.length_map, List.length_take]; unfold Hid; omega
        generalize (l.take k).map (fun n => (⟨(Lib.itoa n).toArray⟩ : ByteArray)) = xs at *
        generalize l[k] = x at *
        go_wp2_with fail
        refine (Tryz.strconv_Itoa x hx.1 hx.2 wr (HE.out.later HB.out).tab).mono ?_
        rintro e w2 ⟨rfl, kk, os, hw2⟩
        have hb2 : Below wr.heap.size wr w2 := by rw [hw2]; exact below_grow2 wr kk os
        have HB2 := Lib.hid (HB.out.trans (hb2.mono HB.out.size))
        have HO2 := Lib.hid (Kd.R_below HO.out hb2)
        clear hb2 hw2 e0
        go_wp2_with (at_builtin; refine Kd.R_append Kd.string (w0 := w) w.heap.size rfl _ _ 108 9 (.string ⟨#[]⟩) 16 rfl Tryz.underlying108 info9 rfl (by decide) (by decide) (.slice A1 k c1) xs (⟨(Lib.itoa x).toArray⟩ : ByteArray) [.string ⟨(Lib.itoa x).toArray⟩] (fun _ => True) (fun _ => False) rfl rfl rfl (fun _ h => h.elim) (fun _ _ => trivial) HO2.out HB2.out HB2.out.size ?c1 ?_)
        case c1 => rw [HL.out]; omega
        intro v1 w3 hO3 hB3 _ _
        have HO3 := Lib.hid hO3; have HB3 := Lib.hid hB3
        obtain ⟨A3, c3, hv3⟩ := Kd.R_slice hO3
        rw [List.length_append, HL.out, List.length_singleton] at hv3
        subst hv3
        clear hO3 hB3
        go_wp2_with fail
        go_roundg m
        case measure => omega
        case rel => exact ⟨k + 1, by omega, by go_num, ⟨_, _, rfl⟩, ⟨by rw [HT.out]; exact HO3.out⟩, ⟨HB3.out⟩⟩
      · obtain rfl : k = l.length := by omega
        have hO := HO.out
        rw [List.take_length] at hO
        obtain ⟨g, cap, hv, hwg, hgw, _⟩ := Kd.R_form hO (by rw [List.length_map]; exact hpos)
        rw [List.length_map] at hv
        injection hv with hA hcap hc3
        subst hA
        have hc3' : c1 = cap := hc3
        subst hc3'
        have hS := strJoin g c1 l wr w.heap.size hO hgw (by omega) (fun x hx => HR.out x hx)
        have HS := Lib.hid hS
        have HBk := Lib.hid HB.out
        clear hO hcap hc3 hS HO HB
        go_wp2_with fail
        refine HS.out.mono ?_
        rintro e w2 ⟨rfl, hb2⟩
        have HB2 := Lib.hid (HBk.out.trans (hb2.mono HBk.out.size))
        clear hb2
        go_wp2_with fail
        exact bodyPost_ret (v := .string ⟨(placesT l).toArray⟩) (by simp [results, Tryz.results50, go_sem, HP0.out]) rfl ⟨rfl, HB2.out⟩

end Go.Proofs.YtamfloegflejnaaGreatDoor
