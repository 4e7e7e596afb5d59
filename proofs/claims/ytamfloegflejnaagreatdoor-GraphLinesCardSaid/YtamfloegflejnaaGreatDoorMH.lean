/-
  graph's Users.
-/
import Derived.Test.YtamfloegflejnaaGreatDoorMG
set_option linter.unusedVariables false
set_option linter.unusedSimpArgs false
namespace Go.Proofs.YtamfloegflejnaaGreatDoor
open Go.RowKit Go.Proofs.YtamfloegflejnaaGreatDoorW.PrintWords Go.Proofs.YtamfloegflejnaaGreatDoorW.PrintLast Go.Proofs.YtamfloegflejnaaGreatDoorW.PrintMore PGraphLines

/-- The places ahead of this one that a test picks. -/
def picks (rb : Nat → Bool) : Nat → List Int
  | 0 => []
  | k + 1 => if rb k = true then picks rb k ++ [(k : Int)] else picks rb k
theorem picks_len (rb : Nat → Bool) : ∀ k, (picks rb k).length ≤ k
  | 0 => Nat.le_refl _
  | k + 1 => by
    have := picks_len rb k
    unfold picks
    split
    · rw [List.length_append, List.length_singleton]; omega
    · omega
def readsN (x : S63) (p : Int) (K : Nat) : Option Bool := graph_reads.f K x.f0 x.f1 x.f2 x.f3 x.f4.f0 x.f4.f1 x.f5.f0 x.f5.f1 x.f5.f2 x.f5.f3 x.f6.f0 x.f6.f1 x.f6.f2 x.f6.f3 p

set_option maxHeartbeats 4000000 in
set_option maxRecDepth 100000 in
theorem graph_users (A : Option Addr) (c : Nat) (ns : List S63) (p : Int) (K : Nat) (rb : Nat → Bool) (w : World) (hc : ns.length ≤ c) (hC : k63.C w A ns.length ns) (hTm : Tame ns) (hv : (checkV ns).2 = 0) (hrb : ∀ k, k < ns.length → readsN (rd_T63 ns (k : Int)) p K = some (rb k)) :
    Calls Tryz.prog 14 #[.agg #[.slice A ns.length c], .int .i64 p] w fun e w' => (∃ A' c', e = .returned (.slice A' (picks rb ns.length).length c')) ∧ Below w.heap.size w w' := by
  have hb0 := below_alloc (Below.refl w.heap.size w) (.cells #[.slice A ns.length c] 29)
  have HC := Lib.hid (Kd.C_below hC hb0)
  have HP := Lib.hid (heap_alloc_new w (.cells #[.slice A ns.length c] 29))
  have HB0 := Lib.hid hb0; have HTm := Lib.hid hTm; have HRB := Lib.hid hrb
  have HC0 := Lib.hid hC
  have hck := graph_check A c ns
  have hln := (checkV_zero hv).1.2
  have t0 : ((checkV ns).2 != 0) = false := by rw [hv]; rfl
  clear hC hb0 hTm hv hrb
  go_enter Tryz.func14, Tryz.ntmps14
  go_wp2_with fail
  refine (hck _ hc HC.out HTm.out).mono ?_
  rintro e w1 ⟨rfl, hb1⟩
  have HB1 := Lib.hid (HB0.out.trans (hb1.mono HB0.out.size))
  have HC1 := Lib.hid (Kd.C_below HC.out hb1)
  have HP1 := Lib.hid (blk_below HP.out hb1)
  clear hb1 hck HC HP HB0
  obtain ⟨v2, hv2⟩ : ∃ v2, v2 = (checkV ns).2 := ⟨_, rfl⟩
  obtain ⟨v1, hv1⟩ : ∃ v1, v1 = (checkV ns).1 := ⟨_, rfl⟩
  rw [← hv2] at t0 ⊢
  rw [← hv1]
  clear hv1 hv2
  have p0 : w1.cell? ⟨w.heap.size, 0, none⟩ = some (.slice A ns.length c) := (blk_cell HP1.out 0).trans rfl
  go_wp2_with fail
  clear p0 t0
  go_loopg [7, 20] ns.length (fun n v t wr => ∃ k : Nat, n + k = ns.length ∧ t = .int .i64 k ∧ (∃ A c, v = .slice A (picks rb k).length c) ∧ Aside0 ((Kd.int .i64).R 3 wr w.heap.size (fun _ => True) v (picks rb k)) ∧ Aside0 (Below w.heap.size w wr))
  case atStart => exact ⟨0, by omega, rfl, ⟨none, 0, rfl⟩, ⟨Kd.R_nil _ _ _ _ _⟩, ⟨HB1.out⟩⟩
  case round =>
    obtain ⟨k, hk, rfl, ⟨A', c', rfl⟩, ⟨hO⟩, ⟨hB⟩⟩ := hrel
    have HO := Lib.hid hO; have HBK := Lib.hid hB
    clear hO hB
    by_cases hlt : k < ns.length
    · obtain ⟨m, rfl⟩ : ∃ m, gk = m + 1 := ⟨gk - 1, by omega⟩
      obtain ⟨ad, A1, c1, A2, c2, A5, c5, rfl, g0, g1, g2, g3, g4, g5, g6, g7, g8, g9, g10, g11, g12, g13, hc1, k1, hc2, k2, hc5, k5⟩ := at_T63 (Kd.C_below HC0.out HBK.out) (k : Int) (by omega) (by omega)
      rw [Int.toNat_natCast] at g0 g1 g2 g3 g4 g5 g6 g7 g8 g9 g10 g11 g12 g13
      have hrd := HRB.out k hlt
      unfold readsN at hrd
      have hklt : (k : Int) < (ns.length : Int) := by omega
      generalize rd_T63 ns (k : Int) = x at *
      go_upto_region 8 with fail
      have hbv := below_alloc (Below.refl wr.heap.size wr) (.cells #[.int .i64 x.f0, .slice A1 x.f1.length c1, .slice A2 x.f2.length c2, .string x.f3, .int .i64 x.f4.f0, .slice A5 x.f4.f1.length c5, .int .i64 x.f5.f0, .int .i64 x.f5.f1, .int .i64 x.f5.f2, .int .i64 x.f5.f3, .int .i64 x.f6.f0, .int .i64 x.f6.f1, .int .i64 x.f6.f2, .bool x.f6.f3] 63)
      have HN := Lib.hid (heap_alloc_new wr (.cells #[.int .i64 x.f0, .slice A1 x.f1.length c1, .slice A2 x.f2.length c2, .string x.f3, .int .i64 x.f4.f0, .slice A5 x.f4.f1.length c5, .int .i64 x.f5.f0, .int .i64 x.f5.f1, .int .i64 x.f5.f2, .int .i64 x.f5.f3, .int .i64 x.f6.f0, .int .i64 x.f6.f1, .int .i64 x.f6.f2, .bool x.f6.f3] 63))
      have HO2 := Lib.hid (Kd.R_below HO.out hbv)
      have HB2 := Lib.hid (HBK.out.trans (hbv.mono HBK.out.size))
      have K1 := Lib.hid (Kd.C_below k1 hbv); have K2 := Lib.hid (Kd.C_below k2 hbv); have K5 := Lib.hid (Kd.C_below k5 hbv)
      clear hbv g0 g1 g2 g3 g4 g5 g6 g7 g8 g9 g10 g11 g12 g13 k1 k2 k5 HO HBK
      generalize wr.heap.size = N at *
      generalize wr.alloc (.cells #[.int .i64 x.f0, .slice A1 x.f1.length c1, .slice A2 x.f2.length c2, .string x.f3, .int .i64 x.f4.f0, .slice A5 x.f4.f1.length c5, .int .i64 x.f5.f0, .int .i64 x.f5.f1, .int .i64 x.f5.f2, .int .i64 x.f5.f3, .int .i64 x.f6.f0, .int .i64 x.f6.f1, .int .i64 x.f6.f2, .bool x.f6.f3] 63) = V at *
      have n0 : V.cell? ⟨N, 0, none⟩ = some (.int .i64 x.f0) := (blk_cell HN.out 0).trans rfl
      have n1 : V.cell? ⟨N, 1, none⟩ = some (.slice A1 x.f1.length c1) := (blk_cell HN.out 1).trans rfl
      have n2 : V.cell? ⟨N, 2, none⟩ = some (.slice A2 x.f2.length c2) := (blk_cell HN.out 2).trans rfl
      have n3 : V.cell? ⟨N, 3, none⟩ = some (.string x.f3) := (blk_cell HN.out 3).trans rfl
      have n4 : V.cell? ⟨N, 4, none⟩ = some (.int .i64 x.f4.f0) := (blk_cell HN.out 4).trans rfl
      have n5 : V.cell? ⟨N, 5, none⟩ = some (.slice A5 x.f4.f1.length c5) := (blk_cell HN.out 5).trans rfl
      have n6 : V.cell? ⟨N, 6, none⟩ = some (.int .i64 x.f5.f0) := (blk_cell HN.out 6).trans rfl
      have n7 : V.cell? ⟨N, 7, none⟩ = some (.int .i64 x.f5.f1) := (blk_cell HN.out 7).trans rfl
      have n8 : V.cell? ⟨N, 8, none⟩ = some (.int .i64 x.f5.f2) := (blk_cell HN.out 8).trans rfl
      have n9 : V.cell? ⟨N, 9, none⟩ = some (.int .i64 x.f5.f3) := (blk_cell HN.out 9).trans rfl
      have n10 : V.cell? ⟨N, 10, none⟩ = some (.int .i64 x.f6.f0) := (blk_cell HN.out 10).trans rfl
      have n11 : V.cell? ⟨N, 11, none⟩ = some (.int .i64 x.f6.f1) := (blk_cell HN.out 11).trans rfl
      have n12 : V.cell? ⟨N, 12, none⟩ = some (.int .i64 x.f6.f2) := (blk_cell HN.out 12).trans rfl
      have n13 : V.cell? ⟨N, 13, none⟩ = some (.bool x.f6.f3) := (blk_cell HN.out 13).trans rfl
      have RC := Lib.hid (graph_reads.calls K x.f0 A1 c1 x.f1 A2 c2 x.f2 x.f3 x.f4.f0 A5 c5 x.f4.f1 x.f5.f0 x.f5.f1 x.f5.f2 x.f5.f3 x.f6.f0 x.f6.f1 x.f6.f2 x.f6.f3 p (rb k) V K1.out hc1 K2.out hc2 K5.out hc5 hrd)
      clear hrd
      go_wp2_with fail
      refine RC.out.mono ?_
      rintro e V2 ⟨rfl, hb2⟩
      have HO3 := Lib.hid (Kd.R_below HO2.out hb2)
      have HB3 := Lib.hid (HB2.out.trans (hb2.mono HB2.out.size))
      clear hb2 HO2 HB2 RC K1 K2 K5 HN n0 n1 n2 n3 n4 n5 n6 n7 n8 n9 n10 n11 n12 n13
      cases hrk : rb k with
      | false =>
        have HPK : Hid (picks rb (k + 1) = picks rb k) := by
          show (if rb k = true then _ else _) = _
          rw [hrk]; rfl
        clear hrk
        go_wp2_with fail
        go_roundg m
        case measure => omega
        case rel => exact ⟨k + 1, by omega, by go_num, ⟨A', c', by rw [HPK.out]⟩, ⟨by rw [HPK.out]; exact HO3.out⟩, ⟨HB3.out⟩⟩
      | true =>
        have HPK : Hid (picks rb (k + 1) = picks rb k ++ [(k : Int)]) := by
          show (if rb k = true then _ else _) = _
          rw [hrk]; rfl
        have HPL := Lib.hid (picks_len rb k)
        clear hrk
        have hz3 := HB3.out.size
        go_wp2_with (at_builtin; refine Kd.R_append (Kd.int .i64) (w0 := V2) w.heap.size rfl _ _ 34 3 (.int .i64 0) 8 rfl Tryz.underlying34 info3 rfl (by decide) (by decide) (.slice A' (picks rb k).length c') (picks rb k) (k : Int) [.int .i64 k] (fun _ => True) (fun _ => False) rfl rfl rfl (fun _ h => h.elim) (fun _ _ => trivial) HO3.out (Below.refl _ _) hz3 ?c1 ?_)
        case c1 => have := HPL.out; omega
        intro v1 w4 hO4 _ hg4 _
        have hb4 := pw_below_grown (Below.refl w.heap.size V2) _ hz3 hg4 (Kd.R_base HO3.out)
        have HB4 := Lib.hid (HB3.out.trans hb4)
        obtain ⟨A4, c4, hv4⟩ := Kd.R_slice hO4
        subst hv4
        have HO4 := Lib.hid hO4
        clear hO4 hg4 hb4 HO3 HB3 hz3
        go_wp2_with fail
        go_roundg m
        case measure => omega
        case rel => exact ⟨k + 1, by omega, by go_num, ⟨_, _, by rw [HPK.out]⟩, ⟨by rw [HPK.out]; exact HO4.out⟩, ⟨HB4.out⟩⟩
    · obtain rfl : k = ns.length := by omega
      go_wp2_with fail
      exact bodyPost_ret (v := .slice A' (picks rb ns.length).length c') (by simp [results, Tryz.results14, go_sem]) rfl ⟨⟨_, _, rfl⟩, HBK.out⟩

end Go.Proofs.YtamfloegflejnaaGreatDoor
