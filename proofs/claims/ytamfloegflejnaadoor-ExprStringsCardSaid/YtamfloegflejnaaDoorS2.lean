/-
  The scanner's number: the digits that stand at the place are read as their value, with their sign.
-/
import Derived.Test.YtamfloegflejnaaDoorS1
set_option linter.unusedVariables false
set_option linter.unusedSimpArgs false
namespace Go.Proofs.YtamfloegflejnaaDoor
open Go.RowKit Go.Proofs.YtamfloegflejnaaDoorW.PrintWords Go.Proofs.YtamfloegflejnaaDoorW.PrintLast Go.Proofs.YtamfloegflejnaaDoorW.PrintMore PExprNumbers

theorem wrap_neg (m : Nat) (h : m ≤ 9223372036854775808) : wrap64 (-wrap64 (m : Int)) = -(m : Int) := by
  unfold wrap64
  omega

/-- What holds at the label when k digits have been read. -/
def JNum (g : Nat) (s : ByteArray) (a : Nat) (ds : List Nat) (sg most : Int) (w0 w : World) (n : Nat) (a' : Act) (w' : World) : Prop :=
  ∃ (k : Nat) (v : Int), (n + k = ds.length ∧ 1 ≤ k ∧ v = ((dval (ds.take k) : Nat) : Int) ∧ IsS48 w0 w' g s ((a + k : Nat) : Int) false ∧ Below w0.heap.size w0 w' ∧ KeepBut (w.alloc zero30) w' g none) ∧ ∃ u1 u5 u7 u8 u9 u10 u11 u12 u13 u14 u15 u16 u17 u18 u19 u20 u21 u22 u23 u24 u25 u26 u27 u28 u29 u30 u31 u32 u33 u34 u35 u36 u37 u38 u39 u40 u41 u42 u43 u44 u45 u46 u47 u48 u49 u50 u51 u52 u53 u54 u55 u56 u57 u58 u59 u60 u61 u62 u63 u64 u65 u66 u67 u68 u69 u70 u71 u72 u73 u74 u75 u76 u77 u78 u79 u80 u81 u82 u83 u84 u85 u86 u87 u88 u89 u90 : Value, a' = { tmps := #[.pointer (some ⟨g, 0, none⟩), u1, .pointer (some ⟨w.heap.size, 0, none⟩), .int .i64 sg, .int .u64 most, u5, .int .u64 v, u7, u8, u9, u10, u11, u12, u13, u14, u15, u16, u17, u18, u19, u20, u21, u22, u23, u24, u25, u26, u27, u28, u29, u30, u31, u32, u33, u34, u35, u36, u37, u38, u39, u40, u41, u42, u43, u44, u45, u46, u47, u48, u49, u50, u51, u52, u53, u54, u55, u56, u57, u58, u59, u60, u61, u62, u63, u64, u65, u66, u67, u68, u69, u70, u71, u72, u73, u74, u75, u76, u77, u78, u79, u80, u81, u82, u83, u84, u85, u86, u87, u88, u89, u90], defers := [] }

theorem JNum.mk {g : Nat} {s : ByteArray} {a : Nat} {ds : List Nat} {sg most : Int} {w0 w : World} {n : Nat} {a' : Act} {w' : World} (k : Nat) (v : Int) (h : n + k = ds.length ∧ 1 ≤ k ∧ v = ((dval (ds.take k) : Nat) : Int) ∧ IsS48 w0 w' g s ((a + k : Nat) : Int) false ∧ Below w0.heap.size w0 w' ∧ KeepBut (w.alloc zero30) w' g none) (hf : ∃ u1 u5 u7 u8 u9 u10 u11 u12 u13 u14 u15 u16 u17 u18 u19 u20 u21 u22 u23 u24 u25 u26 u27 u28 u29 u30 u31 u32 u33 u34 u35 u36 u37 u38 u39 u40 u41 u42 u43 u44 u45 u46 u47 u48 u49 u50 u51 u52 u53 u54 u55 u56 u57 u58 u59 u60 u61 u62 u63 u64 u65 u66 u67 u68 u69 u70 u71 u72 u73 u74 u75 u76 u77 u78 u79 u80 u81 u82 u83 u84 u85 u86 u87 u88 u89 u90 : Value, a' = { tmps := #[.pointer (some ⟨g, 0, none⟩), u1, .pointer (some ⟨w.heap.size, 0, none⟩), .int .i64 sg, .int .u64 most, u5, .int .u64 v, u7, u8, u9, u10, u11, u12, u13, u14, u15, u16, u17, u18, u19, u20, u21, u22, u23, u24, u25, u26, u27, u28, u29, u30, u31, u32, u33, u34, u35, u36, u37, u38, u39, u40, u41, u42, u43, u44, u45, u46, u47, u48, u49, u50, u51, u52, u53, u54, u55, u56, u57, u58, u59, u60, u61, u62, u63, u64, u65, u66, u67, u68, u69, u70, u71, u72, u73, u74, u75, u76, u77, u78, u79, u80, u81, u82, u83, u84, u85, u86, u87, u88, u89, u90], defers := [] }) : JNum g s a ds sg most w0 w n a' w' := ⟨k, v, h, hf⟩

set_option maxHeartbeats 1000000 in
set_option maxRecDepth 100000 in
theorem number_pos (g : Nat) (s : ByteArray) (a : Nat) (ds : List Nat) (w0 w : World) (hI : IsS48 w0 w g s a false) (hB : Below w0.heap.size w0 w)
    (hN : Hid (NumAt s a ds)) (hv : Hid (dval ds ≤ 9223372036854775807)) (hs : s.size ≤ 140737488351232) (ha : a + ds.length ≤ s.size) :
    Calls Tryd.prog 23 #[.pointer (some ⟨g, 0, none⟩)] w fun e w' => e = .returned (.agg #[.string ⟨#[105, 110, 116]⟩, .int .i64 (dval ds), .string ⟨#[]⟩, .int .i64 0, .slice none 0 0, .slice none 0 0]) ∧ IsS48 w0 w' g s ((a + ds.length : Nat) : Int) false ∧ Below w0.heap.size w0 w' ∧ KeepBut w w' g none := by
  have HI := Lib.hid (hI.alloc zero30)
  have HB := Lib.hid (Below.alloc hB hB.size zero30)
  have hgw : Hid (g < w.heap.size) := hI.lt
  have hBs : Hid (w0.heap.size ≤ w.heap.size) := hB.size
  clear hI hB
  have hlen := hN.out.pos
  go_enter Tryd.func23, Tryd.ntmps23
  go_wp2_with fail
  refine wp_scope_k 0 (JNum g s a ds 1 9223372036854775807 w0 w) rfl ?_ ?_
  · intro n a' w' hJ K hK
    have HK := Lib.hid hK
    clear hK
    obtain ⟨k, v, ⟨hk, h1, hvk, hi, hb, hkb⟩, hJ⟩ := hJ
    obtain ⟨u1, hJ⟩ := hJ
    obtain ⟨u5, hJ⟩ := hJ
    obtain ⟨u7, hJ⟩ := hJ
    obtain ⟨u8, hJ⟩ := hJ
    obtain ⟨u9, hJ⟩ := hJ
    obtain ⟨u10, hJ⟩ := hJ
    obtain ⟨u11, hJ⟩ := hJ
    obtain ⟨u12, hJ⟩ := hJ
    obtain ⟨u13, hJ⟩ := hJ
    obtain ⟨u14, hJ⟩ := hJ
    obtain ⟨u15, hJ⟩ := hJ
    obtain ⟨u16, hJ⟩ := hJ
    obtain ⟨u17, hJ⟩ := hJ
    obtain ⟨u18, hJ⟩ := hJ
    obtain ⟨u19, hJ⟩ := hJ
    obtain ⟨u20, hJ⟩ := hJ
    obtain ⟨u21, hJ⟩ := hJ
    obtain ⟨u22, hJ⟩ := hJ
    obtain ⟨u23, hJ⟩ := hJ
    obtain ⟨u24, hJ⟩ := hJ
    obtain ⟨u25, hJ⟩ := hJ
    obtain ⟨u26, hJ⟩ := hJ
    obtain ⟨u27, hJ⟩ := hJ
    obtain ⟨u28, hJ⟩ := hJ
    obtain ⟨u29, hJ⟩ := hJ
    obtain ⟨u30, hJ⟩ := hJ
    obtain ⟨u31, hJ⟩ := hJ
    obtain ⟨u32, hJ⟩ := hJ
    obtain ⟨u33, hJ⟩ := hJ
    obtain ⟨u34, hJ⟩ := hJ
    obtain ⟨u35, hJ⟩ := hJ
    obtain ⟨u36, hJ⟩ := hJ
    obtain ⟨u37, hJ⟩ := hJ
    obtain ⟨u38, hJ⟩ := hJ
    obtain ⟨u39, hJ⟩ := hJ
    obtain ⟨u40, hJ⟩ := hJ
    obtain ⟨u41, hJ⟩ := hJ
    obtain ⟨u42, hJ⟩ := hJ
    obtain ⟨u43, hJ⟩ := hJ
    obtain ⟨u44, hJ⟩ := hJ
    obtain ⟨u45, hJ⟩ := hJ
    obtain ⟨u46, hJ⟩ := hJ
    obtain ⟨u47, hJ⟩ := hJ
    obtain ⟨u48, hJ⟩ := hJ
    obtain ⟨u49, hJ⟩ := hJ
    obtain ⟨u50, hJ⟩ := hJ
    obtain ⟨u51, hJ⟩ := hJ
    obtain ⟨u52, hJ⟩ := hJ
    obtain ⟨u53, hJ⟩ := hJ
    obtain ⟨u54, hJ⟩ := hJ
    obtain ⟨u55, hJ⟩ := hJ
    obtain ⟨u56, hJ⟩ := hJ
    obtain ⟨u57, hJ⟩ := hJ
    obtain ⟨u58, hJ⟩ := hJ
    obtain ⟨u59, hJ⟩ := hJ
    obtain ⟨u60, hJ⟩ := hJ
    obtain ⟨u61, hJ⟩ := hJ
    obtain ⟨u62, hJ⟩ := hJ
    obtain ⟨u63, hJ⟩ := hJ
    obtain ⟨u64, hJ⟩ := hJ
    obtain ⟨u65, hJ⟩ := hJ
    obtain ⟨u66, hJ⟩ := hJ
    obtain ⟨u67, hJ⟩ := hJ
    obtain ⟨u68, hJ⟩ := hJ
    obtain ⟨u69, hJ⟩ := hJ
    obtain ⟨u70, hJ⟩ := hJ
    obtain ⟨u71, hJ⟩ := hJ
    obtain ⟨u72, hJ⟩ := hJ
    obtain ⟨u73, hJ⟩ := hJ
    obtain ⟨u74, hJ⟩ := hJ
    obtain ⟨u75, hJ⟩ := hJ
    obtain ⟨u76, hJ⟩ := hJ
    obtain ⟨u77, hJ⟩ := hJ
    obtain ⟨u78, hJ⟩ := hJ
    obtain ⟨u79, hJ⟩ := hJ
    obtain ⟨u80, hJ⟩ := hJ
    obtain ⟨u81, hJ⟩ := hJ
    obtain ⟨u82, hJ⟩ := hJ
    obtain ⟨u83, hJ⟩ := hJ
    obtain ⟨u84, hJ⟩ := hJ
    obtain ⟨u85, hJ⟩ := hJ
    obtain ⟨u86, hJ⟩ := hJ
    obtain ⟨u87, hJ⟩ := hJ
    obtain ⟨u88, hJ⟩ := hJ
    obtain ⟨u89, hJ⟩ := hJ
    obtain ⟨u90, hJ⟩ := hJ
    subst hJ
    have HI := Lib.hid hi; have HB := Lib.hid hb; have HKB := Lib.hid hkb
    clear hi hb hkb
    by_cases hlt : k < ds.length
    · obtain ⟨hp0, hp1⟩ := hN.out.digit k hlt
      have hsucc := dval_take_succ ds k hlt
      have hle := dval_take_le ds (k + 1)
      have hpos : 1 ≤ dval (ds.take k) := by
        have h2 := hN.out.head (by omega)
        have h3 := dval_take_le (ds.take k) 1
        rw [List.take_take, Nat.min_eq_left h1] at h3
        omega
      generalize hd : ds[k] = d at hp0 hp1 hsucc
      have hub : 10 * dval (ds.take k) + d ≤ 9223372036854775807 := by have := hv.out; omega
      generalize hm : dval (ds.take k) = m at hpos hub hsucc hvk
      have D : Hid (pk s ((a + k : Nat) : Int) = 48 + (d : Int)) := hp0
      have S : Hid (dval (ds.take (k + 1)) = 10 * m + d) := hsucc
      subst hvk
      clear hp0 hsucc hle hd hm
      go_wp2_with fail
      refine (peek_d g s _ _ false w0 _ D (by omega) HI.out HB.out).mono ?_
      rintro e w1 ⟨rfl, hi1, hb1, hk1⟩
      have HI1 := Lib.hid hi1; have HB1 := Lib.hid hb1; have HK1 := Lib.hid hk1
      have c1 := cellS48_1 hi1.1
      have f1 := blk_frozen hi1.1 1
      clear hi1 hb1 hk1
      go_wp2_with fail
      go_step3
      refine ⟨rfl, HK.out (n - 1) _ _ (by omega) ?_⟩
      refine JNum.mk (k + 1) ?_ ?_ ?_
      rotate_left 2
      · (repeat apply Exists.intro)
        rfl
      refine ⟨by omega, by omega, ?_, ?_, ?_, ?_⟩
      · rw [S.out]; omega
      · exact HI1.out.set_1 _
      · exact below_set HB1.out (IsS48.ge HI1.out)
      · exact KeepBut.set_ (HKB.out.trans HK1.out (.inl rfl)) _ _
    · obtain rfl : k = ds.length := by omega
      have D : Hid (pk s ((a + ds.length : Nat) : Int) < 48 ∨ 57 < pk s ((a + ds.length : Nat) : Int)) := hN.out.stop
      rw [List.take_length] at hvk
      have hub : dval ds ≤ 9223372036854775807 := hv.out
      obtain ⟨q, hq⟩ : ∃ q, q = pk s ((a + ds.length : Nat) : Int) := ⟨_, rfl⟩
      have D2 : Hid (pk s ((a + ds.length : Nat) : Int) = q) := hq.symm
      have hr := pk_range s ((a + ds.length : Nat) : Int)
      rw [← hq] at hr
      have D3 := D.out
      rw [← hq] at D3
      clear D hq
      generalize hm : dval ds = m at hvk hub
      subst hvk
      have M : Hid (dval ds = m) := hm
      clear hm
      rcases D3 with D3 | D3
      all_goals
        go_wp2_with fail
        refine (peek_d g s _ _ false w0 _ D2 (by omega) HI.out HB.out).mono ?_
        rintro e w1 ⟨rfl, hi1, hb1, hk1⟩
        have HI1 := Lib.hid hi1; have HB1 := Lib.hid hb1; have HK1 := Lib.hid hk1
        have hz : w1.heap[w.heap.size]? = some zero30 := by
          have := (HKB.out.trans HK1.out (.inl rfl)).2 w.heap.size (by simp) (by have := hgw.out; omega) (by simp)
          rw [this]; exact heap_alloc_new w _
        have q0 : w1.cell? ⟨w.heap.size, 0, none⟩ = some (.string ⟨#[]⟩) := (blk_cell hz 0).trans rfl
        have q1 : w1.cell? ⟨w.heap.size, 1, none⟩ = some (.int .i64 0) := (blk_cell hz 1).trans rfl
        have q2 : w1.cell? ⟨w.heap.size, 2, none⟩ = some (.string ⟨#[]⟩) := (blk_cell hz 2).trans rfl
        have q3 : w1.cell? ⟨w.heap.size, 3, none⟩ = some (.int .i64 0) := (blk_cell hz 3).trans rfl
        have q4 : w1.cell? ⟨w.heap.size, 4, none⟩ = some (.slice none 0 0) := (blk_cell hz 4).trans rfl
        have q5 : w1.cell? ⟨w.heap.size, 5, none⟩ = some (.slice none 0 0) := (blk_cell hz 5).trans rfl
        have z0 := blk_frozen hz 0
        have z1 := blk_frozen hz 1
        have z2 := blk_frozen hz 2
        have z3 := blk_frozen hz 3
        have z4 := blk_frozen hz 4
        have z5 := blk_frozen hz 5
        clear hi1 hb1 hk1 hz
        go_wp2_with fail
        simp only [Exit.jump]
        refine bodyPost_ret (v := .agg #[.string ⟨#[105, 110, 116]⟩, .int .i64 m, .string ⟨#[]⟩, .int .i64 0, .slice none 0 0, .slice none 0 0]) (by simp [results, Tryd.results23, go_sem, q0, q1, q2, q3, q4, q5]) rfl ⟨by rw [M.out], ?_, ?_, ?_⟩
        · have hne : g ≠ w.heap.size := by have := hgw.out; omega
          exact (((((HI1.out.far hne _).far hne _).far hne _).far hne _).far hne _).far hne _
        · have hle := hBs.out
          exact below_set (below_set (below_set (below_set (below_set (below_set HB1.out hle) hle) hle) hle) hle) hle
        · have hk := (keep_alloc (KeepBut.refl w g none) zero30).trans (HKB.out.trans HK1.out (.inl rfl)) (.inl rfl)
          have hle := Nat.le_refl w.heap.size
          exact keep_far (keep_far (keep_far (keep_far (keep_far (keep_far hk hle _) hle _) hle _) hle _) hle _) hle _
  · intro K hK
    have HK := Lib.hid hK
    clear hK
    have hN0 := hN.out
    obtain ⟨hp0, hp1⟩ := hN0.digit 0 hN0.pos
    obtain ⟨d0, hd0⟩ : ∃ d, d = ds[0]'hN0.pos := ⟨_, rfl⟩
    rw [← hd0] at hp0 hp1
    have D0 : Hid (pk s ((a : Nat) : Int) = 48 + (d0 : Int)) := hp0
    have E0 : Hid (dval (ds.take 1) = d0) := by
      have := dval_take_succ ds 0 hN0.pos
      simp [dval] at this
      unfold Hid
      rw [hd0, ← this]; simp [dval]
    clear hp0 hd0 hN0
    have key : d0 = 0 ∨ ((48 + (d0 : Int)) == 48) = false := by
      by_cases hz : d0 = 0
      · exact .inl hz
      · exact .inr (beq_eq_false_iff_ne.2 (by omega))
    rcases key with rfl | hz'
    all_goals
      go_wp2_with fail
      refine (peek_d g s a _ false w0 _ D0 (by omega) HI.out HB.out).mono ?_
      rintro e w1 ⟨rfl, hi1, hb1, hk1⟩
      have HI1 := Lib.hid hi1; have HB1 := Lib.hid hb1; have HK1 := Lib.hid hk1
      clear hi1 hb1 hk1
      go_wp2_with fail
      refine (peek_d g s a _ false w0 _ D0 (by omega) HI1.out HB1.out).mono ?_
      rintro e w2 ⟨rfl, hi1, hb1, hk1⟩
      have HI2 := Lib.hid hi1; have HB2 := Lib.hid hb1; have HK2 := Lib.hid hk1
      clear hi1 hb1 hk1
      go_wp2_with fail
      refine (peek_d g s a _ false w0 _ D0 (by omega) HI2.out HB2.out).mono ?_
      rintro e w3 ⟨rfl, hi1, hb1, hk1⟩
      have HI3 := Lib.hid hi1; have HB3 := Lib.hid hb1; have HK3 := Lib.hid hk1
      have c1 := cellS48_1 hi1.1
      have f1 := blk_frozen hi1.1 1
      clear hi1 hb1 hk1
      go_wp2_with fail
      go_step3
      go_step
      go_step
      refine HK.out (ds.length - 1) _ _ ?_
      refine JNum.mk 1 ?_ ?_ ?_
      rotate_left 2
      · (repeat apply Exists.intro)
        rfl
      refine ⟨by omega, Nat.le_refl _, ?_, ?_, ?_, ?_⟩
      · rw [E0.out]; omega
      · exact HI3.out.set_1 _
      · exact below_set HB3.out (IsS48.ge HI3.out)
      · exact KeepBut.set_ ((HK1.out.trans HK2.out (.inl rfl)).trans HK3.out (.inl rfl)) _ _
set_option maxHeartbeats 1000000 in
set_option maxRecDepth 100000 in
theorem number_neg (g : Nat) (s : ByteArray) (a : Nat) (ds : List Nat) (w0 w : World) (hI : IsS48 w0 w g s a false) (hB : Below w0.heap.size w0 w)
    (hM : Hid (pk s (a : Int) = 45)) (hN : Hid (NumAt s (a + 1) ds)) (hd1 : 1 ≤ dval (ds.take 1)) (hv : Hid (dval ds ≤ 9223372036854775808)) (hs : s.size ≤ 140737488351232) (ha : a + 1 + ds.length ≤ s.size) :
    Calls Tryd.prog 23 #[.pointer (some ⟨g, 0, none⟩)] w fun e w' => e = .returned (.agg #[.string ⟨#[105, 110, 116]⟩, .int .i64 (-(dval ds : Int)), .string ⟨#[]⟩, .int .i64 0, .slice none 0 0, .slice none 0 0]) ∧ IsS48 w0 w' g s ((a + 1 + ds.length : Nat) : Int) false ∧ Below w0.heap.size w0 w' ∧ KeepBut w w' g none := by
  have HI := Lib.hid (hI.alloc zero30)
  have HB := Lib.hid (Below.alloc hB hB.size zero30)
  have hgw : Hid (g < w.heap.size) := hI.lt
  have hBs : Hid (w0.heap.size ≤ w.heap.size) := hB.size
  clear hI hB
  have hlen := hN.out.pos
  go_enter Tryd.func23, Tryd.ntmps23
  go_wp2_with fail
  refine wp_scope_k 0 (JNum g s (a + 1) ds (-1) 9223372036854775808 w0 w) rfl ?_ ?_
  · intro n a' w' hJ K hK
    have HK := Lib.hid hK
    clear hK
    obtain ⟨k, v, ⟨hk, h1, hvk, hi, hb, hkb⟩, hJ⟩ := hJ
    obtain ⟨u1, hJ⟩ := hJ
    obtain ⟨u5, hJ⟩ := hJ
    obtain ⟨u7, hJ⟩ := hJ
    obtain ⟨u8, hJ⟩ := hJ
    obtain ⟨u9, hJ⟩ := hJ
    obtain ⟨u10, hJ⟩ := hJ
    obtain ⟨u11, hJ⟩ := hJ
    obtain ⟨u12, hJ⟩ := hJ
    obtain ⟨u13, hJ⟩ := hJ
    obtain ⟨u14, hJ⟩ := hJ
    obtain ⟨u15, hJ⟩ := hJ
    obtain ⟨u16, hJ⟩ := hJ
    obtain ⟨u17, hJ⟩ := hJ
    obtain ⟨u18, hJ⟩ := hJ
    obtain ⟨u19, hJ⟩ := hJ
    obtain ⟨u20, hJ⟩ := hJ
    obtain ⟨u21, hJ⟩ := hJ
    obtain ⟨u22, hJ⟩ := hJ
    obtain ⟨u23, hJ⟩ := hJ
    obtain ⟨u24, hJ⟩ := hJ
    obtain ⟨u25, hJ⟩ := hJ
    obtain ⟨u26, hJ⟩ := hJ
    obtain ⟨u27, hJ⟩ := hJ
    obtain ⟨u28, hJ⟩ := hJ
    obtain ⟨u29, hJ⟩ := hJ
    obtain ⟨u30, hJ⟩ := hJ
    obtain ⟨u31, hJ⟩ := hJ
    obtain ⟨u32, hJ⟩ := hJ
    obtain ⟨u33, hJ⟩ := hJ
    obtain ⟨u34, hJ⟩ := hJ
    obtain ⟨u35, hJ⟩ := hJ
    obtain ⟨u36, hJ⟩ := hJ
    obtain ⟨u37, hJ⟩ := hJ
    obtain ⟨u38, hJ⟩ := hJ
    obtain ⟨u39, hJ⟩ := hJ
    obtain ⟨u40, hJ⟩ := hJ
    obtain ⟨u41, hJ⟩ := hJ
    obtain ⟨u42, hJ⟩ := hJ
    obtain ⟨u43, hJ⟩ := hJ
    obtain ⟨u44, hJ⟩ := hJ
    obtain ⟨u45, hJ⟩ := hJ
    obtain ⟨u46, hJ⟩ := hJ
    obtain ⟨u47, hJ⟩ := hJ
    obtain ⟨u48, hJ⟩ := hJ
    obtain ⟨u49, hJ⟩ := hJ
    obtain ⟨u50, hJ⟩ := hJ
    obtain ⟨u51, hJ⟩ := hJ
    obtain ⟨u52, hJ⟩ := hJ
    obtain ⟨u53, hJ⟩ := hJ
    obtain ⟨u54, hJ⟩ := hJ
    obtain ⟨u55, hJ⟩ := hJ
    obtain ⟨u56, hJ⟩ := hJ
    obtain ⟨u57, hJ⟩ := hJ
    obtain ⟨u58, hJ⟩ := hJ
    obtain ⟨u59, hJ⟩ := hJ
    obtain ⟨u60, hJ⟩ := hJ
    obtain ⟨u61, hJ⟩ := hJ
    obtain ⟨u62, hJ⟩ := hJ
    obtain ⟨u63, hJ⟩ := hJ
    obtain ⟨u64, hJ⟩ := hJ
    obtain ⟨u65, hJ⟩ := hJ
    obtain ⟨u66, hJ⟩ := hJ
    obtain ⟨u67, hJ⟩ := hJ
    obtain ⟨u68, hJ⟩ := hJ
    obtain ⟨u69, hJ⟩ := hJ
    obtain ⟨u70, hJ⟩ := hJ
    obtain ⟨u71, hJ⟩ := hJ
    obtain ⟨u72, hJ⟩ := hJ
    obtain ⟨u73, hJ⟩ := hJ
    obtain ⟨u74, hJ⟩ := hJ
    obtain ⟨u75, hJ⟩ := hJ
    obtain ⟨u76, hJ⟩ := hJ
    obtain ⟨u77, hJ⟩ := hJ
    obtain ⟨u78, hJ⟩ := hJ
    obtain ⟨u79, hJ⟩ := hJ
    obtain ⟨u80, hJ⟩ := hJ
    obtain ⟨u81, hJ⟩ := hJ
    obtain ⟨u82, hJ⟩ := hJ
    obtain ⟨u83, hJ⟩ := hJ
    obtain ⟨u84, hJ⟩ := hJ
    obtain ⟨u85, hJ⟩ := hJ
    obtain ⟨u86, hJ⟩ := hJ
    obtain ⟨u87, hJ⟩ := hJ
    obtain ⟨u88, hJ⟩ := hJ
    obtain ⟨u89, hJ⟩ := hJ
    obtain ⟨u90, hJ⟩ := hJ
    subst hJ
    have HI := Lib.hid hi; have HB := Lib.hid hb; have HKB := Lib.hid hkb
    clear hi hb hkb
    by_cases hlt : k < ds.length
    · obtain ⟨hp0, hp1⟩ := hN.out.digit k hlt
      have hsucc := dval_take_succ ds k hlt
      have hle := dval_take_le ds (k + 1)
      have hpos : 1 ≤ dval (ds.take k) := by
        have h2 := hN.out.head (by omega)
        have h3 := dval_take_le (ds.take k) 1
        rw [List.take_take, Nat.min_eq_left h1] at h3
        omega
      generalize hd : ds[k] = d at hp0 hp1 hsucc
      have hub : 10 * dval (ds.take k) + d ≤ 9223372036854775808 := by have := hv.out; omega
      generalize hm : dval (ds.take k) = m at hpos hub hsucc hvk
      have D : Hid (pk s ((a + 1 + k : Nat) : Int) = 48 + (d : Int)) := hp0
      have S : Hid (dval (ds.take (k + 1)) = 10 * m + d) := hsucc
      subst hvk
      clear hp0 hsucc hle hd hm
      go_wp2_with fail
      refine (peek_d g s _ _ false w0 _ D (by omega) HI.out HB.out).mono ?_
      rintro e w1 ⟨rfl, hi1, hb1, hk1⟩
      have HI1 := Lib.hid hi1; have HB1 := Lib.hid hb1; have HK1 := Lib.hid hk1
      have c1 := cellS48_1 hi1.1
      have f1 := blk_frozen hi1.1 1
      clear hi1 hb1 hk1
      go_wp2_with fail
      go_step3
      refine ⟨rfl, HK.out (n - 1) _ _ (by omega) ?_⟩
      refine JNum.mk (k + 1) ?_ ?_ ?_
      rotate_left 2
      · (repeat apply Exists.intro)
        rfl
      refine ⟨by omega, by omega, ?_, ?_, ?_, ?_⟩
      · rw [S.out]; omega
      · exact HI1.out.set_1 _
      · exact below_set HB1.out (IsS48.ge HI1.out)
      · exact KeepBut.set_ (HKB.out.trans HK1.out (.inl rfl)) _ _
    · obtain rfl : k = ds.length := by omega
      have D : Hid (pk s ((a + 1 + ds.length : Nat) : Int) < 48 ∨ 57 < pk s ((a + 1 + ds.length : Nat) : Int)) := hN.out.stop
      rw [List.take_length] at hvk
      have hub : dval ds ≤ 9223372036854775808 := hv.out
      obtain ⟨q, hq⟩ : ∃ q, q = pk s ((a + 1 + ds.length : Nat) : Int) := ⟨_, rfl⟩
      have D2 : Hid (pk s ((a + 1 + ds.length : Nat) : Int) = q) := hq.symm
      have hr := pk_range s ((a + 1 + ds.length : Nat) : Int)
      rw [← hq] at hr
      have D3 := D.out
      rw [← hq] at D3
      clear D hq
      generalize hm : dval ds = m at hvk hub
      subst hvk
      have M : Hid (dval ds = m) := hm
      clear hm
      rcases D3 with D3 | D3
      all_goals
        go_wp2_with fail
        refine (peek_d g s _ _ false w0 _ D2 (by omega) HI.out HB.out).mono ?_
        rintro e w1 ⟨rfl, hi1, hb1, hk1⟩
        have HI1 := Lib.hid hi1; have HB1 := Lib.hid hb1; have HK1 := Lib.hid hk1
        have hz : w1.heap[w.heap.size]? = some zero30 := by
          have := (HKB.out.trans HK1.out (.inl rfl)).2 w.heap.size (by simp) (by have := hgw.out; omega) (by simp)
          rw [this]; exact heap_alloc_new w _
        have q0 : w1.cell? ⟨w.heap.size, 0, none⟩ = some (.string ⟨#[]⟩) := (blk_cell hz 0).trans rfl
        have q1 : w1.cell? ⟨w.heap.size, 1, none⟩ = some (.int .i64 0) := (blk_cell hz 1).trans rfl
        have q2 : w1.cell? ⟨w.heap.size, 2, none⟩ = some (.string ⟨#[]⟩) := (blk_cell hz 2).trans rfl
        have q3 : w1.cell? ⟨w.heap.size, 3, none⟩ = some (.int .i64 0) := (blk_cell hz 3).trans rfl
        have q4 : w1.cell? ⟨w.heap.size, 4, none⟩ = some (.slice none 0 0) := (blk_cell hz 4).trans rfl
        have q5 : w1.cell? ⟨w.heap.size, 5, none⟩ = some (.slice none 0 0) := (blk_cell hz 5).trans rfl
        have z0 := blk_frozen hz 0
        have z1 := blk_frozen hz 1
        have z2 := blk_frozen hz 2
        have z3 := blk_frozen hz 3
        have z4 := blk_frozen hz 4
        have z5 := blk_frozen hz 5
        clear hi1 hb1 hk1 hz
        go_wp2_with fail
        simp only [Exit.jump]
        refine bodyPost_ret (v := .agg #[.string ⟨#[105, 110, 116]⟩, .int .i64 (-(m : Int)), .string ⟨#[]⟩, .int .i64 0, .slice none 0 0, .slice none 0 0]) (by simp [results, Tryd.results23, go_sem, q0, q1, q2, q3, q4, q5]; exact wrap_neg m hub) rfl ⟨by rw [M.out], ?_, ?_, ?_⟩
        · have hne : g ≠ w.heap.size := by have := hgw.out; omega
          exact (((((HI1.out.far hne _).far hne _).far hne _).far hne _).far hne _).far hne _
        · have hle := hBs.out
          exact below_set (below_set (below_set (below_set (below_set (below_set HB1.out hle) hle) hle) hle) hle) hle
        · have hk := (keep_alloc (KeepBut.refl w g none) zero30).trans (HKB.out.trans HK1.out (.inl rfl)) (.inl rfl)
          have hle := Nat.le_refl w.heap.size
          exact keep_far (keep_far (keep_far (keep_far (keep_far (keep_far hk hle _) hle _) hle _) hle _) hle _) hle _
  · intro K hK
    have HK := Lib.hid hK
    clear hK
    have hN0 := hN.out
    obtain ⟨hp0, hp1⟩ := hN0.digit 0 hN0.pos
    obtain ⟨d0, hd0⟩ : ∃ d, d = ds[0]'hN0.pos := ⟨_, rfl⟩
    rw [← hd0] at hp0 hp1
    have D0 : Hid (pk s ((a + 1 : Nat) : Int) = 48 + (d0 : Int)) := hp0
    have E0 : Hid (dval (ds.take 1) = d0) := by
      have := dval_take_succ ds 0 hN0.pos
      simp [dval] at this
      unfold Hid
      rw [hd0, ← this]; simp [dval]
    have hz' : ((48 + (d0 : Int)) == 48) = false := beq_eq_false_iff_ne.2 (by have := E0.out; omega)
    clear hp0 hd0 hN0
    go_wp2_with fail
    refine (peek_d g s a _ false w0 _ hM (by omega) HI.out HB.out).mono ?_
    rintro e w1 ⟨rfl, hi1, hb1, hk1⟩
    have HI1 := Lib.hid (hi1.set_1 ((a : Int) + 1)); have HB1 := Lib.hid (below_set (j := 1) (v := .int .i64 ((a : Int) + 1)) hb1 (IsS48.ge hi1)); have HK1 := Lib.hid (KeepBut.set_ hk1 1 (.int .i64 ((a : Int) + 1)))
    have c1 := cellS48_1 hi1.1
    have f1 := blk_frozen hi1.1 1
    clear hi1 hb1 hk1
    go_wp2_with fail
    clear c1 f1
    refine (peek_d g s ((a + 1 : Nat) : Int) _ false w0 _ D0 (by omega) HI1.out HB1.out).mono ?_
    rintro e w2 ⟨rfl, hi1, hb1, hk1⟩
    have HI2 := Lib.hid hi1; have HB2 := Lib.hid hb1; have HK2 := Lib.hid hk1
    clear hi1 hb1 hk1
    go_wp2_with fail
    refine (peek_d g s ((a + 1 : Nat) : Int) _ false w0 _ D0 (by omega) HI2.out HB2.out).mono ?_
    rintro e w3 ⟨rfl, hi1, hb1, hk1⟩
    have HI3 := Lib.hid hi1; have HB3 := Lib.hid hb1; have HK3 := Lib.hid hk1
    have c1 := cellS48_1 hi1.1
    have f1 := blk_frozen hi1.1 1
    clear hi1 hb1 hk1
    go_wp2_with fail
    go_step3
    go_step
    go_step
    refine HK.out (ds.length - 1) _ _ ?_
    refine JNum.mk 1 ?_ ?_ ?_
    rotate_left 2
    · (repeat apply Exists.intro)
      rfl
    refine ⟨by omega, Nat.le_refl _, ?_, ?_, ?_, ?_⟩
    · rw [E0.out]; omega
    · exact HI3.out.set_1 _
    · exact below_set HB3.out (IsS48.ge HI3.out)
    · exact KeepBut.set_ ((HK1.out.trans HK2.out (.inl rfl)).trans HK3.out (.inl rfl)) _ _
end Go.Proofs.YtamfloegflejnaaDoor
