/-
  The scanner's string: a text in quotes is read back byte for byte.
-/
import Derived.Test.YtamfloegflejnaaDoorS6
import Derived.Deep.CutRange
set_option linter.unusedVariables false
set_option linter.unusedSimpArgs false
namespace Go.Proofs.YtamfloegflejnaaDoor
open Go.RowKit Go.Proofs.YtamfloegflejnaaDoorW.PrintWords Go.Proofs.YtamfloegflejnaaDoorW.PrintLast Go.Proofs.YtamfloegflejnaaDoorW.PrintMore PExprNumbers

/-- The bytes of a text as numbers. -/
def tnums (l : List UInt8) : List Int := l.map fun b => (b.toNat : Int)
theorem tnums_length (l : List UInt8) : (tnums l).length = l.length := by simp [tnums]
theorem tnums_str (l : List UInt8) : strOfNums (tnums l) = ⟨l.toArray⟩ := by
  unfold strOfNums tnums
  rw [List.map_map]
  have : ∀ x : List UInt8, List.map ((fun n : Int => UInt8.ofNat n.toNat) ∘ fun b : UInt8 => (b.toNat : Int)) x = x := by
    intro x
    induction x with
    | nil => rfl
    | cons b x ih => simp only [List.map_cons, ih, Function.comp]; simp
  rw [this]
theorem tnums_succ (l : List UInt8) (k : Nat) (h : k < l.length) : tnums (l.take (k + 1)) = tnums (l.take k) ++ [((l[k]).toNat : Int)] := by
  unfold tnums
  rw [List.take_succ_eq_append_getElem h, List.map_append]
  rfl
theorem infoU8 : (Tryd.prog.info? 5).map (fun i => (i.zero, i.size, i.bytes)) = some (some (.int .u8 0), 1, 1) := by kernel_rfl

theorem str_own {w w' w1 : World} {g k : Nat} {v : Value} {xs : List UInt8} (ho : w'.ownsRow (w.heap.size + 1) 5 1 v k (nums .u8 (tnums xs))) (hk : KeepBut w' w1 g none) (hg : g < w.heap.size) (j : Nat) (u : Value) :
    (w1.setCell ⟨g, j, none⟩ u).ownsRow (w.heap.size + 1) 5 1 v (tnums xs).length (nums .u8 (tnums xs)) := by
  have e : (tnums xs).length = k := by have := ho.1; simpa [nums] using this
  rw [e]
  refine ownsRow_setCell_below (hk.own ho (fun h => ?_) ?_) (show g < w.heap.size + 1 by omega) u
  · have := (ho.lt _ h).1; exact absurd this (by omega)
  · cases hv : v.ownBlock with
    | none => exact .inl rfl
    | some b => exact .inr (by simp)

theorem str_keep {w w' w1 : World} {g m : Nat} {v : Value} {xs : List Value} (ho : w'.ownsRow (w.heap.size + 1) 5 1 v m xs) (hk : KeepBut w' w1 g none) (hg : g < w.heap.size) : w1.ownsRow (w.heap.size + 1) 5 1 v m xs := by
  refine hk.own ho (fun h => ?_) ?_
  · have := (ho.lt _ h).1; exact absurd this (by omega)
  · cases hv : v.ownBlock with
    | none => exact .inl rfl
    | some b => exact .inr (by simp)
theorem blk_set_far {w : World} {k : Nat} {o : Obj} (h : w.heap[k]? = some o) {p : Addr} (hp : p.block ≠ k) (u : Value) : (w.setCell p u).heap[k]? = some o := (Below.heap_setCell w p u k hp.symm).trans h

theorem str_put {w0 w w2 w3 : World} {g m : Nat} {s : ByteArray} {a : Int} {v : Value} {xs : List Value} {o : Obj} (hI : IsS48 w0 w2 g s a false) (hB : Below w0.heap.size w0 w2) (hK : KeepBut (w.alloc zero30) w2 g none)
    (hO : w2.ownsRow (w.heap.size + 1) 5 1 v m xs) (hg : (w2.alloc o).grownBy w3 v.ownBlock) (hgw : g < w.heap.size) (hw : w0.heap.size ≤ w.heap.size) :
    IsS48 w0 w3 g s a false ∧ Below w0.heap.size w0 w3 ∧ KeepBut (w.alloc zero30) w3 g none := by
  have hbase := own_base hO
  refine ⟨(hI.alloc o).grown hg (fun e => ?_), ?_, ?_⟩
  · have := hbase g e.symm; omega
  · exact (below_alloc hB o).grown hg (by have := hB.size; simp; omega) (fun k e => by have := hbase k e; omega)
  · refine (keep_alloc hK o).trans (KeepBut.of_grown hg g) ?_
    rcases own_base' hO with h | ⟨b, h, hb⟩
    · exact .inl h
    · exact .inr ⟨b, h, by simpa using hb⟩

/-- What holds at the label when k bytes have been read. -/
def JStr (g : Nat) (s : ByteArray) (l : List UInt8) (w0 w : World) (n : Nat) (a' : Act) (w' : World) : Prop :=
  ∃ (k : Nat) (v : Value), (n + k = l.length ∧ IsS48 w0 w' g s ((encAt l k : Nat) : Int) false ∧ Below w0.heap.size w0 w' ∧ KeepBut (w.alloc zero30) w' g none ∧ w'.ownsRow (w.heap.size + 1) 5 1 v k (nums .u8 (tnums (l.take k)))) ∧ ∃ u1 u4 u5 u6 u7 u8 u9 u10 u11 u12 u13 u14 u15 u16 u17 u18 u19 u20 u21 u22 u23 u24 u25 u26 u27 u28 u29 u30 u31 u32 u33 u34 u35 u36 u37 u38 u39 u40 u41 u42 u43 u44 u45 u46 u47 u48 u49 u50 u51 u52 u53 u54 u55 u56 u57 : Value, a' = { tmps := #[.pointer (some ⟨g, 0, none⟩), u1, .pointer (some ⟨w.heap.size, 0, none⟩), v, u4, u5, u6, u7, u8, u9, u10, u11, u12, u13, u14, u15, u16, u17, u18, u19, u20, u21, u22, u23, u24, u25, u26, u27, u28, u29, u30, u31, u32, u33, u34, u35, u36, u37, u38, u39, u40, u41, u42, u43, u44, u45, u46, u47, u48, u49, u50, u51, u52, u53, u54, u55, u56, u57], defers := [] }

theorem JStr.mk {g : Nat} {s : ByteArray} {l : List UInt8} {w0 w : World} {n : Nat} {a' : Act} {w' : World} (k : Nat) (v : Value) (h : n + k = l.length ∧ IsS48 w0 w' g s ((encAt l k : Nat) : Int) false ∧ Below w0.heap.size w0 w' ∧ KeepBut (w.alloc zero30) w' g none ∧ w'.ownsRow (w.heap.size + 1) 5 1 v k (nums .u8 (tnums (l.take k)))) (hf : ∃ u1 u4 u5 u6 u7 u8 u9 u10 u11 u12 u13 u14 u15 u16 u17 u18 u19 u20 u21 u22 u23 u24 u25 u26 u27 u28 u29 u30 u31 u32 u33 u34 u35 u36 u37 u38 u39 u40 u41 u42 u43 u44 u45 u46 u47 u48 u49 u50 u51 u52 u53 u54 u55 u56 u57 : Value, a' = { tmps := #[.pointer (some ⟨g, 0, none⟩), u1, .pointer (some ⟨w.heap.size, 0, none⟩), v, u4, u5, u6, u7, u8, u9, u10, u11, u12, u13, u14, u15, u16, u17, u18, u19, u20, u21, u22, u23, u24, u25, u26, u27, u28, u29, u30, u31, u32, u33, u34, u35, u36, u37, u38, u39, u40, u41, u42, u43, u44, u45, u46, u47, u48, u49, u50, u51, u52, u53, u54, u55, u56, u57], defers := [] }) : JStr g s l w0 w n a' w' := ⟨k, v, h, hf⟩

set_option maxHeartbeats 1000000 in
set_option maxRecDepth 100000 in
theorem str_ok (g : Nat) (s : ByteArray) (l : List UInt8) (w0 w : World) (hI : IsS48 w0 w g s 1 false) (hB : Below w0.heap.size w0 w) (hT : Hid (TextAt s l)) (hl : l.length ≤ 256) (hs : s.size ≤ 4096) :
    Calls Tryd.prog 22 #[.pointer (some ⟨g, 0, none⟩)] w fun e w' => e = .returned (.agg #[.string ⟨#[116, 101, 120, 116, 95, 111, 102]⟩, .int .i64 0, .string ⟨l.toArray⟩, .int .i64 0, .slice none 0 0, .slice none 0 0]) ∧ After w0 w w' g s (s.size : Int) false := by
  obtain ⟨i0, hi, hz0, hz1, hz2⟩ := info_parts infoU8
  have HI := Lib.hid (hI.alloc zero30)
  have HB := Lib.hid (Below.alloc hB hB.size zero30)
  have hgw : Hid (g < w.heap.size) := hI.lt
  have hBs : Hid (w0.heap.size ≤ w.heap.size) := hB.size
  clear hI hB
  go_enter Tryd.func22, Tryd.ntmps22
  go_wp2_with fail
  refine wp_scope_k 0 (JStr g s l w0 w) rfl ?_ ?_
  · intro n a' w' hJ K hK
    have HK := Lib.hid hK
    clear hK
    obtain ⟨k, v, ⟨hk, hii, hb, hkb, ho⟩, hJ⟩ := hJ
    obtain ⟨u1, hJ⟩ := hJ
    obtain ⟨u4, hJ⟩ := hJ
    obtain ⟨u5, hJ⟩ := hJ
    obtain ⟨u6, hJ⟩ := hJ
    obtain ⟨u7, hJ⟩ := hJ
    obtain ⟨u8, hJ⟩ := hJ
    obtain ⟨u9, hJ⟩ := hJ
    obtain ⟨u10, hJ⟩ := hJ
    obtain ⟨u11, hJ⟩ := hJ
    obtain ⟨u12, hJ⟩ := hJ
    obtain ⟨u13, hJ⟩ := hJ
    obtain ⟨u14, hJ⟩ := hJ
    obtain ⟨u15, hJ⟩ := hJ
    obtain ⟨u16, hJ⟩ := hJ
    obtain ⟨u17, hJ⟩ := hJ
    obtain ⟨u18, hJ⟩ := hJ
    obtain ⟨u19, hJ⟩ := hJ
    obtain ⟨u20, hJ⟩ := hJ
    obtain ⟨u21, hJ⟩ := hJ
    obtain ⟨u22, hJ⟩ := hJ
    obtain ⟨u23, hJ⟩ := hJ
    obtain ⟨u24, hJ⟩ := hJ
    obtain ⟨u25, hJ⟩ := hJ
    obtain ⟨u26, hJ⟩ := hJ
    obtain ⟨u27, hJ⟩ := hJ
    obtain ⟨u28, hJ⟩ := hJ
    obtain ⟨u29, hJ⟩ := hJ
    obtain ⟨u30, hJ⟩ := hJ
    obtain ⟨u31, hJ⟩ := hJ
    obtain ⟨u32, hJ⟩ := hJ
    obtain ⟨u33, hJ⟩ := hJ
    obtain ⟨u34, hJ⟩ := hJ
    obtain ⟨u35, hJ⟩ := hJ
    obtain ⟨u36, hJ⟩ := hJ
    obtain ⟨u37, hJ⟩ := hJ
    obtain ⟨u38, hJ⟩ := hJ
    obtain ⟨u39, hJ⟩ := hJ
    obtain ⟨u40, hJ⟩ := hJ
    obtain ⟨u41, hJ⟩ := hJ
    obtain ⟨u42, hJ⟩ := hJ
    obtain ⟨u43, hJ⟩ := hJ
    obtain ⟨u44, hJ⟩ := hJ
    obtain ⟨u45, hJ⟩ := hJ
    obtain ⟨u46, hJ⟩ := hJ
    obtain ⟨u47, hJ⟩ := hJ
    obtain ⟨u48, hJ⟩ := hJ
    obtain ⟨u49, hJ⟩ := hJ
    obtain ⟨u50, hJ⟩ := hJ
    obtain ⟨u51, hJ⟩ := hJ
    obtain ⟨u52, hJ⟩ := hJ
    obtain ⟨u53, hJ⟩ := hJ
    obtain ⟨u54, hJ⟩ := hJ
    obtain ⟨u55, hJ⟩ := hJ
    obtain ⟨u56, hJ⟩ := hJ
    obtain ⟨u57, hJ⟩ := hJ
    subst hJ
    have HI := Lib.hid hii; have HB := Lib.hid hb; have HKB := Lib.hid hkb; have HO := Lib.hid ho
    clear hii hb hkb
    have hkl : k ≤ l.length := by omega
    have hpk := hT.out.below k hkl
    obtain ⟨A, c, rfl⟩ := own_slice ho
    clear ho
    by_cases hlt : k < l.length
    · obtain ⟨b, hbd⟩ : ∃ b, b = l[k] := ⟨_, rfl⟩
      have hsucc := tnums_succ l k hlt
      rw [← hbd] at hsucc
      have SU := Lib.hid hsucc
      clear hsucc
      have hk256 : ((k : Int) == 256) = false := by rw [beq_eq_false_iff_ne]; omega
      cases hp : plainZ b.toNat with
      | true =>
        have hpl := hT.out.plain k hlt (by rw [← hbd]; exact hp)
        rw [← hbd] at hpl
        obtain ⟨D, NX⟩ := hpl
        have D := Lib.hid D; have NX := Lib.hid NX; have HP := Lib.hid hp
        have h34 : ((b.toNat : Int) == 34) = false := by simp [plainZ] at hp; rw [beq_eq_false_iff_ne]; omega
        have h92 : ((b.toNat : Int) == 92) = false := by simp [plainZ] at hp; rw [beq_eq_false_iff_ne]; omega
        have hb255 : (b.toNat : Int) ≤ 255 := by have := b.toNat_lt; omega
        clear hp hbd
        generalize encAt l k = p at D HI NX hpk
        go_wp2_with fail
        refine (peek_d g s _ _ false w0 _ D (by omega) HI.out HB.out).mono ?_
        rintro e w1 ⟨rfl, hi1, hb1, hk1⟩
        have HI1 := Lib.hid hi1; have HB1 := Lib.hid hb1; have HK1 := Lib.hid hk1
        have c1 := cellS48_1 hi1.1
        have f1 := blk_frozen hi1.1 1
        clear hi1 hb1 hk1
        go_wp2_with fail
        refine (plain_any _ _).mono ?_
        rw [HP.out]
        rintro e w1' ⟨rfl, rfl⟩
        have HIZ := Lib.hid (HI1.out.set_1 ((p : Int) + 1))
        have HBZ := Lib.hid (below_set (j := 1) (v := .int .i64 ((p : Int) + 1)) HB1.out (IsS48.ge HI1.out))
        have HKZ := Lib.hid (KeepBut.set_ (HKB.out.trans HK1.out (.inl rfl)) 1 (.int .i64 ((p : Int) + 1)))
        have hgl := hgw.out
        have HOZ := Lib.hid (str_own HO.out HK1.out hgl 1 (.int .i64 ((p : Int) + 1)))
        go_upto_region 10 with fail
        generalize w1'.setCell ⟨g, 1, none⟩ (.int .i64 ((p : Int) + 1)) = w2 at HIZ HBZ HKZ HOZ ⊢
        clear c1 f1
        go_wp2_with (at_builtin; refine wpList_append_own _ rfl _ _ 38 rfl (w.heap.size + 1) 5 i0 (.int .u8 0) 1 1 Tryd.underlying38 hi hz0 hz1 hz2 rfl (by decide) _ _ _ rfl (HOZ.out.alloc _) ⟨w2.heap.size, 0, none⟩ 1 1 [.int .u8 (b.toNat : Int)] rfl rfl ?c1 ?c2 ?c3 ?c4 ?c5 ?_)
        case c1 =>
          intro j u hj
          match j, hj with
          | 0, hj => simp at hj; subst hj; simp [Addr.add]
        case c2 => intro u hu; simp at hu; subst hu; rfl
        case c3 => rw [tnums_length, List.length_take]; unfold maxLen; omega
        case c4 => rw [tnums_length, List.length_take]; omega
        case c5 => have := HKZ.out.1; simp at this ⊢; omega
        intro v' w3 hown' hgrow _
        obtain ⟨hi3, hb3, hk3⟩ := str_put HIZ.out HBZ.out HKZ.out HOZ.out hgrow hgw.out hBs.out
        have HI3 := Lib.hid hi3; have HB3 := Lib.hid hb3; have HK3 := Lib.hid hk3; have HO3 := Lib.hid hown'
        have c2 := cellS48_2 hi3.1
        clear hi3 hb3 hk3 hown' hgrow
        go_wp2_with fail
        go_step3
        refine ⟨rfl, HK.out (n - 1) _ _ (by omega) ?_⟩
        refine JStr.mk (k + 1) v' ?_ ?_
        rotate_left
        · (repeat apply Exists.intro)
          rfl
        refine ⟨by omega, ?_, HB3.out, HK3.out, ?_⟩
        · rw [NX.out]; exact HI3.out
        · have := HO3.out
          rw [SU.out]
          rw [tnums_length, List.length_take, Nat.min_eq_left (by omega)] at this
          simpa [nums] using this
      | false =>
        have hpl := hT.out.esc k hlt (by rw [← hbd]; exact hp)
        rw [← hbd] at hpl
        obtain ⟨D, E1, E2, NX⟩ := hpl
        have D := Lib.hid D; have NX := Lib.hid NX; have E1 := Lib.hid E1; have E2 := Lib.hid E2
        have HP2 : Hid (plainZ 92 = false) := Lib.hid (by decide)
        have hb255 : (b.toNat : Int) ≤ 255 := by have := b.toNat_lt; omega
        clear hbd
        generalize encAt l k = p at D HI NX hpk E1 E2
        go_wp2_with fail
        refine (peek_d g s _ _ false w0 _ D (by omega) HI.out HB.out).mono ?_
        rintro e w1 ⟨rfl, hi1, hb1, hk1⟩
        have HI1 := Lib.hid hi1; have HB1 := Lib.hid hb1; have HK1 := Lib.hid hk1
        have c1 := cellS48_1 hi1.1
        have f1 := blk_frozen hi1.1 1
        clear hi1 hb1 hk1
        go_wp2_with fail
        refine (plain_any _ _).mono ?_
        rw [HP2.out]
        rintro e w1' ⟨rfl, rfl⟩
        have HIZ := Lib.hid (HI1.out.set_1 ((p : Int) + 1))
        have HBZ := Lib.hid (below_set (j := 1) (v := .int .i64 ((p : Int) + 1)) HB1.out (IsS48.ge HI1.out))
        have HKZ := Lib.hid (KeepBut.set_ (HKB.out.trans HK1.out (.inl rfl)) 1 (.int .i64 ((p : Int) + 1)))
        have hgl := hgw.out
        have HOZ := Lib.hid (str_own HO.out HK1.out hgl 1 (.int .i64 ((p : Int) + 1)))
        go_upto_region 10 with fail
        generalize w1'.setCell ⟨g, 1, none⟩ (.int .i64 ((p : Int) + 1)) = w2 at HIZ HBZ HKZ HOZ ⊢
        clear c1 f1
        go_wp2_with fail
        refine (escape_ok g s (p + 1) b w0 w2 HIZ.out HBZ.out hp E1 E2 (by omega)).mono ?_
        rintro e w4 ⟨rfl, hi4, hb4, hk4⟩
        have HIY := Lib.hid hi4; have HBY := Lib.hid hb4; have HKY := Lib.hid (HKZ.out.trans hk4 (.inl rfl))
        have HOY := Lib.hid (str_keep HOZ.out hk4 hgl)
        clear hi4 hb4 hk4 HIZ HBZ HKZ HOZ
        have HIZ := HIY; have HBZ := HBY; have HKZ := HKY; have HOZ := HOY
        clear HIY HBY HKY HOY
        go_wp2_with (at_builtin; refine wpList_append_own _ rfl _ _ 38 rfl (w.heap.size + 1) 5 i0 (.int .u8 0) 1 1 Tryd.underlying38 hi hz0 hz1 hz2 rfl (by decide) _ _ _ rfl (HOZ.out.alloc _) ⟨w4.heap.size, 0, none⟩ 1 1 [.int .u8 (b.toNat : Int)] rfl rfl ?c1 ?c2 ?c3 ?c4 ?c5 ?_)
        case c1 =>
          intro j u hj
          match j, hj with
          | 0, hj => simp at hj; subst hj; simp [Addr.add]
        case c2 => intro u hu; simp at hu; subst hu; rfl
        case c3 => rw [tnums_length, List.length_take]; unfold maxLen; omega
        case c4 => rw [tnums_length, List.length_take]; omega
        case c5 => have := HKZ.out.1; simp at this ⊢; omega
        intro v' w3 hown' hgrow _
        obtain ⟨hi3, hb3, hk3⟩ := str_put HIZ.out HBZ.out HKZ.out HOZ.out hgrow hgw.out hBs.out
        have HI3 := Lib.hid hi3; have HB3 := Lib.hid hb3; have HK3 := Lib.hid hk3; have HO3 := Lib.hid hown'
        have c2 := cellS48_2 hi3.1
        clear hi3 hb3 hk3 hown' hgrow
        go_wp2_with fail
        go_step3
        refine ⟨rfl, HK.out (n - 1) _ _ (by omega) ?_⟩
        refine JStr.mk (k + 1) v' ?_ ?_
        rotate_left
        · (repeat apply Exists.intro)
          rfl
        refine ⟨by omega, ?_, HB3.out, HK3.out, ?_⟩
        · rw [NX.out]; exact HI3.out
        · have := HO3.out
          rw [SU.out]
          rw [tnums_length, List.length_take, Nat.min_eq_left (by omega)] at this
          simpa [nums] using this
    · obtain rfl : k = l.length := by omega
      obtain ⟨D, NX⟩ := hT.out.last
      have D := Lib.hid D; have NX := Lib.hid NX
      generalize encAt l l.length = p at D HI NX hpk
      go_wp2_with fail
      refine (peek_d g s _ _ false w0 _ D (by omega) HI.out HB.out).mono ?_
      rintro e w1 ⟨rfl, hi1, hb1, hk1⟩
      have HI1 := Lib.hid hi1; have HB1 := Lib.hid hb1; have HK1 := Lib.hid hk1
      have c1 := cellS48_1 hi1.1
      have f1 := blk_frozen hi1.1 1
      have hz : w1.heap[w.heap.size]? = some zero30 := by
        have := (HKB.out.trans HK1.out (.inl rfl)).2 w.heap.size (by simp) (by have := hgw.out; omega) (by simp)
        rw [this]; exact heap_alloc_new w _
      clear hi1 hb1 hk1
      have HIZ := Lib.hid (HI1.out.set_1 ((p : Int) + 1))
      have HBZ := Lib.hid (below_set (j := 1) (v := .int .i64 ((p : Int) + 1)) HB1.out (IsS48.ge HI1.out))
      have HKZ := Lib.hid (KeepBut.set_ (HKB.out.trans HK1.out (.inl rfl)) 1 (.int .i64 ((p : Int) + 1)))
      have hgl := hgw.out
      have HOZ := Lib.hid (str_own HO.out HK1.out hgl 1 (.int .i64 ((p : Int) + 1)))
      have HZ := Lib.hid (blk_set_far hz (show (⟨g, 1, none⟩ : Addr).block ≠ w.heap.size by show g ≠ _; omega) (.int .i64 ((p : Int) + 1)))
      go_upto_region 5 with fail
      generalize w1.setCell ⟨g, 1, none⟩ (.int .i64 ((p : Int) + 1)) = w2 at HIZ HBZ HKZ HOZ HZ ⊢
      clear c1 f1 hz
      have hstr := own_string (P := Tryd.prog) Tryd.underlying38 Tryd.underlying5 Tryd.underlying9 HOZ.out
      rw [List.take_length, tnums_str] at hstr
      have q0 : w2.cell? ⟨w.heap.size, 0, none⟩ = some (.string ⟨#[]⟩) := (blk_cell HZ.out 0).trans rfl
      have q1 : w2.cell? ⟨w.heap.size, 1, none⟩ = some (.int .i64 0) := (blk_cell HZ.out 1).trans rfl
      have q2 : w2.cell? ⟨w.heap.size, 2, none⟩ = some (.string ⟨#[]⟩) := (blk_cell HZ.out 2).trans rfl
      have q3 : w2.cell? ⟨w.heap.size, 3, none⟩ = some (.int .i64 0) := (blk_cell HZ.out 3).trans rfl
      have q4 : w2.cell? ⟨w.heap.size, 4, none⟩ = some (.slice none 0 0) := (blk_cell HZ.out 4).trans rfl
      have q5 : w2.cell? ⟨w.heap.size, 5, none⟩ = some (.slice none 0 0) := (blk_cell HZ.out 5).trans rfl
      have z0 := blk_frozen HZ.out 0
      have z1 := blk_frozen HZ.out 1
      have z2 := blk_frozen HZ.out 2
      have z3 := blk_frozen HZ.out 3
      have z4 := blk_frozen HZ.out 4
      have z5 := blk_frozen HZ.out 5
      go_wp2_with fail
      simp only [Exit.jump]
      refine bodyPost_ret (v := .agg #[.string ⟨#[116, 101, 120, 116, 95, 111, 102]⟩, .int .i64 0, .string ⟨l.toArray⟩, .int .i64 0, .slice none 0 0, .slice none 0 0]) (by simp [results, Tryd.results22, go_sem, q0, q1, q2, q3, q4, q5]) rfl ⟨rfl, ?_, ?_, ?_⟩
      · have hne : g ≠ w.heap.size := by omega
        have e : ((s.size : Nat) : Int) = (p : Int) + 1 := by have := NX.out; omega
        rw [e]
        exact (((((HIZ.out.far hne _).far hne _).far hne _).far hne _).far hne _).far hne _
      · have hle := hBs.out
        exact below_set (below_set (below_set (below_set (below_set (below_set HBZ.out hle) hle) hle) hle) hle) hle
      · have hk := (keep_alloc (KeepBut.refl w g none) zero30).trans HKZ.out (.inl rfl)
        have hle := Nat.le_refl w.heap.size
        exact keep_far (keep_far (keep_far (keep_far (keep_far (keep_far hk hle _) hle _) hle _) hle _) hle _) hle _
  · intro K hK
    have HK := Lib.hid hK
    clear hK
    go_wp2_with fail
    go_step3
    go_step
    go_step
    refine HK.out l.length _ _ (JStr.mk 0 (.slice none 0 0) ⟨by omega, ?_, HB.out, KeepBut.refl _ _ _, ?_⟩ ?_)
    rotate_left 2
    · (repeat apply Exists.intro)
      rfl
    · exact HI.out
    · exact World.ownsRow_nil _ _ _ _

end Go.Proofs.YtamfloegflejnaaDoor
