/-
  The scanner's string: a text in quotes is read back byte for byte.
-/
import Derived.Test.YtamfloegflejnaaDoorS3
import Derived.Test.YtamfloegflejnaaDoorShelf
import Derived.Test.YtamfloegflejnaaDoorE
set_option linter.unusedVariables false
set_option linter.unusedSimpArgs false
namespace Go.Proofs.YtamfloegflejnaaDoor
open Go.RowKit Go.Proofs.YtamfloegflejnaaDoorW.PrintWords Go.Proofs.YtamfloegflejnaaDoorW.PrintLast Go.Proofs.YtamfloegflejnaaDoorW.PrintMore PExprNumbers
set_option maxHeartbeats 1000000 in
set_option maxRecDepth 100000 in
theorem plain_any (c : Int) (w : World) : Calls Tryd.prog 30 #[.int .u8 c] w fun e w' => e = .returned (.bool (plainZ c)) ∧ w' = w := by
  unfold plainZ
  go_enter Tryd.func30, Tryd.ntmps30
  go_wp2
  all_goals go_ret
  all_goals (refine ⟨?_, rfl⟩; simp only [Array.getD_eq_getD_getElem?, List.getElem?_toArray, List.getElem?_cons_succ, List.getElem?_cons_zero, Option.getD_some, Ending.returned.injEq, Value.bool.injEq]; rw [Bool.eq_iff_iff]; simp; omega)

set_option maxHeartbeats 1000000 in
set_option maxRecDepth 100000 in
theorem hex_any (c : Int) (w : World) : Calls Tryd.prog 48 #[.int .u8 c] w fun e w' => e = .returned (.int .i64 (hexv c)) ∧ w' = w := by
  go_enter Tryd.func48, Tryd.ntmps48
  go_wp2_with fail
  refine (Tryd.strings_IndexByte _ _ _).mono ?_
  rintro e w1 ⟨rfl, rfl⟩
  go_wp2_with fail
  refine bodyPost_ret (v := .int .i64 (hexv c)) (by simp [results, Tryd.results48, go_sem]; rfl) rfl ⟨rfl, rfl⟩
theorem or_fin : ∀ hi lo : Fin 16, bits BinOp.or IntKind.i64 ((hi.val : Int) * 16) (bits BinOp.and IntKind.i64 (lo.val : Int) 15) % 256 = (hi.val : Int) * 16 + (lo.val : Int) := by decide +kernel
theorem or_eq (hi lo : Nat) (h : hi < 16) (l : lo < 16) : bits BinOp.or IntKind.i64 ((hi : Int) * 16) (bits BinOp.and IntKind.i64 (lo : Int) 15) % 256 = (hi : Int) * 16 + (lo : Int) := or_fin ⟨hi, h⟩ ⟨lo, l⟩
set_option maxHeartbeats 1000000 in
set_option maxRecDepth 100000 in
theorem escape_ok (g : Nat) (s : ByteArray) (a : Nat) (b : UInt8) (w0 w : World) (hI : IsS48 w0 w g s a false) (hB : Below w0.heap.size w0 w) (hp : plainZ b.toNat = false)
    (D0 : Hid (pk s ((a : Nat) : Int) = (hx (b.toNat / 16) : Int))) (D1 : Hid (pk s ((a : Nat) + 1 : Int) = (hx (b.toNat % 16) : Int))) (ha : a ≤ 140737488351232) :
    Calls Tryd.prog 36 #[.pointer (some ⟨g, 0, none⟩)] w fun e w' => e = .returned (.int .u8 (b.toNat : Int)) ∧ After w0 w w' g s ((a + 2 : Nat) : Int) false := by
  have hb : b.toNat < 256 := b.toNat_lt
  have hhi := esc_high b hp
  have X0 := Lib.hid (hexv_hx (b.toNat / 16) (by omega))
  have X1 := Lib.hid (hexv_hx (b.toNat % 16) (by omega))
  have R0 := hx_range (b.toNat / 16) (by omega)
  have R1 := hx_range (b.toNat % 16) (by omega)
  have HP := Lib.hid hp
  clear hp
  have hor := or_eq (b.toNat / 16) (b.toNat % 16) (by omega) (by omega)
  rw [show ((b.toNat / 16 : Nat) : Int) * 16 + ((b.toNat % 16 : Nat) : Int) = (b.toNat : Int) by omega] at hor
  have OR := Lib.hid hor
  clear hor
  have hlt : b.toNat / 16 < 16 := by omega
  generalize b.toNat / 16 = hi at OR hlt D0 X0 R0 hhi
  generalize b.toNat % 16 = lo at OR D1 X1 R1
  generalize hx hi = ch at D0 X0 R0
  generalize hx lo = cl at D1 X1 R1
  have HI := Lib.hid hI; have HB := Lib.hid hB
  clear hI hB
  go_enter Tryd.func36, Tryd.ntmps36
  go_wp2_with fail
  refine (peek_d g s _ _ false w0 _ D0 (by omega) HI.out HB.out).mono ?_
  rintro e w1 ⟨rfl, hi1, hb1, hk1⟩
  have HI1 := Lib.hid hi1; have HB1 := Lib.hid hb1; have HK1 := Lib.hid hk1
  clear hi1 hb1 hk1
  go_wp2_with fail
  refine (hex_any _ _).mono ?_
  rw [X0.out]
  rintro e w1 ⟨rfl, rfl⟩
  go_wp2_with fail
  refine (peek_d g s _ _ false w0 _ D0 (by omega) HI1.out HB1.out).mono ?_
  rintro e w2 ⟨rfl, hi1, hb1, hk1⟩
  have HI2 := Lib.hid hi1; have HB2 := Lib.hid hb1; have HK2 := Lib.hid hk1
  have c1 := cellS48_1 hi1.1
  have f1 := blk_frozen hi1.1 1
  clear hi1 hb1 hk1
  have n3 : ((hi : Int) == 3) = false := by rw [beq_eq_false_iff_ne]; omega
  have n4 : ((hi : Int) == 4) = false := by rw [beq_eq_false_iff_ne]; omega
  have n6 : ((hi : Int) == 6) = false := by rw [beq_eq_false_iff_ne]; omega
  have n0 : ((ch : Int) == 0) = false := by rw [beq_eq_false_iff_ne]; omega
  have nn : decide ((hi : Int) < 0) = false := by rw [decide_eq_false_iff_not]; omega
  go_wp2_with fail
  have HI3 := Lib.hid (HI2.out.set_1 ((a : Int) + 1))
  have HB3 := Lib.hid (below_set (j := 1) (v := .int .i64 ((a : Int) + 1)) HB2.out (IsS48.ge HI2.out))
  have HK3 := Lib.hid (KeepBut.set_ (HK1.out.trans HK2.out (.inl rfl)) 1 (.int .i64 ((a : Int) + 1)))
  clear c1 f1 n3 n4 n6 n0 nn
  generalize w2.setCell ⟨g, 1, none⟩ (.int .i64 ((a : Int) + 1)) = w3 at HI3 HB3 HK3 ⊢
  refine (peek_d g s _ _ false w0 _ D1 (by omega) HI3.out HB3.out).mono ?_
  rintro e w4 ⟨rfl, hi1, hb1, hk1⟩
  have HI4 := Lib.hid hi1; have HB4 := Lib.hid hb1; have HK4 := Lib.hid (HK3.out.trans hk1 (.inl rfl))
  clear hi1 hb1 hk1
  go_wp2_with fail
  refine (hex_any _ _).mono ?_
  rw [X1.out]
  rintro e w5 ⟨rfl, rfl⟩
  go_wp2_with fail
  refine (peek_d g s _ _ false w0 _ D1 (by omega) HI4.out HB4.out).mono ?_
  rintro e w6 ⟨rfl, hi1, hb1, hk1⟩
  have HI6 := Lib.hid hi1; have HB6 := Lib.hid hb1; have HK6 := Lib.hid (HK4.out.trans hk1 (.inl rfl))
  have c1 := cellS48_1 hi1.1
  have f1 := blk_frozen hi1.1 1
  clear hi1 hb1 hk1
  have n0 : ((cl : Int) == 0) = false := by rw [beq_eq_false_iff_ne]; omega
  have nn : decide ((lo : Int) < 0) = false := by rw [decide_eq_false_iff_not]; omega
  go_wp2_with fail
  simp only [OR.out]
  refine (plain_any _ _).mono ?_
  rw [HP.out]
  rintro e w7 ⟨rfl, rfl⟩
  go_wp2_with fail
  refine bodyPost_ret (v := .int .u8 (b.toNat : Int)) (by simp [results, Tryd.results36, go_sem]) rfl ⟨rfl, ?_, ?_, ?_⟩
  · have := HI6.out.set_1 ((a : Int) + 1 + 1)
    rw [show (a : Int) + 1 + 1 = ((a + 2 : Nat) : Int) by omega] at this
    exact this
  · exact below_set HB6.out (IsS48.ge HI6.out)
  · exact KeepBut.set_ HK6.out _ _

end Go.Proofs.YtamfloegflejnaaDoor
