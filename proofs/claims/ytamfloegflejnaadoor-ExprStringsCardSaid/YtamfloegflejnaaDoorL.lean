/-
  The walk of ExprNumbers: the numeral of n is told, read back, and read afresh from its bytes.
-/
import Derived.Test.YtamfloegflejnaaDoorA
import Derived.Test.YtamfloegflejnaaDoorP
set_option linter.unusedVariables false
set_option linter.unusedSimpArgs false
namespace Go.Proofs.YtamfloegflejnaaDoor
open Go.RowKit Go.Proofs.YtamfloegflejnaaDoorW.PrintWords Go.Proofs.YtamfloegflejnaaDoorW.PrintLast Go.Proofs.YtamfloegflejnaaDoorW.PrintMore PExprNumbers

theorem tab_below {B : Nat} {w W : World} (h : Below B w W) (hB : Hid (∀ g, Tryd.prog.globalNamed "internal/strconv.uint64pow10" = some g → g < B)) (ht : Tab w) : Tab W := by
  unfold Tab Lib.TabIs World.var? at *
  cases hg : Tryd.prog.globalNamed "internal/strconv.uint64pow10" with
  | none => rw [hg] at ht; simp at ht
  | some g =>
    rw [hg] at ht
    simp only [Option.bind_some] at ht ⊢
    rw [h.block g (hB.out g hg)]
    exact ht

theorem tab_lt {w : World} (ht : Tab w) : Hid (∀ g, Tryd.prog.globalNamed "internal/strconv.uint64pow10" = some g → g < w.heap.size) := by
  refine Lib.hid fun g hg => ?_
  unfold Tab Lib.TabIs World.var? at ht
  rw [hg] at ht
  simp only [Option.bind_some] at ht
  rcases Nat.lt_or_ge g w.heap.size with h' | h'
  · exact h'
  · rw [Array.getElem?_eq_none h'] at ht; simp at ht

theorem blanks_stay (s : ByteArray) (a : Nat) (h : pk s (a : Int) ≠ 32) : expr_scanner_blanks.f 20 s (a : Int) false = some (s, (a : Int), false) := by
  unfold expr_scanner_blanks.f expr_scanner_blanks.l0
  unfold pk at h
  split
  · rename_i hl
    rw [if_pos hl] at h
    rw [if_pos (by omega), if_neg h]
  · rfl

/-- The scanner at a numeral. -/
theorem does_num (n : Int) (s : ByteArray) (off : Nat) (ds : List Nat) (h0 : -9223372036854775808 ≤ n) (h1 : n ≤ 9223372036854775807) (H : Numeral n s off ds) (w : World) :
    ExprDoes w s (s.size : Int) false ⟨#[105, 110, 116]⟩ n ⟨#[]⟩ 0 [] := by
  intro W g hI hB
  have hsz := H.size
  have hsh := H.short
  have hso := H.some
  have key : Calls Tryd.prog 11 #[.pointer (some ⟨g, 0, none⟩), .int .i64 24] W fun e w' => e = .returned (.agg #[.string ⟨#[105, 110, 116]⟩, .int .i64 n, .string ⟨#[]⟩, .int .i64 0, .slice none 0 0, .slice none 0 0]) ∧ After w W w' g s (s.size : Int) false := by
    by_cases hn : 0 ≤ n
    · obtain ⟨rfl, hv⟩ := H.pos hn
      have hb := H.num.digit 0 (by omega)
      have hp : pk s ((0 : Nat) : Int) = 48 + (ds[0] : Int) := by simpa using hb.1
      refine expr_num 20 g s ((0 : Nat) : Int) ((0 : Nat) : Int) (s.size : Int) (48 + (ds[0] : Int)) 24 n 0 0 0 0 0 ⟨#[105, 110, 116]⟩ ⟨#[]⟩ false w W hI hB (blanks_stay s 0 (by rw [hp]; omega)) (by omega) (Lib.hid hp) (by rw [beq_eq_false_iff_ne]; omega) (.inr ⟨by rw [beq_eq_false_iff_ne]; omega, by omega, by omega⟩) (Lib.hid fun w1 hI1 hB1 => ?_)
      have := number_pos g s 0 ds w w1 hI1 hB1 (Lib.hid H.num) (Lib.hid (by omega)) (by omega) (by omega)
      rw [hv, ← hsz] at this
      exact this
    · obtain ⟨rfl, hv, hm, h1d⟩ := H.neg (by omega)
      have hp : pk s ((0 : Nat) : Int) = 45 := by rw [← bt_pk s 0 (by omega)]; exact hm
      refine expr_num 20 g s ((0 : Nat) : Int) ((0 : Nat) : Int) (s.size : Int) 45 24 n 0 0 0 0 0 ⟨#[105, 110, 116]⟩ ⟨#[]⟩ false w W hI hB (blanks_stay s 0 (by rw [hp]; omega)) (by omega) (Lib.hid hp) rfl (.inl rfl) (Lib.hid fun w1 hI1 hB1 => ?_)
      have := number_neg g s 0 ds w w1 hI1 hB1 (Lib.hid hp) (Lib.hid H.num) h1d (Lib.hid (by omega)) (by omega) (by omega)
      rw [hv, Int.neg_neg, show 0 + 1 + ds.length = s.size by omega] at this
      exact this
  exact key.mono fun e w' ⟨he, ha⟩ => ⟨none, 0, he, ha, World.ownsRow_nil ..⟩

theorem parse_num (n : Int) (s : ByteArray) (off : Nat) (ds : List Nat) (h0 : -9223372036854775808 ≤ n) (h1 : n ≤ 9223372036854775807) (H : Numeral n s off ds) (w : World) :
    Calls Tryd.prog 6 #[.string s] w fun e w' => ∃ A c, e = .returned (.tuple #[.agg #[.string ⟨#[105, 110, 116]⟩, .int .i64 n, .string ⟨#[]⟩, .int .i64 0, .slice none 0 0, .slice A 0 c], .int .i64 0, .int .i64 0]) ∧ Below w.heap.size w w' := by
  have hsz := H.size
  have hsh := H.short
  have ho : off ≤ 1 := by
    by_cases hn : 0 ≤ n
    · have := (H.pos hn).1; omega
    · have := (H.neg (by omega)).1; omega
  refine (parse_ok 20 s (s.size : Int) ⟨#[105, 110, 116]⟩ n ⟨#[]⟩ 0 [] w (by omega) (by unfold maxLen; omega) (Lib.hid (does_num n s off ds h0 h1 H w)) (Lib.hid (blanks_stay s s.size ?_))).mono fun e w' ⟨A, c, he, hb, _⟩ => ⟨A, c, he, hb⟩
  unfold pk
  rw [if_neg (by omega)]
  decide

theorem put_nought (s : ByteArray) (l : List UInt8) (h : s = ⟨l.toArray⟩) : (⟨#[48]⟩ : ByteArray) ++ s = ⟨(48 :: l).toArray⟩ := by
  subst h
  apply ByteArray.ext
  rw [ByteArray.data_append]
  simp

/-- A nought ahead of a digit is no number. -/
theorem parse_nought (n : Int) (s : ByteArray) (off : Nat) (ds : List Nat) (hn : 0 < n) (H : Numeral n s off ds) (w : World) :
    Calls Tryd.prog 6 #[.string ((⟨#[48]⟩ : ByteArray) ++ s)] w fun e w' => e = .returned (.tuple #[.agg #[.string ⟨#[]⟩, .int .i64 0, .string ⟨#[]⟩, .int .i64 0, .slice none 0 0, .slice none 0 0], .int .i64 1, .int .i64 40]) ∧ Below w.heap.size w w' := by
  have hsz := H.size
  have hsh := H.short
  have hso := H.some
  obtain ⟨rfl, hv⟩ := H.pos (by omega)
  have hput := put_nought s _ H.text
  have hlen : s.size = (Lib.itoa n).length := by rw [H.text]; rfl
  have hsz2 : ((⟨#[48]⟩ : ByteArray) ++ s).size = s.size + 1 := by rw [hput, hlen]; simp [ByteArray.size]
  have hp0 : pk ((⟨#[48]⟩ : ByteArray) ++ s) ((0 : Nat) : Int) = 48 := by rw [hput, pk_text _ _ (by simp)]; rfl
  obtain ⟨d, h1, hd9⟩ : ∃ d : Nat, pk s ((0 : Nat) : Int) = 48 + (d : Int) ∧ d ≤ 9 := by
    have hd := H.num.digit 0 (by omega)
    exact ⟨ds[0], by simpa using hd.1, hd.2⟩
  have hp1 : pk ((⟨#[48]⟩ : ByteArray) ++ s) (((0 : Nat) : Int) + 1) = 48 + (d : Int) := by
    have h2 : pk s ((0 : Nat) : Int) = (((Lib.itoa n)[0]'(by omega)).toNat : Int) := (congrArg (fun x => pk x ((0 : Nat) : Int)) H.text).trans (pk_text _ 0 (by omega))
    rw [← h1, h2, hput, show ((0 : Nat) : Int) + 1 = ((1 : Nat) : Int) from rfl, pk_text _ _ (by simp; omega)]
    rfl
  clear H hput hlen
  generalize (⟨#[48]⟩ : ByteArray) ++ s = s2 at hsz2 hp0 hp1 ⊢
  refine parse_bad s2 1 ⟨#[]⟩ 0 ⟨#[]⟩ 0 [] w (by omega) (by unfold maxLen; omega) (Lib.hid fun W g hI hB => ?_)
  refine (expr_num 20 g s2 ((0 : Nat) : Int) ((0 : Nat) : Int) 1 48 24 0 0 0 0 0 0 ⟨#[]⟩ ⟨#[]⟩ true w W hI hB (blanks_stay s2 0 (by rw [hp0]; decide)) (by omega) (Lib.hid hp0) rfl (.inr ⟨rfl, by decide, by decide⟩) (Lib.hid fun w1 hI1 hB1 => ?_)).mono fun e w' ⟨he, ha⟩ => ⟨none, 0, he, ha, World.ownsRow_nil ..⟩
  exact number_zero g s2 0 d w w1 hI1 hB1 (Lib.hid hp0) (Lib.hid hp1) hd9 (by omega)
theorem below3 {w w1 w2 w3 : World} (h1 : Hid (Below w.heap.size w w1)) (h2 : Hid (Below w1.heap.size w1 w2)) (o : Obj) (h3 : Hid (Below (w2.alloc o).heap.size (w2.alloc o) w3)) : Below w.heap.size w w3 := by
  have e1 := h1.out.size
  have e2 := h2.out.size
  exact (((h1.out.trans (h2.out.mono e1)).alloc (by omega) o).trans (h3.out.mono (by rw [World.size_alloc]; omega)))

theorem below4 {w w3 w4 : World} (h1 : Below w.heap.size w w3) (o : Obj) (h4 : Hid (Below (w3.alloc o).heap.size (w3.alloc o) w4)) : Below w.heap.size w w4 := by
  have e1 := h1.size
  exact (h1.alloc e1 o).trans (h4.out.mono (by rw [World.size_alloc]; omega))
set_option maxHeartbeats 1000000 in
set_option maxRecDepth 100000 in
theorem numbers_walk (n : Int) (h0 : -9223372036854775808 ≤ n) (h1 : n ≤ 9223372036854775807) (w : World) (ht : Tab w) :
    Calls Tryd.prog 3 #[.int .i64 n] w fun e w' => e = .returned (.bool true) ∧ Below w.heap.size w w' := by
  obtain ⟨s, off, ds, H⟩ := numeral n h0 h1
  have hsz := H.size
  have hsh := H.short
  have hso := H.some
  have hltx : (Lib.itoa n).length = off + ds.length := by rw [← hsz, H.text]; rfl
  have ho : off ≤ 1 := by
    by_cases hn : 0 ≤ n
    · have := (H.pos hn).1; omega
    · have := (H.neg (by omega)).1; omega
  have HN := Lib.hid H
  have hshow : Hid (Calls Tryd.prog 5 #[.agg #[.string ⟨#[105, 110, 116]⟩, .int .i64 n, .string ⟨#[]⟩, .int .i64 0, .slice none 0 0, .slice none 0 0]] w fun e w' => e = .returned (.tuple #[.string s, .int .i64 0]) ∧ Below w.heap.size w w') := by
    rw [H.text]
    refine Lib.hid (show_ok _ _ _ _ _ _ (Lib.itoa n) w (by intro h; rw [h] at hltx; simp at hltx; omega) (by omega) (Lib.hid fun W b hW hBW hs => ?_))
    exact node_int 20 w.heap.size b [] n 24 Tab W hW (by decide) hs rfl (Lib.hid sh_int) (Lib.hid (itoa_tab n h0 h1)) (Lib.hid (by omega)) (Lib.hid fun V hV => tab_below hV (tab_lt ht) (tab_below hBW (tab_lt ht) ht))
  clear H ht
  go_enter Tryd.func3, Tryd.ntmps3
  go_wp2_with fail
  refine hshow.out.mono ?_
  rintro e w1 ⟨rfl, hb1⟩
  have HB1 := Lib.hid hb1
  clear hb1
  go_wp2_with fail
  refine (parse_num n s off ds h0 h1 HN.out _).mono ?_
  rintro e w2 ⟨A, c, rfl, hb2⟩
  have HB2 := Lib.hid hb2
  clear hb2
  have hz1 : ¬ (s.size = 0) := by omega
  have hz2 : ¬ (20 < s.size) := by omega
  have HSZ := Lib.hid hsz
  have hsp : (1 : Int) ≤ s.size ∧ (s.size : Int) ≤ 20 := by omega
  clear hsz
  go_wp2_with fail
  · exfalso
    rename_i hx
    rcases hx with hx | hx
    · rw [beq_iff_eq] at hx; omega
    · omega
  · have hz0 : ((s.size : Int) == 0) = false := by rw [beq_eq_false_iff_ne]; omega
    have hz20 : decide ((20 : Int) < (s.size : Int)) = false := by rw [decide_eq_false_iff_not]; omega
    simp only [hz0, hz20, Bool.or_false, Bool.false_or]
    clear hz0 hz20
    go_loop [8, 58] (fun b t => ∃ k : Nat, k ≤ s.size ∧ t = .int .i64 k ∧ b = .int .i64 (-(dval (ds.take (k - off)) : Int))) (fun _ t => s.size - (intOf t).toNat)
    case atStart => exact ⟨0, by omega, rfl, by simp [dval]⟩
    case round =>
      obtain ⟨k, hk, rfl, rfl⟩ := hrel
      by_cases hlt : k < s.size
      · by_cases hko : k < off
        · have hk0 : k = 0 := by omega
          subst hk0
          have hb : bt s 0 = 45 := by
            rcases Int.lt_or_le n 0 with hn | hn
            · exact (HN.out.neg hn).2.2.1
            · have := (HN.out.pos hn).1; omega
          have hg : ∀ h : 0 < s.size, ((s[0]'h).toNat : Int) = 45 := fun h => by rw [← hb]; exact bt_at s 0 (by simpa using h)
          clear hb
          go_wp2_with fail
          go_round
          case rel => exact ⟨1, by omega, rfl, by rw [show 0 - off = 0 by omega, show 1 - off = 0 by omega]⟩
          case measure => simp [intOf]; omega
        · obtain ⟨j, rfl⟩ : ∃ j, k = off + j := ⟨k - off, by omega⟩
          have hj : j < ds.length := by have := HSZ.out; omega
          have hd := HN.out.at_ j hj
          obtain ⟨d, hdd⟩ : ∃ d, d = ds[j] := ⟨_, rfl⟩
          rw [← hdd] at hd
          have hg : ∀ h : off + j < s.size, ((s[off + j]'h).toNat : Int) = 48 + (d : Int) := fun h => by rw [← hd.1]; exact (bt_at s ((off + j : Nat) : Int) (by omega))
          have hd9 := hd.2
          have hstep : dval (ds.take (off + j + 1 - off)) = 10 * dval (ds.take (off + j - off)) + d := by rw [show off + j + 1 - off = j + 1 by omega, show off + j - off = j by omega, dval_take_succ ds j hj, hdd]
          have hdv : dval ds ≤ 9223372036854775808 := by
            rcases Int.lt_or_le n 0 with hn | hn
            · have := (HN.out.neg hn).2.1; omega
            · have := (HN.out.pos hn).2; omega
          have hle : dval (ds.take (off + j + 1 - off)) ≤ dval ds := dval_take_le _ _
          have hS := Lib.hid hstep
          clear hd hdd
          generalize dval (ds.take (off + j - off)) = V at hstep hS ⊢
          rw [hstep] at hle
          clear hstep
          go_wp2_with fail
          have hS2 := hS.out
          have hm1 : wrap64 (-(V : Int) * 10) = -(V : Int) * 10 := by unfold wrap64; omega
          have hm2 : wrap64 (-(V : Int) * 10 - (48 + (d : Int) - 48)) = -((10 * V + d : Nat) : Int) := by unfold wrap64; omega
          go_round
          case rel =>
            exact ⟨off + j + 1, by omega, by go_num, by rw [hS2]; go_num⟩
          case measure => simp [intOf]; omega
      · obtain rfl : k = s.size := by omega
        have hfull : ds.take (s.size - off) = ds := by rw [List.take_of_length_le]; have := HSZ.out; omega
        rw [hfull]
        have hg : 0 ≤ n → ∃ d : Nat, ∀ h : 0 < s.size, ((s[0]'h).toNat : Int) = 48 + (d : Int) := fun hn => by
          have ho := (HN.out.pos hn).1
          have hd := (HN.out.at_ 0 hso).1
          exact ⟨ds[0], fun h => by rw [← hd, ho]; exact bt_at s 0 (by simpa using h)⟩
        rcases Int.lt_trichotomy n 0 with hn | hn | hn
        · have hv := (HN.out.neg hn).2.1
          have hb := (HN.out.neg hn).2.2.1
          rw [show -(dval ds : Int) = n by omega]
          have hg : ∀ h : 0 < s.size, ((s[0]'h).toNat : Int) = 45 := fun h => by rw [← hb]; exact bt_at s 0 (by simpa using h)
          clear hb hv
          go_wp2_with fail
          · refine (awake_any _).mono ?_
            rintro e w3 ⟨rfl, hb3⟩
            have HB3 := Lib.hid hb3
            clear hb3
            go_wp2_with fail
            refine bodyPost_ret (v := .bool true) (by simp [results, Tryd.results3, go_sem]) rfl ⟨rfl, below3 HB1 HB2 _ HB3⟩
        · obtain ⟨d, hg⟩ := hg (by omega)
          have hv := (HN.out.pos (by omega)).2
          rw [show -(dval ds : Int) = 0 by omega]
          subst hn
          clear hv
          go_wp2_with fail
          · refine (awake_any _).mono ?_
            rintro e w3 ⟨rfl, hb3⟩
            have HB3 := Lib.hid hb3
            clear hb3
            go_wp2_with fail
            refine bodyPost_ret (v := .bool true) (by simp [results, Tryd.results3, go_sem]) rfl ⟨rfl, below3 HB1 HB2 _ HB3⟩
        · obtain ⟨d, hg⟩ := hg (by omega)
          have hv := (HN.out.pos (by omega)).2
          rw [show -(dval ds : Int) = -n by omega]
          clear hv
          go_wp2_with fail
          refine (parse_nought n s off ds hn HN.out _).mono ?_
          rintro e w3 ⟨rfl, hb3⟩
          have HB3 := Lib.hid hb3
          clear hb3
          go_wp2_with fail
          refine (awake_any _).mono ?_
          rintro e w4 ⟨rfl, hb4⟩
          have HB4 := Lib.hid hb4
          clear hb4
          go_wp2_with fail
          refine bodyPost_ret (v := .bool true) (by simp [results, Tryd.results3, go_sem]) rfl ⟨rfl, below4 (below3 HB1 HB2 _ HB3) _ HB4⟩

end Go.Proofs.YtamfloegflejnaaDoor
