/-
  The writer's quote: a text is written in quotes.
-/
import Derived.Test.YtamfloegflejnaaDoorN
import Derived.Test.YtamfloegflejnaaDoorB2
import Derived.Test.YtamfloegflejnaaDoorS6
import Derived.Laws.IdiomStrings
import Derived.Deep.RegionHeld3
import Derived.Deep.LoopGhost
set_option linter.unusedVariables false
set_option linter.unusedSimpArgs false
namespace Go.Proofs.YtamfloegflejnaaDoor
open Go.RowKit Go.Proofs.YtamfloegflejnaaDoorW.PrintWords Go.Proofs.YtamfloegflejnaaDoorW.PrintLast Go.Proofs.YtamfloegflejnaaDoorW.PrintMore PExprNumbers

theorem hexs_fin : ∀ n : Fin 16, ∀ h : n.val < ((⟨#[48, 49, 50, 51, 52, 53, 54, 55, 56, 57, 97, 98, 99, 100, 101, 102]⟩ : ByteArray)).size, (((⟨#[48, 49, 50, 51, 52, 53, 54, 55, 56, 57, 97, 98, 99, 100, 101, 102]⟩ : ByteArray)[n.val]'h).toNat : Int) = (hx n.val : Int) := by decide +kernel
theorem hexs_at (n : Nat) (hn : n < 16) : ∀ h : n < ((⟨#[48, 49, 50, 51, 52, 53, 54, 55, 56, 57, 97, 98, 99, 100, 101, 102]⟩ : ByteArray)).size, (((⟨#[48, 49, 50, 51, 52, 53, 54, 55, 56, 57, 97, 98, 99, 100, 101, 102]⟩ : ByteArray)[n]'h).toNat : Int) = (hx n : Int) := fun h => hexs_fin ⟨n, hn⟩ h
theorem hex_utf_fin : ∀ n : Fin 16, Utf8.encode (hx n.val : Int) = ⟨#[UInt8.ofNat (hx n.val)]⟩ := by decide +kernel
theorem hex_utf (n : Nat) (h : n < 16) : Utf8.encode (hx n : Int) = ⟨#[UInt8.ofNat (hx n)]⟩ := hex_utf_fin ⟨n, h⟩
theorem and15_fin : ∀ b : Fin 256, bits BinOp.and IntKind.u8 (b.val : Int) 15 = ((b.val % 16 : Nat) : Int) := by decide +kernel
theorem and15 (b : Nat) (h : b < 256) : bits BinOp.and IntKind.u8 (b : Int) 15 = ((b % 16 : Nat) : Int) := and15_fin ⟨b, h⟩

set_option maxHeartbeats 1000000 in
set_option maxRecDepth 100000 in
theorem quote_ok (B b : Nat) (bs : List Value) (l : List UInt8) (w : World) (h : IsWr B b bs false w) (hlen : bs.length ≤ 100000) (hl : l.length ≤ 256) (hBw : B ≤ w.heap.size) :
    Calls Tryd.prog 17 #[.pointer (some ⟨b, 0, none⟩), .string ⟨l.toArray⟩] w fun e w' => e = .returned (.tuple #[]) ∧ Wrote B b w w' (bs ++ Lib.byteCells (quoted l)) false := by
  have W0 := Lib.hid h
  have hb0 := h.lt
  clear h
  have hsz : ((⟨l.toArray⟩ : ByteArray)).size = l.length := rfl
  go_enter Tryd.func17, Tryd.ntmps17
  go_wp2_with fail
  refine (writeByte_mk B b bs false 34 w W0.out (by omega) hBw).mono ?_
  rintro e w1 ⟨rfl, h1, h2, h3, h4⟩
  have W1 := Lib.hid (Wrote.of ⟨h1, h2, h3⟩)
  clear h1 h2 h3 h4
  go_wp2_with fail
  rw [run_bytes_of_string w1 9 38 5 ⟨l.toArray⟩ Tryd.underlying9 Tryd.underlying38 Tryd.underlying5]
  simp only [Result.andThen]
  rw [Oper.upon_value]
  rw [hsz]
  generalize hcap : grownCap w1 l.length 0 5 = cap
  have hS1 := W1.out.size
  have hC := heap_alloc_new w1.drew (.cells (bytesRow ⟨l.toArray⟩ cap) 5 ((bytesRow ⟨l.toArray⟩ cap).size, (bytesRow ⟨l.toArray⟩ cap).size + 1))
  have W2 := Lib.hid (W1.out.drew.alloc (by show B ≤ w1.heap.size; omega) (.cells (bytesRow ⟨l.toArray⟩ cap) 5 ((bytesRow ⟨l.toArray⟩ cap).size, (bytesRow ⟨l.toArray⟩ cap).size + 1)))
  have HC := Lib.hid hC
  have hCb : w1.heap.size ≠ b := by omega
  have hrow : ∀ j (h : j < l.length), (bytesRow ⟨l.toArray⟩ cap)[j]? = some (.int .u8 ((l[j]).toNat : Int)) := fun j h => by
    have := bytesRow_at ⟨l.toArray⟩ cap j (by simpa using h)
    simpa using this
  have HR := Lib.hid hrow
  clear hC hrow hcap
  have hfz : (((bytesRow ⟨l.toArray⟩ cap).size, (bytesRow ⟨l.toArray⟩ cap).size + 1) : Nat × Nat) ≠ (0, 0) := by simp
  generalize w1.drew.alloc (.cells (bytesRow ⟨l.toArray⟩ cap) 5 ((bytesRow ⟨l.toArray⟩ cap).size, (bytesRow ⟨l.toArray⟩ cap).size + 1)) = w2 at W2 HC ⊢
  have hdh : w1.drew.heap.size = w1.heap.size := rfl
  rw [hdh] at HC
  generalize w1.heap.size = C at HC hCb ⊢
  generalize (((bytesRow ⟨l.toArray⟩ cap).size, (bytesRow ⟨l.toArray⟩ cap).size + 1) : Nat × Nat) = fz at HC hfz
  generalize bytesRow ⟨l.toArray⟩ cap = row at HC HR
  go_wp2_with fail
  go_loopg [13] l.length (fun n i wr => ∃ k : Nat, n + k = l.length ∧ i = .int .i64 k ∧ Aside0 (Wrote B b w wr (bs ++ Lib.byteCells (34 :: enc (l.take k))) false) ∧ Aside0 (wr.heap[C]? = some (.cells row 5 fz)))
  case atStart => exact ⟨0, by omega, rfl, ⟨by simpa [enc, Lib.byteCells] using W2.out⟩, ⟨HC.out⟩⟩
  case round =>
    obtain ⟨k, hk, rfl, ⟨hW⟩, ⟨hCC⟩⟩ := hrel
    have WK := Lib.hid hW
    have HK := Lib.hid hCC
    clear hW
    by_cases hlt : k < l.length
    · obtain ⟨m, rfl⟩ : ∃ m, gk = m + 1 := ⟨gk - 1, by omega⟩
      obtain ⟨c, hc⟩ : ∃ c, c = l[k] := ⟨_, rfl⟩
      have hcell : wr.cell? ⟨C, k, none⟩ = some (.int .u8 (c.toNat : Int)) := by
        rw [Lib.cell_of_heap hCC, hc]; exact HR.out k hlt
      have hsucc := enc_take_succ l k hlt
      rw [← hc] at hsucc
      have SU := Lib.hid hsucc
      clear hCC hsucc
      cases hp : plainZ c.toNat with
      | true =>
        have HP := Lib.hid hp
        have e := encB_plain c hp
        have EE := Lib.hid e
        clear e hp hc
        go_wp2_with fail
        refine (plain_any _ _).mono ?_
        rw [HP.out]
        rintro e wr' ⟨rfl, rfl⟩
        go_wp2_with fail
        refine (writeByte_mk B b _ false (c.toNat : Int) wr' WK.out.wr (by rw [List.length_append, Lib.byteCells_length, List.length_cons]; have := (enc_length (l.take k)).2; rw [List.length_take] at this; omega) (by have := WK.out.size; omega)).mono ?_
        rintro e w3 ⟨rfl, h1, h2, h3, h4⟩
        have W3 := Lib.hid (WK.out.trans (Wrote.of ⟨h1, h2, h3⟩))
        have HC3 := Lib.hid (h4 C row fz HK.out hfz hCb)
        clear h1 h2 h3 h4
        go_wp2_with fail
        go_roundg m
        case measure => omega
        case rel => exact ⟨k + 1, by omega, by go_num, ⟨by rw [SU.out, EE.out]; simpa [Lib.byteCells] using W3.out⟩, ⟨HC3.out⟩⟩
      | false =>
        have HP := Lib.hid hp
        have e := encB_esc c hp
        have EE := Lib.hid e
        have hc256 : c.toNat < 256 := c.toNat_lt
        clear e hp hc
        go_wp2_with fail
        refine (plain_any _ _).mono ?_
        rw [HP.out]
        rintro e wr' ⟨rfl, rfl⟩
        go_wp2_with fail
        refine start_ (n := 14) (S := fun w' => True) (ds := []) #[false, false, false, false, false, false, false, false, false, false, false, false, false, false] (by kernel_rfl) rfl rfl trivial (fun hHeld => ?_)
        have WD := Lib.hid WK.out.drew
        have HKD : Hid (wr'.drew.heap[C]? = some (.cells row 5 fz)) := HK.out
        generalize wr'.drew = wd at WD HKD hHeld ⊢
        refine pure_ (i := 0) (N := some 24) (v := ?_) (a' := ?_) #[true, false, false, false, false, false, false, false, false, false, false, false, false, false] rfl rfl (by kernel_rfl) (fun _ _ _ h => h) (Or.inl ⟨by rfl, ?_⟩) ?_ ?_
        rotate_left
        · intro w'
          go_simp
          with_reducible rfl
        rotate_left
        · simp only [Act.put, List.setIfInBounds_toArray, List.set_cons_zero, List.set_cons_succ, i64_w, i32_w]
          rfl
        refine pure_ (i := 1) (N := some 25) (v := ?_) (a' := ?_) #[true, true, false, false, false, false, false, false, false, false, false, false, false, false] rfl rfl (by kernel_rfl) (fun _ _ _ h => h) (Or.inl ⟨by rfl, ?_⟩) ?_ ?_
        rotate_left
        · intro w'
          go_simp
          with_reducible rfl
        rotate_left
        · simp only [Act.put, List.setIfInBounds_toArray, List.set_cons_zero, List.set_cons_succ, i64_w, i32_w]
          rfl
        refine pure_ (i := 2) (N := some 26) (v := ?_) (a' := ?_) #[true, true, true, false, false, false, false, false, false, false, false, false, false, false] rfl rfl (by kernel_rfl) (fun _ _ _ h => h) (Or.inl ⟨by rfl, ?_⟩) ?_ ?_
        rotate_left
        · intro w'
          go_simp
          with_reducible rfl
        rotate_left
        · simp only [Act.put, List.setIfInBounds_toArray, List.set_cons_zero, List.set_cons_succ, i64_w, i32_w]
          rfl
        refine pure_ (i := 3) (N := some 27) (v := ?_) (a' := ?_) #[true, true, true, true, false, false, false, false, false, false, false, false, false, false] rfl rfl (by kernel_rfl) (fun _ _ _ h => h) (Or.inl ⟨by rfl, ?_⟩) ?_ ?_
        rotate_left
        · intro w'
          go_simp
          with_reducible rfl
        rotate_left
        · simp only [Act.put, List.setIfInBounds_toArray, List.set_cons_zero, List.set_cons_succ, i64_w, i32_w]
          rfl
        refine pure_ (i := 4) (N := some 28) (v := ?_) (a' := ?_) #[true, true, true, true, true, false, false, false, false, false, false, false, false, false] rfl rfl (by kernel_rfl) (fun _ _ _ h => h) (Or.inl ⟨by rfl, ?_⟩) ?_ ?_
        rotate_left
        · intro w'
          go_simp
          with_reducible rfl
        rotate_left
        · simp only [Act.put, List.setIfInBounds_toArray, List.set_cons_zero, List.set_cons_succ, i64_w, i32_w]
          rfl
        have e1 : ((c.toNat : Int) / 16) = ((c.toNat / 16 : Nat) : Int) := by omega
        rw [e1]
        have hh : c.toNat / 16 < 16 := by omega
        have hlo : c.toNat % 16 < 16 := by omega
        have a1 := and15 (c.toNat) hc256
        have g1 := hexs_at (c.toNat / 16) hh
        have g2 := hexs_at (c.toNat % 16) hlo
        have u1 := hex_utf (c.toNat / 16) hh
        have u2 := hex_utf (c.toNat % 16) hlo
        have i1 : ((c.toNat / 16 : Nat) : Int) < 16 := by omega
        have i2 : ((c.toNat % 16 : Nat) : Int) < 16 := by omega
        clear e1
        generalize c.toNat / 16 = hi at EE hh g1 u1 i1 ⊢
        generalize c.toNat % 16 = lo at EE hlo g2 u2 i2 a1
        generalize hx hi = ch at EE g1 u1
        generalize hx lo = cl at EE g2 u2
        refine pure_ (i := 5) (N := some 29) (v := ?_) (a' := ?_) #[true, true, true, true, true, true, false, false, false, false, false, false, false, false] rfl rfl (by kernel_rfl) (fun _ _ _ h => h) (Or.inl ⟨by rfl, ?_⟩) ?_ ?_
        rotate_left
        · intro w'
          go_simp
          with_reducible rfl
        rotate_left
        · simp only [Act.put, List.setIfInBounds_toArray, List.set_cons_zero, List.set_cons_succ, i64_w, i32_w]
          rfl
        refine pure_ (i := 6) (N := some 30) (v := ?_) (a' := ?_) #[true, true, true, true, true, true, true, false, false, false, false, false, false, false] rfl rfl (by kernel_rfl) (fun _ _ _ h => h) (Or.inl ⟨by rfl, ?_⟩) ?_ ?_
        rotate_left
        · intro w'
          go_simp
          with_reducible rfl
        rotate_left
        · simp only [Act.put, List.setIfInBounds_toArray, List.set_cons_zero, List.set_cons_succ, i64_w, i32_w]
          rfl
        refine pure_ (i := 7) (N := some 31) (v := ?_) (a' := ?_) #[true, true, true, true, true, true, true, true, false, false, false, false, false, false] rfl rfl (by kernel_rfl) (fun _ _ _ h => h) (Or.inl ⟨by rfl, ?_⟩) ?_ ?_
        rotate_left
        · intro w'
          go_simp
          with_reducible rfl
        rotate_left
        · simp only [Act.put, List.setIfInBounds_toArray, List.set_cons_zero, List.set_cons_succ, i64_w, i32_w]
          rfl
        refine pure_ (i := 8) (N := some 32) (v := ?_) (a' := ?_) #[true, true, true, true, true, true, true, true, true, false, false, false, false, false] rfl rfl (by kernel_rfl) (fun _ _ _ h => h) (Or.inl ⟨by rfl, ?_⟩) ?_ ?_
        rotate_left
        · intro w'
          go_simp
          with_reducible rfl
        rotate_left
        · simp only [Act.put, List.setIfInBounds_toArray, List.set_cons_zero, List.set_cons_succ, i64_w, i32_w]
          rfl
        refine pure_ (i := 9) (N := some 33) (v := ?_) (a' := ?_) #[true, true, true, true, true, true, true, true, true, true, false, false, false, false] rfl rfl (by kernel_rfl) (fun _ _ _ h => h) (Or.inl ⟨by rfl, ?_⟩) ?_ ?_
        rotate_left
        · intro w'
          go_simp
          with_reducible rfl
        rotate_left
        · simp only [Act.put, List.setIfInBounds_toArray, List.set_cons_zero, List.set_cons_succ, i64_w, i32_w]
          rfl
        refine pure_ (i := 10) (N := some 34) (v := ?_) (a' := ?_) #[true, true, true, true, true, true, true, true, true, true, true, false, false, false] rfl rfl (by kernel_rfl) (fun _ _ _ h => h) (Or.inl ⟨by rfl, ?_⟩) ?_ ?_
        rotate_left
        · intro w'
          go_simp
          with_reducible rfl
        rotate_left
        · simp only [Act.put, List.setIfInBounds_toArray, List.set_cons_zero, List.set_cons_succ, i64_w, i32_w]
          rfl
        refine pure_ (i := 11) (N := some 35) (v := ?_) (a' := ?_) #[true, true, true, true, true, true, true, true, true, true, true, true, false, false] rfl rfl (by kernel_rfl) (fun _ _ _ h => h) (Or.inl ⟨by rfl, ?_⟩) ?_ ?_
        rotate_left
        · intro w'
          go_simp
          with_reducible rfl
        rotate_left
        · simp only [Act.put, List.setIfInBounds_toArray, List.set_cons_zero, List.set_cons_succ, i64_w, i32_w]
          rfl
        refine pure_ (i := 12) (N := some 36) (v := ?_) (a' := ?_) #[true, true, true, true, true, true, true, true, true, true, true, true, true, false] rfl rfl (by kernel_rfl) (fun _ _ _ h => h) (Or.inl ⟨by rfl, ?_⟩) ?_ ?_
        rotate_left
        · intro w'
          go_simp
          with_reducible rfl
        rotate_left
        · simp only [Act.put, List.setIfInBounds_toArray, List.set_cons_zero, List.set_cons_succ, i64_w, i32_w]
          rfl
        refine one_ (i := 13) (N := some 37) #[true, true, true, true, true, true, true, true, true, true, true, true, true, true] rfl rfl (by kernel_rfl) (by decide) (fun K hK => ?_)
        refine goes_ Tryd.func15 (by kernel_rfl) rfl #[.pointer (some ⟨b, 0, none⟩), .string ((⟨#[92]⟩ : ByteArray) ++ ⟨#[UInt8.ofNat ch]⟩ ++ ⟨#[UInt8.ofNat cl]⟩)] (by rfl) rfl rfl (by (try simp only [List.map_toArray, List.map_cons, List.map_nil]); first | done | rfl) ?_
        refine (writeString_mk B b _ false _ wd WD.out.wr ?_ (by have := WD.out.size; omega)).mono ?_
        · have e3 : ((⟨#[92]⟩ : ByteArray) ++ ⟨#[UInt8.ofNat ch]⟩ ++ ⟨#[UInt8.ofNat cl]⟩).size = 3 := by simp [ByteArray.size_append, ByteArray.size]
          rw [e3, List.length_append, Lib.byteCells_length, List.length_cons]; have := (enc_length (l.take k)).2; rw [List.length_take] at this; omega
        rintro e w3 ⟨rfl, h1, h2, h3, h4⟩
        refine ⟨_, rfl, ?_⟩
        have W3 := Lib.hid (WD.out.trans (Wrote.of ⟨h1, h2, h3⟩))
        have HC3 := Lib.hid (h4 C row fz HKD.out hfz hCb)
        clear h1 h2 h3 h4
        refine hK.out _ _ trivial (fun hHeld => ?_)
        clear hK K
        refine norm_ (a' := ?_) ?_ ?_
        rotate_left
        · show Act.put _ (some 37) _ = _
          simp only [Act.put, List.setIfInBounds_toArray, List.set_cons_zero, List.set_cons_succ, i64_w, i32_w]
          rfl
        refine done_ (by kernel_rfl) ?_
        go_wp2_with fail
        go_roundg m
        case measure => omega
        case rel =>
          refine ⟨k + 1, by omega, by go_num, ⟨?_⟩, ⟨HC3.out⟩⟩
          have := W3.out
          rw [SU.out, EE.out]
          have e4 : Lib.strCells ((⟨#[92]⟩ : ByteArray) ++ ⟨#[UInt8.ofNat ch]⟩ ++ ⟨#[UInt8.ofNat cl]⟩) = Lib.byteCells [92, UInt8.ofNat ch, UInt8.ofNat cl] := by
            have : (⟨#[92]⟩ : ByteArray) ++ ⟨#[UInt8.ofNat ch]⟩ ++ ⟨#[UInt8.ofNat cl]⟩ = ⟨([92, UInt8.ofNat ch, UInt8.ofNat cl] : List UInt8).toArray⟩ := by
              apply ByteArray.ext
              simp [ByteArray.data_append]
            rw [this]; rfl
          rw [e4] at this
          simpa [Lib.byteCells] using this
    · obtain rfl : k = l.length := by omega
      go_wp2_with fail
      refine (writeByte_mk B b _ false 34 wr WK.out.wr (by rw [List.length_append, Lib.byteCells_length, List.length_cons]; have := (enc_length (l.take l.length)).2; rw [List.length_take] at this; omega) (by have := WK.out.size; omega)).mono ?_
      rintro e w3 ⟨rfl, h1, h2, h3, h4⟩
      have W3 := Lib.hid (WK.out.trans (Wrote.of ⟨h1, h2, h3⟩))
      clear h1 h2 h3 h4
      go_wp2_with fail
      first | go_end0 | skip
      refine ⟨rfl, ?_⟩
      have := W3.out
      rw [List.take_length] at this
      simpa [quoted, Lib.byteCells] using this

end Go.Proofs.YtamfloegflejnaaDoor
