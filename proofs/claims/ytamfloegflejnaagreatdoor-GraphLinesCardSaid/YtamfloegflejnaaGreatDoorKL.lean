/-
  graph's reader of a line: what it stands on, and its parts.
-/
import Derived.Test.YtamfloegflejnaaGreatDoorKK
import Derived.Lib.LaidTab
set_option linter.unusedVariables false
set_option linter.unusedSimpArgs false
namespace Go.Proofs.YtamfloegflejnaaGreatDoor
open Go.RowKit Go.Proofs.YtamfloegflejnaaGreatDoorW.PrintWords Go.Proofs.YtamfloegflejnaaGreatDoorW.PrintLast Go.Proofs.YtamfloegflejnaaGreatDoorW.PrintMore PGraphLines

/-- What the library's variables hold. -/
structure Env (w : World) : Prop where
  maxLen : ∃ m, w.cell? ⟨0, 0, none⟩ = some (.int .i64 m)
  tab : Lib.TabIs Tryz.prog w "internal/strconv.uint64pow10" .u64 Lib.pow10Tab
  syn : ∃ tp p, w.var? Tryz.prog "strconv.ErrSyntax" = some #[.iface tp p]
  ran : ∃ tp p, w.var? Tryz.prog "strconv.ErrRange" = some #[.iface tp p]

theorem var_later {w W : World} {name : String} {v : Array Value} (hb : Below w.heap.size w W) (h : w.var? Tryz.prog name = some v) : W.var? Tryz.prog name = some v := by
  unfold World.var? at *
  cases hg : Tryz.prog.globalNamed name with
  | none => rw [hg] at h; simp at h
  | some g =>
    rw [hg] at h
    simp only [Option.bind_some] at h ⊢
    have hlt : g < w.heap.size := by
      rcases Nat.lt_or_ge g w.heap.size with h' | h'
      · exact h'
      · rw [Array.getElem?_eq_none h'] at h; simp at h
    rw [hb.block g hlt]
    exact h

theorem cell_later {w W : World} {a : Addr} {v : Value} (hb : Below w.heap.size w W) (h : w.cell? a = some v) : W.cell? a = some v := by
  have hlt : a.block < w.heap.size := by
    rcases Nat.lt_or_ge a.block w.heap.size with h' | h'
    · exact h'
    · unfold World.cell? at h
      rw [Array.getElem?_eq_none h'] at h
      simp at h
  exact (hb.cell hlt).trans h

theorem Env.later {w W : World} (h : Env w) (hb : Below w.heap.size w W) : Env W where
  maxLen := by obtain ⟨m, hm⟩ := h.maxLen; exact ⟨m, cell_later hb hm⟩
  tab := var_later hb h.tab
  syn := by obtain ⟨t, p, hm⟩ := h.syn; exact ⟨t, p, var_later hb hm⟩
  ran := by obtain ⟨t, p, hm⟩ := h.ran; exact ⟨t, p, var_later hb hm⟩

/-- A reader at block g: what is left of its line, and its mark. -/
structure RdAt (w0 w : World) (g : Nat) (rest : ByteArray) (bad : Bool) : Prop where
  blk : w.heap[g]? = some (.cells #[.string rest, .bool bad] 96 (0, 0))
  ge : w0.heap.size ≤ g
  below : Below w0.heap.size w0 w

def RdStep (w0 w w' : World) (g : Nat) (rest : ByteArray) (bad : Bool) : Prop := RdAt w0 w' g rest bad ∧ KeepBut w w' g none

theorem RdAt.of_below {w0 w w' : World} {g : Nat} {rest : ByteArray} {bad : Bool} (h : RdAt w0 w g rest bad) (hb : Below w.heap.size w w') : RdStep w0 w w' g rest bad :=
  ⟨⟨(hb.block g (blk_lt h.blk)).trans h.blk, h.ge, h.below.trans (hb.mono h.below.size)⟩, KeepBut.of_below hb g none⟩
theorem RdStep.refl {w0 w : World} {g : Nat} {rest : ByteArray} {bad : Bool} (h : RdAt w0 w g rest bad) : RdStep w0 w w g rest bad := ⟨h, KeepBut.refl w g none⟩
theorem RdStep.trans {w0 w w1 w2 : World} {g : Nat} {r1 r2 : ByteArray} {b1 b2 : Bool} (h : RdStep w0 w w1 g r1 b1) (k : RdStep w0 w1 w2 g r2 b2) : RdStep w0 w w2 g r2 b2 := ⟨k.1, h.2.trans k.2 (.inl rfl)⟩
theorem RdStep.set0 {w0 w w1 : World} {g : Nat} {r : ByteArray} {b : Bool} (h : RdStep w0 w w1 g r b) (r' : ByteArray) : RdStep w0 w (w1.setCell ⟨g, 0, none⟩ (.string r')) g r' b :=
  ⟨⟨by simpa using blk_set h.1.blk 0 (.string r'), h.1.ge, below_set h.1.below h.1.ge⟩, KeepBut.set_ h.2 0 _⟩
theorem RdStep.set1 {w0 w w1 : World} {g : Nat} {r : ByteArray} {b : Bool} (h : RdStep w0 w w1 g r b) (b' : Bool) : RdStep w0 w (w1.setCell ⟨g, 1, none⟩ (.bool b')) g r b' :=
  ⟨⟨by simpa using blk_set h.1.blk 1 (.bool b'), h.1.ge, below_set h.1.below h.1.ge⟩, KeepBut.set_ h.2 1 _⟩

/-- What stands ahead of the first blank, what behind it, and whether there is one. -/
def cutS (s : ByteArray) : List UInt8 × List UInt8 × Bool := Lib.cut s.data.toList [32]

set_option maxHeartbeats 1000000 in
set_option maxRecDepth 100000 in
theorem part_last (w0 w : World) (g : Nat) (rest : ByteArray) (bad : Bool) (h : RdAt w0 w g rest bad) :
    Calls Tryz.prog 42 #[.pointer (some ⟨g, 0, none⟩), .bool true] w fun e w' => e = .returned (.string rest) ∧ w' = w := by
  have c0 : w.cell? ⟨g, 0, none⟩ = some (.string rest) := (blk_cell h.blk 0).trans rfl
  go_enter Tryz.func42, Tryz.ntmps42
  go_wp2_with fail
  exact bodyPost_ret (v := .string rest) (by simp [results, Tryz.results42, go_sem]) rfl ⟨rfl, rfl⟩

set_option maxHeartbeats 1000000 in
set_option maxRecDepth 100000 in
theorem part_cut (w0 w : World) (g : Nat) (rest : ByteArray) (bad : Bool) (hE : Env w0) (h : RdAt w0 w g rest bad) (hs : rest.size < 4294967281) :
    Calls Tryz.prog 42 #[.pointer (some ⟨g, 0, none⟩), .bool false] w fun e w' => e = .returned (.string ⟨(cutS rest).1.toArray⟩) ∧ RdStep w0 w w' g ⟨(cutS rest).2.1.toArray⟩ (bad || !(cutS rest).2.2) := by
  have c0 : w.cell? ⟨g, 0, none⟩ = some (.string rest) := (blk_cell h.blk 0).trans rfl
  obtain ⟨m, hm⟩ := (hE.later h.below).maxLen
  have HC := Lib.hid (Tryz.strings_Cut rest ⟨#[32]⟩ m w hs hm)
  have H := Lib.hid h
  have HCS : Hid (cutS rest = Lib.cut rest.data.toList (⟨#[32]⟩ : ByteArray).data.toList) := rfl
  clear h hm
  rw [← HCS.out] at HC
  clear HCS
  generalize cutS rest = q at HC ⊢
  obtain ⟨q1, q2, q3⟩ := q
  go_enter Tryz.func42, Tryz.ntmps42
  go_wp2_with fail
  refine HC.out.mono ?_
  rintro e w1 ⟨rfl, n, rfl⟩
  have S1 := Lib.hid (H.out.of_below (pw_below_drewN (Below.refl w.heap.size w) n))
  have d0 : (w.drewN n).cell? ⟨g, 0, none⟩ = some (.string rest) := (blk_cell S1.out.1.blk 0).trans rfl
  have d1 : (w.drewN n).cell? ⟨g, 1, none⟩ = some (.bool bad) := (blk_cell S1.out.1.blk 1).trans rfl
  have f0 := blk_frozen S1.out.1.blk 0
  have f1 := blk_frozen S1.out.1.blk 1
  clear c0
  generalize w.drewN n = w2 at S1 d0 d1 f0 f1 ⊢
  cases bad with
  | true =>
    go_wp2_with fail
    exact bodyPost_ret (v := .string ⟨q1.toArray⟩) (by simp [results, Tryz.results42, go_sem]) rfl ⟨rfl, (S1.out.set0 _).set1 _⟩
  | false =>
    go_wp2_with fail
    exact bodyPost_ret (v := .string ⟨q1.toArray⟩) (by simp [results, Tryz.results42, go_sem]) rfl ⟨rfl, (S1.out.set0 _).set1 _⟩


end Go.Proofs.YtamfloegflejnaaGreatDoor
