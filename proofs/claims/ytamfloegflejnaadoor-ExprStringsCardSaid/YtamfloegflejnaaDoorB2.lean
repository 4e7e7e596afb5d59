/-
  The writer leaves alone the bytes of a text that was turned into a slice.
-/
import Derived.Test.YtamfloegflejnaaDoorB
set_option linter.unusedVariables false
namespace Go.Proofs.YtamfloegflejnaaDoor
open Go.RowKit

/-- A block of bytes with a mark of its own lies as it lay. -/
def Marked (b : Nat) (w w' : World) : Prop := ∀ k c fz, w.heap[k]? = some (.cells c 5 fz) → fz ≠ (0, 0) → k ≠ b → w'.heap[k]? = some (.cells c 5 fz)
theorem Marked.refl (b : Nat) (w : World) : Marked b w w := fun _ _ _ h _ _ => h
theorem Marked.trans {b : Nat} {w w1 w2 : World} (h : Marked b w w1) (k : Marked b w1 w2) : Marked b w w2 := fun i c fz hi hf hb => k i c fz (h i c fz hi hf hb) hf hb
theorem Marked.setCell {b : Nat} {w w1 : World} (h : Marked b w w1) (p : Addr) (hp : p.block = b) (u : Value) : Marked b w (w1.setCell p u) := fun i c fz hi hf hb =>
  (Below.heap_setCell w1 p u i (by rw [hp]; exact hb)).trans (h i c fz hi hf hb)
theorem Marked.lt {w : World} {k : Nat} {o : Obj} (h : w.heap[k]? = some o) : k < w.heap.size := by
  rcases Nat.lt_or_ge k w.heap.size with h' | h'
  · exact h'
  · simp [Array.getElem?_eq_none h'] at h
theorem Marked.alloc {b : Nat} {w w1 : World} (h : Marked b w w1) (o : Obj) : Marked b w (w1.alloc o) := fun i c fz hi hf hb =>
  (Below.heap_alloc w1 o i (Marked.lt (h i c fz hi hf hb))).trans (h i c fz hi hf hb)
theorem own_plain {w : World} {B : Nat} {e : TypeId} {v : Value} {n : Nat} {xs : List Value} (h : w.ownsRow B e 1 v n xs) : ∀ g, v.ownBlock = some g → ∃ c, w.heap[g]? = some (.cells c e (0, 0)) := by
  intro g hg
  rcases h.2 with ⟨rfl, _⟩ | ⟨g', cap, cur, rfl, _, hgg, _⟩
  · simp [Value.ownBlock] at hg
  · simp [Value.ownBlock] at hg
    subst hg
    exact ⟨cur, hgg⟩
theorem Marked.grown {b : Nat} {w w1 w2 : World} {row : Option Nat} (h : Marked b w w1) (hg : w1.grownBy w2 row) (hr : ∀ g, row = some g → ∃ c, w1.heap[g]? = some (.cells c 5 (0, 0))) : Marked b w w2 := fun i c fz hi hf hb => by
  have h1 := h i c fz hi hf hb
  refine (hg.block i (Marked.lt h1) (fun e => ?_)).trans h1
  obtain ⟨c', hc⟩ := hr i e.symm
  rw [hc] at h1
  simp at h1
  exact hf h1.2.symm
theorem Marked.under {b : Nat} {w w' : World} (hb : Below w.heap.size w w') : Marked b w w' := fun i c fz hi _ _ => (hb.block i (Marked.lt hi)).trans hi

theorem copyCheck_mk (B b : Nat) (bs : List Value) (bad : Bool) (w : World) (h : IsWr B b bs bad w) :
    Calls Tryd.prog 27 #[.pointer (some ⟨b, 0, none⟩)] w fun e w' => e = .returned (.tuple #[]) ∧ (WrAt B b (.pointer (some ⟨b, 0, none⟩)) bs bad w' ∧ Below B w w' ∧ Lib.OthersKept 5 (some b) w w' ∧ Marked b w w') := by
  rcases h with h | h
  · obtain ⟨hB, v, hb, hown, hne⟩ := h
    refine (copyCheck_fresh b w (by rw [Lib.cell_of_heap hb]; rfl) (by simp [World.shape?, hb]) (Lib.frozen_of_heap hb 0)).mono ?_
    rintro e w' ⟨rfl, rfl⟩
    exact ⟨rfl, WrAt.used ⟨hB, v, hb, hown, hne⟩ _, (Below.refl B w).setCell (p := ⟨b, 0, none⟩) hB _, (Lib.OthersKept.refl _ _ w).setCell ⟨b, 0, none⟩ rfl _, (Marked.refl b w).setCell ⟨b, 0, none⟩ rfl _⟩
  · obtain ⟨hB, v, hb, hown, hne⟩ := h
    refine (copyCheck_used b w (by rw [Lib.cell_of_heap hb]; rfl)).mono ?_
    rintro e w' ⟨rfl, rfl⟩
    exact ⟨rfl, ⟨hB, v, hb, hown, hne⟩, Below.refl B _, Lib.OthersKept.refl _ _ _, Marked.refl _ _⟩

set_option maxHeartbeats 2000000 in
set_option maxRecDepth 100000 in
theorem writeByte_mk (B b : Nat) (bs : List Value) (bad : Bool) (c : Int) (w : World) (h : IsWr B b bs bad w) (hlen : bs.length + 1 ≤ 140737488355328) (hBw : B ≤ w.heap.size) :
    Calls Tryd.prog 29 #[.pointer (some ⟨b, 0, none⟩), .int .u8 c] w fun e w' => e = .returned .nilIface ∧ (WrAt B b (.pointer (some ⟨b, 0, none⟩)) (bs ++ [.int .u8 c]) bad w' ∧ Below B w w' ∧ Lib.OthersKept 5 (some b) w w' ∧ Marked b w w') := by
  obtain ⟨i0, hi, hz0, hz1, hz2⟩ := info_parts infoByte
  go_enter Tryd.func29, Tryd.ntmps29
  go_wp2_with (go_at_call 27; refine (copyCheck_mk B b bs bad _ h).mono ?_)
  rintro e w1 ⟨rfl, h1, hb1, hk1, hm1⟩
  obtain ⟨hB, v, hbk, hown, hne⟩ := h1
  have c0 : w1.cell? ⟨b, 0, none⟩ = some (.pointer (some ⟨b, 0, none⟩)) := by rw [Lib.cell_of_heap hbk]; rfl
  have c1 : w1.cell? ⟨b, 1, none⟩ = some v := by rw [Lib.cell_of_heap hbk]; rfl
  go_wp2_with (at_builtin; refine wpList_append_own _ rfl _ _ 38 rfl B 5 i0 (.int .u8 0) 1 1 Tryd.underlying38 hi hz0 hz1 hz2 rfl (by decide) _ _ _ rfl (hown.alloc _) ⟨w1.heap.size, 0, none⟩ 1 1 [.int .u8 c] rfl rfl ?c1 ?c2 ?c3 ?c4 ?c5 ?_)
  case c1 =>
    intro j u hj
    match j, hj with
    | 0, hj => simp at hj; subst hj; simp [Addr.add]
  case c2 => intro u hu; simp at hu; subst hu; rfl
  case c3 => unfold maxLen; omega
  case c4 => omega
  case c5 => have := hb1.size; simp; omega
  intro v' w2 hown' hgrow _
  have hlt : b < w1.heap.size := by
    rcases Nat.lt_or_ge b w1.heap.size with h' | h'
    · exact h'
    · simp [Array.getElem?_eq_none h'] at hbk
  have hb2 : w2.heap[b]? = some (.cells #[.pointer (some ⟨b, 0, none⟩), v, .bool bad] 42 (0, 0)) := by
    rw [hgrow.block b (by simp; omega) (fun e => hne e.symm), Lib.alloc_old w1 _ b hlt]
    exact hbk
  have d0 : w2.cell? ⟨b, 0, none⟩ = some (.pointer (some ⟨b, 0, none⟩)) := by rw [Lib.cell_of_heap hb2]; rfl
  have d1 : w2.cell? ⟨b, 1, none⟩ = some v := by rw [Lib.cell_of_heap hb2]; rfl
  have f1 : w2.frozen? ⟨b, 1, none⟩ = false := Lib.frozen_of_heap hb2 1
  obtain ⟨g, cap, rfl⟩ : ∃ g cap, v' = .slice (some ⟨g, 0, none⟩) (bs.length + 1) cap := by
    rcases hown'.2 with ⟨_, h0⟩ | ⟨g, cap, cur, hv, _⟩
    · omega
    · exact ⟨g, cap, hv⟩
  go_wp2
  go_ret
  refine ⟨rfl, ?_, ?_, ((hk1.alloc _).grown hgrow (ownsRow_kind (hown.alloc _))).setCell ⟨b, 1, none⟩ rfl _, ((hm1.alloc _).grown hgrow (own_plain (hown.alloc _))).setCell ⟨b, 1, none⟩ rfl _⟩
  · exact WrAt.put hB hb2 (bs' := bs ++ [.int .u8 c]) (by simpa using hown')
  · exact ((hb1.alloc (by have := hb1.size; omega) _).grown hgrow (by have := hb1.size; simp; omega) (fun k hk => (hown.lt k hk).1)).setCell (p := ⟨b, 1, none⟩) hB _

set_option maxHeartbeats 2000000 in
set_option maxRecDepth 100000 in
theorem writeString_mk (B b : Nat) (bs : List Value) (bad : Bool) (s : ByteArray) (w : World) (h : IsWr B b bs bad w) (hlen : bs.length + s.size ≤ 140737488355328) (hBw : B ≤ w.heap.size) :
    Calls Tryd.prog 15 #[.pointer (some ⟨b, 0, none⟩), .string s] w fun e w' => e = .returned (.tuple #[.int .i64 s.size, .nilIface]) ∧ (WrAt B b (.pointer (some ⟨b, 0, none⟩)) (bs ++ Lib.strCells s) bad w' ∧ Below B w w' ∧ Lib.OthersKept 5 (some b) w w' ∧ Marked b w w') := by
  obtain ⟨i0, hi, hz0, hz1, hz2⟩ := info_parts infoByte
  go_enter Tryd.func15, Tryd.ntmps15
  go_wp2_with (go_at_call 27; refine (copyCheck_mk B b bs bad _ h).mono ?_)
  rintro e w1 ⟨rfl, h1, hb1, hk1, hm1⟩
  obtain ⟨hB, v, hbk, hown, hne⟩ := h1
  have c0 : w1.cell? ⟨b, 0, none⟩ = some (.pointer (some ⟨b, 0, none⟩)) := by rw [Lib.cell_of_heap hbk]; rfl
  have c1 : w1.cell? ⟨b, 1, none⟩ = some v := by rw [Lib.cell_of_heap hbk]; rfl
  go_wp2_with (at_builtin; refine Lib.wpList_append_own_string _ rfl _ _ 38 9 rfl B 5 i0 Tryd.underlying38 Tryd.underlying9 hi hz0 hz1 hz2 _ _ _ rfl hown s rfl ?c3 ?c4 ?c5 ?_)
  case c3 => unfold maxLen; omega
  case c4 => omega
  case c5 => have := hb1.size; omega
  intro v' w2 hown' hgrow _
  have hlt : b < w1.heap.size := by
    rcases Nat.lt_or_ge b w1.heap.size with h' | h'
    · exact h'
    · simp [Array.getElem?_eq_none h'] at hbk
  have hb2 : w2.heap[b]? = some (.cells #[.pointer (some ⟨b, 0, none⟩), v, .bool bad] 42 (0, 0)) := by
    rw [hgrow.block b hlt (fun e => hne e.symm)]
    exact hbk
  have d0 : w2.cell? ⟨b, 0, none⟩ = some (.pointer (some ⟨b, 0, none⟩)) := by rw [Lib.cell_of_heap hb2]; rfl
  have d1 : w2.cell? ⟨b, 1, none⟩ = some v := by rw [Lib.cell_of_heap hb2]; rfl
  have f1 : w2.frozen? ⟨b, 1, none⟩ = false := Lib.frozen_of_heap hb2 1
  obtain ⟨ao, n', cap, rfl⟩ : ∃ ao n' cap, v' = .slice ao n' cap := by
    rcases hown'.2 with ⟨hv, _⟩ | ⟨g, cap, cur, hv, _⟩
    · exact ⟨_, _, _, hv⟩
    · exact ⟨_, _, _, hv⟩
  go_wp2
  go_ret2
  refine ⟨rfl, ?_, ?_, (hk1.grown hgrow (ownsRow_kind hown)).setCell ⟨b, 1, none⟩ rfl _, (hm1.grown hgrow (own_plain hown)).setCell ⟨b, 1, none⟩ rfl _⟩
  · exact WrAt.put hB hb2 (bs' := bs ++ Lib.strCells s) (by simpa [Lib.strCells_length] using hown')
  · exact (hb1.grown hgrow (by have := hb1.size; omega) (fun k hk => (hown.lt k hk).1)).setCell (p := ⟨b, 1, none⟩) hB _

end Go.Proofs.YtamfloegflejnaaDoor
