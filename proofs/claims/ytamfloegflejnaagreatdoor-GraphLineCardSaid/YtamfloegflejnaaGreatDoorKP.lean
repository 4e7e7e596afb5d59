/-
 strings.Builder's methods as they act on a builder in a block of its own (type 82).
 kind's show of a type: the text that the type's tree has.
 graph's places and the text of a line.
-/
import Derived.Test.YtamfloegflejnaaGreatDoorKB
import Derived.WalkKit
import Derived.WalkSpells
import Derived.WalkLawsBesides
import Derived.Lib.Builder
import Derived.Lib.AppendStr
import Derived.Lib.UnsafeStr
import Derived.Lib.OthersKept
import Derived.Laws.Externs
import Derived.Laws.IdiomCopy
import Derived.KernelRfl
import Derived.Test.YtamfloegflejnaaGreatDoorKC
import Derived.Test.YtamfloegflejnaaGreatDoorShelf
import Derived.Test.YtamfloegflejnaaGreatDoorKL
import Derived.Lib.ItoaLen
set_option linter.unusedVariables false
set_option linter.unusedSimpArgs false
set_option maxHeartbeats 2000000
set_option maxRecDepth 100000
namespace Go.Proofs.YtamfloegflejnaaGreatDoor
open Lib (hid)
open Go.RowKit
theorem size82 : (Tryz.prog.info? 82).map (·.size) = some 2 := by kernel_rfl
theorem lies82 : liesAt Tryz.prog Tryz.prog.depth 82 (2 / Tryz.prog.cellsOf 82) 0 82 1 = true := by kernel_rfl
theorem infoByte : (Tryz.prog.info? 5).map (fun i => (i.zero, i.size, i.bytes)) = some (some (.int .u8 0), 1, 1) := by kernel_rfl
theorem ownsRow_kind {w : World} {B : Nat} {e : TypeId} {v : Value} {n : Nat} {xs : List Value} (h : w.ownsRow B e 1 v n xs) : ∀ g, v.ownBlock = some g -> ∃ c fz, w.heap[g]? = some (.cells c e fz) := by
 intro g hg
 rcases h.2 with ⟨rfl, _⟩ | ⟨g', cap, cur, rfl, _, hgg, _⟩
 ·simp [Value.ownBlock] at hg
 ·simp [Value.ownBlock] at hg
  subst hg
  exact ⟨cur, _, hgg⟩
theorem copyCheck_used (b : Nat) (w : World) (h0 : w.cell? ⟨b, 0, none⟩ = some (.pointer (some ⟨b, 0, none⟩))) :
  Calls Tryz.prog 49 #[.pointer (some ⟨b, 0, none⟩)] w fun e w' => e = .returned (.tuple #[]) ∧ w' = w := by
 obtain ⟨j, hj, _⟩ := Option.map_eq_some_iff.1 size82
 go_enter Tryz.func49, Tryz.ntmps49
 go_wp2
 rw [Lib.run_neq_ptr_same w _ Tryz.underlying79 hj]
 go_wp2
 go_end0
 exact ⟨rfl, rfl⟩
theorem copyCheck_fresh (b : Nat) (w : World) (h0 : w.cell? ⟨b, 0, none⟩ = some (.pointer none)) (hsh : w.shape? b = some (82, 2)) (hfz : w.frozen? ⟨b, 0, none⟩ = false) :
  Calls Tryz.prog 49 #[.pointer (some ⟨b, 0, none⟩)] w fun e w' => e = .returned (.tuple #[]) ∧ w' = w.setCell ⟨b, 0, none⟩ (.pointer (some ⟨b, 0, none⟩)) := by
 obtain ⟨j, hj, hjs⟩ := Option.map_eq_some_iff.1 size82
 go_enter Tryz.func49, Tryz.ntmps49
 go_wp2
 rw [Lib.run_to_unsafe w ⟨b, 0, none⟩ Tryz.underlying79 Tryz.underlying127 hj (by rw [hjs]; decide) hsh (Nat.zero_lt_succ 1)]
 simp only [Result.andThen]
 rw [Oper.upon_value]
 go_wp2
 rw [run_callFunc_extern Tryz.func70 (by kernel_rfl) (by kernel_rfl) (by kernel_rfl) (e := Extern.AbiNoEscape.same) (by kernel_rfl)]
 rw [Lib.run_noEscape]
 simp only [Result.andThen]
 rw [Oper.upon_value]
 go_wp2
 rw [Lib.run_from_unsafe w ⟨b, 0, none⟩ Tryz.underlying127 Tryz.underlying79 hj hsh lies82]
 simp only [Result.andThen]
 rw [Oper.upon_value]
 go_wp2
 go_end0
 exact ⟨rfl, rfl⟩
theorem copyCheck_any (B b : Nat) (bs : List Value) (w : World) (h : Lib.IsBuilder 82 5 B b bs w) :
  Calls Tryz.prog 49 #[.pointer (some ⟨b, 0, none⟩)] w fun e w' => e = .returned (.tuple #[]) ∧ (Lib.BuilderAt 82 5 B b (.pointer (some ⟨b, 0, none⟩)) bs w' ∧ Below B w w' ∧ Lib.OthersKept 5 (some b) w w') := by
 rcases h with h | h
 ·obtain ⟨hB, v, hb, hown, hne⟩ := h
  refine (copyCheck_fresh b w (by rw [Lib.cell_of_heap hb]; rfl) (by simp [World.shape?, hb]) (Lib.frozen_of_heap hb 0)).mono ?_
  rintro e w' ⟨rfl, rfl⟩
  exact ⟨rfl, Lib.BuilderAt.used ⟨hB, v, hb, hown, hne⟩ _, (Below.refl B w).setCell (p := ⟨b, 0, none⟩) hB _, (Lib.OthersKept.refl _ _ w).setCell ⟨b, 0, none⟩ rfl _⟩
 ·obtain ⟨hB, v, hb, hown, hne⟩ := h
  refine (copyCheck_used b w (by rw [Lib.cell_of_heap hb]; rfl)).mono ?_
  rintro e w' ⟨rfl, rfl⟩
  exact ⟨rfl, ⟨hB, v, hb, hown, hne⟩, Below.refl B _, Lib.OthersKept.refl _ _ _⟩
theorem writeByte_any (B b : Nat) (bs : List Value) (c : Int) (w : World) (h : Lib.IsBuilder 82 5 B b bs w) (hlen : bs.length + 1 <= 140737488355328) (hBw : B <= w.heap.size) :
  Calls Tryz.prog 90 #[.pointer (some ⟨b, 0, none⟩), .int .u8 c] w fun e w' => e = .returned .nilIface ∧ (Lib.BuilderAt 82 5 B b (.pointer (some ⟨b, 0, none⟩)) (bs ++ [.int .u8 c]) w' ∧ Below B w w' ∧ Lib.OthersKept 5 (some b) w w') := by
 obtain ⟨i0, hi, hz0, hz1, hz2⟩ := info_parts infoByte
 go_enter Tryz.func90, Tryz.ntmps90
 go_wp2_with (go_at_call 49; refine (copyCheck_any B b bs _ h).mono ?_)
 rintro e w1 ⟨rfl, h1, hb1, hk1⟩
 obtain ⟨hB, v, hbk, hown, hne⟩ := h1
 have c0 : w1.cell? ⟨b, 0, none⟩ = some (.pointer (some ⟨b, 0, none⟩)) := by rw [Lib.cell_of_heap hbk]; rfl
 have c1 : w1.cell? ⟨b, 1, none⟩ = some v := by rw [Lib.cell_of_heap hbk]; rfl
 go_wp2_with (at_builtin; refine wpList_append_own _ rfl _ _ 80 rfl B 5 i0 (.int .u8 0) 1 1 Tryz.underlying80 hi hz0 hz1 hz2 rfl (by decide) _ _ _ rfl (hown.alloc _) ⟨w1.heap.size, 0, none⟩ 1 1 [.int .u8 c] rfl rfl ?c1 ?c2 ?c3 ?c4 ?c5 ?_)
 case c1 =>
  intro j u hj
  match j, hj with
  | 0, hj => simp at hj; subst hj; simp [Addr.add]
 case c2 => intro u hu; simp at hu; subst hu; rfl
 case c3 => unfold maxLen; omega
 case c4 => omega
 case c5 => have := hb1.size; simp; omega
 intro v' w2 hown' hgrow _
 have hlt : b < w1.heap.size := by
  rcases Nat.lt_or_ge b w1.heap.size with h' | h'
  ·exact h'
  ·simp [Array.getElem?_eq_none h'] at hbk
 have hb2 : w2.heap[b]? = some (.cells #[.pointer (some ⟨b, 0, none⟩), v] 82 (0, 0)) := by
  rw [hgrow.block b (by simp; omega) (fun e => hne e.symm), Lib.alloc_old w1 _ b hlt]
  exact hbk
 have d0 : w2.cell? ⟨b, 0, none⟩ = some (.pointer (some ⟨b, 0, none⟩)) := by rw [Lib.cell_of_heap hb2]; rfl
 have d1 : w2.cell? ⟨b, 1, none⟩ = some v := by rw [Lib.cell_of_heap hb2]; rfl
 have f1 : w2.frozen? ⟨b, 1, none⟩ = false := Lib.frozen_of_heap hb2 1
 obtain ⟨g, cap, rfl⟩ : ∃ g cap, v' = .slice (some ⟨g, 0, none⟩) (bs.length + 1) cap := by
  rcases hown'.2 with ⟨_, h0⟩ | ⟨g, cap, cur, hv, _⟩
  ·omega
  ·exact ⟨g, cap, hv⟩
 go_wp2
 go_ret
 refine ⟨rfl, ?_, ?_, ((hk1.alloc _).grown hgrow (ownsRow_kind (hown.alloc _))).setCell ⟨b, 1, none⟩ rfl _⟩
 ·exact Lib.BuilderAt.put hB hb2 (bs' := bs ++ [.int .u8 c]) (by simpa using hown') (by decide)
 ·exact ((hb1.alloc (by have := hb1.size; omega) _).grown hgrow (by have := hb1.size; simp; omega) (fun k hk => (hown.lt k hk).1)).setCell (p := ⟨b, 1, none⟩) hB _
theorem writeString_any (B b : Nat) (bs : List Value) (s : ByteArray) (w : World) (h : Lib.IsBuilder 82 5 B b bs w) (hlen : bs.length + s.size <= 140737488355328) (hBw : B <= w.heap.size) :
  Calls Tryz.prog 27 #[.pointer (some ⟨b, 0, none⟩), .string s] w fun e w' => e = .returned (.tuple #[.int .i64 s.size, .nilIface]) ∧ (Lib.BuilderAt 82 5 B b (.pointer (some ⟨b, 0, none⟩)) (bs ++ Lib.strCells s) w' ∧ Below B w w' ∧ Lib.OthersKept 5 (some b) w w') := by
 obtain ⟨i0, hi, hz0, hz1, hz2⟩ := info_parts infoByte
 go_enter Tryz.func27, Tryz.ntmps27
 go_wp2_with (go_at_call 49; refine (copyCheck_any B b bs _ h).mono ?_)
 rintro e w1 ⟨rfl, h1, hb1, hk1⟩
 obtain ⟨hB, v, hbk, hown, hne⟩ := h1
 have c0 : w1.cell? ⟨b, 0, none⟩ = some (.pointer (some ⟨b, 0, none⟩)) := by rw [Lib.cell_of_heap hbk]; rfl
 have c1 : w1.cell? ⟨b, 1, none⟩ = some v := by rw [Lib.cell_of_heap hbk]; rfl
 go_wp2_with (at_builtin; refine Lib.wpList_append_own_string _ rfl _ _ 80 9 rfl B 5 i0 Tryz.underlying80 Tryz.underlying9 hi hz0 hz1 hz2 _ _ _ rfl hown s rfl ?c3 ?c4 ?c5 ?_)
 case c3 => unfold maxLen; omega
 case c4 => omega
 case c5 => have := hb1.size; omega
 intro v' w2 hown' hgrow _
 have hlt : b < w1.heap.size := by
  rcases Nat.lt_or_ge b w1.heap.size with h' | h'
  ·exact h'
  ·simp [Array.getElem?_eq_none h'] at hbk
 have hb2 : w2.heap[b]? = some (.cells #[.pointer (some ⟨b, 0, none⟩), v] 82 (0, 0)) := by
  rw [hgrow.block b hlt (fun e => hne e.symm)]
  exact hbk
 have d0 : w2.cell? ⟨b, 0, none⟩ = some (.pointer (some ⟨b, 0, none⟩)) := by rw [Lib.cell_of_heap hb2]; rfl
 have d1 : w2.cell? ⟨b, 1, none⟩ = some v := by rw [Lib.cell_of_heap hb2]; rfl
 have f1 : w2.frozen? ⟨b, 1, none⟩ = false := Lib.frozen_of_heap hb2 1
 obtain ⟨ao, n', cap, rfl⟩ : ∃ ao n' cap, v' = .slice ao n' cap := by
  rcases hown'.2 with ⟨hv, _⟩ | ⟨g, cap, cur, hv, _⟩
  ·exact ⟨_, _, _, hv⟩
  ·exact ⟨_, _, _, hv⟩
 go_wp2
 go_ret2
 refine ⟨rfl, ?_, ?_, (hk1.grown hgrow (ownsRow_kind hown)).setCell ⟨b, 1, none⟩ rfl _⟩
 ·exact Lib.BuilderAt.put hB hb2 (bs' := bs ++ Lib.strCells s) (by simpa [Lib.strCells_length] using hown') (by decide)
 ·exact (hb1.grown hgrow (by have := hb1.size; omega) (fun k hk => (hown.lt k hk).1)).setCell (p := ⟨b, 1, none⟩) hB _
end Go.Proofs.YtamfloegflejnaaGreatDoor
set_option maxHeartbeats 1000000
set_option maxRecDepth 100000
namespace Go.Proofs.YtamfloegflejnaaGreatDoor
open Go.RowKit Go.Proofs.YtamfloegflejnaaGreatDoorW.PrintWords Go.Proofs.YtamfloegflejnaaGreatDoorW.PrintLast Go.Proofs.YtamfloegflejnaaGreatDoorW.PrintMore PGraphLines
/-- The words of the kinds: the kind, how it is written, how many types it takes. -/
def wordsL : List (Int × List UInt8 × Int) := [(1, [98, 111, 111, 108], 0), (2, [105, 110, 116], 0), (3, [116, 101, 120, 116], 0), (4, [98, 121, 116, 101, 115], 0), (5, [112, 111, 105, 110, 116], 0), (6, [112, 97, 105, 114], 2), (7, [108, 105, 115, 116], 1), (9, [111, 112, 116, 105, 111, 110], 1)]
def wK (k : Nat) : Int := (wordsL.getD k (0, [], 0)).1
def wT (k : Nat) : List UInt8 := (wordsL.getD k (0, [], 0)).2.1
def wA (k : Nat) : Int := (wordsL.getD k (0, [], 0)).2.2
theorem wordCells_at (k : Nat) (hk : k < 8) : wordCells[k * 3]? = some (.int .i64 (wK k)) ∧ wordCells[k * 3 + 1]? = some (.string ⟨(wT k).toArray⟩) ∧ wordCells[k * 3 + 2]? = some (.int .i64 (wA k)) := by
 match k, hk with
 | 0, _ => exact ⟨rfl, rfl, rfl⟩
 | 1, _ => exact ⟨rfl, rfl, rfl⟩
 | 2, _ => exact ⟨rfl, rfl, rfl⟩
 | 3, _ => exact ⟨rfl, rfl, rfl⟩
 | 4, _ => exact ⟨rfl, rfl, rfl⟩
 | 5, _ => exact ⟨rfl, rfl, rfl⟩
 | 6, _ => exact ⟨rfl, rfl, rfl⟩
 | 7, _ => exact ⟨rfl, rfl, rfl⟩
/-- What of a kind's word the first k words give. -/
def preW (kind : Int) : Nat -> List UInt8
 | 0 => []
 | k + 1 => preW kind k ++ (if wK k = kind then wT k else [])
def wordT (kind : Int) : List UInt8 := preW kind 8
def sepT (i : Nat) : UInt8 := if i = 0 then 40 else 44
/-- The types of a row, each behind its sign. -/
def argsT (f : S59 -> List UInt8) : Nat -> List S59 -> List UInt8
 | _, [] => []
 | i, a :: r => sepT i :: (f a ++ argsT f (i + 1) r)
/-- A type's text. -/
def showT : Nat -> S59 -> List UInt8
 | 0, _ => []
 | d + 1, t => wordT t.f0 ++ argsT (showT d) 0 t.f1 ++ (if t.f1.length = 0 then [] else [41])
theorem argsT_snoc (f : S59 -> List UInt8) (a : S59) : ∀ (xs : List S59) (i : Nat), argsT f i (xs ++ [a]) = argsT f i xs ++ (sepT (i + xs.length) :: f a)
 | [], i => by simp [argsT]
 | x :: r, i => by
  have := argsT_snoc f a r (i + 1)
  simp only [List.cons_append, argsT, this, List.length_cons]
  rw [show i + 1 + r.length = i + (r.length + 1) by omega]
  simp [List.append_assoc]
theorem argsT_take (f : S59 -> List UInt8) (xs : List S59) (k : Nat) (h : k < xs.length) : argsT f 0 (xs.take (k + 1)) = argsT f 0 (xs.take k) ++ (sepT k :: f xs[k]) := by
 rw [List.take_succ_eq_append_getElem h, argsT_snoc, List.length_take, Nat.min_eq_left (by omega), Nat.zero_add]
theorem argsT_le (f : S59 -> List UInt8) (xs : List S59) (k : Nat) : k <= xs.length -> (argsT f 0 (xs.take k)).length <= (argsT f 0 xs).length := by
 intro h
 obtain ⟨j, hj⟩ : ∃ j, k + j = xs.length := ⟨xs.length - k, by omega⟩
 induction j generalizing k with
 | zero => rw [List.take_of_length_le (by omega)]; exact Nat.le_refl _
 | succ j ih =>
  have := ih (k + 1) (by omega) (by omega)
  rw [argsT_take f xs k (by omega)] at this
  simp at this
  omega
theorem preW_le (kind : Int) (k : Nat) (j : Nat) : (preW kind k).length <= (preW kind (k + j)).length := by
 induction j with
 | zero => exact Nat.le_refl _
 | succ j ih =>
  show _ <= (preW kind (k + j) ++ (if wK (k + j) = kind then wT (k + j) else [])).length
  rw [List.length_append]
  omega
/-- The builder b has the bytes l behind a step that leaves what was. -/
def BStep (w0 : World) (b : Nat) (l : List UInt8) (w w' : World) : Prop := Lib.IsBuilder 82 5 w0.heap.size b (Lib.byteCells l) w' ∧ Below w0.heap.size w0 w' ∧ Lib.OthersKept 5 (some b) w w'
theorem byteCells_append (l m : List UInt8) : Lib.byteCells (l ++ m) = Lib.byteCells l ++ Lib.byteCells m := by simp [Lib.byteCells]
theorem b_string (w0 : World) (b : Nat) (l : List UInt8) (s : ByteArray) (w : World) (h : Lib.IsBuilder 82 5 w0.heap.size b (Lib.byteCells l) w) (hB : Below w0.heap.size w0 w) (hlen : l.length + s.size <= 140737488355328) :
  Calls Tryz.prog 27 #[.pointer (some ⟨b, 0, none⟩), .string s] w fun e w' => e = .returned (.tuple #[.int .i64 s.size, .nilIface]) ∧ BStep w0 b (l ++ s.data.toList) w w' := by
 refine (writeString_any w0.heap.size b (Lib.byteCells l) s w h (by rw [Lib.byteCells_length]; exact hlen) hB.size).mono ?_
 rintro e w' ⟨rfl, h1, h2, h3⟩
 refine ⟨rfl, .inr ?_, hB.trans h2, h3⟩
 rw [byteCells_append]
 exact h1
theorem b_byte (w0 : World) (b : Nat) (l : List UInt8) (c : UInt8) (w : World) (h : Lib.IsBuilder 82 5 w0.heap.size b (Lib.byteCells l) w) (hB : Below w0.heap.size w0 w) (hlen : l.length + 1 <= 140737488355328) :
  Calls Tryz.prog 90 #[.pointer (some ⟨b, 0, none⟩), .int .u8 c.toNat] w fun e w' => e = .returned .nilIface ∧ BStep w0 b (l ++ [c]) w w' := by
 refine (writeByte_any w0.heap.size b (Lib.byteCells l) c.toNat w h (by rw [Lib.byteCells_length]; exact hlen) hB.size).mono ?_
 rintro e w' ⟨rfl, h1, h2, h3⟩
 refine ⟨rfl, .inr ?_, hB.trans h2, h3⟩
 rw [byteCells_append]
 exact h1
theorem BStep.blk {w0 w w' : World} {b g : Nat} {l : List UInt8} {cs : Array Value} {t : TypeId} {fz : Nat × Nat} (h : BStep w0 b l w w') (hg : w.heap[g]? = some (.cells cs t fz)) (hb : g ≠ b) (ht : t ≠ 5) : w'.heap[g]? = some (.cells cs t fz) :=
 h.2.2 g _ hg (by simpa using hb) (fun c f e => by injection e with _ e _; exact ht e)
theorem build_alloc {w : World} {B b : Nat} {bs : List Value} (h : Lib.IsBuilder 82 5 B b bs w) (o : Obj) : Lib.IsBuilder 82 5 B b bs (w.alloc o) := by
 have key : ∀ p, Lib.BuilderAt 82 5 B b p bs w -> Lib.BuilderAt 82 5 B b p bs (w.alloc o) := by
  rintro p ⟨hB, v, hb, hown, hne⟩
  exact ⟨hB, v, blk_alloc hb o, hown.alloc o, hne⟩
 exact h.imp (key _) (key _)
theorem build_ne {w : World} {B b g : Nat} {bs : List Value} {cs : Array Value} {t : TypeId} {fz : Nat × Nat} (h : Lib.IsBuilder 82 5 B b bs w) (hg : w.heap[g]? = some (.cells cs t fz)) (ht : t ≠ 82) : g ≠ b := by
 rintro rfl
 rcases h with ⟨_, v, hb, _⟩ | ⟨_, v, hb, _⟩
 all_goals
  rw [hb] at hg
  injection hg with hg
  injection hg with _ hg _
  exact ht hg.symm
theorem wordT_pre (kind : Int) (k : Nat) (h : k <= 8) : (preW kind k).length <= (wordT kind).length := by
 have := preW_le kind k (8 - k)
 rw [show k + (8 - k) = 8 by omega] at this
 exact this
theorem BStep.trans {w0 w w1 w2 : World} {b : Nat} {l l' : List UInt8} (h : BStep w0 b l w w1) (k : BStep w0 b l' w1 w2) : BStep w0 b l' w w2 := ⟨k.1, k.2.1, h.2.2.trans k.2.2⟩
theorem BStep.alloc {w0 w w1 : World} {b : Nat} {l : List UInt8} (h : BStep w0 b l w w1) (o : Obj) : BStep w0 b l w (w1.alloc o) := ⟨build_alloc h.1 o, below_alloc h.2.1 o, h.2.2.alloc o⟩
theorem sepT_at (k : Nat) (h : k < (⟨#[40, 44]⟩ : ByteArray).size) : (⟨#[40, 44]⟩ : ByteArray)[k]'h = sepT k := by
 match k, h with
 | 0, _ => rfl
 | 1, _ => rfl
 | k + 2, h => exact absurd h (by show ¬ (k + 2 < 2); omega)
theorem show_any (d : Nat) : ∀ (t : S59) (A : Option Addr) (c : Nat) (w0 w : World) (b : Nat) (l : List UInt8), rightT d t = true -> t.f1.length <= c -> k59.C w0 A t.f1.length t.f1 -> Below w0.heap.size w0 w -> Lib.IsBuilder 82 5 w0.heap.size b (Lib.byteCells l) w -> l.length + (showT d t).length <= 140737488355328 →
  Calls Tryz.prog 71 #[.pointer (some ⟨b, 0, none⟩), .agg #[.int .i64 t.f0, .slice A t.f1.length c]] w fun e w' => e = .returned (.tuple #[]) ∧ BStep w0 b (l ++ showT d t) w w' := by
 induction d with
 | zero => intro t A c w0 w b l hr; cases hr
 | succ d ih =>
  intro t A c w0 w b l hr hc hC hB hI hlen
  obtain ⟨kind, xs⟩ := t
  dsimp only at hc hC ⊢
  have HC := hid hC; have HI := hid hI; have HB := hid hB; have IH := hid ih; have HR := hid hr
  have hsh : (showT (d + 1) ⟨kind, xs⟩).length = (wordT kind).length + (argsT (showT d) 0 xs).length + (if xs.length = 0 then 0 else 1) := by
   unfold showT
   rw [List.length_append, List.length_append]
   split <;> rfl
  have HSH := hid hsh; have HL := hid hlen
  clear hC hI hB ih hr hsh hlen
  go_enter Tryz.func71, Tryz.ntmps71
  go_wp2_with fail
  refine (words_any _).mono ?_
  rintro e w1 ⟨rfl, rfl⟩
  have hX := blk_alloc (heap_alloc_new w (.cells #[.int .i64 kind, .slice A xs.length c] 59)) (.cells wordCells 135)
  have hG := heap_alloc_new (w.alloc (.cells #[.int .i64 kind, .slice A xs.length c] 59)) (.cells wordCells 135)
  have hI1 := build_alloc (build_alloc HI.out (.cells #[.int .i64 kind, .slice A xs.length c] 59)) (.cells wordCells 135)
  have hB1 := below_alloc (below_alloc HB.out (.cells #[.int .i64 kind, .slice A xs.length c] 59)) (.cells wordCells 135)
  rw [World.size_alloc] at hG
  go_wp2_with fail
  have HX := hid hX; have HG := hid hG; have HI1 := hid hI1; have HB1 := hid hB1
  have HO1 : Hid (Lib.OthersKept 5 (some b) w ((w.alloc (.cells #[.int .i64 kind, .slice A xs.length c] 59)).alloc (.cells wordCells 135))) := ((Lib.OthersKept.refl _ _ w).alloc _).alloc _
  clear hX hG hI1 hB1
  generalize (w.alloc (.cells #[.int .i64 kind, .slice A xs.length c] 59)).alloc (.cells wordCells 135) = W at *
  obtain ⟨ad, had⟩ : ∃ ad : Addr, ad = ⟨w.heap.size + 1, 0, none⟩ := ⟨_, rfl⟩
  rw [<- had]
  have HAD := hid had
  clear had
  go_loopg [10] 8 (fun n i wr => ∃ k : Nat, n + k = 8 ∧ i = .int .i64 k ∧ Aside0 (BStep w0 b (l ++ preW kind k) w wr) ∧ Aside0 (wr.heap[w.heap.size]? = some (.cells #[.int .i64 kind, .slice A xs.length c] 59)) ∧ Aside0 (wr.heap[w.heap.size + 1]? = some (.cells wordCells 135)))
  case atStart => exact ⟨0, by omega, rfl, ⟨by rw [show preW kind 0 = [] from rfl, List.append_nil]; exact ⟨HI1.out, HB1.out, HO1.out⟩⟩, ⟨HX.out⟩, ⟨HG.out⟩⟩
  case round =>
   obtain ⟨k, hk, rfl, ⟨hS⟩, ⟨hX⟩, ⟨hG⟩⟩ := hrel
   have HS := hid hS; have HXk := hid hX; have HGk := hid hG
   clear hS hX hG
   by_cases hlt : k < 8
   ·obtain ⟨m, rfl⟩ : ∃ m, gk = m + 1 := ⟨gk - 1, by omega⟩
    obtain ⟨g0, g1, g2⟩ := wordCells_at k hlt
    have e0 : wr.cell? (ad.add (k * 3)) = some (.int .i64 (wK k)) := by rw [HAD.out, add_plain]; exact (blk_cell HGk.out _).trans g0
    have e1 : wr.cell? ⟨(ad.add (k * 3)).block, (ad.add (k * 3)).off + 1, none⟩ = some (.string ⟨(wT k).toArray⟩) := by rw [HAD.out, add_plain]; exact (blk_cell HGk.out _).trans g1
    have e2 : wr.cell? ⟨(ad.add (k * 3)).block, (ad.add (k * 3)).off + 2, none⟩ = some (.int .i64 (wA k)) := by rw [HAD.out, add_plain]; exact (blk_cell HGk.out _).trans g2
    have f0 : wr.cell? ⟨w.heap.size, 0, none⟩ = some (.int .i64 kind) := (blk_cell HXk.out 0).trans rfl
    have hsz := blk_lt HXk.out
    have PW : Hid (preW kind (k + 1) = preW kind k ++ (if wK k = kind then wT k else [])) := rfl
    clear g0 g1 g2
    by_cases hkk : wK k = kind
    ·have t1 : (wK k == kind) = true := by rw [beq_iff_eq]; exact hkk
     have HKK := hid hkk
     clear hkk
     have hle := wordT_pre kind (k + 1) (by omega)
     rw [PW.out, if_pos HKK.out, List.length_append] at hle
     have hl := HL.out
     rw [HSH.out] at hl
     have hbl : (l ++ preW kind k).length + (⟨(wT k).toArray⟩ : ByteArray).size <= 140737488355328 := by
      rw [List.length_append]; show _ + (wT k).length <= _; omega
     have HBL := hid hbl
     clear hle hl hbl
     go_wp2_with fail
     refine (b_string w0 b (l ++ preW kind k) ⟨(wT k).toArray⟩ _ (HS.out.alloc _).1 (HS.out.alloc _).2.1 HBL.out).mono ?_
     rintro e w2 ⟨rfl, s2⟩
     have HX2 := hid (s2.blk (blk_alloc HXk.out _) (build_ne HS.out.1 HXk.out (by decide)) (by decide))
     have HG2 := hid (s2.blk (blk_alloc HGk.out _) (build_ne HS.out.1 HGk.out (by decide)) (by decide))
     have HS2 : Hid (BStep w0 b (l ++ preW kind (k + 1)) w w2) := by
      have := (HS.out.alloc _).trans s2
      rw [PW.out, if_pos HKK.out, <- List.append_assoc]
      exact this
     clear s2 e0 e1 e2 f0
     go_wp2_with fail
     go_roundg m
     case measure => omega
     case rel => exact ⟨k + 1, by omega, by go_num, ⟨HS2.out⟩, ⟨HX2.out⟩, ⟨HG2.out⟩⟩
    ·have t1 : (wK k == kind) = false := by rw [beq_eq_false_iff_ne]; exact hkk
     have HKK := hid hkk
     clear hkk
     go_wp2_with fail
     go_roundg m
     case measure => omega
     case rel => exact ⟨k + 1, by omega, by go_num, ⟨by rw [PW.out, if_neg HKK.out, List.append_nil]; exact HS.out.alloc _⟩, ⟨blk_alloc HXk.out _⟩, ⟨blk_alloc HGk.out _⟩⟩
   ·obtain rfl : k = 8 := by omega
    have HSw : Hid (BStep w0 b (l ++ wordT kind) w wr) := HS.out
    have f1 : wr.cell? ⟨w.heap.size, 1, none⟩ = some (.slice A xs.length c) := (blk_cell HXk.out 1).trans rfl
    have hxl : xs.length <= 2 := by
     have h := HR.out
     unfold rightT at h
     simp only [Bool.and_eq_true, beq_iff_eq] at h
     have h2 := wargs_le kind
     have h3 := h.1.2
     omega
    clear HS hlt hk
    go_wp2_with fail
    clear f1
    obtain ⟨wo, rfl⟩ : ∃ wo : World, wo = wr := ⟨_, rfl⟩
    go_loopg [27] xs.length (fun n i wr => ∃ k : Nat, n + k = xs.length ∧ i = .int .i64 k ∧ Aside0 (BStep w0 b (l ++ wordT kind ++ argsT (showT d) 0 (xs.take k)) wo wr) ∧ Aside0 (wr.heap[w.heap.size]? = some (.cells #[.int .i64 kind, .slice A xs.length c] 59)))
    case atStart => exact ⟨0, by omega, rfl, ⟨by
     have h := HSw.out
     have : l ++ wordT kind ++ argsT (showT d) 0 (xs.take 0) = l ++ wordT kind := by simp [argsT]
     rw [this]
     exact ⟨h.1, h.2.1, Lib.OthersKept.refl _ _ _⟩⟩, ⟨HXk.out⟩⟩
    case round =>
     obtain ⟨k, hk, rfl, ⟨hS⟩, ⟨hX⟩⟩ := hrel
     have HS := hid hS; have HX3 := hid hX
     clear hS hX
     by_cases hlt : k < xs.length
     ·obtain ⟨m, rfl⟩ : ∃ m, gk = m + 1 := ⟨gk - 1, by omega⟩
      obtain ⟨ad2, A1, c1, rfl, e0, e1, hc1, hC1⟩ := at_T59 HC.out (k : Int) (by omega) (by omega)
      have hrd : rd_T59 xs (k : Int) = xs[k] := by simp [rd_T59, List.getD, List.getElem?_eq_getElem hlt]
      rw [hrd] at e0 e1 hc1 hC1
      have ha := argsT_take (showT d) xs k hlt
      have hrx : rightT d xs[k] = true := by
       have h := HR.out
       unfold rightT at h
       simp only [Bool.and_eq_true, List.all_eq_true] at h
       exact h.2 _ (List.getElem_mem hlt)
      have hle := argsT_le (showT d) xs (k + 1) (by omega)
      rw [ha, List.length_append, List.length_cons] at hle
      generalize xs[k] = x at *
      rw [Int.toNat_natCast] at e0 e1
      have e0' := pw_cell_below HS.out.2.1 e0
      have e1' := pw_cell_below HS.out.2.1 e1
      have f1 : wr.cell? ⟨w.heap.size, 1, none⟩ = some (.slice (some ad2) xs.length c) := (blk_cell HX3.out 1).trans rfl
      have HA := hid ha; have HRX := hid hrx; have HC1 := hid hC1
      have hl := HL.out
      rw [HSH.out] at hl
      have h41 : (if xs.length = 0 then 0 else 1) = 1 := if_neg (by omega)
      rw [h41] at hl
      have hb1 : (l ++ wordT kind ++ argsT (showT d) 0 (xs.take k)).length + 1 <= 140737488355328 := by
       rw [List.length_append, List.length_append]; omega
      have hb2 : (l ++ wordT kind ++ argsT (showT d) 0 (xs.take k) ++ [sepT k]).length + (showT d x).length <= 140737488355328 := by
       rw [List.length_append, List.length_append, List.length_append, List.length_singleton]; omega
      have HB1 := hid hb1; have HB2 := hid hb2
      clear ha hrx hC1 hl h41 hb1 hb2 e0 e1 hrd hle
      have hk2 : k < 2 := by omega
      go_wp2_with fail
      rw [sepT_at]
      have HN := hid (heap_alloc_new wr (.cells #[.int .i64 x.f0, .slice A1 x.f1.length c1] 59))
      have HSa := hid (HS.out.alloc (.cells #[.int .i64 x.f0, .slice A1 x.f1.length c1] 59))
      have HX4 := hid (blk_alloc HX3.out (.cells #[.int .i64 x.f0, .slice A1 x.f1.length c1] 59))
      clear e0' e1' f1
      generalize wr.heap.size = N at HN ⊢
      generalize wr.alloc (.cells #[.int .i64 x.f0, .slice A1 x.f1.length c1] 59) = V at HN HSa HX4 ⊢
      refine (b_byte w0 b _ (sepT k) V HSa.out.1 HSa.out.2.1 HB1.out).mono ?_
      rintro e w2 ⟨rfl, s2⟩
      have HN2 := hid (s2.blk HN.out (build_ne HSa.out.1 HN.out (by decide)) (by decide))
      have HX5 := hid (s2.blk HX4.out (build_ne HSa.out.1 HX4.out (by decide)) (by decide))
      have HS2 := hid (HSa.out.trans s2)
      clear s2
      have n0 : w2.cell? ⟨N, 0, none⟩ = some (.int .i64 x.f0) := (blk_cell HN2.out 0).trans rfl
      have n1 : w2.cell? ⟨N, 1, none⟩ = some (.slice A1 x.f1.length c1) := (blk_cell HN2.out 1).trans rfl
      go_wp2_with fail
      refine (IH.out x A1 c1 w0 w2 b _ HRX.out hc1 HC1.out HS2.out.2.1 HS2.out.1 HB2.out).mono ?_
      rintro e w3 ⟨rfl, s3⟩
      have HX6 := hid (s3.blk HX5.out (build_ne HS2.out.1 HX5.out (by decide)) (by decide))
      have HS3 := hid (HS2.out.trans s3)
      clear s3 n0 n1
      go_wp2_with fail
      go_roundg m
      case measure => omega
      case rel => exact ⟨k + 1, by omega, by go_num, ⟨by
       have h := HS3.out
       rw [HA.out]
       simpa [List.append_assoc] using h⟩, ⟨HX6.out⟩⟩
     ·obtain rfl : k = xs.length := by omega
      have HSE : Hid (BStep w0 b (l ++ wordT kind ++ argsT (showT d) 0 xs) w wr) := by
       have h := HS.out
       rw [List.take_length] at h
       exact HSw.out.trans h
      have f1 : wr.cell? ⟨w.heap.size, 1, none⟩ = some (.slice A xs.length c) := (blk_cell HX3.out 1).trans rfl
      have HSD : Hid (l ++ showT (d + 1) ⟨kind, xs⟩ = (l ++ wordT kind ++ argsT (showT d) 0 xs) ++ (if xs.length = 0 then [] else [41])) := by
       show l ++ (wordT kind ++ argsT (showT d) 0 xs ++ (if xs.length = 0 then [] else [41])) = _
       simp [List.append_assoc]
      by_cases h0 : xs.length = 0
      ·have t0 : decide (0 < xs.length) = false := by rw [decide_eq_false_iff_not]; omega
       have HSF := hid (HSD.out.trans (by rw [if_pos h0, List.append_nil]))
       clear h0
       go_wp2_with fail
       go_end0
       exact ⟨rfl, by rw [HSF.out]; exact HSE.out⟩
      ·have t0 : decide (0 < xs.length) = true := by rw [decide_eq_true_iff]; omega
       have HSF := hid (HSD.out.trans (by rw [if_neg h0]))
       have hl := HL.out
       rw [HSH.out, if_neg h0] at hl
       have hb1 : (l ++ wordT kind ++ argsT (showT d) 0 xs).length + 1 <= 140737488355328 := by
        rw [List.length_append, List.length_append]; omega
       have HB1 := hid hb1
       clear h0 hl hb1
       go_wp2_with fail
       refine (b_byte w0 b _ 41 wr HSE.out.1 HSE.out.2.1 HB1.out).mono ?_
       rintro e w2 ⟨rfl, s2⟩
       have HS2 := hid (HSE.out.trans s2)
       clear s2
       go_wp2_with fail
       go_end0
       exact ⟨rfl, by rw [HSF.out]; exact HS2.out⟩
theorem wordT_cases (kind : Int) : (∃ k : Nat, k < 8 ∧ kind = wK k ∧ widx kind = k ∧ wordT kind = wT k ∧ wargs kind = wA k) ∨ (widx kind = -1 ∧ wordT kind = []) := by
 by_cases h : kind = 1 ∨ kind = 2 ∨ kind = 3 ∨ kind = 4 ∨ kind = 5 ∨ kind = 6 ∨ kind = 7 ∨ kind = 9
 ·left
  rcases h with rfl | rfl | rfl | rfl | rfl | rfl | rfl | rfl
  ·exact ⟨0, by decide, rfl, rfl, rfl, rfl⟩
  ·exact ⟨1, by decide, rfl, rfl, rfl, rfl⟩
  ·exact ⟨2, by decide, rfl, rfl, rfl, rfl⟩
  ·exact ⟨3, by decide, rfl, rfl, rfl, rfl⟩
  ·exact ⟨4, by decide, rfl, rfl, rfl, rfl⟩
  ·exact ⟨5, by decide, rfl, rfl, rfl, rfl⟩
  ·exact ⟨6, by decide, rfl, rfl, rfl, rfl⟩
  ·exact ⟨7, by decide, rfl, rfl, rfl, rfl⟩
 ·right
  simp only [not_or] at h
  obtain ⟨h1, h2, h3, h4, h5, h6, h7, h8⟩ := h
  refine ⟨?_, ?_⟩
  ·unfold widx
   rw [if_neg h1, if_neg h2, if_neg h3, if_neg h4, if_neg h5, if_neg h6, if_neg h7, if_neg h8]
  ·have hs : ∀ k, k < 8 -> ¬ wK k = kind := by
    intro k hk
    match k, hk with
    | 0, _ => exact Ne.symm h1
    | 1, _ => exact Ne.symm h2
    | 2, _ => exact Ne.symm h3
    | 3, _ => exact Ne.symm h4
    | 4, _ => exact Ne.symm h5
    | 5, _ => exact Ne.symm h6
    | 6, _ => exact Ne.symm h7
    | 7, _ => exact Ne.symm h8
   have hp : ∀ k, k <= 8 -> preW kind k = [] := by
    intro k
    induction k with
    | zero => intro _; rfl
    | succ k ih =>
     intro hk
     unfold preW
     rw [if_neg (hs k (by omega)), ih (by omega)]
     rfl
   exact hp 8 (Nat.le_refl _)
theorem wT_len (k : Nat) (h : k < 8) : 1 <= (wT k).length ∧ (wT k).length <= 6 := by
 match k, h with
 | 0, _ => decide
 | 1, _ => decide
 | 2, _ => decide
 | 3, _ => decide
 | 4, _ => decide
 | 5, _ => decide
 | 6, _ => decide
 | 7, _ => decide
theorem argsT_len (f : S59 -> List UInt8) (n : Nat) : ∀ (xs : List S59) (i : Nat), (∀ x ∈ xs, (f x).length <= n) -> (argsT f i xs).length <= xs.length * (n + 1)
 | [], i, _ => by simp [argsT]
 | x :: r, i, h => by
  have h1 := h x (by simp)
  have h2 := argsT_len f n r (i + 1) (fun y hy => h y (by simp [hy]))
  simp only [argsT, List.length_cons, List.length_append]
  rw [Nat.add_mul]
  omega
theorem right_parts {d : Nat} {t : S59} (h : rightT (d + 1) t = true) : (∃ k : Nat, k < 8 ∧ t.f0 = wK k ∧ wordT t.f0 = wT k ∧ (t.f1.length : Int) = wA k) ∧ (∀ x ∈ t.f1, rightT d x = true) ∧ t.f1.length <= 2 := by
 unfold rightT at h
 simp only [Bool.and_eq_true, List.all_eq_true, beq_iff_eq, decide_eq_true_eq] at h
 obtain ⟨⟨h1, h2⟩, h3⟩ := h
 have h4 := wargs_le t.f0
 refine ⟨?_, h3, by omega⟩
 rcases wordT_cases t.f0 with ⟨k, hk, e1, e2, e3, e4⟩ | ⟨e, _⟩
 ·exact ⟨k, hk, e1, e3, by rw [h2, e4]⟩
 ·rw [e] at h1; exact absurd h1 (by decide)
theorem showT_len (d : Nat) : ∀ t, rightT d t = true -> (showT d t).length + 9 <= 9 * 2 ^ d ∧ 1 <= (showT d t).length := by
 induction d with
 | zero => intro t h; cases h
 | succ d ih =>
  intro t h
  obtain ⟨⟨k, hk, _, hw, _⟩, hall, hl⟩ := right_parts h
  have h1 := wT_len k hk
  have h2 := argsT_len (showT d) (9 * 2 ^ d - 9) t.f1 0 (fun x hx => by have := (ih x (hall x hx)).1; omega)
  have h3 : t.f1.length * (9 * 2 ^ d - 9 + 1) <= 2 * (9 * 2 ^ d - 9 + 1) := Nat.mul_le_mul_right _ hl
  have h4 : 1 <= 2 ^ d := Nat.one_le_two_pow
  have hs : (showT (d + 1) t).length = (wordT t.f0).length + (argsT (showT d) 0 t.f1).length + (if t.f1.length = 0 then 0 else 1) := by
   unfold showT
   rw [List.length_append, List.length_append]
   split <;> rfl
  rw [hw] at hs
  have h5 : (if t.f1.length = 0 then 0 else 1) <= 1 := by split <;> omega
  rw [Nat.pow_succ]
  omega
/-- kind.Show of a right type. -/
theorem kind_show (t : S59) (A : Option Addr) (c : Nat) (w : World) (hr : rightT 6 t = true) (hc : t.f1.length <= c) (hC : k59.C w A t.f1.length t.f1) :
  Calls Tryz.prog 51 #[.agg #[.int .i64 t.f0, .slice A t.f1.length c]] w fun e w' => e = .returned (.tuple #[.string ⟨(showT 6 t).toArray⟩, .int .i64 0]) ∧ Below w.heap.size w w' := by
 have hb := Below.alloc (Below.refl w.heap.size w) (Nat.le_refl _) (.cells #[.int .i64 t.f0, .slice A t.f1.length c] 59)
 have hK := check_any t A c (w.alloc (.cells #[.int .i64 t.f0, .slice A t.f1.length c] 59)) hc (Kd.C_below hC hb)
 rw [if_pos hr] at hK
 have HK := hid hK
 have HX := hid (heap_alloc_new w (.cells #[.int .i64 t.f0, .slice A t.f1.length c] 59))
 have HB := hid hb; have HC := hid hC; have HR := hid hr
 clear hb hC hK hr
 go_enter Tryz.func51, Tryz.ntmps51
 go_wp2_with fail
 refine HK.out.mono ?_
 rintro e w1 ⟨rfl, hb1⟩
 have HX1 := hid ((hb1.block _ (blk_lt HX.out)).trans HX.out)
 have HB1 := hid (HB.out.trans (hb1.mono HB.out.size))
 clear hb1
 have c0 : w1.cell? ⟨w.heap.size, 0, none⟩ = some (.int .i64 t.f0) := (blk_cell HX1.out 0).trans rfl
 have c1 : w1.cell? ⟨w.heap.size, 1, none⟩ = some (.slice A t.f1.length c) := (blk_cell HX1.out 1).trans rfl
 have hz := blk_lt HX1.out
 go_wp2_with fail
 have hI := Lib.fresh_isBuilder 82 5 w1
 have HI : Hid (Lib.IsBuilder 82 5 w.heap.size w1.heap.size (Lib.byteCells []) (w1.alloc (.cells #[.pointer none, .slice none 0 0] 82))) :=
  .inl ⟨HB1.out.size, .slice none 0 0, heap_alloc_new w1 _, World.ownsRow_nil _ _ _ _, by simp [Value.ownBlock]⟩
 have HB2 := hid (below_alloc HB1.out (.cells #[.pointer none, .slice none 0 0] 82))
 clear hI
 generalize w1.alloc (.cells #[.pointer none, .slice none 0 0] 82) = w2 at HI HB2 ⊢
 generalize w1.heap.size = b at HI ⊢
 refine (show_any 6 t A c w w2 b [] HR.out hc HC.out HB2.out HI.out (by have := (showT_len 6 t HR.out).1; simp; omega)).mono ?_
 rintro e w3 ⟨rfl, s3⟩
 have HS := hid s3
 clear s3 c0 c1 hz
 go_wp2_with fail
 refine (Tryz.Builder_String w.heap.size b (showT 6 t) w3 (by simpa using HS.out.1) (by intro h; have := (showT_len 6 t HR.out).2; rw [h] at this; simp at this)).mono ?_
 rintro e w4 ⟨rfl, hb4⟩
 have HB4 := hid (HS.out.2.1.trans hb4)
 clear hb4
 go_wp2_with fail
 exact bodyPost_ret (v := .tuple #[.string ⟨(showT 6 t).toArray⟩, .int .i64 0]) (by simp [results, Tryz.results51, go_sem]) rfl ⟨rfl, HB4.out⟩
set_option maxHeartbeats 1000000
set_option maxRecDepth 100000
/-- How places are written. -/
def placesT (l : List Int) : List UInt8 := if l.length = 0 then [45] else Lib.join (l.map Lib.itoa) [44]
theorem info9 : (Tryz.prog.info? 9).map (fun i => (i.zero, i.size, i.bytes)) = some (some (.string ⟨#[]⟩), 1, 16) := by kernel_rfl
theorem lens_le (xs : List (List UInt8)) (n : Nat) (h : ∀ x ∈ xs, x.length <= n) : Lib.lens xs <= xs.length * n := by
 induction xs with
 | nil => simp [Lib.lens]
 | cons x r ih =>
  have h1 := h x (by simp)
  have h2 := ih (fun y hy => h y (by simp [hy]))
  simp only [Lib.lens, List.length_cons, Nat.add_mul, List.map_cons, List.sum_cons] at *
  omega
theorem join_le (xs : List (List UInt8)) (c : UInt8) (n : Nat) (h : ∀ x ∈ xs, x.length <= n) : (Lib.join xs [c]).length <= xs.length * (n + 1) := by
 cases xs with
 | nil => simp [Lib.join_nil]
 | cons x r =>
  rw [Lib.join_length]
  have := lens_le (x :: r) n h
  rw [show ([c] : List UInt8).length = 1 from rfl, List.length_cons] at *
  rw [Nat.mul_add]
  omega
theorem strs_data (l : List Int) : (l.map fun n => (⟨(Lib.itoa n).toArray⟩ : ByteArray)).map (·.data.toList) = l.map Lib.itoa := by simp
theorem strJoin (g cap : Nat) (l : List Int) (w : World) (base : Nat) (hO : Kd.string.R 9 w base (fun _ => True) (.slice (some ⟨g, 0, none⟩) l.length cap) (l.map fun n => (⟨(Lib.itoa n).toArray⟩ : ByteArray))) (hg : g < w.heap.size) (hn : l.length <= 1000) (hr : ∀ x ∈ l, -9223372036854775808 <= x ∧ x <= 9223372036854775807) :
  Calls Tryz.prog 53 #[.slice (some ⟨g, 0, none⟩) l.length cap, .string ⟨#[44]⟩] w fun e w' => e = .returned (.string ⟨(Lib.join (l.map Lib.itoa) [44]).toArray⟩) ∧ Below w.heap.size w w' := by
 obtain ⟨hl, hcap, hC⟩ := Kd.R_reads' hO
 have h := Tryz.strings_Join g 0 cap (l.map fun n => (⟨(Lib.itoa n).toArray⟩ : ByteArray)) ⟨#[44]⟩ w ?_ hg (by rw [List.length_map]; omega) (by rw [List.length_map]; exact hcap) ?_
 ·rw [strs_data, List.length_map] at h
  exact h
 ·intro j x hj
  obtain ⟨hjl, hx⟩ := List.getElem?_eq_some_iff.1 hj
  obtain ⟨ad, h1, h2⟩ := Kd.at_string hC (j : Int) (by omega) (by omega)
  rw [Int.toNat_natCast] at h2
  injection h1 with h1
  subst h1
  rw [add_plain] at h2
  rw [Nat.zero_add, h2, <- hx]
  simp only [rdOf, List.getD, Int.toNat_natCast, hj, Option.getD_some]
  rw [<- hx]
 ·rw [strs_data]
  have := join_le (l.map Lib.itoa) 44 21 (fun x hx => by
   obtain ⟨n, hn, rfl⟩ := List.mem_map.1 hx
   exact Lib.itoa_length_le n (hr n hn).1 (hr n hn).2)
  rw [List.length_map] at this
  show (Lib.join (l.map Lib.itoa) [44]).length <= _
  omega
theorem places_show (l : List Int) (A : Option Addr) (c : Nat) (w : World) (hE : Env w) (hn : l.length <= 1000) (hc : l.length <= c) (hr : ∀ x ∈ l, -9223372036854775808 <= x ∧ x <= 9223372036854775807) (hC : Kd.C (Kd.int .i64) w A l.length l) :
  Calls Tryz.prog 50 #[.slice A l.length c] w fun e w' => e = .returned (.string ⟨(placesT l).toArray⟩) ∧ Below w.heap.size w w' := by
 have HE := hid hE; have HC := hid hC; have HR := hid hr
 have HP : Hid (placesT l = if l.length = 0 then [45] else Lib.join (l.map Lib.itoa) [44]) := rfl
 clear hE hC hr
 by_cases h0 : l.length = 0
 ·have t0 : ((l.length : Int) == 0) = true := by rw [beq_iff_eq]; omega
  have HP0 := hid (HP.out.trans (if_pos h0))
  clear h0
  go_enter Tryz.func50, Tryz.ntmps50
  go_wp2_with fail
  exact bodyPost_ret (v := .string ⟨#[45]⟩) (by simp [results, Tryz.results50, go_sem]) rfl ⟨by rw [HP0.out], Below.refl _ _⟩
 ·have t0 : ((l.length : Int) == 0) = false := by rw [beq_eq_false_iff_ne]; omega
  have HP0 := hid (HP.out.trans (if_neg h0))
  have hpos : 0 < l.length := by omega
  clear h0
  go_enter Tryz.func50, Tryz.ntmps50
  go_wp2_with fail
  go_loopg [3, 11] l.length (fun n v i wr => ∃ k : Nat, n + k = l.length ∧ i = .int .i64 k ∧ (∃ A c, v = .slice A k c) ∧ Aside0 (Kd.string.R 9 wr w.heap.size (fun _ => True) v ((l.take k).map fun n => (⟨(Lib.itoa n).toArray⟩ : ByteArray))) ∧ Aside0 (Below w.heap.size w wr))
  case atStart => exact ⟨0, by omega, rfl, ⟨none, 0, rfl⟩, ⟨Kd.R_nil _ _ _ _ _⟩, ⟨Below.refl _ _⟩⟩
  case round =>
   obtain ⟨k, hk, rfl, ⟨A1, c1, rfl⟩, ⟨hO⟩, ⟨hB⟩⟩ := hrel
   have HO := hid hO; have HB := hid hB
   clear hO hB
   by_cases hlt : k < l.length
   ·obtain ⟨m, rfl⟩ : ∃ m, gk = m + 1 := ⟨gk - 1, by omega⟩
    obtain ⟨ad, rfl, e0⟩ := at_I (Kd.C_below HC.out HB.out) k hlt hlt
    have hx := HR.out l[k] (List.getElem_mem hlt)
    have HT : Hid ((l.take (k + 1)).map (fun n => (⟨(Lib.itoa n).toArray⟩ : ByteArray)) = (l.take k).map (fun n => (⟨(Lib.itoa n).toArray⟩ : ByteArray)) ++ [⟨(Lib.itoa l[k]).toArray⟩]) := by
     rw [List.take_succ_eq_append_getElem hlt, List.map_append]; rfl
    have HL : Hid (((l.take k).map fun n => (⟨(Lib.itoa n).toArray⟩ : ByteArray)).length = k) := by
     rw [List.length_map, List.length_take]; unfold Hid; omega
    generalize (l.take k).map (fun n => (⟨(Lib.itoa n).toArray⟩ : ByteArray)) = xs at *
    generalize l[k] = x at *
    go_wp2_with fail
    refine (Tryz.strconv_Itoa x hx.1 hx.2 wr (HE.out.later HB.out).tab).mono ?_
    rintro e w2 ⟨rfl, kk, os, hw2⟩
    have hb2 : Below wr.heap.size wr w2 := by rw [hw2]; exact below_grow2 wr kk os
    have HB2 := hid (HB.out.trans (hb2.mono HB.out.size))
    have HO2 := hid (Kd.R_below HO.out hb2)
    clear hb2 hw2 e0
    go_wp2_with (at_builtin; refine Kd.R_append Kd.string (w0 := w) w.heap.size rfl _ _ 108 9 (.string ⟨#[]⟩) 16 rfl Tryz.underlying108 info9 rfl (by decide) (by decide) (.slice A1 k c1) xs (⟨(Lib.itoa x).toArray⟩ : ByteArray) [.string ⟨(Lib.itoa x).toArray⟩] (fun _ => True) (fun _ => False) rfl rfl rfl (fun _ h => h.elim) (fun _ _ => trivial) HO2.out HB2.out HB2.out.size ?c1 ?_)
    case c1 => rw [HL.out]; omega
    intro v1 w3 hO3 hB3 _ _
    have HO3 := hid hO3; have HB3 := hid hB3
    obtain ⟨A3, c3, hv3⟩ := Kd.R_slice hO3
    rw [List.length_append, HL.out, List.length_singleton] at hv3
    subst hv3
    clear hO3 hB3
    go_wp2_with fail
    go_roundg m
    case measure => omega
    case rel => exact ⟨k + 1, by omega, by go_num, ⟨_, _, rfl⟩, ⟨by rw [HT.out]; exact HO3.out⟩, ⟨HB3.out⟩⟩
   ·obtain rfl : k = l.length := by omega
    have hO := HO.out
    rw [List.take_length] at hO
    obtain ⟨g, cap, hv, hwg, hgw, _⟩ := Kd.R_form hO (by rw [List.length_map]; exact hpos)
    rw [List.length_map] at hv
    injection hv with hA hcap hc3
    subst hA
    have hc3' : c1 = cap := hc3
    subst hc3'
    have hS := strJoin g c1 l wr w.heap.size hO hgw (by omega) (fun x hx => HR.out x hx)
    have HS := hid hS
    have HBk := hid HB.out
    clear hO hcap hc3 hS HO HB
    go_wp2_with fail
    refine HS.out.mono ?_
    rintro e w2 ⟨rfl, hb2⟩
    have HB2 := hid (HBk.out.trans (hb2.mono HBk.out.size))
    clear hb2
    go_wp2_with fail
    exact bodyPost_ret (v := .string ⟨(placesT l).toArray⟩) (by simp [results, Tryz.results50, go_sem, HP0.out]) rfl ⟨rfl, HB2.out⟩
end Go.Proofs.YtamfloegflejnaaGreatDoor
