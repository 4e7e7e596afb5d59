/-
 slices.IndexFunc and slices.DeleteFunc over a row of kinds' words.
-/
import Derived.Test.YtamfloegflejnaaGreatDoorKP
import Derived.Laws.CopyRow
import Derived.Laws.CopyOwn
import Derived.Lib.SliceRun
set_option linter.unusedVariables false
set_option linter.unusedSimpArgs false
set_option maxHeartbeats 1000000
set_option maxRecDepth 100000
namespace Go.Proofs.YtamfloegflejnaaGreatDoor
open Lib (hid)
open Go.RowKit Go.Proofs.YtamfloegflejnaaGreatDoorW.PrintWords Go.Proofs.YtamfloegflejnaaGreatDoorW.PrintLast Go.Proofs.YtamfloegflejnaaGreatDoorW.PrintMore PGraphLines
def wcells : List S135 -> List Value
 | [] => []
 | x :: r => .int .i64 x.f0 :: .string x.f1 :: .int .i64 x.f2 :: wcells r
theorem wcells_get : ∀ (l : List S135) (k : Nat) (h : k < l.length), (wcells l)[k * 3]? = some (.int .i64 l[k].f0) ∧ (wcells l)[k * 3 + 1]? = some (.string l[k].f1) ∧ (wcells l)[k * 3 + 2]? = some (.int .i64 l[k].f2)
 | x :: r, 0, h => ⟨rfl, rfl, rfl⟩
 | x :: r, k + 1, h => by
  have := wcells_get r k (by simpa using h)
  rw [show (k + 1) * 3 = k * 3 + 1 + 1 + 1 by omega]
  exact this
theorem wcells_take : ∀ (l : List S135) (k : Nat), (wcells l).take (k * 3) = wcells (l.take k)
 | [], k => by simp [wcells]
 | x :: r, 0 => rfl
 | x :: r, k + 1 => by
  rw [show (k + 1) * 3 = k * 3 + 1 + 1 + 1 by omega]
  simp only [wcells, List.take_succ_cons, wcells_take r k]
theorem wcells_set : ∀ (l : List S135) (k : Nat) (x : S135), k < l.length -> (((wcells l).set (k * 3) (.int .i64 x.f0)).set (k * 3 + 1) (.string x.f1)).set (k * 3 + 2) (.int .i64 x.f2) = wcells (l.set k x)
 | y :: r, 0, x, _ => rfl
 | y :: r, k + 1, x, h => by
  rw [show (k + 1) * 3 = k * 3 + 1 + 1 + 1 by omega]
  have := wcells_set r k x (by simpa using h)
  simp only [wcells, List.set_cons_succ]
  rw [this]
/-- Block G is a row of eight words of which the first are these. -/
def RowAt (w : World) (G : Nat) (es : List S135) : Prop := ∃ cells : Array Value, w.heap[G]? = some (.cells cells 135 (0, 0)) ∧ cells.size = 24 ∧ es.length <= 8 ∧ cells.toList.take (es.length * 3) = wcells es
theorem RowAt.lt {w : World} {G : Nat} {es : List S135} (h : RowAt w G es) : G < w.heap.size := by obtain ⟨c, h, _⟩ := h; exact blk_lt h
theorem RowAt.le {w : World} {G : Nat} {es : List S135} (h : RowAt w G es) : es.length <= 8 := by obtain ⟨c, _, _, h, _⟩ := h; exact h
theorem RowAt.below {w w' : World} {G : Nat} {es : List S135} (h : RowAt w G es) (hb : Below w.heap.size w w') : RowAt w' G es := by
 obtain ⟨c, h1, h2⟩ := h
 exact ⟨c, (hb.block _ (blk_lt h1)).trans h1, h2⟩
theorem RowAt.cell {w : World} {G : Nat} {es : List S135} (h : RowAt w G es) (k : Nat) (hk : k < es.length) :
  w.cell? ⟨G, k * 3, none⟩ = some (.int .i64 es[k].f0) ∧ w.cell? ⟨G, k * 3 + 1, none⟩ = some (.string es[k].f1) ∧ w.cell? ⟨G, k * 3 + 2, none⟩ = some (.int .i64 es[k].f2) := by
 obtain ⟨c, h1, h2, h3, h4⟩ := h
 have get : ∀ j u, j < es.length * 3 -> (wcells es)[j]? = some u -> w.cell? ⟨G, j, none⟩ = some u := by
  intro j u hj hu
  rw [blk_cell h1, <- Array.getElem?_toList]
  rw [<- h4, List.getElem?_take, if_pos hj] at hu
  exact hu
 obtain ⟨g0, g1, g2⟩ := wcells_get es k hk
 exact ⟨get _ _ (by omega) g0, get _ _ (by omega) g1, get _ _ (by omega) g2⟩
theorem RowAt.frozen {w : World} {G : Nat} {es : List S135} (h : RowAt w G es) (j : Nat) : w.frozen? ⟨G, j, none⟩ = false := by
 obtain ⟨c, h1, _⟩ := h
 exact blk_frozen h1 j
theorem RowAt.take {w : World} {G : Nat} {es : List S135} (h : RowAt w G es) (k : Nat) : RowAt w G (es.take k) := by
 obtain ⟨c, h1, h2, h3, h4⟩ := h
 refine ⟨c, h1, h2, by rw [List.length_take]; omega, ?_⟩
 rw [List.length_take]
 rcases Nat.le_total k es.length with hk | hk
 ·rw [Nat.min_eq_left hk, <- wcells_take, <- h4, List.take_take, Nat.min_eq_left (by omega)]
 ·rw [Nat.min_eq_right hk, List.take_of_length_le hk]; exact h4
theorem RowAt.put {w : World} {G : Nat} {es : List S135} (h : RowAt w G es) (k : Nat) (hk : k < es.length) (x : S135) :
  RowAt (((w.setCell ⟨G, k * 3, none⟩ (.int .i64 x.f0)).setCell ⟨G, k * 3 + 1, none⟩ (.string x.f1)).setCell ⟨G, k * 3 + 2, none⟩ (.int .i64 x.f2)) G (es.set k x) := by
 obtain ⟨c, h1, h2, h3, h4⟩ := h
 refine ⟨_, blk_set (blk_set (blk_set h1 _ _) _ _) _ _, by simpa using h2, by simpa using h3, ?_⟩
 rw [List.length_set, <- wcells_set es k x hk, <- h4]
 simp only [Array.toList_setIfInBounds, List.take_set]
/-- How far the row is done: i words kept of j looked at. -/
def DelRel (p : S135 -> Bool) (ws es : List S135) (i j : Nat) : Prop := es.length = ws.length ∧ es.take i = (ws.take j).filter (fun x => !p x) ∧ i = ((ws.take j).filter (fun x => !p x)).length ∧ es.drop j = ws.drop j
theorem DelRel.at_ {p : S135 -> Bool} {ws es : List S135} {i j : Nat} (h : DelRel p ws es i j) (hj : j < ws.length) (hje : j < es.length) : es[j] = ws[j] := by
 have h4 := h.2.2.2
 rw [List.drop_eq_getElem_cons hje, List.drop_eq_getElem_cons hj] at h4
 injection h4
theorem DelRel.skip {p : S135 -> Bool} {ws es : List S135} {i j : Nat} (h : DelRel p ws es i j) (hj : j < ws.length) (hp : p ws[j] = true) : DelRel p ws es i (j + 1) := by
 obtain ⟨h1, h2, h3, h4⟩ := h
 have hf : (ws.take (j + 1)).filter (fun x => !p x) = (ws.take j).filter (fun x => !p x) := by
  rw [List.take_succ_eq_append_getElem hj, List.filter_append]; simp [hp]
 have hje : j < es.length := by omega
 rw [List.drop_eq_getElem_cons hje, List.drop_eq_getElem_cons hj] at h4
 injection h4 with _ h5
 exact ⟨h1, by rw [hf]; exact h2, by rw [hf]; exact h3, h5⟩
theorem DelRel.take_ {p : S135 -> Bool} {ws es : List S135} {i j : Nat} (h : DelRel p ws es i j) (hj : j < ws.length) (hij : i < j) (hp : p ws[j] = false) : DelRel p ws (es.set i ws[j]) (i + 1) (j + 1) := by
 obtain ⟨h1, h2, h3, h4⟩ := h
 have hf : (ws.take (j + 1)).filter (fun x => !p x) = (ws.take j).filter (fun x => !p x) ++ [ws[j]] := by
  rw [List.take_succ_eq_append_getElem hj, List.filter_append]; simp [hp]
 have hje : j < es.length := by omega
 rw [List.drop_eq_getElem_cons hje, List.drop_eq_getElem_cons hj] at h4
 injection h4 with _ h5
 refine ⟨by rw [List.length_set]; exact h1, ?_, by rw [hf, List.length_append, <- h3]; rfl, ?_⟩
 ·have hi : i < (es.set i ws[j]).length := by rw [List.length_set]; omega
  rw [hf, List.take_succ_eq_append_getElem hi, List.getElem_set_self, List.take_set, List.set_eq_of_length_le (by rw [List.length_take]; omega), h2]
 ·rw [List.drop_set_of_lt (by omega)]; exact h5
theorem below3set {w0 w : World} {G : Nat} (h : Below G w0 w) (i : Nat) (x : S135) : Below G w0 (((w.setCell ⟨G, i * 3, none⟩ (.int .i64 x.f0)).setCell ⟨G, i * 3 + 1, none⟩ (.string x.f1)).setCell ⟨G, i * 3 + 2, none⟩ (.int .i64 x.f2)) :=
 ((h.setCell (p := ⟨G, i * 3, none⟩) (Nat.le_refl _) _).setCell (p := ⟨G, i * 3 + 1, none⟩) (Nat.le_refl _) _).setCell (p := ⟨G, i * 3 + 2, none⟩) (Nat.le_refl _) _
theorem zero135 : ∀ w, (zeroValue 135).run Tryz.prog w = .ok (.agg #[.int .i64 0, .string ⟨#[]⟩, .int .i64 0]) w := by
 obtain ⟨i, hi, h⟩ := Option.map_eq_some_iff.1 info135
 injection h with hz h
 intro w
 simp [zeroValue, typeInfo, hi, hz]
theorem zeros_one (n : Nat) : ∀ v ∈ (Builtin.zeroCells #[.int .i64 0, .string ⟨#[]⟩, .int .i64 0] n).toList, v.oneCell' = true := by
 intro v hv
 simp only [Builtin.zeroCells, Array.toList_map, Array.toList_range, List.mem_map, List.mem_range] at hv
 obtain ⟨j, _, rfl⟩ := hv
 have h3 : j % 3 < 3 := Nat.mod_lt _ (by decide)
 show ((#[.int .i64 0, .string ⟨#[]⟩, .int .i64 0] : Array Value)[j % 3]!).oneCell' = true
 generalize j % 3 = q at h3
 match q, h3 with
 | 0, _ => rfl
 | 1, _ => rfl
 | 2, _ => rfl
theorem zeros_len (n : Nat) : (Builtin.zeroCells #[.int .i64 0, .string ⟨#[]⟩, .int .i64 0] n).toList.length = n * 3 := by
 simp [Builtin.zeroCells]
/-- The words behind the first i are cleared. -/
theorem run_clear_words (w : World) (G i n : Nat) (es : List S135) (hR : RowAt w G es) (hn : n = es.length) (hi : i < n) (c : Nat) :
  ∃ cs, (Builtin.clear_ #[144] 0 #[.slice (some ⟨G, i * 3, none⟩) (n - i) c]).run Tryz.prog w = .ok (.tuple #[]) (w.setRow G cs) ∧ RowAt (w.setRow G cs) G (es.take i) := by
 obtain ⟨cells, h1, h2, h3, h4⟩ := hR
 subst hn
 have hl := zeros_len (es.length - i)
 have hst := run_storeCells_at (P := Tryz.prog) G (i * 3) 135 (Builtin.zeroCells #[.int .i64 0, .string ⟨#[]⟩, .int .i64 0] (es.length - i)).toList 0 cells w h1 (by rw [hl]; omega) (zeros_one _)
 simp only [Nat.add_zero] at hst
 obtain ⟨cs, hst2, hcs⟩ : ∃ cs : Array Value, (storeCells ⟨G, i * 3, none⟩ (Builtin.zeroCells #[.int .i64 0, .string ⟨#[]⟩, .int .i64 0] (es.length - i)).toList).run Tryz.prog w = .ok () (w.setRow G cs) ∧ cs = _ := ⟨_, hst, rfl⟩
 clear hst
 refine ⟨cs, ?_, ?_⟩
 rotate_left
 ·refine ⟨cs, setRow_heap w G cells cs 135 (0, 0) h1, ?_, by rw [List.length_take]; omega, ?_⟩
  ·rw [hcs]
   simp only [List.size_toArray, List.length_append, List.length_take, List.length_drop, Array.length_toList, hl]
   omega
  ·have ht : (es.take i).length = i := by rw [List.length_take]; omega
   have hci : (cells.toList.take (i * 3)).length = i * 3 := by rw [List.length_take, Array.length_toList]; omega
   rw [ht, hcs]
   show List.take (i * 3) (cells.toList.take (i * 3) ++ _ ++ _) = _
   rw [List.append_assoc, List.take_append_of_le_length (by omega), List.take_take, Nat.min_self]
   rw [<- wcells_take, <- h4, List.take_take, Nat.min_eq_left (by omega)]
 ·obtain ⟨m, hm⟩ : ∃ m, es.length - i = m + 1 := ⟨es.length - i - 1, by omega⟩
  rw [hm] at hst2 ⊢
  simp only [Builtin.clear_]
  simp [run_underlying Tryz.underlying144, zero135, hst2, Value.cells]
/-- Where the first lies that p takes. -/
def Found (p : S135 -> Bool) (ws : List S135) (r : Int) : Prop := (r = -1 ∧ ws.all (fun x => !p x) = true) ∨ ∃ k : Nat, ∃ h : k < ws.length, r = k ∧ p ws[k] = true ∧ (ws.take k).all (fun x => !p x) = true
/-- What the test does in every world that leaves all but the row. -/
def Clo_d (D : Nat) (p : S135 -> Bool) (w : World) (G : Nat) (ws : List S135) : Prop := ∀ (W : World) (x : S135), x ∈ ws -> KeepBut w W G none →
 Calls Tryz.prog 96 #[.agg #[.int .i64 x.f0, .string x.f1, .int .i64 x.f2], .pointer (some ⟨D, 0, none⟩)] W fun e W' => e = .returned (.bool (p x)) ∧ Below W.heap.size W W'
theorem index_d (D : Nat) (p : S135 -> Bool) (G : Nat) (ws : List S135) (w : World) (hC : Clo_d D p w G ws) (hR : RowAt w G ws) :
  Calls Tryz.prog 104 #[.slice (some ⟨G, 0, none⟩) ws.length 8, .func (.func 96) #[] #[.pointer (some ⟨D, 0, none⟩)]] w fun e w' => (∃ r : Int, e = .returned (.int .i64 r) ∧ Found p ws r) ∧ Below w.heap.size w w' := by
 have HC := hid hC; have HR := hid hR
 have hle := hR.le
 clear hC hR
 go_enter Tryz.func104, Tryz.ntmps104
 go_wp2_with fail
 go_loopg [8] ws.length (fun n i wr => ∃ k : Nat, n + k = ws.length ∧ i = .int .i64 k ∧ Aside0 ((ws.take k).all (fun x => !p x) = true) ∧ Aside0 (Below w.heap.size w wr))
 case atStart => exact ⟨0, by omega, rfl, ⟨by simp⟩, ⟨Below.refl _ _⟩⟩
 case round =>
  obtain ⟨k, hk, rfl, ⟨hall⟩, ⟨hB⟩⟩ := hrel
  have HK := hid hall; have HBK := hid hB
  clear hall hB
  by_cases hlt : k < ws.length
  ·obtain ⟨m, rfl⟩ : ∃ m, gk = m + 1 := ⟨gk - 1, by omega⟩
   obtain ⟨g0, g1, g2⟩ := (HR.out.below HBK.out).cell k hlt
   have e0 : wr.cell? ⟨G, k * 3, none⟩ = some (.int .i64 ws[k].f0) := g0
   have e1 : wr.cell? ⟨G, k * 3 + 1, none⟩ = some (.string ws[k].f1) := g1
   have e2 : wr.cell? ⟨G, k * 3 + 2, none⟩ = some (.int .i64 ws[k].f2) := g2
   have hcl := HC.out wr ws[k] (List.getElem_mem hlt) (KeepBut.of_below HBK.out G none)
   have HTS : Hid ((ws.take (k + 1)).all (fun x => !p x) = ((ws.take k).all (fun x => !p x) && !p ws[k])) := by
    rw [List.take_succ_eq_append_getElem hlt, List.all_append]; simp [Hid]
   have HFN : Hid (p ws[k] = true -> Found p ws k) := fun h => .inr ⟨k, hlt, rfl, h, HK.out⟩
   have HCL := hid hcl
   clear hcl g0 g1 g2
   generalize ws[k] = x at *
   go_wp2_with fail
   refine HCL.out.mono ?_
   rintro e w2 ⟨rfl, hb2⟩
   have HB2 := hid (HBK.out.trans (hb2.mono HBK.out.size))
   clear hb2 e0 e1 e2
   cases hp : p x with
   | true =>
    have HF := hid (HFN.out hp)
    clear hp
    go_wp2_with fail
    exact bodyPost_ret (v := .int .i64 k) (by simp [results, Tryz.results104, go_sem]) rfl ⟨⟨k, rfl, HF.out⟩, HB2.out⟩
   | false =>
    have HP := hid hp
    clear hp
    go_wp2_with fail
    go_roundg m
    case measure => omega
    case rel => exact ⟨k + 1, by omega, by go_num, ⟨by rw [HTS.out, HK.out, HP.out]; rfl⟩, ⟨HB2.out⟩⟩
  ·obtain rfl : k = ws.length := by omega
   have HF : Hid (Found p ws (-1)) := .inl ⟨rfl, by have := HK.out; rw [List.take_length] at this; exact this⟩
   go_wp2_with fail
   exact bodyPost_ret (v := .int .i64 (-1)) (by simp [results, Tryz.results104, go_sem]) rfl ⟨⟨-1, rfl, HF.out⟩, HBK.out⟩
theorem delete_d (D : Nat) (p : S135 -> Bool) (G : Nat) (ws : List S135) (w : World) (hC : Clo_d D p w G ws) (hR : RowAt w G ws) :
  Calls Tryz.prog 95 #[.slice (some ⟨G, 0, none⟩) ws.length 8, .func (.func 96) #[] #[.pointer (some ⟨D, 0, none⟩)]] w fun e w' => e = .returned (.slice (some ⟨G, 0, none⟩) (ws.filter fun x => !p x).length 8) ∧ RowAt w' G (ws.filter fun x => !p x) ∧ Below G w w' ∧ KeepBut w w' G none := by
 have HC := hid hC; have HR := hid hR
 have hle := hR.le
 have HX := hid (index_d D p G ws w hC hR)
 clear hC hR
 go_enter Tryz.func95, Tryz.ntmps95
 go_wp2_with fail
 refine HX.out.mono ?_
 rintro e w1 ⟨⟨r, rfl, hf⟩, hb1⟩
 have HB1 := hid hb1
 clear hb1
 rcases hf with ⟨rfl, hall⟩ | ⟨k, hk, rfl, hpk, hall⟩
 ·have hfil : ws.filter (fun x => !p x) = ws := List.filter_eq_self.2 (fun x hx => List.all_eq_true.1 hall x hx)
  have HFI := hid hfil
  clear hall hfil
  go_wp2_with fail
  exact bodyPost_ret (v := .slice (some ⟨G, 0, none⟩) ws.length 8) (by simp [results, Tryz.results95, go_sem]) rfl ⟨by rw [HFI.out], by rw [HFI.out]; exact HR.out.below HB1.out, HB1.out.mono (Nat.le_of_lt HR.out.lt), KeepBut.of_below HB1.out G none⟩
 ·have hkm : ((k : Int) == -1) = false := by rw [beq_eq_false_iff_ne]; omega
  have hfil : (ws.take (k + 1)).filter (fun x => !p x) = ws.take k := by
   rw [List.take_succ_eq_append_getElem hk, List.filter_append, List.filter_eq_self.2 (fun x hx => List.all_eq_true.1 hall x hx)]
   simp [hpk]
  have HFI := hid hfil; have HPK := hid hpk
  clear hall hfil hpk
  go_wp2_with fail
  go_loopg [5, 6] (ws.length - (k + 1)) (fun n vi vj wr => ∃ i j : Nat, ∃ es : List S135, n + j = ws.length ∧ i < j ∧ j <= ws.length ∧ vi = .int .i64 i ∧ vj = .int .i64 j ∧ Aside0 (DelRel p ws es i j) ∧ Aside0 (RowAt wr G es) ∧ Aside0 (Below G w wr) ∧ Aside0 (KeepBut w wr G none))
  case atStart => exact ⟨k, k + 1, ws, by omega, by omega, by omega, rfl, by go_num, ⟨⟨rfl, HFI.out.symm, by rw [HFI.out, List.length_take]; omega, rfl⟩⟩, ⟨HR.out.below HB1.out⟩, ⟨HB1.out.mono (Nat.le_of_lt HR.out.lt)⟩, ⟨KeepBut.of_below HB1.out G none⟩⟩
  case round =>
   obtain ⟨i, j, es, hn, hij, hjl, rfl, rfl, ⟨hD⟩, ⟨hR⟩, ⟨hB⟩, ⟨hK⟩⟩ := hrel
   have hel := hD.1
   have HD := hid hD; have HRk := hid hR; have HBk := hid hB; have HKk := hid hK
   clear hD hR hB hK
   by_cases hlt : j < ws.length
   ·obtain ⟨m, rfl⟩ : ∃ m, gk = m + 1 := ⟨gk - 1, by omega⟩
    have hje : j < es.length := by omega
    have hie : i < es.length := by omega
    have hx := HD.out.at_ hlt hje
    obtain ⟨g0, g1, g2⟩ := HRk.out.cell j hje
    obtain ⟨q0, q1, q2⟩ := HRk.out.cell i hie
    rw [hx] at g0 g1 g2
    have e0 : wr.cell? ⟨G, j * 3, none⟩ = some (.int .i64 ws[j].f0) := g0
    have e1 : wr.cell? ⟨G, j * 3 + 1, none⟩ = some (.string ws[j].f1) := g1
    have e2 : wr.cell? ⟨G, j * 3 + 2, none⟩ = some (.int .i64 ws[j].f2) := g2
    have hcl := HC.out (wr.alloc (.cells #[.int .i64 ws[j].f0, .string ws[j].f1, .int .i64 ws[j].f2] 135)) ws[j] (List.getElem_mem hlt) (keep_alloc HKk.out _)
    have HYE : Hid (p ws[j] = true -> DelRel p ws es i (j + 1)) := fun h => HD.out.skip hlt h
    have HNO : Hid (p ws[j] = false -> DelRel p ws (es.set i ws[j]) (i + 1) (j + 1)) := fun h => HD.out.take_ hlt hij h
    have HCL := hid hcl
    clear hcl g0 g1 g2 hx
    generalize ws[j] = x at *
    go_wp2_with fail
    refine HCL.out.mono ?_
    rintro e w2 ⟨rfl, hb2⟩
    have HBX := hid (heap_alloc_new wr (.cells #[.int .i64 x.f0, .string x.f1, .int .i64 x.f2] 135))
    have hba := below_alloc (Below.refl wr.heap.size wr) (.cells #[.int .i64 x.f0, .string x.f1, .int .i64 x.f2] 135)
    have hbx := hba.trans (hb2.mono hba.size)
    have HX2 := hid ((hb2.block _ (blk_lt HBX.out)).trans HBX.out)
    have HR2 := hid (HRk.out.below hbx)
    have HB2 := hid (HBk.out.trans (hbx.mono (Nat.le_of_lt HRk.out.lt)))
    have HK2 := hid (HKk.out.trans (KeepBut.of_below hbx G none) (.inl rfl))
    clear hb2 hba hbx HBX e0 e1 e2 q0 q1 q2
    cases hp : p x with
    | true =>
     have HY := hid (HYE.out hp)
     clear hp
     go_wp2_with fail
     go_roundg m
     case measure => omega
     case rel => exact ⟨i, j + 1, es, by omega, by omega, by omega, rfl, by go_num, ⟨HY.out⟩, ⟨HR2.out⟩, ⟨HB2.out⟩, ⟨HK2.out⟩⟩
    | false =>
     have HN := hid (HNO.out hp)
     obtain ⟨q0, q1, q2⟩ := HR2.out.cell i hie
     have m0 : w2.cell? ⟨wr.heap.size, 0, none⟩ = some (.int .i64 x.f0) := (blk_cell HX2.out 0).trans rfl
     have m1 : w2.cell? ⟨wr.heap.size, 1, none⟩ = some (.string x.f1) := (blk_cell HX2.out 1).trans rfl
     have m2 : w2.cell? ⟨wr.heap.size, 2, none⟩ = some (.int .i64 x.f2) := (blk_cell HX2.out 2).trans rfl
     have hGN : G ≠ wr.heap.size := Nat.ne_of_lt HRk.out.lt
     have e0 : w2.cell? ⟨G, i * 3, none⟩ = some (.int .i64 es[i].f0) := q0
     have e1 : w2.cell? ⟨G, i * 3 + 1, none⟩ = some (.string es[i].f1) := q1
     have e2 : w2.cell? ⟨G, i * 3 + 2, none⟩ = some (.int .i64 es[i].f2) := q2
     have f0 : w2.frozen? ⟨G, i * 3, none⟩ = false := HR2.out.frozen _
     have f1 : w2.frozen? ⟨G, i * 3 + 1, none⟩ = false := HR2.out.frozen _
     have f2 : w2.frozen? ⟨G, i * 3 + 2, none⟩ = false := HR2.out.frozen _
     clear hp q0 q1 q2
     go_wp2_with fail
     have HR3 := hid (HR2.out.put i hie x)
     have HB3 := hid (below3set HB2.out i x)
     have HK3 := hid (((HK2.out.set_ (i * 3) (.int .i64 x.f0)).set_ (i * 3 + 1) (.string x.f1)).set_ (i * 3 + 2) (.int .i64 x.f2))
     clear m0 m1 m2 e0 e1 e2 f0 f1 f2
     generalize ((w2.setCell ⟨G, i * 3, none⟩ (.int .i64 x.f0)).setCell ⟨G, i * 3 + 1, none⟩ (.string x.f1)).setCell ⟨G, i * 3 + 2, none⟩ (.int .i64 x.f2) = w3 at *
     go_roundg m
     case measure => omega
     case rel => exact ⟨i + 1, j + 1, es.set i x, by omega, by omega, by omega, by go_num, by go_num, ⟨HN.out⟩, ⟨HR3.out⟩, ⟨HB3.out⟩, ⟨HK3.out⟩⟩
   ·obtain rfl : j = ws.length := by omega
    obtain ⟨cs, hrun, hRc⟩ := run_clear_words wr G i ws.length es HRk.out hel.symm hij (8 - i)
    have hfin : es.take i = ws.filter (fun x => !p x) ∧ i = (ws.filter fun x => !p x).length := by
     obtain ⟨h1, h2, h3, h4⟩ := HD.out
     rw [List.take_length] at h2 h3
     exact ⟨h2, h3⟩
    rw [hfin.1] at hRc
    have HFI2 := hid hfin; have HRC := hid hRc
    have HBC := hid (below_setRow HBk.out (Nat.le_refl G) cs)
    have HKC : Hid (KeepBut w (wr.setRow G cs) G none) := ⟨by rw [setRow_size]; exact HKk.out.1, fun q hq hne hr => (setRow_other wr G q cs hne).trans (HKk.out.2 q hq hne hr)⟩
    clear hfin hRc
    go_wp2_with fail
    refine bodyPost_ret (v := .slice (some ⟨G, 0, none⟩) i 8) (by simp [results, Tryz.results95, go_sem]) rfl ⟨by rw [<- HFI2.out.2], HRC.out, HBC.out, HKC.out⟩
/-- What the test does in every world that leaves all but the row. -/
def Clo_c (Q R : Nat) (p : S135 -> Bool) (w : World) (G : Nat) (ws : List S135) : Prop := ∀ (W : World) (x : S135), x ∈ ws -> KeepBut w W G none →
 Calls Tryz.prog 97 #[.agg #[.int .i64 x.f0, .string x.f1, .int .i64 x.f2], .pointer (some ⟨Q, 0, none⟩), .pointer (some ⟨R, 0, none⟩)] W fun e W' => e = .returned (.bool (p x)) ∧ Below W.heap.size W W'
theorem index_c (Q R : Nat) (p : S135 -> Bool) (G : Nat) (ws : List S135) (w : World) (hC : Clo_c Q R p w G ws) (hR : RowAt w G ws) :
  Calls Tryz.prog 104 #[.slice (some ⟨G, 0, none⟩) ws.length 8, .func (.func 97) #[] #[.pointer (some ⟨Q, 0, none⟩), .pointer (some ⟨R, 0, none⟩)]] w fun e w' => (∃ r : Int, e = .returned (.int .i64 r) ∧ Found p ws r) ∧ Below w.heap.size w w' := by
 have HC := hid hC; have HR := hid hR
 have hle := hR.le
 clear hC hR
 go_enter Tryz.func104, Tryz.ntmps104
 go_wp2_with fail
 go_loopg [8] ws.length (fun n i wr => ∃ k : Nat, n + k = ws.length ∧ i = .int .i64 k ∧ Aside0 ((ws.take k).all (fun x => !p x) = true) ∧ Aside0 (Below w.heap.size w wr))
 case atStart => exact ⟨0, by omega, rfl, ⟨by simp⟩, ⟨Below.refl _ _⟩⟩
 case round =>
  obtain ⟨k, hk, rfl, ⟨hall⟩, ⟨hB⟩⟩ := hrel
  have HK := hid hall; have HBK := hid hB
  clear hall hB
  by_cases hlt : k < ws.length
  ·obtain ⟨m, rfl⟩ : ∃ m, gk = m + 1 := ⟨gk - 1, by omega⟩
   obtain ⟨g0, g1, g2⟩ := (HR.out.below HBK.out).cell k hlt
   have e0 : wr.cell? ⟨G, k * 3, none⟩ = some (.int .i64 ws[k].f0) := g0
   have e1 : wr.cell? ⟨G, k * 3 + 1, none⟩ = some (.string ws[k].f1) := g1
   have e2 : wr.cell? ⟨G, k * 3 + 2, none⟩ = some (.int .i64 ws[k].f2) := g2
   have hcl := HC.out wr ws[k] (List.getElem_mem hlt) (KeepBut.of_below HBK.out G none)
   have HTS : Hid ((ws.take (k + 1)).all (fun x => !p x) = ((ws.take k).all (fun x => !p x) && !p ws[k])) := by
    rw [List.take_succ_eq_append_getElem hlt, List.all_append]; simp [Hid]
   have HFN : Hid (p ws[k] = true -> Found p ws k) := fun h => .inr ⟨k, hlt, rfl, h, HK.out⟩
   have HCL := hid hcl
   clear hcl g0 g1 g2
   generalize ws[k] = x at *
   go_wp2_with fail
   refine HCL.out.mono ?_
   rintro e w2 ⟨rfl, hb2⟩
   have HB2 := hid (HBK.out.trans (hb2.mono HBK.out.size))
   clear hb2 e0 e1 e2
   cases hp : p x with
   | true =>
    have HF := hid (HFN.out hp)
    clear hp
    go_wp2_with fail
    exact bodyPost_ret (v := .int .i64 k) (by simp [results, Tryz.results104, go_sem]) rfl ⟨⟨k, rfl, HF.out⟩, HB2.out⟩
   | false =>
    have HP := hid hp
    clear hp
    go_wp2_with fail
    go_roundg m
    case measure => omega
    case rel => exact ⟨k + 1, by omega, by go_num, ⟨by rw [HTS.out, HK.out, HP.out]; rfl⟩, ⟨HB2.out⟩⟩
  ·obtain rfl : k = ws.length := by omega
   have HF : Hid (Found p ws (-1)) := .inl ⟨rfl, by have := HK.out; rw [List.take_length] at this; exact this⟩
   go_wp2_with fail
   exact bodyPost_ret (v := .int .i64 (-1)) (by simp [results, Tryz.results104, go_sem]) rfl ⟨⟨-1, rfl, HF.out⟩, HBK.out⟩
theorem delete_c (Q R : Nat) (p : S135 -> Bool) (G : Nat) (ws : List S135) (w : World) (hC : Clo_c Q R p w G ws) (hR : RowAt w G ws) :
  Calls Tryz.prog 95 #[.slice (some ⟨G, 0, none⟩) ws.length 8, .func (.func 97) #[] #[.pointer (some ⟨Q, 0, none⟩), .pointer (some ⟨R, 0, none⟩)]] w fun e w' => e = .returned (.slice (some ⟨G, 0, none⟩) (ws.filter fun x => !p x).length 8) ∧ RowAt w' G (ws.filter fun x => !p x) ∧ Below G w w' ∧ KeepBut w w' G none := by
 have HC := hid hC; have HR := hid hR
 have hle := hR.le
 have HX := hid (index_c Q R p G ws w hC hR)
 clear hC hR
 go_enter Tryz.func95, Tryz.ntmps95
 go_wp2_with fail
 refine HX.out.mono ?_
 rintro e w1 ⟨⟨r, rfl, hf⟩, hb1⟩
 have HB1 := hid hb1
 clear hb1
 rcases hf with ⟨rfl, hall⟩ | ⟨k, hk, rfl, hpk, hall⟩
 ·have hfil : ws.filter (fun x => !p x) = ws := List.filter_eq_self.2 (fun x hx => List.all_eq_true.1 hall x hx)
  have HFI := hid hfil
  clear hall hfil
  go_wp2_with fail
  exact bodyPost_ret (v := .slice (some ⟨G, 0, none⟩) ws.length 8) (by simp [results, Tryz.results95, go_sem]) rfl ⟨by rw [HFI.out], by rw [HFI.out]; exact HR.out.below HB1.out, HB1.out.mono (Nat.le_of_lt HR.out.lt), KeepBut.of_below HB1.out G none⟩
 ·have hkm : ((k : Int) == -1) = false := by rw [beq_eq_false_iff_ne]; omega
  have hfil : (ws.take (k + 1)).filter (fun x => !p x) = ws.take k := by
   rw [List.take_succ_eq_append_getElem hk, List.filter_append, List.filter_eq_self.2 (fun x hx => List.all_eq_true.1 hall x hx)]
   simp [hpk]
  have HFI := hid hfil; have HPK := hid hpk
  clear hall hfil hpk
  go_wp2_with fail
  go_loopg [5, 6] (ws.length - (k + 1)) (fun n vi vj wr => ∃ i j : Nat, ∃ es : List S135, n + j = ws.length ∧ i < j ∧ j <= ws.length ∧ vi = .int .i64 i ∧ vj = .int .i64 j ∧ Aside0 (DelRel p ws es i j) ∧ Aside0 (RowAt wr G es) ∧ Aside0 (Below G w wr) ∧ Aside0 (KeepBut w wr G none))
  case atStart => exact ⟨k, k + 1, ws, by omega, by omega, by omega, rfl, by go_num, ⟨⟨rfl, HFI.out.symm, by rw [HFI.out, List.length_take]; omega, rfl⟩⟩, ⟨HR.out.below HB1.out⟩, ⟨HB1.out.mono (Nat.le_of_lt HR.out.lt)⟩, ⟨KeepBut.of_below HB1.out G none⟩⟩
  case round =>
   obtain ⟨i, j, es, hn, hij, hjl, rfl, rfl, ⟨hD⟩, ⟨hR⟩, ⟨hB⟩, ⟨hK⟩⟩ := hrel
   have hel := hD.1
   have HD := hid hD; have HRk := hid hR; have HBk := hid hB; have HKk := hid hK
   clear hD hR hB hK
   by_cases hlt : j < ws.length
   ·obtain ⟨m, rfl⟩ : ∃ m, gk = m + 1 := ⟨gk - 1, by omega⟩
    have hje : j < es.length := by omega
    have hie : i < es.length := by omega
    have hx := HD.out.at_ hlt hje
    obtain ⟨g0, g1, g2⟩ := HRk.out.cell j hje
    obtain ⟨q0, q1, q2⟩ := HRk.out.cell i hie
    rw [hx] at g0 g1 g2
    have e0 : wr.cell? ⟨G, j * 3, none⟩ = some (.int .i64 ws[j].f0) := g0
    have e1 : wr.cell? ⟨G, j * 3 + 1, none⟩ = some (.string ws[j].f1) := g1
    have e2 : wr.cell? ⟨G, j * 3 + 2, none⟩ = some (.int .i64 ws[j].f2) := g2
    have hcl := HC.out (wr.alloc (.cells #[.int .i64 ws[j].f0, .string ws[j].f1, .int .i64 ws[j].f2] 135)) ws[j] (List.getElem_mem hlt) (keep_alloc HKk.out _)
    have HYE : Hid (p ws[j] = true -> DelRel p ws es i (j + 1)) := fun h => HD.out.skip hlt h
    have HNO : Hid (p ws[j] = false -> DelRel p ws (es.set i ws[j]) (i + 1) (j + 1)) := fun h => HD.out.take_ hlt hij h
    have HCL := hid hcl
    clear hcl g0 g1 g2 hx
    generalize ws[j] = x at *
    go_wp2_with fail
    refine HCL.out.mono ?_
    rintro e w2 ⟨rfl, hb2⟩
    have HBX := hid (heap_alloc_new wr (.cells #[.int .i64 x.f0, .string x.f1, .int .i64 x.f2] 135))
    have hba := below_alloc (Below.refl wr.heap.size wr) (.cells #[.int .i64 x.f0, .string x.f1, .int .i64 x.f2] 135)
    have hbx := hba.trans (hb2.mono hba.size)
    have HX2 := hid ((hb2.block _ (blk_lt HBX.out)).trans HBX.out)
    have HR2 := hid (HRk.out.below hbx)
    have HB2 := hid (HBk.out.trans (hbx.mono (Nat.le_of_lt HRk.out.lt)))
    have HK2 := hid (HKk.out.trans (KeepBut.of_below hbx G none) (.inl rfl))
    clear hb2 hba hbx HBX e0 e1 e2 q0 q1 q2
    cases hp : p x with
    | true =>
     have HY := hid (HYE.out hp)
     clear hp
     go_wp2_with fail
     go_roundg m
     case measure => omega
     case rel => exact ⟨i, j + 1, es, by omega, by omega, by omega, rfl, by go_num, ⟨HY.out⟩, ⟨HR2.out⟩, ⟨HB2.out⟩, ⟨HK2.out⟩⟩
    | false =>
     have HN := hid (HNO.out hp)
     obtain ⟨q0, q1, q2⟩ := HR2.out.cell i hie
     have m0 : w2.cell? ⟨wr.heap.size, 0, none⟩ = some (.int .i64 x.f0) := (blk_cell HX2.out 0).trans rfl
     have m1 : w2.cell? ⟨wr.heap.size, 1, none⟩ = some (.string x.f1) := (blk_cell HX2.out 1).trans rfl
     have m2 : w2.cell? ⟨wr.heap.size, 2, none⟩ = some (.int .i64 x.f2) := (blk_cell HX2.out 2).trans rfl
     have hGN : G ≠ wr.heap.size := Nat.ne_of_lt HRk.out.lt
     have e0 : w2.cell? ⟨G, i * 3, none⟩ = some (.int .i64 es[i].f0) := q0
     have e1 : w2.cell? ⟨G, i * 3 + 1, none⟩ = some (.string es[i].f1) := q1
     have e2 : w2.cell? ⟨G, i * 3 + 2, none⟩ = some (.int .i64 es[i].f2) := q2
     have f0 : w2.frozen? ⟨G, i * 3, none⟩ = false := HR2.out.frozen _
     have f1 : w2.frozen? ⟨G, i * 3 + 1, none⟩ = false := HR2.out.frozen _
     have f2 : w2.frozen? ⟨G, i * 3 + 2, none⟩ = false := HR2.out.frozen _
     clear hp q0 q1 q2
     go_wp2_with fail
     have HR3 := hid (HR2.out.put i hie x)
     have HB3 := hid (below3set HB2.out i x)
     have HK3 := hid (((HK2.out.set_ (i * 3) (.int .i64 x.f0)).set_ (i * 3 + 1) (.string x.f1)).set_ (i * 3 + 2) (.int .i64 x.f2))
     clear m0 m1 m2 e0 e1 e2 f0 f1 f2
     generalize ((w2.setCell ⟨G, i * 3, none⟩ (.int .i64 x.f0)).setCell ⟨G, i * 3 + 1, none⟩ (.string x.f1)).setCell ⟨G, i * 3 + 2, none⟩ (.int .i64 x.f2) = w3 at *
     go_roundg m
     case measure => omega
     case rel => exact ⟨i + 1, j + 1, es.set i x, by omega, by omega, by omega, by go_num, by go_num, ⟨HN.out⟩, ⟨HR3.out⟩, ⟨HB3.out⟩, ⟨HK3.out⟩⟩
   ·obtain rfl : j = ws.length := by omega
    obtain ⟨cs, hrun, hRc⟩ := run_clear_words wr G i ws.length es HRk.out hel.symm hij (8 - i)
    have hfin : es.take i = ws.filter (fun x => !p x) ∧ i = (ws.filter fun x => !p x).length := by
     obtain ⟨h1, h2, h3, h4⟩ := HD.out
     rw [List.take_length] at h2 h3
     exact ⟨h2, h3⟩
    rw [hfin.1] at hRc
    have HFI2 := hid hfin; have HRC := hid hRc
    have HBC := hid (below_setRow HBk.out (Nat.le_refl G) cs)
    have HKC : Hid (KeepBut w (wr.setRow G cs) G none) := ⟨by rw [setRow_size]; exact HKk.out.1, fun q hq hne hr => (setRow_other wr G q cs hne).trans (HKk.out.2 q hq hne hr)⟩
    clear hfin hRc
    go_wp2_with fail
    refine bodyPost_ret (v := .slice (some ⟨G, 0, none⟩) i 8) (by simp [results, Tryz.results95, go_sem]) rfl ⟨by rw [<- HFI2.out.2], HRC.out, HBC.out, HKC.out⟩
end Go.Proofs.YtamfloegflejnaaGreatDoor
