/-
 An argument that is a row of ref nodes, opened.
-/
import Derived.Test.YtamfloegflejnaaGreatDoorKA
import Derived.Deep.Slices
set_option linter.unusedVariables false
set_option linter.unusedSimpArgs false
set_option maxRecDepth 100000
namespace Go.Proofs.YtamfloegflejnaaGreatDoor
open Go.WideShapes Go.RowKit Go.Proofs.YtamfloegflejnaaGreatDoorW.PrintWords Go.Proofs.YtamfloegflejnaaGreatDoorW.PrintLast Go.Proofs.YtamfloegflejnaaGreatDoorW.PrintMore PGraphLines
theorem cells3 : Tryz.prog.cellsOf 3 = 1 := by kernel_rfl
theorem cells4 : Tryz.prog.cellsOf 4 = 1 := by kernel_rfl
theorem cells9 : Tryz.prog.cellsOf 9 = 1 := by kernel_rfl
theorem cells34 : Tryz.prog.cellsOf 34 = 1 := by kernel_rfl
theorem cells35 : Tryz.prog.cellsOf 35 = 1 := by kernel_rfl
theorem cells37 : Tryz.prog.cellsOf 37 = 2 := by kernel_rfl
theorem cells39 : Tryz.prog.cellsOf 39 = 4 := by kernel_rfl
theorem cells41 : Tryz.prog.cellsOf 41 = 4 := by kernel_rfl
theorem cells43 : Tryz.prog.cellsOf 43 = 14 := by kernel_rfl
section
variable {H : Type} {enc : TypeId × Value -> H} {w : World} {sp : Nat -> Bool} {held : Bool}
theorem slice_down {α : Type} (k : Kd α) (z : α) {t e : TypeId} (ht : Tryz.prog.underlying t = some (.slice e)) (hsz : Tryz.prog.cellsOf e = k.sz) {fuel : Nat}
  (he : ∀ n, n < fuel -> ∀ cs (x : DataW H × List MemPlace), DataW.trod enc Tryz.prog w 0 sp held n e cs = some x -> ∃ v, k.K w v cs) {cs : List Value} {x : DataW H × List MemPlace}
  (h : DataW.trod enc Tryz.prog w 0 sp held fuel t cs = some x) : ∃ A c xs, cs = [.slice A xs.length c] ∧ xs.length <= c ∧ k.C w A xs.length xs := by
 rcases DataW.trod_slice ht h with ⟨rfl, _⟩ | ⟨a, len, cap, elems, rest, n, hn, rfl, _, _, hl, hm, hlen, hel, _, _⟩
 ·exact ⟨none, 0, [], rfl, Nat.le_refl _, Kd.C_nil k w⟩
 ·haveI : Inhabited α := ⟨z⟩
  obtain ⟨f, hf⟩ := Go.Deep.choose_lt (α := α) (n := len) (p := fun i v => ∃ cs', w.cells? 0 (a.add (i * Tryz.prog.cellsOf e)) (Tryz.prog.cellsOf e) = some cs' ∧ k.K w v cs') (fun i hi => by
   have hk := hel i hi
   rw [List.getElem?_eq_getElem (by omega)] at hk
   obtain ⟨cs', h1, h2⟩ := Option.bind_eq_some_iff.1 hk
   obtain ⟨v, hv⟩ := he n (by omega) cs' _ h2
   exact ⟨v, cs', h1, hv⟩)
  have hxl : ((List.range len).map f).length = len := by simp
  refine ⟨some a, cap, (List.range len).map f, by rw [hxl], by rw [hxl]; exact hl, ?_⟩
  rw [hxl]
  refine ⟨hxl, by unfold maxLen at hm; omega, fun _ => ⟨a, rfl, fun j p hj => ?_⟩⟩
  have hjl : j < len := by
   have := (List.getElem?_eq_some_iff.1 hj).1
   omega
  have hp : p = f j := by
   rw [List.getElem?_map, List.getElem?_range hjl] at hj
   exact (Option.some.inj hj).symm
  obtain ⟨cs', h1, h2⟩ := hf j hjl
  obtain ⟨_, hcl, hat⟩ := World.cells?_some h1
  rw [hsz] at hcl hat
  refine ⟨cs', hcl, by rw [hp]; exact h2, fun i u hu => ?_⟩
  have hi : i < k.sz := by
   have := (List.getElem?_eq_some_iff.1 hu).1
   omega
  have := hat i hi
  rw [Go.Deep.add_add] at this
  rw [this, hu]
theorem int_down {n : Nat} {cs : List Value} {x : DataW H × List MemPlace} (h : DataW.trod enc Tryz.prog w 0 sp held n 3 cs = some x) : ∃ v, cs = [.int .i64 v] := by
 obtain ⟨v, rfl, _⟩ := DataW.trod_int Tryz.underlying3 h
 exact ⟨v, rfl⟩
theorem field_down {fs : Array Field} {n : Nat} {cs : List Value} {xs : List (DataW H × List MemPlace)} (hl : xs.length = fs.size)
  (hf : ∀ (i : Nat) (f : Field), fs[i]? = some f -> DataW.trod enc Tryz.prog w 0 sp held n f.type ((cs.drop f.offset).take (Tryz.prog.cellsOf f.type)) = xs[i]?) (i : Nat) (ty off sz : Nat) (f : Field) (h : fs[i]? = some f) (h1 : f.type = ty) (h2 : f.offset = off) (h3 : Tryz.prog.cellsOf ty = sz) :
  ∃ y, DataW.trod enc Tryz.prog w 0 sp held n ty ((cs.drop off).take sz) = some y := by
 have hi : i < xs.length := by rw [hl]; exact (Array.getElem?_eq_some_iff.1 h).1
 subst h1 h2 h3
 exact ⟨xs[i], (hf i f h).trans (List.getElem?_eq_getElem hi)⟩
theorem ints_down {n : Nat} {cs : List Value} {x : DataW H × List MemPlace} (h : DataW.trod enc Tryz.prog w 0 sp held n 34 cs = some x) : ∃ A c xs, cs = [.slice A xs.length c] ∧ xs.length <= c ∧ (Kd.int .i64).C w A xs.length xs :=
 slice_down (Kd.int .i64) 0 Tryz.underlying34 cells3 (fun m _ cs x hx => by
  obtain ⟨v, rfl⟩ := int_down hx
  exact ⟨v, rfl⟩) h
theorem tree_down : ∀ (fuel : Nat) (cs : List Value) (x : DataW H × List MemPlace), DataW.trod enc Tryz.prog w 0 sp held fuel 37 cs = some x -> ∃ v, k37.K w v cs := by
 intro fuel
 induction fuel using Nat.strongRecOn with
 | _ fuel ih =>
  intro cs x h
  obtain ⟨xs, n, hn, _, hcl, hxl, hf⟩ := DataW.trod_struct Tryz.underlying37 h
  obtain ⟨y0, h0⟩ := field_down hxl hf 0 3 0 1 _ rfl rfl rfl cells3
  obtain ⟨y1, h1⟩ := field_down hxl hf 1 35 1 1 _ rfl rfl rfl cells35
  rw [cells37] at hcl
  match cs, hcl with
  | [c0, c1], _ =>
   obtain ⟨v0, e0⟩ := int_down h0
   obtain ⟨A, c, xs', e1, hle, hC⟩ := slice_down k37 z37 Tryz.underlying35 cells37 (fun m hm cs x hx => ih m (by omega) cs x hx) h1
   have e0' : c0 = .int .i64 v0 := by simpa using e0
   have e1' : c1 = .slice A xs'.length c := by simpa using e1
   subst e0' e1'
   exact ⟨⟨v0, xs'⟩, k37_mk w ⟨v0, xs'⟩ hle hC⟩
theorem four_down {cs : List Value} {x : DataW H × List MemPlace} {n : Nat} (h : DataW.trod enc Tryz.prog w 0 sp held n 39 cs = some x) : ∃ v, k39.K w v cs := by
 obtain ⟨xs, n, hn, _, hcl, hxl, hf⟩ := DataW.trod_struct Tryz.underlying39 h
 obtain ⟨y0, h0⟩ := field_down hxl hf 0 3 0 1 _ rfl rfl rfl cells3
 obtain ⟨y1, h1⟩ := field_down hxl hf 1 3 1 1 _ rfl rfl rfl cells3
 obtain ⟨y2, h2⟩ := field_down hxl hf 2 3 2 1 _ rfl rfl rfl cells3
 obtain ⟨y3, h3⟩ := field_down hxl hf 3 3 3 1 _ rfl rfl rfl cells3
 rw [cells39] at hcl
 match cs, hcl with
 | [c0, c1, c2, c3], _ =>
  obtain ⟨v0, e0⟩ := int_down h0
  obtain ⟨v1, e1⟩ := int_down h1
  obtain ⟨v2, e2⟩ := int_down h2
  obtain ⟨v3, e3⟩ := int_down h3
  have e0' : c0 = .int .i64 v0 := by simpa using e0
  have e1' : c1 = .int .i64 v1 := by simpa using e1
  have e2' : c2 = .int .i64 v2 := by simpa using e2
  have e3' : c3 = .int .i64 v3 := by simpa using e3
  subst e0' e1' e2' e3'
  exact ⟨⟨v0, v1, v2, v3⟩, k39_mk w ⟨v0, v1, v2, v3⟩⟩
theorem trig_down {cs : List Value} {x : DataW H × List MemPlace} {n : Nat} (h : DataW.trod enc Tryz.prog w 0 sp held n 41 cs = some x) : ∃ v, k41.K w v cs := by
 obtain ⟨xs, n, hn, _, hcl, hxl, hf⟩ := DataW.trod_struct Tryz.underlying41 h
 obtain ⟨y0, h0⟩ := field_down hxl hf 0 3 0 1 _ rfl rfl rfl cells3
 obtain ⟨y1, h1⟩ := field_down hxl hf 1 3 1 1 _ rfl rfl rfl cells3
 obtain ⟨y2, h2⟩ := field_down hxl hf 2 3 2 1 _ rfl rfl rfl cells3
 obtain ⟨y3, h3⟩ := field_down hxl hf 3 4 3 1 _ rfl rfl rfl cells4
 rw [cells41] at hcl
 match cs, hcl with
 | [c0, c1, c2, c3], _ =>
  obtain ⟨v0, e0⟩ := int_down h0
  obtain ⟨v1, e1⟩ := int_down h1
  obtain ⟨v2, e2⟩ := int_down h2
  obtain ⟨v3, e3, _⟩ := DataW.trod_bool Tryz.underlying4 h3
  have e0' : c0 = .int .i64 v0 := by simpa using e0
  have e1' : c1 = .int .i64 v1 := by simpa using e1
  have e2' : c2 = .int .i64 v2 := by simpa using e2
  have e3' : c3 = .bool v3 := by simpa using e3
  subst e0' e1' e2' e3'
  exact ⟨⟨v0, v1, v2, v3⟩, k41_mk w ⟨v0, v1, v2, v3⟩⟩
theorem node_down {cs : List Value} {x : DataW H × List MemPlace} {n : Nat} (h : DataW.trod enc Tryz.prog w 0 sp held n 43 cs = some x) : ∃ v, k43.K w v cs := by
 obtain ⟨xs, n, hn, _, hcl, hxl, hf⟩ := DataW.trod_struct Tryz.underlying43 h
 obtain ⟨y0, h0⟩ := field_down hxl hf 0 3 0 1 _ rfl rfl rfl cells3
 obtain ⟨y1, h1⟩ := field_down hxl hf 1 34 1 1 _ rfl rfl rfl cells34
 obtain ⟨y2, h2⟩ := field_down hxl hf 2 34 2 1 _ rfl rfl rfl cells34
 obtain ⟨y3, h3⟩ := field_down hxl hf 3 9 3 1 _ rfl rfl rfl cells9
 obtain ⟨y4, h4⟩ := field_down hxl hf 4 37 4 2 _ rfl rfl rfl cells37
 obtain ⟨y5, h5⟩ := field_down hxl hf 5 39 6 4 _ rfl rfl rfl cells39
 obtain ⟨y6, h6⟩ := field_down hxl hf 6 41 10 4 _ rfl rfl rfl cells41
 rw [cells43] at hcl
 match cs, hcl with
 | [c0, c1, c2, c3, c4, c5, c6, c7, c8, c9, c10, c11, c12, c13], _ =>
  obtain ⟨v0, e0⟩ := int_down h0
  obtain ⟨A1, n1, l1, e1, q1, g1⟩ := ints_down h1
  obtain ⟨A2, n2, l2, e2, q2, g2⟩ := ints_down h2
  obtain ⟨s, e3, _⟩ := DataW.trod_string Tryz.underlying9 h3
  obtain ⟨ty, k4⟩ := tree_down _ _ _ h4
  obtain ⟨fn, k5⟩ := four_down h5
  obtain ⟨tr, k6⟩ := trig_down h6
  have e0' : c0 = .int .i64 v0 := by simpa using e0
  have e1' : c1 = .slice A1 l1.length n1 := by simpa using e1
  have e2' : c2 = .slice A2 l2.length n2 := by simpa using e2
  have e3' : c3 = .string s := by simpa using e3
  subst e0' e1' e2' e3'
  refine ⟨⟨v0, l1, l2, s, ty, fn, tr⟩, [_], _, rfl, rfl, [_], _, rfl, ⟨A1, n1, rfl, q1, g1⟩, [_], _, rfl, ⟨A2, n2, rfl, q2, g2⟩, [_], _, rfl, rfl, [c4, c5], _, rfl, k4, [c6, c7, c8, c9], [c10, c11, c12, c13], rfl, k5, k6⟩
/-- A row of ref nodes. -/
theorem nodes_down {r : Reach} {b0 : Nat} {v : Value} {d : DataW H} {p : List MemPlace} (hv : Value.okWide Tryz.prog w r b0 22 v) (h : DataW.Trod enc Tryz.prog w 0 sp held 22 v d p) :
  ∃ A c xs, v = .slice A xs.length c ∧ xs.length <= c ∧ k43.C w A xs.length xs := by
 obtain ⟨a, len, cap, rfl⟩ := okWide_slice Tryz.underlying22 hv
 obtain ⟨fuel, hf⟩ := h
 obtain ⟨A, c, xs, e, hl, hC⟩ := slice_down k43 z43 Tryz.underlying22 cells43 (fun n _ cs x hx => node_down hx) hf
 refine ⟨A, c, xs, by simpa [Value.cells] using e, hl, hC⟩
end
end Go.Proofs.YtamfloegflejnaaGreatDoor
