/-
  The scanner's number: digits without a nought ahead of others are read as their value.
-/
import Derived.Test.YtamfloegflejnaaDoorPExprNumbersx3
import Derived.Scope
import Derived.ScopeJumps
import Derived.WalkMore
import Derived.Lib.Hide
set_option linter.unusedVariables false
set_option linter.unusedSimpArgs false
namespace Go.Proofs.YtamfloegflejnaaDoor
open Go.RowKit Go.Proofs.YtamfloegflejnaaDoorW.PrintWords Go.Proofs.YtamfloegflejnaaDoorW.PrintLast Go.Proofs.YtamfloegflejnaaDoorW.PrintMore PExprNumbers

/-- The byte at a place, 0 where there is none. -/
def pk (s : ByteArray) (i : Int) : Int := if i < (s.size : Int) then bt s i else 0

theorem pk_range (s : ByteArray) (i : Int) : 0 ≤ pk s i ∧ pk s i ≤ 255 := by
  unfold pk
  split
  · exact bt_range s i
  · omega

theorem peek_pk (s : ByteArray) (a : Int) (bad : Bool) (h : 0 ≤ a) : expr_scanner_peek.f s a bad = some (pk s a, s, a, bad) := by
  unfold expr_scanner_peek.f pk
  split
  · simp [h]
  · rfl

theorem peek_any (g : Nat) (s : ByteArray) (a : Int) (bad : Bool) (w0 w : World) (h : 0 ≤ a) (hI : IsS48 w0 w g s a bad) (hB : Below w0.heap.size w0 w) :
    Calls Tryd.prog 21 #[.pointer (some ⟨g, 0, none⟩)] w fun e w' => e = .returned (.int .u8 (pk s a)) ∧ IsS48 w0 w' g s a bad ∧ Below w0.heap.size w0 w' ∧ KeepBut w w' g none :=
  expr_scanner_peek.calls g s a bad _ _ _ _ w0 w hI hB (peek_pk s a bad h)

/-- The value of decimal digits. -/
def dval (ds : List Nat) : Nat := ds.foldl (fun n d => 10 * n + d) 0

theorem dval_snoc (ds : List Nat) (d : Nat) : dval (ds ++ [d]) = 10 * dval ds + d := by simp [dval]

theorem dfold_ge : ∀ (ds : List Nat) (n : Nat), n ≤ ds.foldl (fun n d => 10 * n + d) n
  | [], n => Nat.le_refl _
  | d :: ds, n => by
    have := dfold_ge ds (10 * n + d)
    simp only [List.foldl_cons]
    omega

theorem dval_take_le (ds : List Nat) (k : Nat) : dval (ds.take k) ≤ dval ds := by
  have h : dval ds = (ds.drop k).foldl (fun n d => 10 * n + d) (dval (ds.take k)) := by
    unfold dval
    rw [← List.foldl_append, List.take_append_drop]
  rw [h]
  exact dfold_ge _ _

theorem dval_take_succ (ds : List Nat) (k : Nat) (h : k < ds.length) : dval (ds.take (k + 1)) = 10 * dval (ds.take k) + ds[k] := by
  rw [List.take_succ_eq_append_getElem h, dval_snoc]

/-- Decimal digits stand from place a on; no nought stands ahead of others; no digit stands behind them. -/
structure NumAt (s : ByteArray) (a : Nat) (ds : List Nat) : Prop where
  pos : 1 ≤ ds.length
  digit : ∀ (i : Nat) (h : i < ds.length), pk s ((a + i : Nat) : Int) = 48 + (ds[i] : Int) ∧ ds[i] ≤ 9
  head : 2 ≤ ds.length → 1 ≤ dval (ds.take 1)
  stop : pk s ((a + ds.length : Nat) : Int) < 48 ∨ 57 < pk s ((a + ds.length : Nat) : Int)

theorem wp_scope_k {P : Program} {a : Act} {w : World} {Q : Exit → Act → World → Prop} {c rest : Code} (l : Nat) (J : Nat → Act → World → Prop) (hf : findLabel c l = some (Code.skip.seq rest))
    (pass : ∀ n a w, J n a w → ∀ K : Act → World → Prop, (∀ k a' w', k < n → J k a' w' → K a' w') → rest.wp P (Exit.jump l K Q) a w)
    (first : ∀ K : Act → World → Prop, (∀ n a w, J n a w → rest.wp P (Exit.jump l K Q) a w) → c.wp P (Exit.jump l K Q) a w) : (Code.scope c).wp P Q a w := by
  refine wp_scope_jumps l (fun a w => ∃ n, J n a w) (fun a w => leastOf (fun n => J n a w)) hf (first _ fun n a w h => pass n a w h _ fun k a' w' _ hJ => ⟨k, hJ⟩) ?_
  intro a w hJ
  refine wp_seq (wp_skip ?_)
  refine pass _ a w (leastOf_spec hJ).1 _ ?_
  intro k a' w' hk hJ'
  exact ⟨⟨k, hJ'⟩, Nat.lt_of_le_of_lt ((leastOf_spec ⟨k, hJ'⟩).2 k hJ') hk⟩

theorem peek_d (g : Nat) (s : ByteArray) (a : Int) (v : Int) (bad : Bool) (w0 w : World) (hv : Hid (pk s a = v)) (h : 0 ≤ a) (hI : IsS48 w0 w g s a bad) (hB : Below w0.heap.size w0 w) :
    Calls Tryd.prog 21 #[.pointer (some ⟨g, 0, none⟩)] w fun e w' => e = .returned (.int .u8 v) ∧ IsS48 w0 w' g s a bad ∧ Below w0.heap.size w0 w' ∧ KeepBut w w' g none := by
  rw [← hv.out]
  exact peek_any g s a bad w0 w h hI hB

/-- A node with its six cells zero. -/
def zero30 : Obj := Obj.cells #[Value.string { data := #[] }, Value.int IntKind.i64 0, Value.string { data := #[] }, Value.int IntKind.i64 0, Value.slice none 0 0, Value.slice none 0 0] 30

end Go.Proofs.YtamfloegflejnaaDoor
