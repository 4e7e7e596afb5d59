/-
 Plain: what the ref functions say of types, windowings and triggers: the same as the graph's own tests.
 Plain: the ref Check says what the graph's own Check says.
 Plain: the ref form and Check say what the graph's own form and Check say.
 Plain: the ref texts of numbers, places and types are the graph's own.
 Plain: the ref text of right nodes is the graph's own.
 Plain: what nums reads: each number as the graph's own reader reads it.
-/
import Derived.Test.YtamfloegflejnaaGreatDoorR1
import Derived.Test.YtamfloegflejnaaGreatDoorR2
import Derived.Test.YtamfloegflejnaaGreatDoorKH
import Derived.Test.YtamfloegflejnaaGreatDoorKP
import Derived.Test.YtamfloegflejnaaGreatDoorR4
import Derived.Test.YtamfloegflejnaaGreatDoorKK
import Derived.Test.YtamfloegflejnaaGreatDoorNB
import Derived.Test.YtamfloegflejnaaGreatDoorR5
import Derived.Test.YtamfloegflejnaaGreatDoorMD
import Derived.Test.YtamfloegflejnaaGreatDoorR6b
import Derived.Test.YtamfloegflejnaaGreatDoorMG
import Derived.Test.YtamfloegflejnaaGreatDoorR9
set_option linter.unusedVariables false
set_option linter.unusedSimpArgs false
namespace Go.Proofs.YtamfloegflejnaaGreatDoor
open Go.RowKit Go.Proofs.YtamfloegflejnaaGreatDoorW.PrintWords Go.Proofs.YtamfloegflejnaaGreatDoorW.PrintLast Go.Proofs.YtamfloegflejnaaGreatDoorW.PrintMore PGraphLines
mutual
def upT : S37 -> S59
 | ⟨k, l⟩ => ⟨k, upL l⟩
def upL : List S37 -> List S59
 | [] => []
 | a :: r => upT a :: upL r
end
theorem upT_eq (t : S37) : upT t = ⟨t.f0, upL t.f1⟩ := by cases t; rfl
def upN (n : S43) : S63 := ⟨n.f0, n.f1, n.f2, n.f3, upT n.f4, ⟨n.f5.f0, n.f5.f1, n.f5.f2, n.f5.f3⟩, ⟨n.f6.f0, n.f6.f1, n.f6.f2, n.f6.f3⟩⟩
theorem upL_map (l : List S37) : upL l = l.map upT := by
 induction l with
 | nil => rfl
 | cons a r ih => simp [upL, ih]
theorem word_ev (a : Int) : r02_Word.f a = some ⟨(wordT a).toArray⟩ := by
 by_cases h1 : a = 1
 ·subst h1; rfl
 by_cases h2 : a = 2
 ·subst h2; rfl
 by_cases h3 : a = 3
 ·subst h3; rfl
 by_cases h4 : a = 4
 ·subst h4; rfl
 by_cases h5 : a = 5
 ·subst h5; rfl
 by_cases h6 : a = 6
 ·subst h6; rfl
 by_cases h7 : a = 7
 ·subst h7; rfl
 by_cases h9 : a = 9
 ·subst h9; rfl
 have hw : wordT a = [] := by
  rcases wordT_cases a with ⟨k, hk, e, hx, _⟩ | ⟨_, e⟩
  ·unfold widx at hx
   rw [if_neg h1, if_neg h2, if_neg h3, if_neg h4, if_neg h5, if_neg h6, if_neg h7, if_neg h9] at hx
   omega
  ·exact e
 unfold r02_Word.f
 rw [if_neg h1, if_neg h2, if_neg h3, if_neg h4, if_neg h5, if_neg h6, if_neg h7, if_neg h9, hw]
theorem count_ev (a : Int) : r02_Count.f a = some (wargs a) := by
 unfold r02_Count.f wargs
 split
 ·rfl
 split
 ·rfl
 split <;> rfl
theorem word_no (a : Int) : (wordT a = [] ↔ ¬ 0 <= widx a) := by
 rcases wordT_cases a with ⟨k, hk, _, hx, hw, _⟩ | ⟨hx, e⟩
 ·have := (wT_len k hk).1
  constructor
  ·intro h; rw [hw] at h; rw [h] at this; simp at this
  ·intro h; omega
 ·constructor
  ·intro _; omega
  ·intro _; exact e
theorem wargs_two (a : Int) : 0 <= wargs a ∧ wargs a <= 2 := by
 unfold wargs
 repeat' split
 all_goals omega
theorem right2_loop (d : Nat) (hd : d <= 6) (IH : ∀ t : S37, Ev (fun k => r02_Right.f k t.f0 t.f1 (d : Int)) (rightT d (upT t))) (kd : Int) (xs : List S37) (hx : xs.length <= 2) :
  ∀ (n i : Nat), i + n = xs.length -> Ev (fun k => r02_Right.l0 k ((d : Int) + 1) (i : Int) kd xs) (((xs.drop i).map upT).all (rightT d))
 | 0, i, hi => by
  rw [List.drop_eq_nil_of_le (by omega)]
  refine Ev.step (f := fun _ => some true) (fun k => ?_) (Ev.now _)
  simp only [r02_Right.l0]
  rw [if_neg (by omega)]
 | n + 1, i, hi => by
  have hlt : i < xs.length := by omega
  have hrd : rd_T37 xs (i : Int) = xs[i] := by simp [rd_T37, List.getD, List.getElem?_eq_getElem hlt]
  have hw : wrap64 ((i : Int) + 1) = ((i + 1 : Nat) : Int) := by unfold wrap64; omega
  have hw1 : wrap64 ((d : Int) + 1 - 1) = d := by unfold wrap64; omega
  rw [List.drop_eq_getElem_cons hlt, List.map_cons, List.all_cons]
  refine Ev.step (f := fun k => (r02_Right.f k xs[i].f0 xs[i].f1 (d : Int)).bind fun t => if t = true then r02_Right.l0 k ((d : Int) + 1) ((i + 1 : Nat) : Int) kd xs else some false) (fun k => ?_) ?_
  ·simp only [r02_Right.l0]
   rw [if_pos (by omega), if_pos (by omega), hrd, hw, hw1]
  ·refine Ev.bind (f := fun k t => if t = true then r02_Right.l0 k ((d : Int) + 1) ((i + 1 : Nat) : Int) kd xs else some false) (IH xs[i]) ?_
   cases rightT d (upT xs[i]) with
   | false => exact Ev.congr (f := fun _ => some false) (fun k => by rw [if_neg (by decide)]) (Ev.now _)
   | true => exact Ev.congr (fun k => by rw [if_pos rfl]) (by rw [Bool.true_and]; exact right2_loop d hd IH kd xs hx n (i + 1) (by omega))
theorem right2_ev : ∀ (d : Nat) (t : S37), d <= 6 -> Ev (fun k => r02_Right.f k t.f0 t.f1 (d : Int)) (rightT d (upT t))
 | 0, t, _ => by
  refine Ev.step (f := fun k => r02_Right.j0 k 0 true t.f0 t.f1) (fun k => ?_) (Ev.step (f := fun _ => some false) (fun k => ?_) (Ev.now _))
  ·simp only [r02_Right.f]; rw [if_pos (by rfl)]; rfl
  ·simp only [r02_Right.j0, if_true]
 | d + 1, t, hd => by
  have hno : ¬ (((d + 1 : Nat) : Int) = 0) := by omega
  have hup : (upT t).f1 = t.f1.map upT := by rw [upT_eq, upL_map]
  have hu0 : (upT t).f0 = t.f0 := by rw [upT_eq]
  have hR : rightT (d + 1) (upT t) = (decide (0 <= widx t.f0) && ((t.f1.length : Int) == wargs t.f0) && (t.f1.map upT).all (rightT d)) := by
   unfold rightT
   rw [hup, hu0, List.length_map]
  rw [hR]
  have hbad : ∀ b : Int, Ev (fun k => r02_Right.j0 k b true t.f0 t.f1) false := fun b => by
   refine Ev.step (f := fun _ => some false) (fun k => ?_) (Ev.now _)
   simp only [r02_Right.j0, if_true]
  by_cases hw : wordT t.f0 = []
  ·have h0 := (word_no t.f0).1 hw
   rw [show decide (0 <= widx t.f0) = false by rw [decide_eq_false_iff_not]; exact h0, Bool.false_and, Bool.false_and]
   refine Ev.step (f := fun k => r02_Right.j0 k ((d + 1 : Nat) : Int) true t.f0 t.f1) (fun k => ?_) (hbad _)
   simp only [r02_Right.f]
   rw [if_neg hno, word_ev, Option.bind_some, if_pos (by rw [ByteArray.toList_eq, hw])]
  ·have h0 : 0 <= widx t.f0 := Decidable.not_not.1 (fun h => hw ((word_no t.f0).2 h))
   rw [show decide (0 <= widx t.f0) = true by rw [decide_eq_true_iff]; exact h0, Bool.true_and]
   refine Ev.step (f := fun k => r02_Right.j0 k ((d + 1 : Nat) : Int) ((t.f1.length : Int) != wargs t.f0) t.f0 t.f1) (fun k => ?_) ?_
   ·simp only [r02_Right.f]
    rw [if_neg hno, word_ev, Option.bind_some, if_neg (by rw [ByteArray.toList_eq]; simpa using hw), count_ev, Option.bind_some]
   ·by_cases hl : (t.f1.length : Int) = wargs t.f0
    ·have h2 := (wargs_two t.f0).2
     rw [show ((t.f1.length : Int) != wargs t.f0) = false by rw [bne_eq_false_iff_eq]; exact hl, show ((t.f1.length : Int) == wargs t.f0) = true by rw [beq_iff_eq]; exact hl, Bool.true_and]
     have hlp := right2_loop d (by omega) (fun t => right2_ev d t (by omega)) t.f0 t.f1 (by omega) t.f1.length 0 (by omega)
     rw [List.drop_zero] at hlp
     refine Ev.step (f := fun k => r02_Right.l0 k ((d : Int) + 1) 0 t.f0 t.f1) (fun k => ?_) hlp
     simp only [r02_Right.j0]
     rw [if_neg (by decide)]
     rfl
    ·rw [show ((t.f1.length : Int) != wargs t.f0) = true by rw [bne_iff_ne]; exact hl, show ((t.f1.length : Int) == wargs t.f0) = false by rw [beq_eq_false_iff_ne]; exact hl, Bool.false_and]
     exact hbad _
theorem in_ev (x y z : Int) : r07_in.f x y z = some (decide (y <= x) && decide (x <= z)) := by
 unfold r07_in.f
 by_cases h : x ≥ y
 ·rw [if_pos h]; simp; omega
 ·rw [if_neg h]; simp; omega
theorem bet1 (x y z : Int) : window_between.f x y z = some (decide (y <= x) && decide (x <= z)) := by
 unfold window_between.f
 by_cases h : x ≥ y
 ·rw [if_pos h]; simp; omega
 ·rw [if_neg h]; simp; omega
theorem bet2 (x y z : Int) : trigger_between.f x y z = some (decide (y <= x) && decide (x <= z)) := by
 unfold trigger_between.f
 by_cases h : x ≥ y
 ·rw [if_pos h]; simp; omega
 ·rw [if_neg h]; simp; omega
theorem tr2_ev (a b c : Int) (d : Bool) : r10_Right.f a b c d = some (trOk a b c d) := by
 unfold trOk r10_Right.f trigger_Spec_Check.f
 simp only [bet2, Option.bind_some, Bool.and_eq_true, decide_eq_true_eq]
 repeat' split
 all_goals first
  | rfl
  | omega
  | (congr 1; simp; omega)
  | (exfalso; omega)
theorem fn2_ev (a b c d : Int) : r07_Right.f a b c d = some (fnOk a b c d) := by
 unfold fnOk r07_Right.f window_Fn_Check.f
 simp only [bet1, in_ev, Option.bind_some, Bool.and_eq_true, decide_eq_true_eq, beq_iff_eq]
 by_cases h0 : a = 0
 ·rw [if_pos h0, if_pos h0]
  repeat' split
  all_goals first
   | rfl
   | (congr 1; simp; omega)
   | omega
 rw [if_neg h0, if_neg h0]
 by_cases h1 : a = 1
 ·rw [if_pos h1, if_pos h1]
  repeat' split
  all_goals first
   | rfl
   | (simp only [wrap64] at *; omega)
   | (congr 1; simp only [wrap64] at *; simp; omega)
 rw [if_neg h1, if_neg h1]
 by_cases h2 : a = 2
 ·rw [if_pos h2, if_pos h2]
  repeat' split
  all_goals first
   | rfl
   | (simp only [wrap64, mn] at *; omega)
   | (congr 1; simp only [wrap64, mn] at *; simp; omega)
 rw [if_neg h2, if_neg h2]
 repeat' split
 all_goals first
  | rfl
  | omega
  | (congr 1; simp; omega)
theorem rd_up (l : List S43) (i : Int) : rd_T63 (l.map upN) i = upN (rd_T43 l i) := by
 unfold rd_T63 rd_T43
 rw [List.getD_eq_getElem?_getD, List.getD_eq_getElem?_getD, List.getElem?_map]
 cases l[i.toNat]? <;> rfl
theorem badAt_up (l : List S43) (i : Int) : badAt l i = badIn (l.map upN) i := by
 funext k
 unfold badAt badIn
 rw [rd_up, Bool.or_assoc]
 rfl
theorem ahead_ev (l : List S43) (i : Int) (xs : List Int) (hi : i <= l.length) (hx : xs.length <= 1000000) : Ev (fun k => r11_ahead.f k l i xs) (!xs.any (badIn (l.map upN) i)) := by
 rw [<- badAt_up]
 refine Ev.of (fun k => r11_ahead.mono l i xs k) (k := xs.length + 1) ?_
 have h := ahead_from l i xs hi hx xs.length 0 (by omega)
 rw [List.drop_zero] at h
 exact h
theorem rises_ev (l : List Int) (a b : Int) (hl : l.length <= 1000000) : Ev (fun k => r11_Rises.f k l a b) (risesB l a b) := by
 refine Ev.of (fun k => r11_Rises.mono l a b k) (k := l.length + 1) ?_
 have h := rises_from l a b hl (l.length + 1) 1 (Nat.le_refl _) (by omega) (by omega)
 rw [<- rises_same] at h
 exact h
theorem text_ev (s : ByteArray) (hs : s.size <= 9223372036854775806) : Ev (fun k => r11_Text.f k s) (textB s) := by
 refine Ev.of (fun k => r11_Text.mono s k) (k := s.size + 1) ?_
 have h := text_from s hs s.size 0 (by omega)
 rw [List.drop_zero] at h
 unfold r11_Text.f
 refine h.trans ?_
 unfold textB
 rw [Bool.and_comm]
theorem rises_short (l : List Int) (n : Nat) (hn : n <= 1) : risesB l n n = ((l.length : Int) == (n : Int)) := by
 unfold risesB
 by_cases h : l.length = n
 ·have h0 : l.length - 1 = 0 := by omega
  unfold upB
  rw [h0]
  simp [h]
 ·have : ((l.length : Int) == (n : Int)) = false := by rw [beq_eq_false_iff_ne]; omega
  rw [this]
  have h2 : (decide ((n : Int) <= (l.length : Int)) && decide ((l.length : Int) <= (n : Int))) = false := by simp; omega
  rw [h2, Bool.and_false]
/-- What input looks at behind the places. -/
def inR (b : Bool) (op : Int) (f1 f2 : List Int) : Bool := !b && (risesB f1 (leastOf op) (mostOf op) && risesB f2 0 (sidesOf op))
theorem input_j0 (b : Bool) (op : Int) (f1 f2 : List Int) (tx : ByteArray) (k0 : Int) (a0 : List S37) (q0 q1 q2 q3 q4 q5 q6 : Int) (q7 : Bool) (h1 : f1.length <= 1000000) (h2 : f2.length <= 1000000) :
  Ev (fun k => r11_input.j0 k b op f1 f2 tx k0 a0 q0 q1 q2 q3 q4 q5 q6 q7) (inR b op f1 f2) := by
 have s00 := rises_short f1 0 (by omega)
 have s01 := rises_short f1 1 (by omega)
 have s20 := rises_short f2 0 (by omega)
 rw [show ((0 : Nat) : Int) = 0 from rfl] at s00 s20
 rw [show ((1 : Nat) : Int) = 1 from rfl] at s01
 unfold inR
 cases b with
 | true =>
  refine Ev.step (f := fun _ => some false) (fun k => ?_) (Ev.now _)
  simp only [r11_input.j0, if_true]
 | false =>
  by_cases o1 : op = 1
  ·refine Ev.step (f := fun _ => if (f1.length : Int) = 0 then some ((f2.length : Int) == 0) else some false) (fun k => ?_) ?_
   ·simp only [r11_input.j0, Bool.false_eq_true, if_false, if_pos o1]
   ·unfold leastOf mostOf sidesOf
    rw [if_pos o1, if_pos o1, if_neg (show ¬ op = 2 by omega), s00, s20]
    by_cases h : (f1.length : Int) = 0
    ·rw [show ((f1.length : Int) == 0) = true by rw [beq_iff_eq]; exact h]
     exact Ev.congr (f := fun _ => some ((f2.length : Int) == 0)) (fun k => by rw [if_pos h]) (by rw [Bool.not_false, Bool.true_and, Bool.true_and]; exact Ev.now _)
    ·rw [show ((f1.length : Int) == 0) = false by rw [beq_eq_false_iff_ne]; exact h]
     exact Ev.congr (f := fun _ => some false) (fun k => by rw [if_neg h]) (by rw [Bool.false_and, Bool.and_false]; exact Ev.now _)
  by_cases o2 : op = 2
  ·refine Ev.step (f := fun k => if (f1.length : Int) = 1 then (r11_Rises.f k f2 0 4).bind fun t => some t else some false) (fun k => ?_) ?_
   ·simp only [r11_input.j0, Bool.false_eq_true, if_false, if_neg o1, if_pos o2]
   ·unfold leastOf mostOf sidesOf
    rw [if_neg o1, if_neg o1, if_neg (show ¬ op = 5 by omega), if_pos o2, s01]
    by_cases h : (f1.length : Int) = 1
    ·rw [show ((f1.length : Int) == 1) = true by rw [beq_iff_eq]; exact h]
     refine Ev.congr (f := fun k => (r11_Rises.f k f2 0 4).bind fun t => some t) (fun k => by rw [if_pos h]) ?_
     rw [Bool.not_false, Bool.true_and, Bool.true_and]
     exact Ev.bind (f := fun _ t => some t) (rises_ev f2 0 4 h2) (Ev.now _)
    ·rw [show ((f1.length : Int) == 1) = false by rw [beq_eq_false_iff_ne]; exact h]
     exact Ev.congr (f := fun _ => some false) (fun k => by rw [if_neg h]) (by rw [Bool.false_and, Bool.and_false]; exact Ev.now _)
  by_cases o5 : op = 5
  ·refine Ev.step (f := fun k => (r11_Rises.f k f1 1 4).bind fun t => if t = true then some ((f2.length : Int) == 0) else some false) (fun k => ?_) ?_
   ·simp only [r11_input.j0, Bool.false_eq_true, if_false, if_neg o1, if_neg o2, if_pos o5]
   ·unfold leastOf mostOf sidesOf
    rw [if_neg o1, if_neg o1, if_pos o5, if_neg o2, s20]
    refine Ev.bind (f := fun _ t => if t = true then some ((f2.length : Int) == 0) else some false) (rises_ev f1 1 4 h1) ?_
    cases risesB f1 1 4 with
    | true => exact Ev.congr (f := fun _ => some ((f2.length : Int) == 0)) (fun k => by rw [if_pos rfl]) (by rw [Bool.not_false, Bool.true_and, Bool.true_and]; exact Ev.now _)
    | false => exact Ev.congr (f := fun _ => some false) (fun k => by rw [if_neg (by decide)]) (by rw [Bool.false_and, Bool.and_false]; exact Ev.now _)
  ·refine Ev.step (f := fun k => if (f1.length : Int) = 1 then some ((f2.length : Int) == 0) else some false) (fun k => ?_) ?_
   ·simp only [r11_input.j0, Bool.false_eq_true, if_false, if_neg o1, if_neg o2, if_neg o5]
   ·unfold leastOf mostOf sidesOf
    rw [if_neg o1, if_neg o1, if_neg o5, if_neg o2, s01, s20]
    by_cases h : (f1.length : Int) = 1
    ·rw [show ((f1.length : Int) == 1) = true by rw [beq_iff_eq]; exact h]
     exact Ev.congr (f := fun _ => some ((f2.length : Int) == 0)) (fun k => by rw [if_pos h]) (by rw [Bool.not_false, Bool.true_and, Bool.true_and]; exact Ev.now _)
    ·rw [show ((f1.length : Int) == 1) = false by rw [beq_eq_false_iff_ne]; exact h]
     exact Ev.congr (f := fun _ => some false) (fun k => by rw [if_neg h]) (by rw [Bool.false_and, Bool.and_false]; exact Ev.now _)
theorem input_ev (l : List S43) (i : Nat) (hi : i < l.length) (h1 : (rd_T43 l (i : Int)).f1.length <= 1000000) (h2 : (rd_T43 l (i : Int)).f2.length <= 1000000) : Ev (fun k => r11_input.f k l (i : Int)) (inputsB (l.map upN) i) := by
 have hI : inputsB (l.map upN) i = (risesB (rd_T43 l (i : Int)).f1 (leastOf (rd_T43 l (i : Int)).f0) (mostOf (rd_T43 l (i : Int)).f0) && (risesB (rd_T43 l (i : Int)).f2 0 (sidesOf (rd_T43 l (i : Int)).f0) && (!(rd_T43 l (i : Int)).f1.any (badIn (l.map upN) i) && !(rd_T43 l (i : Int)).f2.any (badIn (l.map upN) i)))) := by
  unfold inputsB
  rw [rd_up]
  rfl
 rw [hI]
 have ea := ahead_ev l i (rd_T43 l (i : Int)).f1 (by omega) h1
 have eb := ahead_ev l i (rd_T43 l (i : Int)).f2 (by omega) h2
 unfold r11_input.f
 generalize rd_T43 l (i : Int) = x at *
 obtain ⟨op, f1, f2, tx, ⟨k0, a0⟩, ⟨q0, q1, q2, q3⟩, ⟨q4, q5, q6, q7⟩⟩ := x
 dsimp only at *
 refine Ev.congr (f := fun k => (r11_ahead.f k l (i : Int) f1).bind fun t184 => if t184 = true then (r11_ahead.f k l (i : Int) f2).bind fun t185 => r11_input.j0 k (!t185) op f1 f2 tx k0 a0 q0 q1 q2 q3 q4 q5 q6 q7 else r11_input.j0 k true op f1 f2 tx k0 a0 q0 q1 q2 q3 q4 q5 q6 q7) (fun k => by rw [if_pos (by omega), if_pos (by omega)]) ?_
 refine Ev.bind (f := fun k t184 => if t184 = true then (r11_ahead.f k l (i : Int) f2).bind fun t185 => r11_input.j0 k (!t185) op f1 f2 tx k0 a0 q0 q1 q2 q3 q4 q5 q6 q7 else r11_input.j0 k true op f1 f2 tx k0 a0 q0 q1 q2 q3 q4 q5 q6 q7) ea ?_
 cases f1.any (badIn (l.map upN) i) with
 | true =>
  refine Ev.congr (f := fun k => r11_input.j0 k true op f1 f2 tx k0 a0 q0 q1 q2 q3 q4 q5 q6 q7) (fun k => by rw [if_neg (by decide)]) ?_
  have := input_j0 true op f1 f2 tx k0 a0 q0 q1 q2 q3 q4 q5 q6 q7 h1 h2
  simpa [inR] using this
 | false =>
  refine Ev.congr (f := fun k => (r11_ahead.f k l (i : Int) f2).bind fun t185 => r11_input.j0 k (!t185) op f1 f2 tx k0 a0 q0 q1 q2 q3 q4 q5 q6 q7) (fun k => by rw [if_pos (by decide)]) ?_
  refine Ev.bind (f := fun k t185 => r11_input.j0 k (!t185) op f1 f2 tx k0 a0 q0 q1 q2 q3 q4 q5 q6 q7) eb ?_
  have := input_j0 (!!f2.any (badIn (l.map upN) i)) op f1 f2 tx k0 a0 q0 q1 q2 q3 q4 q5 q6 q7 h1 h2
  unfold inR at this
  generalize f2.any (badIn (l.map upN) i) = v at *
  generalize risesB f1 (leastOf op) (mostOf op) = v1 at *
  generalize risesB f2 0 (sidesOf op) = v2 at *
  have e : (!(!!v) && (v1 && v2)) = (v1 && (v2 && (!false && !v))) := by cases v <;> cases v1 <;> cases v2 <;> rfl
  rw [<- e]
  exact this
theorem empty_beq (s : ByteArray) : (s.toList != ([] : List UInt8)) = !s.toList.isEmpty := by cases s.toList <;> rfl
section
variable (op : Int) (f1 f2 : List Int) (tx : ByteArray) (t : S37) (q0 q1 q2 q3 q4 q5 q6 : Int) (q7 : Bool)
def tailB : Bool := (if op = 3 then fnOk q0 q1 q2 q3 else (q0 == 0 && (q1 == 0 && (q2 == 0 && q3 == 0)))) && (if op = 4 then trOk q4 q5 q6 q7 else (q4 == 0 && (q5 == 0 && (q6 == 0 && !q7))))
theorem form_j2 (b : Bool) : Ev (fun k => r11_form.j2 k b op f1 f2 tx t.f0 t.f1 q0 q1 q2 q3 q4 q5 q6 q7) (!b && tailB op q0 q1 q2 q3 q4 q5 q6 q7) := by
 cases b with
 | true =>
  refine Ev.step (f := fun _ => some false) (fun k => ?_) (Ev.now _)
  simp only [r11_form.j2, if_true]
 | false =>
  refine Ev.step (f := fun _ => some (!false && tailB op q0 q1 q2 q3 q4 q5 q6 q7)) (fun k => ?_) (Ev.now _)
  simp only [r11_form.j2, Bool.false_eq_true, if_false, fn2_ev, tr2_ev, Option.bind_some]
  unfold tailB
  generalize fnOk q0 q1 q2 q3 = v1
  generalize trOk q4 q5 q6 q7 = v2
  generalize (q4 == 0 && (q5 == 0 && (q6 == 0 && !q7))) = v3
  generalize hz : (q0 == 0 && (q1 == 0 && (q2 == 0 && q3 == 0))) = v4
  have hz2 : (!(q0 == 0) || (!(q1 == 0) || (!(q2 == 0) || (!(q3 == 0))))) = !v4 := by rw [<- hz]; simp [Bool.not_and]
  rw [hz2]
  by_cases h3 : op = 3
  ·rw [if_pos h3, if_pos h3, if_neg (show ¬ op = 4 by omega), if_neg (show ¬ op = 4 by omega)]
   cases v1 <;> simp
  ·rw [if_neg h3, if_neg h3]
   by_cases h4 : op = 4
   ·rw [if_pos h4, if_pos h4]
    cases v4 <;> cases v2 <;> simp
   ·rw [if_neg h4, if_neg h4]
    cases v4 <;> simp
theorem form_j1 (b : Bool) : Ev (fun k => r11_form.j1 k b op f1 f2 tx t.f0 t.f1 q0 q1 q2 q3 q4 q5 q6 q7) (!b && ((if op = 1 then rightT 6 (upT t) else (t.f0 == 0 && ((t.f1.length : Int) == 0))) && tailB op q0 q1 q2 q3 q4 q5 q6 q7)) := by
 have j2 := form_j2 op f1 f2 tx t q0 q1 q2 q3 q4 q5 q6 q7
 generalize tailB op q0 q1 q2 q3 q4 q5 q6 q7 = T at *
 cases b with
 | true =>
  refine Ev.step (f := fun _ => some false) (fun k => ?_) (Ev.now _)
  simp only [r11_form.j1, if_true]
 | false =>
  by_cases h1 : op = 1
  ·refine Ev.step (f := fun k => (r02_Right.f k t.f0 t.f1 6).bind fun v => if v = true then r11_form.j2 k false op f1 f2 tx t.f0 t.f1 q0 q1 q2 q3 q4 q5 q6 q7 else r11_form.j2 k true op f1 f2 tx t.f0 t.f1 q0 q1 q2 q3 q4 q5 q6 q7) (fun k => ?_) ?_
   ·simp only [r11_form.j1, Bool.false_eq_true, if_false, if_pos h1]
   ·refine Ev.bind (f := fun k v => if v = true then r11_form.j2 k false op f1 f2 tx t.f0 t.f1 q0 q1 q2 q3 q4 q5 q6 q7 else r11_form.j2 k true op f1 f2 tx t.f0 t.f1 q0 q1 q2 q3 q4 q5 q6 q7) (right2_ev 6 t (Nat.le_refl _)) ?_
    rw [if_pos h1]
    cases rightT 6 (upT t) with
    | true => exact Ev.congr (fun k => by rw [if_pos rfl]) (by simpa using j2 false)
    | false => exact Ev.congr (f := fun k => r11_form.j2 k true op f1 f2 tx t.f0 t.f1 q0 q1 q2 q3 q4 q5 q6 q7) (fun k => by rw [if_neg (by decide)]) (by simpa using j2 true)
  ·rw [if_neg h1]
   by_cases h0 : t.f0 = 0
   ·refine Ev.step (f := fun k => r11_form.j2 k (decide ((t.f1.length : Int) > 0)) op f1 f2 tx t.f0 t.f1 q0 q1 q2 q3 q4 q5 q6 q7) (fun k => ?_) ?_
    ·simp only [r11_form.j1, Bool.false_eq_true, if_false, if_neg h1, if_pos h0]
    ·have e : (!decide ((t.f1.length : Int) > 0)) = ((t.f0 == 0) && ((t.f1.length : Int) == 0)) := by
      rw [show (t.f0 == 0) = true by rw [beq_iff_eq]; exact h0, Bool.true_and]
      by_cases hl : (t.f1.length : Int) = 0
      ·rw [hl]; rfl
      ·rw [show decide ((t.f1.length : Int) > 0) = true by rw [decide_eq_true_iff]; omega, show ((t.f1.length : Int) == 0) = false by rw [beq_eq_false_iff_ne]; exact hl]; rfl
     have := j2 (decide ((t.f1.length : Int) > 0))
     rw [e] at this
     exact this
   ·refine Ev.step (f := fun k => r11_form.j2 k true op f1 f2 tx t.f0 t.f1 q0 q1 q2 q3 q4 q5 q6 q7) (fun k => ?_) ?_
    ·simp only [r11_form.j1, Bool.false_eq_true, if_false, if_neg h1, if_neg h0]
    ·rw [show (t.f0 == 0) = false by rw [beq_eq_false_iff_ne]; exact h0]
     simpa using j2 true
theorem form_j0 (b : Bool) (hs : tx.size <= 9223372036854775806) : Ev (fun k => r11_form.j0 k b op f1 f2 tx t.f0 t.f1 q0 q1 q2 q3 q4 q5 q6 q7) ((if b = true then textB tx else tx.toList.isEmpty) && ((if op = 1 then rightT 6 (upT t) else (t.f0 == 0 && ((t.f1.length : Int) == 0))) && tailB op q0 q1 q2 q3 q4 q5 q6 q7)) := by
 have j1 := form_j1 op f1 f2 tx t q0 q1 q2 q3 q4 q5 q6 q7
 generalize tailB op q0 q1 q2 q3 q4 q5 q6 q7 = T at *
 generalize (if op = 1 then rightT 6 (upT t) else (t.f0 == 0 && ((t.f1.length : Int) == 0))) = R at *
 cases b with
 | true =>
  refine Ev.step (f := fun k => (r11_Text.f k tx).bind fun v => if v = true then r11_form.j1 k false op f1 f2 tx t.f0 t.f1 q0 q1 q2 q3 q4 q5 q6 q7 else r11_form.j1 k true op f1 f2 tx t.f0 t.f1 q0 q1 q2 q3 q4 q5 q6 q7) (fun k => ?_) ?_
  ·simp only [r11_form.j0, if_true]
  ·refine Ev.bind (f := fun k v => if v = true then r11_form.j1 k false op f1 f2 tx t.f0 t.f1 q0 q1 q2 q3 q4 q5 q6 q7 else r11_form.j1 k true op f1 f2 tx t.f0 t.f1 q0 q1 q2 q3 q4 q5 q6 q7) (text_ev tx hs) ?_
   rw [if_pos rfl]
   cases textB tx with
   | true => exact Ev.congr (fun k => by rw [if_pos rfl]) (by simpa using j1 false)
   | false => exact Ev.congr (f := fun k => r11_form.j1 k true op f1 f2 tx t.f0 t.f1 q0 q1 q2 q3 q4 q5 q6 q7) (fun k => by rw [if_neg (by decide)]) (by simpa using j1 true)
 | false =>
  refine Ev.step (f := fun k => r11_form.j1 k (tx.toList != ([] : List UInt8)) op f1 f2 tx t.f0 t.f1 q0 q1 q2 q3 q4 q5 q6 q7) (fun k => ?_) ?_
  ·simp only [r11_form.j0, Bool.false_eq_true, if_false]
  ·rw [if_neg (by decide), empty_beq]
   have := j1 (!tx.toList.isEmpty)
   rw [Bool.not_not] at this
   exact this
end
theorem form_ev (x : S43) (hs : x.f3.size <= 9223372036854775806) : Ev (fun k => r11_form.f k x.f0 x.f1 x.f2 x.f3 x.f4.f0 x.f4.f1 x.f5.f0 x.f5.f1 x.f5.f2 x.f5.f3 x.f6.f0 x.f6.f1 x.f6.f2 x.f6.f3) (formN (upN x)) := by
 obtain ⟨op, f1, f2, tx, t, ⟨q0, q1, q2, q3⟩, ⟨q4, q5, q6, q7⟩⟩ := x
 have h : formN (upN ⟨op, f1, f2, tx, t, ⟨q0, q1, q2, q3⟩, ⟨q4, q5, q6, q7⟩⟩) = ((if op = 2 ∨ op = 4 then textB tx else tx.toList.isEmpty) && ((if op = 1 then rightT 6 (upT t) else (t.f0 == 0 && ((t.f1.length : Int) == 0))) && tailB op q0 q1 q2 q3 q4 q5 q6 q7)) := by
  unfold formN formB upN
  rw [show (upT t).f0 = t.f0 by rw [upT_eq], show (upT t).f1.length = t.f1.length by rw [upT_eq, upL_map, List.length_map]]
  rfl
 rw [h]
 dsimp only at hs ⊢
 unfold r11_form.f
 have j0 := fun b => form_j0 op f1 f2 tx t q0 q1 q2 q3 q4 q5 q6 q7 b hs
 by_cases h2 : op = 2
 ·rw [if_pos (.inl h2)]
  exact Ev.congr (fun k => by rw [if_pos h2]) (by simpa using j0 true)
 ·refine Ev.congr (f := fun k => r11_form.j0 k (op == 4) op f1 f2 tx t.f0 t.f1 q0 q1 q2 q3 q4 q5 q6 q7) (fun k => by rw [if_neg h2]) ?_
  have := j0 (op == 4)
  rw [show (if op = 2 ∨ op = 4 then textB tx else tx.toList.isEmpty) = (if (op == 4) = true then textB tx else tx.toList.isEmpty) by simp [h2]]
  exact this
/-- Nodes of a row that is not out of all measure. -/
def Mild (l : List S43) : Prop := ∀ x ∈ l, x.f1.length <= 100 ∧ x.f2.length <= 100 ∧ x.f3.size <= 5000
theorem check2_loop (l : List S43) (hm : Mild l) (h32 : l.length <= 32) : ∀ (n i : Nat), i + n = l.length -> Ev (fun k => r11_Check.l0 k l (i : Int)) (checkL (l.map upN) ((List.range l.length).drop i))
 | 0, i, hi => by
  rw [List.drop_eq_nil_of_le (by rw [List.length_range]; omega)]
  refine Ev.step (f := fun _ => some (0, 0)) (fun k => ?_) (Ev.now _)
  simp only [r11_Check.l0]
  rw [if_neg (by omega)]
 | n + 1, i, hi => by
  have hlt : i < l.length := by omega
  have hrd : rd_T43 l (i : Int) = l[i] := by simp [rd_T43, List.getD, List.getElem?_eq_getElem hlt]
  obtain ⟨m1, m2, m3⟩ := hm (rd_T43 l (i : Int)) (by rw [hrd]; exact List.getElem_mem hlt)
  have hw : wrap64 ((i : Int) + 1) = ((i + 1 : Nat) : Int) := by unfold wrap64; omega
  have hd : (List.range l.length).drop i = i :: (List.range l.length).drop (i + 1) := by
   rw [List.drop_eq_getElem_cons (by rw [List.length_range]; omega), List.getElem_range]
  rw [hd]
  have ih := check2_loop l hm h32 n (i + 1) (by omega)
  have ein := input_ev l i hlt (by omega) (by omega)
  have efm := form_ev (rd_T43 l (i : Int)) (by omega)
  have hne : nodeErr (l.map upN) i = if (rd_T43 l (i : Int)).f0 < 1 ∨ 6 < (rd_T43 l (i : Int)).f0 then 110 else if inputsB (l.map upN) i = true then (if formN (upN (rd_T43 l (i : Int))) = true then 0 else 112) else 111 := by
   unfold nodeErr
   rw [rd_up]
   rfl
  show Ev _ (if nodeErr (l.map upN) i = 0 then checkL (l.map upN) ((List.range l.length).drop (i + 1)) else ((i : Int), nodeErr (l.map upN) i))
  generalize checkL (l.map upN) ((List.range l.length).drop (i + 1)) = R at *
  rw [hne]
  have hj2 : ∀ b : Bool, Ev (fun k => r11_Check.j2 k l (i : Int) b) (if b = true then ((i : Int), 110) else if inputsB (l.map upN) i = true then (if formN (upN (rd_T43 l (i : Int))) = true then R else ((i : Int), 112)) else ((i : Int), 111)) := by
   intro b
   cases b with
   | true =>
    refine Ev.step (f := fun _ => some ((i : Int), 110)) (fun k => ?_) (Ev.now _)
    simp only [r11_Check.j2, if_true]
   | false =>
    rw [if_neg (by decide)]
    refine Ev.step (f := fun k => (r11_input.f k l (i : Int)).bind fun t => if t = true then ((r11_form.f k (rd_T43 l (i : Int)).f0 (rd_T43 l (i : Int)).f1 (rd_T43 l (i : Int)).f2 (rd_T43 l (i : Int)).f3 (rd_T43 l (i : Int)).f4.f0 (rd_T43 l (i : Int)).f4.f1 (rd_T43 l (i : Int)).f5.f0 (rd_T43 l (i : Int)).f5.f1 (rd_T43 l (i : Int)).f5.f2 (rd_T43 l (i : Int)).f5.f3 (rd_T43 l (i : Int)).f6.f0 (rd_T43 l (i : Int)).f6.f1 (rd_T43 l (i : Int)).f6.f2 (rd_T43 l (i : Int)).f6.f3).bind fun u => if u = true then r11_Check.l0 k l ((i + 1 : Nat) : Int) else some ((i : Int), 112)) else some ((i : Int), 111)) (fun k => ?_) ?_
    ·simp only [r11_Check.j2, Bool.false_eq_true, if_false]
     rw [if_pos (show (0 : Int) <= (i : Int) by omega), if_pos (show (i : Int) < (l.length : Int) by omega), hw]
    ·refine Ev.bind (f := fun k t => if t = true then ((r11_form.f k (rd_T43 l (i : Int)).f0 (rd_T43 l (i : Int)).f1 (rd_T43 l (i : Int)).f2 (rd_T43 l (i : Int)).f3 (rd_T43 l (i : Int)).f4.f0 (rd_T43 l (i : Int)).f4.f1 (rd_T43 l (i : Int)).f5.f0 (rd_T43 l (i : Int)).f5.f1 (rd_T43 l (i : Int)).f5.f2 (rd_T43 l (i : Int)).f5.f3 (rd_T43 l (i : Int)).f6.f0 (rd_T43 l (i : Int)).f6.f1 (rd_T43 l (i : Int)).f6.f2 (rd_T43 l (i : Int)).f6.f3).bind fun u => if u = true then r11_Check.l0 k l ((i + 1 : Nat) : Int) else some ((i : Int), 112)) else some ((i : Int), 111)) ein ?_
     cases inputsB (l.map upN) i with
     | false => exact Ev.congr (f := fun _ => some ((i : Int), 111)) (fun k => by rw [if_neg (by decide)]) (Ev.now _)
     | true =>
      rw [if_pos rfl]
      refine Ev.congr (fun k => by rw [if_pos rfl]) (Ev.bind (f := fun k u => if u = true then r11_Check.l0 k l ((i + 1 : Nat) : Int) else some ((i : Int), 112)) efm ?_)
      cases formN (upN (rd_T43 l (i : Int))) with
      | false => exact Ev.congr (f := fun _ => some ((i : Int), 112)) (fun k => by rw [if_neg (by decide)]) (Ev.now _)
      | true => exact Ev.congr (fun k => by rw [if_pos rfl]) ih
  by_cases h1 : (rd_T43 l (i : Int)).f0 < 1
  ·refine Ev.step (f := fun k => r11_Check.j2 k l (i : Int) true) (fun k => ?_) ?_
   ·simp only [r11_Check.l0]
    rw [if_pos (show (i : Int) < (l.length : Int) by omega), if_pos (show (0 : Int) <= (i : Int) by omega), if_pos h1]
   ·have := hj2 true
    have hh : (rd_T43 l (i : Int)).f0 < 1 ∨ 6 < (rd_T43 l (i : Int)).f0 := .inl h1
    rw [if_pos hh, if_neg (by decide)]
    exact this
  ·refine Ev.step (f := fun k => r11_Check.j2 k l (i : Int) (decide ((rd_T43 l (i : Int)).f0 > 6))) (fun k => ?_) ?_
   ·simp only [r11_Check.l0]
    rw [if_pos (show (i : Int) < (l.length : Int) by omega), if_pos (show (0 : Int) <= (i : Int) by omega), if_neg h1]
   ·have := hj2 (decide ((rd_T43 l (i : Int)).f0 > 6))
    by_cases h6 : 6 < (rd_T43 l (i : Int)).f0
    ·have hh : (rd_T43 l (i : Int)).f0 < 1 ∨ 6 < (rd_T43 l (i : Int)).f0 := .inr h6
     rw [if_pos hh, if_neg (by decide)]
     rw [if_pos (by rw [decide_eq_true_iff]; exact h6)] at this
     exact this
    ·rw [if_neg (show ¬ ((rd_T43 l (i : Int)).f0 < 1 ∨ 6 < (rd_T43 l (i : Int)).f0) by omega)]
     rw [if_neg (by rw [decide_eq_true_iff]; exact h6)] at this
     have e : ∀ v1 v2 : Bool, (if (if v1 = true then (if v2 = true then (0 : Int) else 112) else 111) = 0 then R else ((i : Int), if v1 = true then (if v2 = true then (0 : Int) else 112) else 111)) = (if v1 = true then (if v2 = true then R else ((i : Int), 112)) else ((i : Int), 111)) := fun v1 v2 => by cases v1 <;> cases v2 <;> simp
     rw [e]
     exact this
theorem check2_ev (l : List S43) (hm : Mild l) : Ev (fun k => r11_Check.f k l) (checkV (l.map upN)) := by
 have hl0 : (l.map upN).length = l.length := List.length_map ..
 have hbad : Ev (fun k => r11_Check.j0 k l true) (0, 112) := by
  refine Ev.step (f := fun _ => some (0, 112)) (fun k => ?_) (Ev.now _)
  simp only [r11_Check.j0, if_true]
 unfold r11_Check.f checkV
 rw [hl0]
 by_cases h0 : (l.length : Int) = 0
 ·rw [if_pos (.inl (by omega))]
  exact Ev.congr (fun k => by rw [if_pos h0]) hbad
 ·refine Ev.congr (f := fun k => r11_Check.j0 k l (decide ((l.length : Int) > 32))) (fun k => by rw [if_neg h0]) ?_
  by_cases h32 : (l.length : Int) > 32
  ·rw [if_pos (.inr (by omega)), show decide ((l.length : Int) > 32) = true by rw [decide_eq_true_iff]; exact h32]
   exact hbad
  ·rw [if_neg (by omega), show decide ((l.length : Int) > 32) = false by rw [decide_eq_false_iff_not]; exact h32]
   have := check2_loop l hm (by omega) l.length 0 (by omega)
   rw [List.drop_zero] at this
   refine Ev.step (f := fun k => r11_Check.l0 k l 0) (fun k => ?_) this
   simp only [r11_Check.j0, Bool.false_eq_true, if_false]
/-- The ref Check, called. -/
theorem check2_any (l : List S43) (A : Option Addr) (c : Nat) (w : World) (hm : Mild l) (hc : l.length <= c) (hC : k43.C w A l.length l) :
  Calls Tryz.prog 7 #[.slice A l.length c] w fun e w' => e = .returned (.tuple #[.int .i64 (checkV (l.map upN)).1, .int .i64 (checkV (l.map upN)).2]) ∧ Below w.heap.size w w' := by
 obtain ⟨k, hk⟩ := (check2_ev l hm).rounds
 exact r11_Check.calls k A c l _ _ w hC hc hk
theorem ba_cat (a b : List UInt8) : (⟨a.toArray⟩ : ByteArray) ++ ⟨b.toArray⟩ = ⟨(a ++ b).toArray⟩ := by
 apply ByteArray.ext
 simp
theorem ba_size (a : List UInt8) : (⟨a.toArray⟩ : ByteArray).size = a.length := by simp [ByteArray.size]
theorem Ev.pos {α : Type} {c : Prop} [Decidable c] {f g : Nat -> Option α} {r : α} (h : c) (e : Ev f r) : Ev (fun k => if c then f k else g k) r := Ev.congr (fun k => by rw [if_pos h]) e
theorem Ev.neg {α : Type} {c : Prop} [Decidable c] {f g : Nat -> Option α} {r : α} (h : ¬ c) (e : Ev g r) : Ev (fun k => if c then f k else g k) r := Ev.congr (fun k => by rw [if_neg h]) e
theorem digit_str (d : Nat) : strOfNums [((48 + d : Nat) : Int)] = ⟨[UInt8.ofNat (48 + d)].toArray⟩ := by
 show (⟨[UInt8.ofNat (((48 + d : Nat) : Int)).toNat].toArray⟩ : ByteArray) = _
 rw [Int.toNat_natCast]
theorem digits_ev : ∀ (n u : Nat), u <= n -> u < 1000000000000 -> Ev (fun k => r11_Digits.f k (u : Int)) ⟨(Lib.decDigits u).toArray⟩ := by
 intro n
 induction n with
 | zero =>
  intro u hu _
  obtain rfl : u = 0 := by omega
  have hs := digit_str 0
  refine Ev.step (f := fun _ => some ⟨(Lib.decDigits 0).toArray⟩) (fun k => ?_) (Ev.now _)
  rw [Lib.decDigits_one (by omega)]
  simp only [r11_Digits.f]
  rw [Option.bind_some, if_pos (by omega), show (wrap64 (48 + Int.tmod ((0 : Nat) : Int) 10)) % 256 = ((48 + 0 : Nat) : Int) by rw [show Int.tmod ((0 : Nat) : Int) 10 = 0 from rfl]; unfold wrap64; omega, hs]
 | succ n ih =>
  intro u hu hb
  have hd : (wrap64 (48 + Int.tmod (u : Int) 10)) % 256 = ((48 + u % 10 : Nat) : Int) := by
   have : Int.tmod (u : Int) 10 = ((u % 10 : Nat) : Int) := by rw [Int.tmod_eq_emod_of_nonneg (by omega)]; omega
   rw [this]
   unfold wrap64
   omega
  have hs := digit_str (u % 10)
  by_cases h10 : u < 10
  ·refine Ev.step (f := fun _ => some ⟨(Lib.decDigits u).toArray⟩) (fun k => ?_) (Ev.now _)
   rw [Lib.decDigits_one h10]
   simp only [r11_Digits.f]
   rw [Option.bind_some, if_pos (by omega), hd, hs, Nat.mod_eq_of_lt h10]
  ·have hq : wrap64 (Int.tdiv (u : Int) 10) = ((u / 10 : Nat) : Int) := by
    have : Int.tdiv (u : Int) 10 = ((u / 10 : Nat) : Int) := by rw [Int.tdiv_eq_ediv_of_nonneg (by omega)]; omega
    rw [this]
    unfold wrap64
    omega
   have hlen : (Lib.decDigits (u / 10)).length <= 12 := dec_len 12 (u / 10) (by omega) (by omega)
   have hdd : Lib.decDigits u = Lib.decDigits (u / 10) ++ [UInt8.ofNat (48 + u % 10)] := by rw [Lib.decDigits, dif_neg h10]
   rw [hdd]
   refine Ev.step (f := fun k => (r11_Digits.f k ((u / 10 : Nat) : Int)).bind fun t => if t.size + (⟨[UInt8.ofNat (48 + u % 10)].toArray⟩ : ByteArray).size <= 9223372036854775807 then some (t ++ ⟨[UInt8.ofNat (48 + u % 10)].toArray⟩) else none) (fun k => ?_) ?_
   ·simp only [r11_Digits.f]
    rw [Option.bind_some, if_neg (by omega), hd, hs, hq]
   ·refine Ev.bind (f := fun _ t => if t.size + (⟨[UInt8.ofNat (48 + u % 10)].toArray⟩ : ByteArray).size <= 9223372036854775807 then some (t ++ ⟨[UInt8.ofNat (48 + u % 10)].toArray⟩) else none) (ih (u / 10) (by omega) (by omega)) ?_
    refine Ev.pos (by rw [ba_size, ba_size]; simp; omega) ?_
    rw [ba_cat]
    exact Ev.now _
theorem digit2_ev (n : Int) (h0 : 0 <= n) (h1 : n < 1000000000000) : Ev (fun k => r11_Digits.f k n) ⟨(Lib.itoa n).toArray⟩ := by
 rw [itoa_dec n h0]
 have := digits_ev n.toNat n.toNat (Nat.le_refl _) (by omega)
 rw [Int.toNat_of_nonneg h0] at this
 exact this
/-- Places behind the first, each behind its comma. -/
def tailC (l : List Int) : List UInt8 := Lib.joinTail [44] (l.map Lib.itoa)
theorem tailC_cons (a : Int) (r : List Int) : tailC (a :: r) = [44] ++ Lib.itoa a ++ tailC r := by simp [tailC, Lib.joinTail]
theorem itoa3_len {n : Int} (h : 0 <= n ∧ n <= 999) : (Lib.itoa n).length <= 3 := by
 rw [itoa_dec n h.1]
 exact dec_len 3 n.toNat (by omega) (by omega)
theorem commas_tail (l : List Int) (hl : l.length <= 1000) (h3 : Small3 l) : ∀ (n i : Nat) (acc : List UInt8), 1 <= i -> i + n = l.length -> acc.length <= 10 * i -> Ev (fun k => r11_commas.l0 k l ⟨acc.toArray⟩ (i : Int)) ⟨(acc ++ tailC (l.drop i)).toArray⟩
 | 0, i, acc, h1, hi, ha => by
  rw [List.drop_eq_nil_of_le (by omega)]
  refine Ev.step (f := fun _ => some ⟨acc.toArray⟩) (fun k => ?_) (by simpa [tailC, Lib.joinTail] using Ev.now _)
  simp only [r11_commas.l0]
  rw [if_neg (by omega)]
 | n + 1, i, acc, h1, hi, ha => by
  have hlt : i < l.length := by omega
  have hrd : rd l (i : Int) = l[i] := by simp [rd, List.getD, List.getElem?_eq_getElem hlt]
  have hx := h3 l[i] (List.getElem_mem hlt)
  have hw : wrap64 ((i : Int) + 1) = ((i + 1 : Nat) : Int) := by unfold wrap64; omega
  have hx3 := itoa3_len hx
  rw [List.drop_eq_getElem_cons hlt, tailC_cons]
  refine Ev.step (f := fun k => (r11_Digits.f k l[i]).bind fun t => if ((⟨acc.toArray⟩ : ByteArray) ++ ⟨[44].toArray⟩).size + t.size <= 9223372036854775807 then r11_commas.l0 k l (((⟨acc.toArray⟩ : ByteArray) ++ ⟨[44].toArray⟩) ++ t) ((i + 1 : Nat) : Int) else none) (fun k => ?_) ?_
  ·simp only [r11_commas.l0]
   rw [if_pos (by omega), if_pos (by omega), if_pos (by rw [ba_size]; omega), if_pos (by omega), hrd, hw]
  ·refine Ev.bind (f := fun k t => if ((⟨acc.toArray⟩ : ByteArray) ++ ⟨[44].toArray⟩).size + t.size <= 9223372036854775807 then r11_commas.l0 k l (((⟨acc.toArray⟩ : ByteArray) ++ ⟨[44].toArray⟩) ++ t) ((i + 1 : Nat) : Int) else none) (digit2_ev l[i] hx.1 (by omega)) ?_
   refine Ev.pos (by rw [ba_cat, ba_size, ba_size, List.length_append]; simp; omega) ?_
   rw [ba_cat, ba_cat]
   have ih := commas_tail l hl h3 n (i + 1) (acc ++ [44] ++ Lib.itoa l[i]) (by omega) (by omega) (by rw [List.length_append, List.length_append]; simp; omega)
   simpa [List.append_assoc] using ih
theorem commas_ev (l : List Int) (hl : l.length <= 1000) (h3 : Small3 l) : Ev (fun k => r11_commas.f k l) ⟨(placesT l).toArray⟩ := by
 unfold r11_commas.f placesT
 cases l with
 | nil => exact Ev.pos rfl (Ev.now _)
 | cons a r =>
  have hx := h3 a (by simp)
  have hx3 := itoa3_len hx
  rw [if_neg (by simp), List.map_cons, Lib.join_cons]
  refine Ev.neg (show ¬ ((a :: r).length : Int) = 0 by simp; omega) ?_
  have hw : wrap64 ((0 : Int) + 1) = ((1 : Nat) : Int) := by unfold wrap64; omega
  have hrd : rd (a :: r) 0 = a := rfl
  refine Ev.step (f := fun k => (r11_Digits.f k a).bind fun t => if (⟨#[]⟩ : ByteArray).size + t.size <= 9223372036854775807 then r11_commas.l0 k (a :: r) ((⟨[].toArray⟩ : ByteArray) ++ t) ((1 : Nat) : Int) else none) (fun k => ?_) ?_
  ·simp only [r11_commas.l0]
   rw [if_pos (show (0 : Int) < ((a :: r).length : Int) by simp), if_neg (by omega), if_pos (by omega), hrd, hw]
  ·refine Ev.bind (f := fun k t => if (⟨#[]⟩ : ByteArray).size + t.size <= 9223372036854775807 then r11_commas.l0 k (a :: r) ((⟨[].toArray⟩ : ByteArray) ++ t) ((1 : Nat) : Int) else none) (digit2_ev a hx.1 (by omega)) ?_
   refine Ev.pos (by have e1 := ba_size (Lib.itoa a); have e0 : (⟨#[]⟩ : ByteArray).size = 0 := rfl; omega) ?_
   rw [ba_cat, List.nil_append]
   exact commas_tail (a :: r) hl h3 r.length 1 (Lib.itoa a) (by omega) (by simp; omega) (by omega)
theorem show2_tail (d : Nat) (hd : d <= 6) (IH : ∀ t : S37, rightT d (upT t) = true -> Ev (fun k => r02_Show.f k t.f0 t.f1) ⟨(showT d (upT t)).toArray⟩) (kd : Int) (xs : List S37) (hx : xs.length <= 2) (hr : ∀ t ∈ xs, rightT d (upT t) = true) :
  ∀ (n i : Nat) (acc : List UInt8), 1 <= i -> i + n = xs.length -> acc.length <= 1000 * i -> Ev (fun k => r02_Show.l0 k ⟨acc.toArray⟩ (i : Int) kd xs) ⟨(acc ++ argsT (showT d) i ((xs.drop i).map upT) ++ [41]).toArray⟩
 | 0, i, acc, h1, hi, ha => by
  rw [List.drop_eq_nil_of_le (by omega)]
  refine Ev.step (f := fun _ => some ((⟨acc.toArray⟩ : ByteArray) ++ ⟨[41].toArray⟩)) (fun k => ?_) (by rw [ba_cat]; simpa [argsT] using Ev.now _)
  simp only [r02_Show.l0]
  rw [if_neg (by omega), if_pos (by rw [ba_size]; omega)]
 | n + 1, i, acc, h1, hi, ha => by
  have hlt : i < xs.length := by omega
  have hrd : rd_T37 xs (i : Int) = xs[i] := by simp [rd_T37, List.getD, List.getElem?_eq_getElem hlt]
  have hx := hr xs[i] (List.getElem_mem hlt)
  have hw : wrap64 ((i : Int) + 1) = ((i + 1 : Nat) : Int) := by unfold wrap64; omega
  have hx3 := (showT_len d _ hx).1
  have hp : 2 ^ d <= 2 ^ 6 := Nat.pow_le_pow_right (by omega) hd
  have hp6 : (2 : Nat) ^ 6 = 64 := rfl
  have hc : argsT (showT d) i (upT xs[i] :: (xs.drop (i + 1)).map upT) = [44] ++ showT d (upT xs[i]) ++ argsT (showT d) (i + 1) ((xs.drop (i + 1)).map upT) := by
   show sepT i :: (showT d (upT xs[i]) ++ _) = _
   rw [show sepT i = 44 by unfold sepT; rw [if_neg (by omega)]]
   simp
  rw [List.drop_eq_getElem_cons hlt, List.map_cons, hc]
  refine Ev.step (f := fun k => (r02_Show.f k xs[i].f0 xs[i].f1).bind fun t => if ((⟨acc.toArray⟩ : ByteArray) ++ ⟨[44].toArray⟩).size + t.size <= 9223372036854775807 then r02_Show.l0 k (((⟨acc.toArray⟩ : ByteArray) ++ ⟨[44].toArray⟩) ++ t) ((i + 1 : Nat) : Int) kd xs else none) (fun k => ?_) ?_
  ·simp only [r02_Show.l0]
   rw [if_pos (by omega), if_pos (by omega), if_pos (by rw [ba_size]; omega), if_pos (by omega), hrd, hw]
  ·refine Ev.bind (f := fun k t => if ((⟨acc.toArray⟩ : ByteArray) ++ ⟨[44].toArray⟩).size + t.size <= 9223372036854775807 then r02_Show.l0 k (((⟨acc.toArray⟩ : ByteArray) ++ ⟨[44].toArray⟩) ++ t) ((i + 1 : Nat) : Int) kd xs else none) (IH xs[i] hx) ?_
   refine Ev.pos (by rw [ba_cat, ba_size, ba_size, List.length_append]; simp; omega) ?_
   rw [ba_cat, ba_cat]
   have ih := show2_tail d hd IH kd xs ‹xs.length <= 2› hr n (i + 1) (acc ++ [44] ++ showT d (upT xs[i])) (by omega) (by omega) (by rw [List.length_append, List.length_append]; simp; omega)
   simpa [List.append_assoc] using ih
theorem show2_ev : ∀ (d : Nat) (t : S37), d <= 6 -> rightT d (upT t) = true -> Ev (fun k => r02_Show.f k t.f0 t.f1) ⟨(showT d (upT t)).toArray⟩
 | 0, t, _, h => by cases h
 | d + 1, t, hd, h => by
  have hup : (upT t).f1 = t.f1.map upT := by rw [upT_eq, upL_map]
  have hu0 : (upT t).f0 = t.f0 := by rw [upT_eq]
  obtain ⟨⟨q, hq, _, hw, _⟩, hall, hle⟩ := right_parts h
  rw [hup] at hall hle
  rw [List.length_map] at hle
  rw [hu0] at hw
  have hwl := (wT_len q hq).2
  rw [<- hw] at hwl
  have hall2 : ∀ x ∈ t.f1, rightT d (upT x) = true := fun x hx => hall (upT x) (List.mem_map.2 ⟨x, hx, rfl⟩)
  have hS : showT (d + 1) (upT t) = wordT t.f0 ++ argsT (showT d) 0 (t.f1.map upT) ++ (if t.f1.length = 0 then [] else [41]) := by
   unfold showT
   rw [hup, hu0, List.length_map]
  rw [hS]
  by_cases h0 : (t.f1.length : Int) = 0
  ·have hn : t.f1 = [] := List.eq_nil_of_length_eq_zero (by omega)
   refine Ev.step (f := fun _ => some ⟨(wordT t.f0).toArray⟩) (fun k => ?_) (by rw [hn]; simpa [argsT] using Ev.now _)
   simp only [r02_Show.f]
   rw [word_ev, Option.bind_some, if_pos h0]
  ·rw [if_neg (show ¬ t.f1.length = 0 by omega)]
   generalize hxs : t.f1 = xs at *
   cases xs with
   | nil => simp at h0
   | cons a r =>
    have ha := hall2 a (by simp)
    have ha3 := (showT_len d _ ha).1
    have hp : 2 ^ d <= 2 ^ 6 := Nat.pow_le_pow_right (by omega) (by omega)
    have hp6 : (2 : Nat) ^ 6 = 64 := rfl
    have hw1 : wrap64 ((0 : Int) + 1) = ((1 : Nat) : Int) := by unfold wrap64; omega
    have hrd : rd_T37 (a :: r) 0 = a := rfl
    have e1 := ba_size (wordT t.f0)
    have e2 := ba_size (wordT t.f0 ++ [40])
    rw [List.length_append] at e2
    have e3 : ([40] : List UInt8).length = 1 := rfl
    have e4 := ba_size (showT d (upT a))
    refine Ev.step (f := fun k => r02_Show.l0 k ⟨(wordT t.f0 ++ [40]).toArray⟩ 0 t.f0 (a :: r)) (fun k => ?_) ?_
    ·simp only [r02_Show.f]
     rw [word_ev, Option.bind_some, if_neg h0, if_pos (by omega)]
     exact congrArg (fun z => r02_Show.l0 k z 0 t.f0 (a :: r)) (ba_cat (wordT t.f0) [40])
    ·have hc : argsT (showT d) 0 (List.map upT (a :: r)) = [40] ++ showT d (upT a) ++ argsT (showT d) 1 (List.map upT r) := by
      rw [List.map_cons]
      show sepT 0 :: (showT d (upT a) ++ _) = _
      rw [show sepT 0 = 40 from rfl]
      simp
     have hg : wordT t.f0 ++ argsT (showT d) 0 (List.map upT (a :: r)) ++ [41] = (wordT t.f0 ++ [40]) ++ showT d (upT a) ++ argsT (showT d) 1 (List.map upT r) ++ [41] := by rw [hc]; simp
     rw [hg]
     have hwl2 : (wordT t.f0 ++ [40]).length <= 7 := by rw [List.length_append]; omega
     generalize wordT t.f0 ++ [40] = wd at *
     have := show2_tail d (by omega) (fun t h => show2_ev d t (by omega) h) t.f0 (a :: r) hle hall2 r.length 1 (wd ++ showT d (upT a)) (by omega) (by simp; omega) (by rw [List.length_append]; omega)
     have hI := show2_ev d a (by omega) ha
     generalize showT d (upT a) = sa at *
     refine Ev.step (f := fun k => (r02_Show.f k a.f0 a.f1).bind fun t1 => if (⟨wd.toArray⟩ : ByteArray).size + t1.size <= 9223372036854775807 then r02_Show.l0 k ((⟨wd.toArray⟩ : ByteArray) ++ t1) ((1 : Nat) : Int) t.f0 (a :: r) else none) (fun k => ?_) ?_
     ·simp only [r02_Show.l0]
      rw [if_pos (show (0 : Int) < ((a :: r).length : Int) by simp), if_neg (by omega), if_pos (by omega), hrd, hw1]
     ·refine Ev.bind (f := fun k t1 => if (⟨wd.toArray⟩ : ByteArray).size + t1.size <= 9223372036854775807 then r02_Show.l0 k ((⟨wd.toArray⟩ : ByteArray) ++ t1) ((1 : Nat) : Int) t.f0 (a :: r) else none) hI ?_
      refine Ev.pos (by have := ba_size wd; omega) ?_
      rw [ba_cat]
      exact this
set_option maxHeartbeats 1000000
theorem digit3_ev {n : Int} (h : Num7 n) : Ev (fun k => r11_Digits.f k n) ⟨(Lib.itoa n).toArray⟩ ∧ (⟨(Lib.itoa n).toArray⟩ : ByteArray).size <= 1000 :=
 ⟨digit2_ev n h.1 (by have := h.2; omega), by rw [ba_size]; exact (seen_itoa h).1⟩
theorem commas3_ev {l : List Int} (hl : l.length <= 4) (h : Small3 l) : Ev (fun k => r11_commas.f k l) ⟨(placesT l).toArray⟩ ∧ (⟨(placesT l).toArray⟩ : ByteArray).size <= 1000 :=
 ⟨commas_ev l (by omega) h, by rw [ba_size]; exact (seen_places hl h).1⟩
theorem sz (a b : ByteArray) : (a ++ b).size = a.size + b.size := ByteArray.size_append
theorem s32 : (⟨#[32]⟩ : ByteArray).size = 1 := rfl
theorem s101 : (⟨#[101, 97, 99, 104, 32]⟩ : ByteArray).size = 5 := rfl
theorem s119 : (⟨#[119, 105, 110, 100, 111, 119, 32]⟩ : ByteArray).size = 7 := rfl
theorem s103 : (⟨#[103, 114, 111, 117, 112, 32]⟩ : ByteArray).size = 6 := rfl
theorem body_eq {b : ByteArray} {l : List UInt8} (h : b.data.toList = l) : b = ⟨l.toArray⟩ := by
 apply ByteArray.ext
 apply Array.toList_inj.1
 rw [h]
theorem line_ev (x : S43) (hk : Okn (upN x)) : Ev (fun k => r11_Line.f k x.f0 x.f1 x.f2 x.f3 x.f4.f0 x.f4.f1 x.f5.f0 x.f5.f1 x.f5.f2 x.f5.f3 x.f6.f0 x.f6.f1 x.f6.f2 x.f6.f3) ⟨(bodyT (upN x)).toArray⟩ := by
 have h4 := okn_four hk
 obtain ⟨c1, n1⟩ := commas3_ev h4.1 hk.s1
 obtain ⟨c2, n2⟩ := commas3_ev h4.2 hk.s2
 obtain ⟨a1, a2, a3, a4⟩ := okn_fn hk
 obtain ⟨d1, m1⟩ := digit3_ev a1
 obtain ⟨d2, m2⟩ := digit3_ev a2
 obtain ⟨d3, m3⟩ := digit3_ev a3
 obtain ⟨d4, m4⟩ := digit3_ev a4
 obtain ⟨b1, b2, b3⟩ := okn_tr hk
 obtain ⟨e1, o1⟩ := digit3_ev b1
 obtain ⟨e2, o2⟩ := digit3_ev b2
 obtain ⟨e3, o3⟩ := digit3_ev b3
 have ht := okn_text hk
 have hty := okn_type hk
 have hop := hk.op
 obtain ⟨op, f1, f2, tx, t, ⟨q0, q1, q2, q3⟩, ⟨q4, q5, q6, q7⟩⟩ := x
 dsimp only [upN] at *
 unfold r11_Line.f bodyT partsT
 dsimp only
 generalize hP1 : (⟨(placesT f1).toArray⟩ : ByteArray) = P1 at c1 n1
 generalize hP2 : (⟨(placesT f2).toArray⟩ : ByteArray) = P2 at c2 n2
 generalize hD1 : (⟨(Lib.itoa q0).toArray⟩ : ByteArray) = D1 at d1 m1
 generalize hD2 : (⟨(Lib.itoa q1).toArray⟩ : ByteArray) = D2 at d2 m2
 generalize hD3 : (⟨(Lib.itoa q2).toArray⟩ : ByteArray) = D3 at d3 m3
 generalize hD4 : (⟨(Lib.itoa q3).toArray⟩ : ByteArray) = D4 at d4 m4
 generalize hE1 : (⟨(Lib.itoa q4).toArray⟩ : ByteArray) = E1 at e1 o1
 generalize hE2 : (⟨(Lib.itoa q5).toArray⟩ : ByteArray) = E2 at e2 o2
 generalize hE3 : (⟨(Lib.itoa q6).toArray⟩ : ByteArray) = E3 at e3 o3
 by_cases h1 : op = 1
 ·have hr := hty h1
  have hs := (showT_len 6 _ hr).1
  have e6 : (2 : Nat) ^ 6 = 64 := rfl
  have hz := ba_size (showT 6 (upT t))
  rw [if_pos h1]
  refine Ev.pos h1 (Ev.bind (f := fun _ t => if 7 + t.size <= 9223372036854775807 then some ((⟨#[115, 111, 117, 114, 99, 101, 32]⟩ : ByteArray) ++ t) else none) (show2_ev 6 t (Nat.le_refl _) hr) (Ev.pos (by omega) ?_))
  rw [body_eq (l := Lib.join [[115, 111, 117, 114, 99, 101], showT 6 (upT t)] [32]) (b := (⟨#[115, 111, 117, 114, 99, 101, 32]⟩ : ByteArray) ++ ⟨(showT 6 (upT t)).toArray⟩) (by simp [join2, Lib.join_one])]
  exact Ev.now _
 refine Ev.neg h1 ?_
 rw [if_neg h1]
 by_cases h2 : op = 2
 ·rw [if_pos h2]
  refine Ev.pos h2 (Ev.bind (f := fun k t226 => _) c1 (Ev.pos (by omega) (Ev.pos (by simp only [sz, s32, s101]; omega) (Ev.bind (f := fun k t227 => _) c2 (Ev.pos (by simp only [sz, s32, s101]; omega) (Ev.pos (by simp only [sz, s32, s101]; omega) (Ev.pos (by simp only [sz, s32, s101]; omega) ?_)))))))
  rw [body_eq (l := Lib.join [[101, 97, 99, 104], placesT f1, placesT f2, tx.data.toList] [32]) (b := (((((⟨#[101, 97, 99, 104, 32]⟩ : ByteArray) ++ P1) ++ (⟨#[32]⟩ : ByteArray)) ++ P2) ++ (⟨#[32]⟩ : ByteArray)) ++ tx) (by rw [<- hP1, <- hP2]; simp [join2, Lib.join_one])]
  exact Ev.now _
 refine Ev.neg h2 ?_
 rw [if_neg h2]
 by_cases h3 : op = 3
 ·rw [if_pos h3]
  refine Ev.pos h3 (Ev.bind (f := fun k v => _) c1 (Ev.pos (by omega) (Ev.pos (by simp only [sz, s32, s119]; omega) (Ev.bind (f := fun k v => _) d1 (Ev.pos (by simp only [sz, s32, s119]; omega) (Ev.pos (by simp only [sz, s32, s119]; omega) (Ev.bind (f := fun k v => _) d2 (Ev.pos (by simp only [sz, s32, s119]; omega) (Ev.pos (by simp only [sz, s32, s119]; omega) (Ev.bind (f := fun k v => _) d3 (Ev.pos (by simp only [sz, s32, s119]; omega) (Ev.pos (by simp only [sz, s32, s119]; omega) (Ev.bind (f := fun k v => _) d4 (Ev.pos (by simp only [sz, s32, s119]; omega) ?_))))))))))))))
  rw [body_eq (l := Lib.join [[119, 105, 110, 100, 111, 119], placesT f1, Lib.itoa q0, Lib.itoa q1, Lib.itoa q2, Lib.itoa q3] [32]) (b := ((((((((((⟨#[119, 105, 110, 100, 111, 119, 32]⟩ : ByteArray) ++ P1) ++ (⟨#[32]⟩ : ByteArray)) ++ D1) ++ (⟨#[32]⟩ : ByteArray)) ++ D2) ++ (⟨#[32]⟩ : ByteArray)) ++ D3) ++ (⟨#[32]⟩ : ByteArray)) ++ D4)) (by rw [<- hP1, <- hD1, <- hD2, <- hD3, <- hD4]; simp [join2, Lib.join_one])]
  exact Ev.now _
 refine Ev.neg h3 ?_
 rw [if_neg h3]
 by_cases h4' : op = 4
 ·rw [if_pos h4']
  refine Ev.pos h4' ?_
  have key : ∀ (hw : ByteArray) (hl : List UInt8), hw.data.toList = 32 :: hl ++ [32] -> hw.size = 5 -> Ev (fun k => r11_Line.j0 k hw op f1 f2 tx t.f0 t.f1 q0 q1 q2 q3 q4 q5 q6 q7) ⟨(Lib.join [[103, 114, 111, 117, 112], placesT f1, Lib.itoa q4, Lib.itoa q5, Lib.itoa q6, hl, tx.data.toList] [32]).toArray⟩ := by
   intro hw hl hwl hxs
   refine Ev.step (fun k => r11_Line.j0.eq_2 ..) ?_
   refine (Ev.bind (f := fun k v => _) c1 (Ev.pos (by omega) (Ev.pos (by simp only [sz, s32, s103]; omega) (Ev.bind (f := fun k v => _) e1 (Ev.pos (by simp only [sz, s32, s103]; omega) (Ev.pos (by simp only [sz, s32, s103]; omega) (Ev.bind (f := fun k v => _) e2 (Ev.pos (by simp only [sz, s32, s103]; omega) (Ev.pos (by simp only [sz, s32, s103]; omega) (Ev.bind (f := fun k v => _) e3 (Ev.pos (by simp only [sz, s32, s103]; omega) (Ev.pos (by simp only [sz, s32, s103, hxs]; omega) (Ev.pos (by simp only [sz, s32, s103, hxs]; omega) ?_)))))))))))))
   rw [body_eq (l := Lib.join [[103, 114, 111, 117, 112], placesT f1, Lib.itoa q4, Lib.itoa q5, Lib.itoa q6, hl, tx.data.toList] [32]) (b := ((((((((((⟨#[103, 114, 111, 117, 112, 32]⟩ : ByteArray) ++ P1) ++ (⟨#[32]⟩ : ByteArray)) ++ E1) ++ (⟨#[32]⟩ : ByteArray)) ++ E2) ++ (⟨#[32]⟩ : ByteArray)) ++ E3) ++ hw) ++ tx)) (by rw [<- hP1, <- hE1, <- hE2, <- hE3]; simp [join2, Lib.join_one, hwl])]
   exact Ev.now _
  cases q7 with
  | true => exact Ev.pos rfl (key ⟨#[32, 97, 99, 99, 32]⟩ [97, 99, 99] rfl rfl)
  | false => exact Ev.neg (by decide) (key ⟨#[32, 100, 105, 115, 32]⟩ [100, 105, 115] rfl rfl)
 refine Ev.neg h4' ?_
 rw [if_neg h4']
 by_cases h5 : op = 5
 ·rw [if_pos h5]
  refine Ev.pos h5 (Ev.bind (f := fun k v => _) c1 (Ev.pos (by omega) ?_))
  rw [body_eq (l := Lib.join [[102, 108, 97, 116, 116, 101, 110], placesT f1] [32]) (b := (⟨#[102, 108, 97, 116, 116, 101, 110, 32]⟩ : ByteArray) ++ P1) (by rw [<- hP1]; simp [join2, Lib.join_one])]
  exact Ev.now _
 ·rw [if_neg h5]
  refine Ev.neg h5 (Ev.bind (f := fun k v => _) c1 (Ev.pos (by omega) ?_))
  rw [body_eq (l := Lib.join [[115, 105, 110, 107], placesT f1] [32]) (b := (⟨#[115, 105, 110, 107, 32]⟩ : ByteArray) ++ P1) (by rw [<- hP1]; simp [join2, Lib.join_one])]
  exact Ev.now _
theorem show3_loop (l : List S43) (h32 : l.length <= 32) (hk : ∀ x ∈ l, Okn (upN x)) : ∀ (n i : Nat) (acc : List UInt8), i + n = l.length -> acc.length <= 8000 * i -> Ev (fun k => r11_Show.l0 k l ⟨acc.toArray⟩ (i : Int)) ⟨(acc ++ textT ((l.drop i).map upN)).toArray⟩
 | 0, i, acc, hi, ha => by
  rw [List.drop_eq_nil_of_le (by omega)]
  refine Ev.step (f := fun _ => some ⟨acc.toArray⟩) (fun k => ?_) (by simpa [textT] using Ev.now _)
  simp only [r11_Show.l0]
  rw [if_neg (by omega)]
 | n + 1, i, acc, hi, ha => by
  have hlt : i < l.length := by omega
  have hrd : rd_T43 l (i : Int) = l[i] := by simp [rd_T43, List.getD, List.getElem?_eq_getElem hlt]
  have hw : wrap64 ((i : Int) + 1) = ((i + 1 : Nat) : Int) := by unfold wrap64; omega
  have hx := hk l[i] (List.getElem_mem hlt)
  have hlen := (body_seen hx).2
  have hln : (lineT (upN l[i])).length = (bodyT (upN l[i])).length + 1 := by unfold lineT; rw [List.length_append]; rfl
  have hE := line_ev l[i] hx
  rw [List.drop_eq_getElem_cons hlt, List.map_cons]
  have hT : textT (upN l[i] :: (l.drop (i + 1)).map upN) = bodyT (upN l[i]) ++ [10] ++ textT ((l.drop (i + 1)).map upN) := rfl
  rw [hT]
  have ih := fun a h => show3_loop l h32 hk n (i + 1) (acc ++ a ++ [10]) (by omega) h
  have hz := ba_size (bodyT (upN l[i]))
  have hz2 := ba_size acc
  generalize bodyT (upN l[i]) = bd at *
  generalize l[i] = x at *
  refine Ev.step (f := fun k => (r11_Line.f k x.f0 x.f1 x.f2 x.f3 x.f4.f0 x.f4.f1 x.f5.f0 x.f5.f1 x.f5.f2 x.f5.f3 x.f6.f0 x.f6.f1 x.f6.f2 x.f6.f3).bind fun t => if t.size + 1 <= 9223372036854775807 then (if (⟨acc.toArray⟩ : ByteArray).size + (t ++ (⟨[10].toArray⟩ : ByteArray)).size <= 9223372036854775807 then r11_Show.l0 k l ((⟨acc.toArray⟩ : ByteArray) ++ (t ++ (⟨[10].toArray⟩ : ByteArray))) ((i + 1 : Nat) : Int) else none) else none) (fun k => ?_) ?_
  ·simp only [r11_Show.l0]
   rw [if_pos (by omega), if_pos (by omega), hrd, hw]
  ·refine Ev.bind (f := fun k t => _) hE (Ev.pos (by omega) (Ev.pos ?_ ?_))
   ·rw [ba_cat, ba_size, ba_size, List.length_append]
    simp
    omega
   ·rw [ba_cat, ba_cat]
    have := ih bd (by rw [List.length_append, List.length_append]; simp; omega)
    simpa [List.append_assoc] using this
theorem show3_ev (l : List S43) (hv : (checkV (l.map upN)).2 = 0) : Ev (fun k => r11_Show.f k l) ⟨(textT (l.map upN)).toArray⟩ := by
 have hz := (checkV_zero hv).1.2
 rw [List.length_map] at hz
 have := show3_loop l hz (fun x hx => okn_all hv (upN x) (List.mem_map.2 ⟨x, hx, rfl⟩)) l.length 0 [] (by omega) (by simp)
 rw [List.drop_zero, List.nil_append] at this
 exact this
/-- The ref Show of a right pipeline, called. -/
theorem show3_any (l : List S43) (A : Option Addr) (c : Nat) (w : World) (hv : (checkV (l.map upN)).2 = 0) (hc : l.length <= c) (hC : k43.C w A l.length l) :
  Calls Tryz.prog 9 #[.slice A l.length c] w fun e w' => e = .returned (.string ⟨(textT (l.map upN)).toArray⟩) ∧ Below w.heap.size w w' := by
 obtain ⟨k, hk⟩ := (show3_ev l hv).rounds
 exact r11_Show.calls k A c l _ w hC hc hk
def isD (c : UInt8) : Bool := decide (48 <= c.toNat) && decide (c.toNat <= 57)
theorem isD_iff (c : UInt8) : isD c = true ↔ 48 <= c.toNat ∧ c.toNat <= 57 := by simp [isD]
def valN : Nat -> List UInt8 -> Nat
 | n, [] => n
 | n, c :: r => valN (n * 10 + (c.toNat - 48)) r
theorem valN_append : ∀ (l : List UInt8) (n : Nat) (c : UInt8), valN n (l ++ [c]) = valN n l * 10 + (c.toNat - 48)
 | [], n, c => rfl
 | a :: r, n, c => valN_append r _ c
/-- A number's digits: so many at most, and no nought ahead. -/
def canonB (d : Nat) (l : List UInt8) : Bool := decide (1 <= l.length) && (decide (l.length <= d) && (!(decide (1 < l.length) && (l.head? == some 48)) && l.all isD))
theorem parse_digits : ∀ (l : List UInt8) (a : Nat), l.all isD = true -> a < 10000000000 -> (a + 1) * 10 ^ l.length <= 10000000000 -> Lib.parseUint10 a l = .ok (valN a l)
 | [], a, h, ha, hb => rfl
 | c :: r, a, h, ha, hb => by
  rw [List.all_cons, Bool.and_eq_true, isD_iff] at h
  have h1 : (a * 10 + (c.toNat - 48) + 1) <= (a + 1) * 10 := by omega
  have h2 : (a * 10 + (c.toNat - 48) + 1) * 10 ^ r.length <= (a + 1) * 10 * 10 ^ r.length := Nat.mul_le_mul_right _ h1
  rw [List.length_cons, Nat.pow_succ] at hb
  have h3 : (a + 1) * 10 * 10 ^ r.length = (a + 1) * (10 ^ r.length * 10) := by rw [Nat.mul_assoc, Nat.mul_comm 10]
  have h4 : 1 <= 10 ^ r.length := Nat.one_le_pow _ _ (by omega)
  have h5 : (a * 10 + (c.toNat - 48) + 1) * 1 <= (a * 10 + (c.toNat - 48) + 1) * 10 ^ r.length := Nat.mul_le_mul_left _ h4
  rw [Lib.parseUint10, if_pos h.1, if_neg (by omega), if_neg (by omega)]
  exact parse_digits r _ h.2 (by omega) (by omega)
theorem dec_val : ∀ (n : Nat) (l : List UInt8), l.length <= n -> l ≠ [] -> l.head? ≠ some 48 -> l.all isD = true -> Lib.decDigits (valN 0 l) = l ∧ 1 <= valN 0 l
 | 0, l, hn, h0, _, _ => absurd (List.eq_nil_of_length_eq_zero (by omega)) h0
 | n + 1, l, hn, h0, hh, hd => by
  obtain ⟨r, c, rfl⟩ : ∃ r c, l = r ++ [c] := ⟨l.dropLast, l.getLast h0, (List.dropLast_concat_getLast h0).symm⟩
  rw [List.all_append, Bool.and_eq_true] at hd
  have hc : 48 <= c.toNat ∧ c.toNat <= 57 := (isD_iff c).1 (by simpa using hd.2)
  have hch : UInt8.ofNat (48 + (c.toNat - 48)) = c := by
   rw [show 48 + (c.toNat - 48) = c.toNat by omega]
   exact UInt8.ofNat_toNat
  rw [valN_append]
  by_cases hr : r = []
  ·subst hr
   have hc48 : c ≠ 48 := fun e => hh (by rw [e]; rfl)
   have hc2 : c.toNat ≠ 48 := fun e => hc48 (UInt8.toNat_inj.1 (by rw [e]; rfl))
   show Lib.decDigits (0 * 10 + (c.toNat - 48)) = [c] ∧ 1 <= 0 * 10 + (c.toNat - 48)
   rw [Nat.zero_mul, Nat.zero_add, Lib.decDigits_one (by omega), hch]
   exact ⟨rfl, by omega⟩
  ·have hhr : r.head? ≠ some 48 := by
    cases r with
    | nil => exact absurd rfl hr
    | cons x t => exact hh
   obtain ⟨e1, e2⟩ := dec_val n r (by simp at hn; omega) hr hhr hd.1
   have hdd : Lib.decDigits (valN 0 r * 10 + (c.toNat - 48)) = Lib.decDigits (valN 0 r) ++ [c] := by
    rw [Lib.decDigits, dif_neg (by omega), show (valN 0 r * 10 + (c.toNat - 48)) / 10 = valN 0 r by omega, show (valN 0 r * 10 + (c.toNat - 48)) % 10 = c.toNat - 48 by omega, hch]
   rw [hdd, e1]
   exact ⟨rfl, by omega⟩
theorem dec_head : ∀ (n u : Nat), u <= n -> 1 <= u -> (Lib.decDigits u).head? ≠ some 48
 | 0, u, h, h1 => by omega
 | n + 1, u, h, h1 => by
  by_cases h10 : u < 10
  ·rw [Lib.decDigits_one h10]
   intro he
   have : UInt8.ofNat (48 + u) = 48 := by simpa using he
   have h2 := digit_nat u h10
   rw [this] at h2
   have : (48 : UInt8).toNat = 48 := rfl
   omega
  ·have ih := dec_head n (u / 10) (by omega) (by omega)
   have hne := dec_ne (u / 10)
   rw [Lib.decDigits, dif_neg h10]
   cases hl : Lib.decDigits (u / 10) with
   | nil => exact absurd hl hne
   | cons x t => rw [hl] at ih; exact ih
theorem pow_le (n : Nat) (h : n <= 10) : 10 ^ n <= 10000000000 := by
 have := Nat.pow_le_pow_right (show 0 < 10 by omega) h
 have e : (10 : Nat) ^ 10 = 10000000000 := rfl
 omega
theorem numV_canon (x : ByteArray) (d : Nat) (hd : d <= 10) : numV x d = if canonB d x.data.toList = true then some (valN 0 x.data.toList : Int) else none := by
 have hsz : x.size = x.data.toList.length := by simp
 by_cases hc : canonB d x.data.toList = true
 ·rw [if_pos hc]
  unfold canonB at hc
  simp only [Bool.and_eq_true, decide_eq_true_eq, Bool.not_eq_true', Bool.and_eq_false_iff, decide_eq_false_iff_not, beq_eq_false_iff_ne] at hc
  obtain ⟨h1, h2, h3, h4⟩ := hc
  have hp := parse_digits x.data.toList 0 h4 (by omega) (by rw [Nat.zero_add, Nat.one_mul]; exact pow_le _ (by omega))
  have hdec : Lib.decDigits (valN 0 x.data.toList) = x.data.toList := by
   by_cases hh : x.data.toList.head? = some 48
   ·have hl1 : x.data.toList.length = 1 := by
     rcases h3 with h3 | h3
     ·omega
     ·exact absurd hh h3
    generalize x.data.toList = l at *
    match l, hl1, hh with
    | [c], _, hh =>
     have : c = 48 := by simpa using hh
     subst this
     exact Lib.decDigits_one (by decide)
   ·exact (dec_val _ _ (Nat.le_refl _) (by intro e; rw [e] at h1; simp at h1) hh h4).1
  have hat : Lib.atoiAll x.data.toList = .ok (valN 0 x.data.toList : Int) := by
   cases hl : x.data.toList with
   | nil => rw [hl] at h1; simp at h1
   | cons c r =>
    rw [hl] at hp h4 hdec h2
    rw [List.all_cons, Bool.and_eq_true, isD_iff] at h4
    rw [Lib.atoiAll_plain c r (by omega) (by omega)]
    unfold Lib.parseMag
    rw [if_neg (by simp), hp]
    unfold Lib.signless
    dsimp only
    have hv : valN 0 (c :: r) < 10000000000 := by
     have hb : ∀ (l : List UInt8) (a : Nat), l.all isD = true -> valN a l < (a + 1) * 10 ^ l.length := by
      intro l
      induction l with
      | nil => intro a _; show a < (a + 1) * 10 ^ 0; omega
      | cons y t ih =>
       intro a h
       rw [List.all_cons, Bool.and_eq_true, isD_iff] at h
       have i1 := ih (a * 10 + (y.toNat - 48)) h.2
       have h1 : (a * 10 + (y.toNat - 48) + 1) <= (a + 1) * 10 := by omega
       have h2 := Nat.mul_le_mul_right (10 ^ t.length) h1
       rw [List.length_cons, Nat.pow_succ, Nat.mul_comm (10 ^ t.length), <- Nat.mul_assoc]
       exact Nat.lt_of_lt_of_le i1 h2
     have := hb (c :: r) 0 (by rw [List.all_cons, Bool.and_eq_true, isD_iff]; exact h4)
     rw [Nat.zero_add, Nat.one_mul] at this
     exact Nat.lt_of_lt_of_le this (pow_le _ (by omega))
    rw [if_neg (by omega)]
  have hback : (⟨(Lib.itoa (valN 0 x.data.toList : Int)).toArray⟩ : ByteArray) = x := by
   rw [itoa_dec _ (by omega), Int.toNat_natCast, hdec]
  unfold numV
  rw [hat]
  dsimp only
  rw [if_pos ⟨by omega, by omega, hback⟩]
 ·rw [if_neg hc]
  unfold numV
  cases hat : Lib.atoiAll x.data.toList with
  | ok v =>
   dsimp only
   rw [if_neg]
   rintro ⟨h0, h1, h2⟩
   apply hc
   have hl : x.data.toList = Lib.decDigits v.toNat := by
    rw [<- h2, ba_eq, itoa_dec v h0]
   have hdg := dec_digit v.toNat v.toNat (Nat.le_refl _)
   rw [<- hl] at hdg
   have hne : x.data.toList ≠ [] := by rw [hl]; exact dec_ne _
   have hpos : 1 <= x.data.toList.length := by
    cases hq : x.data.toList with
    | nil => exact absurd hq hne
    | cons a b => simp
   unfold canonB
   rw [Bool.and_eq_true, Bool.and_eq_true, Bool.and_eq_true]
   refine ⟨by rw [decide_eq_true_eq]; exact hpos, by rw [decide_eq_true_eq]; omega, ?_, by rw [List.all_eq_true]; exact fun c hc => (isD_iff c).2 (hdg c hc)⟩
   rw [Bool.not_eq_true', Bool.and_eq_false_iff, decide_eq_false_iff_not, beq_eq_false_iff_ne]
   by_cases hv : v.toNat = 0
   ·left
    rw [hl, hv, Lib.decDigits_one (by omega)]
    simp
   ·right
    rw [hl]
    exact dec_head _ _ (Nat.le_refl _) (by omega)
  | _ => rfl
/-! ### nums -/
theorem cut_ev (s : ByteArray) (c : UInt8) (hs : s.size <= 9223372036854775806) : Ev (fun k => r11_cut.f k s (c.toNat : Int)) (⟨(Lib.cut s.data.toList [c]).1.toArray⟩, ⟨(Lib.cut s.data.toList [c]).2.1.toArray⟩, (Lib.cut s.data.toList [c]).2.2) :=
 Ev.of (fun k => r11_cut.mono s c.toNat k) (k := s.size + 1) (cut_from s c hs s.size 0 (by omega) (by simp))
theorem cut_less (l : List UInt8) (c : UInt8) : (Lib.cut l [c]).1.length <= l.length ∧ ((Lib.cut l [c]).2.2 = true -> (Lib.cut l [c]).2.1.length < l.length) := by
 by_cases h : c ∈ l
 ·obtain ⟨a, b, e, hn⟩ := List.eq_append_cons_of_mem h
  rw [e, cut_at c a b hn]
  simp
  omega
 ·rw [cut_no c l h]
  simp
/-- Numbers between signs. -/
def numsG (c : UInt8) (d : Nat) : Nat -> ByteArray -> List Int -> List Int × Bool
 | 0, _, _ => ([], false)
 | f + 1, s, acc => match numV ⟨(Lib.cut s.data.toList [c]).1.toArray⟩ d with
  | none => ([], false)
  | some v => if (Lib.cut s.data.toList [c]).2.2 = true then numsG c d f ⟨(Lib.cut s.data.toList [c]).2.1.toArray⟩ (acc ++ [v]) else (acc ++ [v], true)
def numsR (s : ByteArray) (c : UInt8) (d : Nat) : List Int × Bool := numsG c d (s.size + 1) s []
theorem wrap_id (x : Int) (h : -9223372036854775808 <= x) (h2 : x < 9223372036854775808) : wrap64 x = x := by unfold wrap64; omega
theorem digit_step (n y : Nat) (hn : n < 10000000000) (h48 : 48 <= y) (h57 : y <= 57) : wrap64 (wrap64 ((n : Int) * 10) + (((y : Int) - 48) % 256)) = ((n * 10 + (y - 48) : Nat) : Int) := by
 have e1 : wrap64 ((n : Int) * 10) = (n : Int) * 10 := wrap_id _ (by omega) (by omega)
 have e2 : ((y : Int) - 48) % 256 = (y : Int) - 48 := by omega
 rw [e1, e2, wrap_id _ (by omega) (by omega)]
 omega
theorem step10 (n i e : Nat) (h : n < 10 ^ i) (he : e <= 9) : n * 10 + e < 10 ^ (i + 1) := by
 rw [Nat.pow_succ]
 generalize 10 ^ i = p at *
 omega
theorem nums_l1 (c d : Int) (acc : List Int) (x rest : ByteArray) (more : Bool) (T : Nat -> List Int × Bool) (hx : x.size <= 10)
  (hT : ∀ v : Nat, Ev (fun k => if acc.length < 17592186044416 then ((some (acc ++ [(v : Int)] : List Int)).bind fun y => if more = true then r11_nums.l0 k rest c d y else some (y, true)) else none) (T v)) :
  ∀ (m i n : Nat), i + m = x.size -> n < 10 ^ i -> Ev (fun k => r11_nums.l1 k c d acc x rest more (n : Int) (i : Int)) (if (x.data.toList.drop i).all isD = true then T (valN n (x.data.toList.drop i)) else ([], false))
 | 0, i, n, hi, hn => by
  have hl : x.data.toList.length = x.size := by simp
  rw [List.drop_eq_nil_of_le (by omega)]
  refine Ev.step (fun k => ?_) (hT n)
  simp only [r11_nums.l1]
  rw [if_neg (by omega)]
 | m + 1, i, n, hi, hn => by
  have hl : x.data.toList.length = x.size := by simp
  have hlt : i < x.data.toList.length := by omega
  have hb : bt x (i : Int) = (x.data.toList[i].toNat : Int) := by
   unfold bt
   rw [dif_pos (by rw [Int.toNat_natCast]; omega)]
   simp [ByteArray.getElem_eq_getElem_data]
  have hw : wrap64 ((i : Int) + 1) = ((i + 1 : Nat) : Int) := by unfold wrap64; omega
  rw [List.drop_eq_getElem_cons hlt, List.all_cons]
  generalize x.data.toList[i] = y at *
  have hnb : n < 10000000000 := Nat.lt_of_lt_of_le hn (pow_le i (by omega))
  have hstep := fun e (he : e <= 9) => step10 n i e hn he
  clear hn
  by_cases h48 : y.toNat < 48
  ·have : isD y = false := by rw [Bool.eq_false_iff, Ne, isD_iff]; omega
   rw [this, Bool.false_and, if_neg (by decide)]
   refine Ev.step (f := fun _ => some ([], false)) (fun k => ?_) (Ev.now _)
   simp only [r11_nums.l1]
   rw [if_pos (by omega), if_pos (by omega), hb, if_pos (by omega)]
  by_cases h57 : 57 < y.toNat
  ·have : isD y = false := by rw [Bool.eq_false_iff, Ne, isD_iff]; omega
   rw [this, Bool.false_and, if_neg (by decide)]
   refine Ev.step (f := fun _ => some ([], false)) (fun k => ?_) (Ev.now _)
   simp only [r11_nums.l1]
   rw [if_pos (by omega), if_pos (by omega), hb, if_neg (by omega), if_pos (by omega)]
  ·have : isD y = true := by rw [isD_iff]; omega
   rw [this, Bool.true_and]
   have hv : wrap64 (wrap64 ((n : Int) * 10) + (((y.toNat : Int) - 48) % 256)) = ((n * 10 + (y.toNat - 48) : Nat) : Int) := digit_step n y.toNat hnb (by omega) (by omega)
   have ih := nums_l1 c d acc x rest more T hx hT m (i + 1) (n * 10 + (y.toNat - 48)) (by omega) (hstep _ (by omega))
   clear hstep
   refine Ev.step (fun k => ?_) ih
   simp only [r11_nums.l1]
   rw [if_pos (by omega), if_pos (by omega), hb, if_neg (by omega), if_neg (by omega), hv, hw]
theorem nums_ev (c : UInt8) (d : Nat) (hd : d <= 10) : ∀ (f : Nat) (s : ByteArray) (acc : List Int), s.size < f -> acc.length + s.size <= 10000000 -> Ev (fun k => r11_nums.l0 k s (c.toNat : Int) (d : Int) acc) (numsG c d f s acc)
 | 0, s, acc, hf, _ => by omega
 | f + 1, s, acc, hf, ha => by
  have hls : s.data.toList.length = s.size := by simp
  have hless := cut_less s.data.toList c
  have hcut := cut_ev s c (by omega)
  unfold numsG
  generalize Lib.cut s.data.toList [c] = r at *
  obtain ⟨a, b, more⟩ := r
  dsimp only at *
  have hza := ba_size a
  have hzb := ba_size b
  have hnV := numV_canon ⟨a.toArray⟩ d hd
  rw [ba_eq] at hnV
  have hD : (⟨a.toArray⟩ : ByteArray).data.toList = a := ba_eq a
  -- what stands behind the test
  have hj : ∀ bad : Bool, bad = !(decide (1 <= a.length) && (decide (a.length <= d) && !(decide (1 < a.length) && (a.head? == some 48)))) -> Ev (fun k => r11_nums.j1 k (c.toNat : Int) (d : Int) acc ⟨a.toArray⟩ ⟨b.toArray⟩ more bad) (match numV ⟨a.toArray⟩ d with
    | none => ([], false)
    | some v => if more = true then numsG c d f ⟨b.toArray⟩ (acc ++ [v]) else (acc ++ [v], true)) := by
   intro bad hbad
   have hcan : canonB d a = (!bad && a.all isD) := by
    rw [hbad, Bool.not_not]
    unfold canonB
    simp only [Bool.and_assoc]
   rw [hnV, hcan]
   cases bad with
   | true =>
    rw [Bool.not_true, Bool.false_and, if_neg (by decide)]
    refine Ev.step (f := fun _ => some ([], false)) (fun k => ?_) (Ev.now _)
    simp only [r11_nums.j1, if_true]
   | false =>
    have h2 : a.length <= d := by
     have := hbad.symm
     simp only [Bool.not_eq_false', Bool.and_eq_true, decide_eq_true_eq] at this
     exact this.2.1
    have hl1 := nums_l1 (c.toNat : Int) (d : Int) acc ⟨a.toArray⟩ ⟨b.toArray⟩ more (fun v => if more = true then numsG c d f ⟨b.toArray⟩ (acc ++ [(v : Int)]) else (acc ++ [(v : Int)], true)) (by omega) (fun v => by
     refine Ev.pos (by omega) ?_
     cases more with
     | false => exact Ev.now _
     | true =>
      have := hless.2 rfl
      exact nums_ev c d hd f ⟨b.toArray⟩ (acc ++ [(v : Int)]) (by omega) (by rw [List.length_append]; simp; omega)) a.length 0 0 (by omega) (by decide)
    rw [List.drop_zero, hD] at hl1
    rw [Bool.not_false, Bool.true_and]
    have hl2 : Ev (fun k => r11_nums.j1 k (c.toNat : Int) (d : Int) acc ⟨a.toArray⟩ ⟨b.toArray⟩ more false) _ := Ev.step (fun k => by simp only [r11_nums.j1, Bool.false_eq_true, if_false]; rfl) hl1
    cases hall : a.all isD with
    | true => rw [hall, if_pos rfl] at hl2; rw [if_pos rfl]; exact hl2
    | false => rw [hall, if_neg (by decide)] at hl2; rw [if_neg (by decide)]; exact hl2
  refine Ev.step (fun k => r11_nums.l0.eq_2 ..) (Ev.bind (f := fun k v => _) hcut ?_)
  dsimp only
  by_cases h1 : ((⟨a.toArray⟩ : ByteArray).size : Int) < 1
  ·exact Ev.pos h1 (hj true (by rw [show decide (1 <= a.length) = false by rw [decide_eq_false_iff_not]; omega]; rfl))
  refine Ev.neg h1 ?_
  have e1 : decide (1 <= a.length) = true := by rw [decide_eq_true_iff]; omega
  by_cases h2 : ((⟨a.toArray⟩ : ByteArray).size : Int) > (d : Int)
  ·exact Ev.pos h2 (hj true (by rw [show decide (a.length <= d) = false by rw [decide_eq_false_iff_not]; omega, Bool.false_and, Bool.and_false]; rfl))
  refine Ev.neg h2 ?_
  have e2 : decide (a.length <= d) = true := by rw [decide_eq_true_iff]; omega
  by_cases h3 : ((⟨a.toArray⟩ : ByteArray).size : Int) > 1
  ·refine Ev.pos h3 (Ev.pos (by omega) (hj _ ?_))
   rw [e1, e2, show decide (1 < a.length) = true by rw [decide_eq_true_iff]; omega, Bool.true_and, Bool.true_and, Bool.true_and, Bool.not_not]
   cases a with
   | nil => exact absurd (show ((⟨#[]⟩ : ByteArray).size : Int) < 1 by decide) h1
   | cons y t =>
    have hb0 : bt (⟨(y :: t).toArray⟩ : ByteArray) 0 = (y.toNat : Int) := rfl
    rw [hb0]
    show ((y.toNat : Int) == 48) = (some y == some 48)
    by_cases hy : y = 48
    ·subst hy; rfl
    ·have : ¬ ((y.toNat : Int) = 48) := fun e => hy (UInt8.toNat_inj.1 (by show y.toNat = 48; omega))
     rw [beq_eq_false_iff_ne.2 this]
     symm
     rw [beq_eq_false_iff_ne]
     simpa using hy
  ·refine Ev.neg h3 (hj false ?_)
   rw [e1, e2, show decide (1 < a.length) = false by rw [decide_eq_false_iff_not]; omega]
   rfl
theorem nums2_any (s : ByteArray) (c : UInt8) (d : Nat) (hd : d <= 10) (hs : s.size <= 1000000) (w : World) :
  Calls Tryz.prog 23 #[.string s, .int .u8 (c.toNat : Int), .int .i64 d] w fun e w' => ∃ v : Value, e = .returned (.tuple #[v, .bool (numsR s c d).2]) ∧ Kd.R (Kd.int .i64) 3 w' w.heap.size (fun _ => True) v (numsR s c d).1 ∧ Below w.heap.size w w' := by
 obtain ⟨k, hk⟩ := (nums_ev c d hd (s.size + 1) s [] (by omega) (by simp; omega)).rounds
 exact r11_nums.calls k s (c.toNat : Int) (d : Int) (numsR s c d).1 (numsR s c d).2 w hk
end Go.Proofs.YtamfloegflejnaaGreatDoor
