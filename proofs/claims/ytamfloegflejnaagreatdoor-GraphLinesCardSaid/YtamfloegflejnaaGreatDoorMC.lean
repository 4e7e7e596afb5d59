/-
  What the law's pipe makes of the document's nodes.
-/
import Derived.Test.YtamfloegflejnaaGreatDoorMB
set_option linter.unusedVariables false
set_option linter.unusedSimpArgs false
namespace Go.Proofs.YtamfloegflejnaaGreatDoor
open Go.RowKit Go.Proofs.YtamfloegflejnaaGreatDoorW.PrintWords Go.Proofs.YtamfloegflejnaaGreatDoorW.PrintLast Go.Proofs.YtamfloegflejnaaGreatDoorW.PrintMore PGraphLines

mutual
def upT : S37 → S59
  | ⟨k, l⟩ => ⟨k, upL l⟩
def upL : List S37 → List S59
  | [] => []
  | a :: r => upT a :: upL r
end
theorem upT_eq (t : S37) : upT t = ⟨t.f0, upL t.f1⟩ := by cases t; rfl
def upN (n : S43) : S63 := ⟨n.f0, n.f1, n.f2, n.f3, upT n.f4, ⟨n.f5.f0, n.f5.f1, n.f5.f2, n.f5.f3⟩, ⟨n.f6.f0, n.f6.f1, n.f6.f2, n.f6.f3⟩⟩
theorem upL_len (l : List S37) : (upL l).length = l.length := by
  induction l with
  | nil => rfl
  | cons a r ih => simp [upL, ih]

theorem flatF_len {d : Nat} {t : S37} {l : Int} (hl : 0 ≤ l) (h : (flatF d t l).1 = true) : (t.f1.length : Int) ≤ l := by
  cases d with
  | zero => cases h
  | succ d =>
    unfold flatF at h
    split at h
    · cases h
    · have := (flatL_bd (flatF d) (flatF_bd d) t.f1 (l - 1) (by omega)).2.2 h
      omega

theorem typ_loop (d : Nat) (IH : ∀ (t : S37) (l : Int), 0 ≤ l → l ≤ 5000 → (flatF d t l).1 = true → Ev (fun k => watershedlaw11_typ.f k t.f0 t.f1) (t.f0, upL t.f1)) (kd : Int) (xs : List S37) (hx : xs.length ≤ 5000) :
    ∀ (n i : Nat) (acc : List S59) (q : Int), i + n = xs.length → acc.length = i → 0 ≤ q → q ≤ 5000 → (flatL (flatF d) (xs.drop i) q).1 = true → Ev (fun k => watershedlaw11_typ.l0 k acc xs (xs.length : Int) (i : Int) kd xs) (kd, acc ++ upL (xs.drop i))
  | 0, i, acc, q, hi, ha, h0, h5, hf => by
    rw [List.drop_eq_nil_of_le (by omega)]
    refine Ev.step (f := fun _ => some (kd, acc ++ upL [])) (fun k => ?_) (Ev.now _)
    simp only [watershedlaw11_typ.l0]
    rw [if_neg (by omega)]
    simp [upL]
  | n + 1, i, acc, q, hi, ha, h0, h5, hf => by
    have hlt : i < xs.length := by omega
    have hrd : rd_T37 xs (i : Int) = xs[i] := by simp [rd_T37, List.getD, List.getElem?_eq_getElem hlt]
    rw [List.drop_eq_getElem_cons hlt] at hf ⊢
    have hb := flatF_bd d xs[i] q h0
    unfold flatL at hf
    by_cases hbt : (flatF d xs[i] q).1 = true
    · rw [if_pos hbt] at hf
      have hw : wrap64 ((i : Int) + 1) = ((i + 1 : Nat) : Int) := by unfold wrap64; omega
      have ih := typ_loop d IH kd xs hx n (i + 1) (acc ++ [(⟨xs[i].f0, upL xs[i].f1⟩ : S59)]) (flatF d xs[i] q).2 (by omega) (by rw [List.length_append, ha]; rfl) (hb.2.2 hbt) (by omega) hf
      refine Ev.step (f := fun k => (watershedlaw11_typ.f k xs[i].f0 xs[i].f1).bind fun bt => if acc.length < 4398046511104 then watershedlaw11_typ.l0 k (acc ++ [(⟨bt.1, bt.2⟩ : S59)]) xs (xs.length : Int) ((i + 1 : Nat) : Int) kd xs else none) (fun k => ?_) ?_
      · simp only [watershedlaw11_typ.l0]
        rw [if_pos (by omega), if_pos (by omega), if_pos (by omega), hrd, hw]
      · refine Ev.bind (f := fun k (bt : Int × List S59) => if acc.length < 4398046511104 then watershedlaw11_typ.l0 k (acc ++ [(⟨bt.1, bt.2⟩ : S59)]) xs (xs.length : Int) ((i + 1 : Nat) : Int) kd xs else none) (IH xs[i] q h0 h5 hbt) ?_
        have : upL (xs[i] :: xs.drop (i + 1)) = ⟨xs[i].f0, upL xs[i].f1⟩ :: upL (xs.drop (i + 1)) := by rw [upL, upT_eq]
        rw [this]
        refine Ev.congr (f := fun k => watershedlaw11_typ.l0 k (acc ++ [(⟨xs[i].f0, upL xs[i].f1⟩ : S59)]) xs (xs.length : Int) ((i + 1 : Nat) : Int) kd xs) (fun k => by rw [if_pos (by omega)]) ?_
        rw [List.append_assoc] at ih
        exact ih
    · rw [if_neg hbt] at hf
      cases hf
theorem typ_ev : ∀ (d : Nat) (t : S37) (l : Int), 0 ≤ l → l ≤ 5000 → (flatF d t l).1 = true → Ev (fun k => watershedlaw11_typ.f k t.f0 t.f1) (t.f0, upL t.f1)
  | 0, t, l, h0, h5, h => by cases h
  | d + 1, t, l, h0, h5, h => by
    have hlen := flatF_len h0 h
    unfold flatF at h
    split at h
    · cases h
    · have := typ_loop d (typ_ev d) t.f0 t.f1 (by omega) t.f1.length 0 [] (l - 1) (by omega) rfl (by omega) (by omega) (by rw [List.drop_zero]; exact h)
      rw [List.drop_zero, List.nil_append] at this
      exact Ev.step (fun k => rfl) this

theorem pipe_loop (l : List S43) (hx : l.length ≤ 100) :
    ∀ (n i : Nat) (acc : List S63) (q : Int), i + n = l.length → acc.length = i → 0 ≤ q → q ≤ 5000 → smallL (l.drop i) q = true → Ev (fun k => watershedlaw11_pipe.l0 k l (l.length : Int) (i : Int) acc) (acc ++ (l.drop i).map upN)
  | 0, i, acc, q, hi, ha, h0, h5, hf => by
    rw [List.drop_eq_nil_of_le (by omega)]
    refine Ev.step (f := fun _ => some (acc ++ List.map upN [])) (fun k => ?_) (Ev.now _)
    simp only [watershedlaw11_pipe.l0]
    rw [if_neg (by omega)]
    simp
  | n + 1, i, acc, q, hi, ha, h0, h5, hf => by
    have hlt : i < l.length := by omega
    have hrd : rd_T43 l (i : Int) = l[i] := by simp [rd_T43, List.getD, List.getElem?_eq_getElem hlt]
    rw [List.drop_eq_getElem_cons hlt] at hf ⊢
    have hb := flatF_bd 30 l[i].f4 q h0
    unfold smallL at hf
    by_cases hbt : l[i].f1.length ≤ 100 ∧ l[i].f2.length ≤ 100 ∧ l[i].f3.size ≤ 5000 ∧ (flatF 30 l[i].f4 q).1 = true
    · rw [if_pos hbt] at hf
      have hw : wrap64 ((i : Int) + 1) = ((i + 1 : Nat) : Int) := by unfold wrap64; omega
      have ih := pipe_loop l hx n (i + 1) (acc ++ [upN l[i]]) (flatF 30 l[i].f4 q).2 (by omega) (by rw [List.length_append, ha]; rfl) (hb.2.2 hbt.2.2.2) (by omega) hf
      refine Ev.step (f := fun k => (watershedlaw11_typ.f k l[i].f4.f0 l[i].f4.f1).bind fun bt => if acc.length < 837723144972 then watershedlaw11_pipe.l0 k l (l.length : Int) ((i + 1 : Nat) : Int) (acc ++ [(⟨l[i].f0, [] ++ l[i].f1, [] ++ l[i].f2, l[i].f3, ⟨bt.1, bt.2⟩, ⟨l[i].f5.f0, l[i].f5.f1, l[i].f5.f2, l[i].f5.f3⟩, ⟨l[i].f6.f0, l[i].f6.f1, l[i].f6.f2, l[i].f6.f3⟩⟩ : S63)]) else none) (fun k => ?_) ?_
      · simp only [watershedlaw11_pipe.l0, Option.bind_some, hrd, hw]
        rw [if_pos (by omega), if_pos (by omega), if_pos (by omega), if_pos (by have := hbt.1; simp; omega), if_pos (by have := hbt.2.1; simp; omega)]
      · refine Ev.bind (f := fun k (bt : Int × List S59) => if acc.length < 837723144972 then watershedlaw11_pipe.l0 k l (l.length : Int) ((i + 1 : Nat) : Int) (acc ++ [(⟨l[i].f0, [] ++ l[i].f1, [] ++ l[i].f2, l[i].f3, ⟨bt.1, bt.2⟩, ⟨l[i].f5.f0, l[i].f5.f1, l[i].f5.f2, l[i].f5.f3⟩, ⟨l[i].f6.f0, l[i].f6.f1, l[i].f6.f2, l[i].f6.f3⟩⟩ : S63)]) else none) (typ_ev 30 l[i].f4 q h0 h5 hbt.2.2.2) ?_
        refine Ev.congr (f := fun k => watershedlaw11_pipe.l0 k l (l.length : Int) ((i + 1 : Nat) : Int) (acc ++ [upN l[i]])) (fun k => by
          rw [if_pos (by omega)]
          have : upN l[i] = (⟨l[i].f0, [] ++ l[i].f1, [] ++ l[i].f2, l[i].f3, ⟨l[i].f4.f0, upL l[i].f4.f1⟩, ⟨l[i].f5.f0, l[i].f5.f1, l[i].f5.f2, l[i].f5.f3⟩, ⟨l[i].f6.f0, l[i].f6.f1, l[i].f6.f2, l[i].f6.f3⟩⟩ : S63) := by
            unfold upN; rw [upT_eq]; rfl
          rw [this]) ?_
        rw [List.append_assoc] at ih
        exact ih
    · rw [if_neg hbt] at hf
      cases hf

/-- pipe, of nodes that may be gone through. -/
theorem pipe_any (l : List S43) (A : Option Addr) (c : Nat) (w : World) (hs : smallB l = true) (hc : l.length ≤ c) (hC : k43.C w A l.length l) :
    Calls Tryz.prog 12 #[.slice A l.length c] w fun e w' => ∃ v : Value, e = .returned (.agg #[v]) ∧ Kd.R k63 63 w' w.heap.size (fun _ => True) v (l.map upN) ∧ Below w.heap.size w w' := by
  unfold smallB at hs
  split at hs
  · rename_i hl
    have h := pipe_loop l hl l.length 0 [] 5000 (by omega) rfl (by omega) (by omega) (by rw [List.drop_zero]; exact hs)
    rw [List.drop_zero, List.nil_append] at h
    obtain ⟨k, hk⟩ := Ev.rounds h
    exact watershedlaw11_pipe.calls k A c l _ w hC hc hk
  · cases hs
theorem smallL_take : ∀ (l : List S43) (k : Nat) (q : Int), smallL l q = true → smallL (l.take k) q = true
  | [], k, q, h => by rw [List.take_nil]; rfl
  | n :: r, 0, q, h => rfl
  | n :: r, k + 1, q, h => by
    unfold smallL at h
    split at h
    · rename_i hc
      rw [List.take_succ_cons]
      unfold smallL
      rw [if_pos hc]
      exact smallL_take r k _ h
    · cases h
theorem smallB_take {l : List S43} (k : Nat) (h : smallB l = true) : smallB (l.take k) = true := by
  unfold smallB at h ⊢
  split at h
  · rw [if_pos (by rw [List.length_take]; omega)]
    exact smallL_take l k _ h
  · cases h
theorem smallL_mem : ∀ (l : List S43) (q : Int), smallL l q = true → ∀ n ∈ l, n.f1.length ≤ 100 ∧ n.f2.length ≤ 100 ∧ n.f3.size ≤ 5000
  | [], q, h, n, hn => by cases hn
  | m :: r, q, h, n, hn => by
    unfold smallL at h
    split at h
    · rename_i hc
      rcases List.mem_cons.1 hn with rfl | hn
      · exact ⟨hc.1, hc.2.1, hc.2.2.1⟩
      · exact smallL_mem r _ h n hn
    · cases h
theorem smallB_mem {l : List S43} (h : smallB l = true) : l.length ≤ 100 ∧ ∀ n ∈ l, n.f1.length ≤ 100 ∧ n.f2.length ≤ 100 ∧ n.f3.size ≤ 5000 := by
  unfold smallB at h
  split at h
  · rename_i hl
    exact ⟨hl, smallL_mem l _ h⟩
  · cases h

end Go.Proofs.YtamfloegflejnaaGreatDoor
