/-
  Plain: a type that is told is read back.
-/
import Derived.Test.YtamfloegflejnaaGreatDoorMD
set_option linter.unusedVariables false
set_option linter.unusedSimpArgs false
namespace Go.Proofs.YtamfloegflejnaaGreatDoor
open Go.RowKit Go.Proofs.YtamfloegflejnaaGreatDoorW.PrintWords Go.Proofs.YtamfloegflejnaaGreatDoorW.PrintLast Go.Proofs.YtamfloegflejnaaGreatDoorW.PrintMore PGraphLines

theorem drop_cons {s : ByteArray} {q : Nat} {c : UInt8} {l : List UInt8} (h : s.data.toList.drop q = c :: l) : q < s.size ∧ bt s (q : Int) = (c.toNat : Int) ∧ s.data.toList.drop (q + 1) = l := by
  have hlen : s.data.toList.length = s.size := by simp
  have hq : q < s.data.toList.length := by
    rcases Nat.lt_or_ge q s.data.toList.length with h' | h'
    · exact h'
    · rw [List.drop_eq_nil_of_le h'] at h; cases h
  rw [List.drop_eq_getElem_cons hq] at h
  injection h with h1 h2
  refine ⟨by omega, ?_, h2⟩
  unfold bt
  rw [dif_pos (by rw [Int.toNat_natCast]; omega)]
  rw [← h1]
  simp
  rfl
/-- The search of a word over letters that are known. -/
def wordP : Nat → List S135 → Nat → List UInt8 → Option (S135 × Nat)
  | 0, _, _, _ => none
  | f + 1, ws, n, l => match ws.find? (fun x => x.f1.size == n) with
    | some x => some (x, n)
    | none => match l[n]? with
      | none => none
      | some c => if 0 < (ws.filter fun x => bt x.f1 (n : Int) == (c.toNat : Int)).length then wordP f (ws.filter fun x => bt x.f1 (n : Int) == (c.toNat : Int)) (n + 1) l else none
theorem wordP_F : ∀ (f : Nat) (ws : List S135) (n : Nat) (l post : List UInt8) (s : ByteArray) (q : Nat) (x : S135) (m : Nat), s.data.toList.drop q = l ++ post → wordP f ws n l = some (x, m) → wordF f ws n s (q + n) = (some x, q + m)
  | 0, ws, n, l, post, s, q, x, m, hd, h => by cases h
  | f + 1, ws, n, l, post, s, q, x, m, hd, h => by
    unfold wordP at h
    unfold wordF
    cases hf : ws.find? (fun x => x.f1.size == n) with
    | some y =>
      rw [hf] at h
      dsimp only at h ⊢
      injection h with h
      injection h with h1 h2
      rw [h1, h2]
    | none =>
      rw [hf] at h
      dsimp only at h ⊢
      cases hc : l[n]? with
      | none => rw [hc] at h; cases h
      | some c =>
        rw [hc] at h
        dsimp only at h
        split at h
        · rename_i hp
          have hn : n < l.length := (List.getElem?_eq_some_iff.1 hc).1
          have hl : s.data.toList.drop (q + n) = c :: (l.drop (n + 1) ++ post) := by
            rw [← List.drop_drop, hd, List.drop_append_of_le_length (by omega), List.drop_eq_getElem_cons hn]
            rw [List.getElem?_eq_getElem hn] at hc
            injection hc with hc
            rw [hc]; rfl
          obtain ⟨hq, hb, _⟩ := drop_cons hl
          have hfil : (ws.filter fun x => !offB s n (q + n) x) = ws.filter fun x => bt x.f1 (n : Int) == (c.toNat : Int) := by
            apply List.filter_congr
            intro y hy
            unfold offB
            rw [hb]
            simp [bne]
          rw [hfil, if_pos ⟨hq, hp⟩]
          exact wordP_F f _ (n + 1) l post s q x m hd h
        · cases h
def wordN (k : Nat) : S135 := ⟨wK k, ⟨(wT k).toArray⟩, wA k⟩
theorem may_one : mayS 1 = wordS.filter fun x => !deepB 1 x := rfl
theorem may_deep (depth : Int) (h : depth ≠ 1) : mayS depth = wordS := by
  unfold mayS
  apply List.filter_eq_self.2
  intro x hx
  unfold deepB
  have : (depth == 1) = false := by rw [beq_eq_false_iff_ne]; exact h
  rw [this]; simp
theorem wordP_deep (k : Nat) (h : k < 8) : wordP 8 wordS 0 (wT k) = some (wordN k, (wT k).length) := by
  match k, h with
  | 0, _ => rfl
  | 1, _ => rfl
  | 2, _ => rfl
  | 3, _ => rfl
  | 4, _ => rfl
  | 5, _ => rfl
  | 6, _ => rfl
  | 7, _ => rfl
theorem wordP_one (k : Nat) (h : k < 8) (ha : wA k = 0) : wordP 8 (mayS 1) 0 (wT k) = some (wordN k, (wT k).length) := by
  match k, h with
  | 0, _ => rfl
  | 1, _ => rfl
  | 2, _ => rfl
  | 3, _ => rfl
  | 4, _ => rfl
  | 5, _ => exact absurd ha (by decide)
  | 6, _ => exact absurd ha (by decide)
  | 7, _ => exact absurd ha (by decide)
theorem wordV_at (k : Nat) (h : k < 8) (depth : Int) (hd : 0 < wA k → depth ≠ 1) (s : ByteArray) (q : Nat) (post : List UInt8) (hs : s.data.toList.drop q = wT k ++ post) : wordV depth s q = (some (wordN k), q + (wT k).length) := by
  unfold wordV
  have key : wordP 8 (mayS depth) 0 (wT k) = some (wordN k, (wT k).length) := by
    by_cases h1 : depth = 1
    · subst h1
      have h0 : 0 ≤ wA k := by
        match k, h with
        | 0, _ => decide
        | 1, _ => decide
        | 2, _ => decide
        | 3, _ => decide
        | 4, _ => decide
        | 5, _ => decide
        | 6, _ => decide
        | 7, _ => decide
      exact wordP_one k h (by
        rcases Int.lt_or_le 0 (wA k) with h' | h'
        · exact absurd rfl (hd h')
        · omega)
    · rw [may_deep depth h1]
      exact wordP_deep k h
  exact wordP_F 8 (mayS depth) 0 (wT k) post s q (wordN k) _ hs key
theorem args_show (d : Nat) (IH : ∀ (t : S59) (s : ByteArray) (q : Nat) (post : List UInt8), rightT d t = true → s.data.toList.drop q = showT d t ++ post → readF d s q = (some t, q + (showT d t).length)) :
    ∀ (xs : List S59) (i : Nat) (s : ByteArray) (q : Nat) (post : List UInt8), (∀ x ∈ xs, rightT d x = true) → s.data.toList.drop q = argsT (showT d) i xs ++ post → argsF (readF d) xs.length i s q = (some xs, q + (argsT (showT d) i xs).length)
  | [], i, s, q, post, hr, hs => by simp [argsF, argsT]
  | a :: r, i, s, q, post, hr, hs => by
    simp only [argsT, List.cons_append, List.append_assoc] at hs
    obtain ⟨h1, h2, h3⟩ := drop_cons hs
    have hsg : signB s q (sepT i) = true := by
      unfold signB
      rw [h2]
      simp [h1]
    have ha := IH a s (q + 1) _ (hr a (by simp)) h3
    have h4 : s.data.toList.drop (q + 1 + (showT d a).length) = argsT (showT d) (i + 1) r ++ post := by
      rw [← List.drop_drop, h3]
      simp
    have hb := args_show d IH r (i + 1) s _ post (fun x hx => hr x (by simp [hx])) h4
    show argsF (readF d) (r.length + 1) i s q = _
    unfold argsF
    rw [if_pos hsg, ha]
    dsimp only
    rw [hb]
    dsimp only
    simp only [argsT, List.length_cons, List.length_append]
    congr 1
    omega
/-- A right type is read from its text. -/
theorem read_show : ∀ (d : Nat) (t : S59) (s : ByteArray) (q : Nat) (post : List UInt8), rightT d t = true → s.data.toList.drop q = showT d t ++ post → readF d s q = (some t, q + (showT d t).length)
  | 0, t, s, q, post, hr, hs => by cases hr
  | d + 1, t, s, q, post, hr, hs => by
    obtain ⟨⟨k, hk, hkd, hw, hn⟩, hall, hle⟩ := right_parts hr
    have hsh : showT (d + 1) t = wT k ++ (argsT (showT d) 0 t.f1 ++ (if t.f1.length = 0 then [] else [41])) := by
      unfold showT
      rw [hw, List.append_assoc]
    rw [hsh, List.append_assoc, List.append_assoc] at hs
    have hdp : 0 < wA k → ((d : Int) + 1) ≠ 1 := by
      intro hp he
      have hd0 : d = 0 := by omega
      subst hd0
      cases hx : t.f1 with
      | nil => rw [hx] at hn; simp at hn; omega
      | cons x r =>
        have := hall x (by rw [hx]; simp)
        cases this
    have hwv := wordV_at k hk ((d : Int) + 1) hdp s q _ hs
    have h4 : s.data.toList.drop (q + (wT k).length) = argsT (showT d) 0 t.f1 ++ ((if t.f1.length = 0 then [] else [41]) ++ post) := by
      rw [← List.drop_drop, hs]
      simp
    have hargs := args_show d (fun t s q post => read_show d t s q post) t.f1 0 s _ _ hall h4
    have hN : (wordN k).f2.toNat = t.f1.length := by
      show (wA k).toNat = _
      omega
    unfold readF
    rw [hwv]
    dsimp only
    rw [hN, hargs]
    dsimp only
    rw [hsh]
    have het : t = ⟨wK k, t.f1⟩ := by rw [← hkd]; exact (eta59 t).symm
    by_cases h0 : t.f1.length = 0
    · rw [if_pos (show (wordN k).f2 = 0 from by show wA k = 0; omega), if_pos h0, List.append_nil]
      rw [List.length_append]
      refine Prod.ext ?_ ?_
      · show some (⟨wK k, t.f1⟩ : S59) = some t
        rw [← het]
      · show q + (wT k).length + (argsT (showT d) 0 t.f1).length = _
        omega
    · have h5 : s.data.toList.drop (q + (wT k).length + (argsT (showT d) 0 t.f1).length) = 41 :: post := by
        rw [← List.drop_drop, h4, if_neg h0]
        simp
      obtain ⟨h6, h7, _⟩ := drop_cons h5
      have hsg : signB s (q + (wT k).length + (argsT (showT d) 0 t.f1).length) 41 = true := by
        unfold signB
        rw [h7]
        simp [h6]
      rw [if_neg (show ¬ (wordN k).f2 = 0 from by show ¬ wA k = 0; omega), if_pos hsg, if_neg h0]
      refine Prod.ext ?_ ?_
      · show some (⟨wK k, t.f1⟩ : S59) = some t
        rw [← het]
      · show q + (wT k).length + (argsT (showT d) 0 t.f1).length + 1 = _
        rw [List.length_append, List.length_append]
        simp
        omega
theorem parseV_T (t : S59) (h : rightT 6 t = true) : parseV ⟨(showT 6 t).toArray⟩ = some t := by
  have hr := read_show 6 t ⟨(showT 6 t).toArray⟩ 0 [] h (by simp)
  unfold parseV
  rw [hr, if_neg]
  show ¬ 0 + (showT 6 t).length < (showT 6 t).length
  omega

end Go.Proofs.YtamfloegflejnaaGreatDoor
