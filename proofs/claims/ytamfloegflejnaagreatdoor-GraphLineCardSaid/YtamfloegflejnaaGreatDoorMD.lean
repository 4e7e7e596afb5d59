/-
 Plain: how lines, numbers and places that are told are read back.
 Plain: a type that is told is read back.
 Plain: a right node's line is read back as the node.
-/
import Derived.Test.YtamfloegflejnaaGreatDoorMA
import Derived.Lib.AtoiAllCases
import Derived.Lib.IndexBytes
import Derived.Lib.PathFns
import Derived.Lib.CutLaws
set_option linter.unusedVariables false
set_option linter.unusedSimpArgs false
namespace Go.Proofs.YtamfloegflejnaaGreatDoor
open Go.RowKit Go.Proofs.YtamfloegflejnaaGreatDoorW.PrintWords Go.Proofs.YtamfloegflejnaaGreatDoorW.PrintLast Go.Proofs.YtamfloegflejnaaGreatDoorW.PrintMore PGraphLines
/-! ### Cuts -/
theorem index_at (c : UInt8) : ∀ (a b : List UInt8), c ∉ a -> Lib.indexByte (a ++ c :: b) c = a.length
 | [], b, h => by simp [Lib.indexByte]
 | x :: r, b, h => by
  have hx : ¬ x = c := fun e => h (by rw [e]; simp)
  have ih := index_at c r b (fun e => h (by simp [e]))
  simp only [List.cons_append, Lib.indexByte, ih]
  rw [if_neg (by simpa using hx), if_neg (by simp)]
  simp
theorem index_no (c : UInt8) : ∀ (a : List UInt8), c ∉ a -> Lib.indexByte a c = -1
 | [], h => rfl
 | x :: r, h => by
  have hx : ¬ x = c := fun e => h (by rw [e]; simp)
  have ih := index_no c r (fun e => h (by simp [e]))
  simp only [Lib.indexByte, ih]
  rw [if_neg (by simpa using hx)]
  rfl
theorem cut_at (c : UInt8) (a b : List UInt8) (h : c ∉ a) : Lib.cut (a ++ c :: b) [c] = (a, b, true) := by
 unfold Lib.cut
 rw [Lib.index_one, index_at c a b h, if_pos (by omega), Int.toNat_natCast]
 simp
theorem cut_no (c : UInt8) (a : List UInt8) (h : c ∉ a) : Lib.cut a [c] = (a, [], false) := by
 unfold Lib.cut
 rw [Lib.index_one, index_no c a h]
 rfl
theorem cutS_at {s : ByteArray} {a b : List UInt8} (hs : s = ⟨(a ++ 32 :: b).toArray⟩) (h : 32 ∉ a) : hdS s = ⟨a.toArray⟩ ∧ tlS s = ⟨b.toArray⟩ ∧ okS s = true ∧ howL s = a := by
 subst hs
 have : cutS ⟨(a ++ 32 :: b).toArray⟩ = (a, b, true) := by unfold cutS; exact cut_at 32 a b h
 unfold hdS tlS okS howL
 rw [this]
 exact ⟨rfl, rfl, rfl, rfl⟩
theorem cutN_at {s : ByteArray} {a b : List UInt8} (hs : s = ⟨(a ++ 10 :: b).toArray⟩) (h : 10 ∉ a) : lnS s = ⟨a.toArray⟩ ∧ nxS s = ⟨b.toArray⟩ ∧ (cutN s).2.2 = true := by
 subst hs
 have : cutN ⟨(a ++ 10 :: b).toArray⟩ = (a, b, true) := by unfold cutN; exact cut_at 10 a b h
 unfold lnS nxS
 rw [this]
 exact ⟨rfl, rfl, rfl⟩
/-! ### Joins -/
theorem join2 (x y : List UInt8) (r : List (List UInt8)) (c : UInt8) : Lib.join (x :: y :: r) [c] = x ++ c :: Lib.join (y :: r) [c] := by
 simp [Lib.join, List.intercalate, List.intersperse]
theorem ba_eq (l : List UInt8) : (⟨l.toArray⟩ : ByteArray).data.toList = l := by simp
theorem indexB_at (c : UInt8) (a b : List UInt8) (h : c ∉ a) : Lib.indexB ⟨(a ++ c :: b).toArray⟩ ⟨#[c]⟩ = (a.length : Nat) := by
 show Lib.index (⟨(a ++ c :: b).toArray⟩ : ByteArray).data.toList (⟨#[c]⟩ : ByteArray).data.toList = _
 rw [ba_eq]
 show Lib.index _ [c] = _
 rw [Lib.index_one, index_at c a b h]
theorem indexB_no (c : UInt8) (a : List UInt8) (h : c ∉ a) : Lib.indexB ⟨a.toArray⟩ ⟨#[c]⟩ = -1 := by
 show Lib.index (⟨a.toArray⟩ : ByteArray).data.toList (⟨#[c]⟩ : ByteArray).data.toList = _
 rw [ba_eq]
 show Lib.index _ [c] = _
 rw [Lib.index_one, index_no c a h]
theorem ext_front (a b : List UInt8) (c : UInt8) : (⟨(a ++ c :: b).toArray⟩ : ByteArray).extract 0 (a.length + 0) = ⟨a.toArray⟩ := by
 apply ByteArray.ext
 simp [ByteArray.data_extract]
theorem ext_back (a b : List UInt8) (c : UInt8) (n : Nat) (hn : n = (⟨(a ++ c :: b).toArray⟩ : ByteArray).size) : (⟨(a ++ c :: b).toArray⟩ : ByteArray).extract (a.length + 1) n = ⟨b.toArray⟩ := by
 subst hn
 rw [Lib.extract_from, ba_eq]
 simp
/-- What was joined falls into its parts. -/
theorem pieces_join : ∀ (x : List UInt8) (r : List (List UInt8)), (∀ y ∈ x :: r, (44 : UInt8) ∉ y) -> piecesS ⟨(Lib.join (x :: r) [44]).toArray⟩ = (x :: r).map fun y => ⟨y.toArray⟩
 | x, [], h => by
  have hx := h x (by simp)
  unfold piecesS
  rw [Lib.join_one, Lib.countB_miss _ _ (indexB_no 44 x hx), Lib.splitB_zero]
  rfl
 | x, y :: r, h => by
  have hx := h x (by simp)
  have ih := pieces_join y r (fun z hz => h z (by simp [hz]))
  unfold piecesS at ih ⊢
  rw [join2]
  have hi := indexB_at 44 x (Lib.join (y :: r) [44]) hx
  have hs1 : (⟨#[44]⟩ : ByteArray).size = 1 := rfl
  rw [Lib.countB_hit _ _ x.length (by decide) hi, Nat.add_comm, Lib.splitB_hit _ _ _ _ x.length hi, ext_front, hs1, ext_back x (Lib.join (y :: r) [44]) 44 _ rfl, ih]
  rfl
/-! ### Digits -/
theorem digit_nat (d : Nat) (h : d < 10) : (UInt8.ofNat (48 + d)).toNat = 48 + d := by
 rw [UInt8.toNat_ofNat']
 omega
theorem parse_dec : ∀ (n u : Nat) (r : List UInt8), u <= n -> u < 1000000000000 -> Lib.parseUint10 0 (Lib.decDigits u ++ r) = Lib.parseUint10 u r := by
 intro n
 induction n with
 | zero =>
  intro u r hu _
  obtain rfl : u = 0 := by omega
  rw [Lib.decDigits_one (by omega)]
  rfl
 | succ n ih =>
  intro u r hu hb
  by_cases h10 : u < 10
  ·rw [Lib.decDigits_one h10]
   have hd := digit_nat u h10
   show Lib.parseUint10 0 (UInt8.ofNat (48 + u) :: r) = _
   rw [Lib.parseUint10, hd, if_pos (by omega), if_neg (by omega), if_neg (by omega)]
   congr 1
   omega
  ·rw [Lib.decDigits, dif_neg h10, List.append_assoc, ih (u / 10) _ (by omega) (by omega)]
   have hd := digit_nat (u % 10) (by omega)
   show Lib.parseUint10 (u / 10) (UInt8.ofNat (48 + u % 10) :: r) = _
   rw [Lib.parseUint10, hd, if_pos (by omega), if_neg (by omega), if_neg (by omega)]
   congr 1
   omega
theorem dec_digit : ∀ (n u : Nat), u <= n -> ∀ c ∈ Lib.decDigits u, 48 <= c.toNat ∧ c.toNat <= 57 := by
 intro n
 induction n with
 | zero =>
  intro u hu c hc
  obtain rfl : u = 0 := by omega
  rw [Lib.decDigits_one (by omega)] at hc
  rw [List.mem_singleton.1 hc]
  decide
 | succ n ih =>
  intro u hu c hc
  by_cases h10 : u < 10
  ·rw [Lib.decDigits_one h10] at hc
   rw [List.mem_singleton.1 hc, digit_nat u h10]
   omega
  ·rw [Lib.decDigits, dif_neg h10] at hc
   rcases List.mem_append.1 hc with h | h
   ·exact ih (u / 10) (by omega) c h
   ·rw [List.mem_singleton.1 h, digit_nat (u % 10) (by omega)]
    omega
theorem dec_ne (u : Nat) : Lib.decDigits u ≠ [] := by
 rw [Lib.decDigits]
 split
 ·simp
 ·simp
theorem dec_len (k : Nat) : ∀ u : Nat, u < 10 ^ k -> 1 <= k -> (Lib.decDigits u).length <= k := by
 induction k with
 | zero => intro u h h1; omega
 | succ k ih =>
  intro u h h1
  by_cases h10 : u < 10
  ·rw [Lib.decDigits_one h10]; simp
  ·rw [Lib.decDigits, dif_neg h10, List.length_append]
   have hk : 1 <= k := by
    rcases Nat.eq_zero_or_pos k with rfl | h'
    ·simp at h; omega
    ·exact h'
   have : u / 10 < 10 ^ k := by
    rw [Nat.pow_succ] at h
    omega
   have := ih (u / 10) this hk
   simp
   omega
theorem atoi_dec (u : Nat) (h : u < 1000000000000) : Lib.atoiAll (Lib.decDigits u) = .ok (u : Int) := by
 have hd := dec_digit u u (Nat.le_refl _)
 have hp := parse_dec u u [] (Nat.le_refl _) h
 rw [List.append_nil] at hp
 cases hl : Lib.decDigits u with
 | nil => exact absurd hl (dec_ne u)
 | cons c r =>
  rw [hl] at hd hp
  have hc := hd c (by simp)
  rw [Lib.atoiAll_plain c r (by omega) (by omega)]
  unfold Lib.parseMag
  rw [if_neg (by simp), hp]
  unfold Lib.parseUint10 Lib.signless
  dsimp only
  rw [if_neg (by omega)]
theorem itoa_dec (n : Int) (h : 0 <= n) : Lib.itoa n = Lib.decDigits n.toNat := by
 unfold Lib.itoa
 rw [if_neg (by omega)]
/-- A number is read from its numeral. -/
theorem numV_itoa (n : Int) (d : Nat) (h0 : 0 <= n) (h1 : n < 1000000000000) (h2 : n.toNat < 10 ^ d) (hd : 1 <= d) : numV ⟨(Lib.itoa n).toArray⟩ d = some n := by
 unfold numV
 rw [ba_eq]
 have hl := dec_len d n.toNat h2 hd
 have hs : (⟨(Lib.decDigits n.toNat).toArray⟩ : ByteArray).size = (Lib.decDigits n.toNat).length := by simp [ByteArray.size]
 have ha := atoi_dec n.toNat (by omega)
 rw [Int.toNat_of_nonneg h0] at ha
 rw [itoa_dec n h0, ha]
 dsimp only
 rw [if_pos ⟨h0, by rw [hs]; omega, by rw [itoa_dec n h0]⟩]
theorem itoa_digit (n : Int) (h0 : 0 <= n) : ∀ c ∈ Lib.itoa n, 48 <= c.toNat ∧ c.toNat <= 57 := by
 rw [itoa_dec n h0]
 exact dec_digit _ _ (Nat.le_refl _)
theorem itoa_ne (n : Int) (h0 : 0 <= n) : Lib.itoa n ≠ [] := by
 rw [itoa_dec n h0]
 exact dec_ne _
theorem not_mem_of {l : List UInt8} {c : UInt8} {lo hi : Nat} (h : ∀ x ∈ l, lo <= x.toNat ∧ x.toNat <= hi) (hc : c.toNat < lo ∨ hi < c.toNat) : c ∉ l := by
 intro hm
 have := h c hm
 omega
/-- Places are read back. -/
def Small3 (l : List Int) : Prop := ∀ k ∈ l, 0 <= k ∧ k <= 999
theorem places_digit (l : List Int) (h : Small3 l) : ∀ c ∈ placesT l, 44 <= c.toNat ∧ c.toNat <= 57 := by
 unfold placesT
 split
 ·intro c hc; rw [List.mem_singleton.1 hc]; decide
 ·intro c hc
  have key : ∀ (xs : List Int), Small3 xs -> ∀ c ∈ Lib.join (xs.map Lib.itoa) [44], 44 <= c.toNat ∧ c.toNat <= 57 := by
   intro xs
   induction xs with
   | nil => intro _ c hc; simp [Lib.join_nil] at hc
   | cons a r ih =>
    intro hs c hc
    have ha := hs a (by simp)
    have hr : Small3 r := fun k hk => hs k (by simp [hk])
    cases r with
    | nil =>
     rw [List.map_cons, List.map_nil, Lib.join_one] at hc
     have := itoa_digit a ha.1 c hc
     omega
    | cons b r =>
     rw [List.map_cons, List.map_cons, join2] at hc
     rcases List.mem_append.1 hc with hc | hc
     ·have := itoa_digit a ha.1 c hc
      omega
     ·rcases List.mem_cons.1 hc with rfl | hc
      ·decide
      ·exact ih hr c (by rw [List.map_cons]; exact hc)
  exact key l h c hc
theorem placesV_T (l : List Int) (h : Small3 l) (h0 : l ≠ []) (hr : risesB l 1 4 = true) : placesV ⟨(placesT l).toArray⟩ = (l, true) := by
 cases l with
 | nil => exact absurd rfl h0
 | cons a r =>
  have hp : piecesS ⟨(placesT (a :: r)).toArray⟩ = (a :: r).map fun n => ⟨(Lib.itoa n).toArray⟩ := by
   unfold placesT
   rw [if_neg (by simp), List.map_cons, pieces_join (Lib.itoa a) (r.map Lib.itoa) (fun y hy => by
    obtain ⟨n, hn, rfl⟩ : ∃ n, n ∈ a :: r ∧ Lib.itoa n = y := by
     rw [<- List.map_cons (f := Lib.itoa)] at hy
     exact List.mem_map.1 hy
    exact not_mem_of (itoa_digit n (h n hn).1) (.inl (by decide)))]
   simp
  have hv : ∀ n ∈ a :: r, numV ⟨(Lib.itoa n).toArray⟩ 3 = some n := fun n hn => numV_itoa n 3 (h n hn).1 (by have := (h n hn).2; omega) (by have := h n hn; omega) (by omega)
  have hn : numsS ((a :: r).map fun n => (⟨(Lib.itoa n).toArray⟩ : ByteArray)) = a :: r := by
   unfold numsS
   rw [List.map_map]
   conv => rhs; rw [<- List.map_id (a :: r)]
   apply List.map_congr_left
   intro n hn
   show (numV _ 3).getD 0 = n
   rw [hv n hn]; rfl
  have hb : badS ((a :: r).map fun n => (⟨(Lib.itoa n).toArray⟩ : ByteArray)) = false := by
   unfold badS
   rw [List.any_eq_false]
   intro x hx
   obtain ⟨n, hn, rfl⟩ := List.mem_map.1 hx
   rw [hv n hn]
   simp
  unfold placesV
  rw [hp, hn, hb, hr]
  rfl
theorem sidesV_T (l : List Int) (h : Small3 l) (hr : l = [] ∨ risesB l 1 4 = true) : sidesV ⟨(placesT l).toArray⟩ = (l, true) := by
 unfold sidesV
 cases l with
 | nil => rw [if_pos (show (⟨(placesT []).toArray⟩ : ByteArray).data.toList = [45] from rfl)]
 | cons a r =>
  rw [if_neg ?_]
  ·exact placesV_T (a :: r) h (by simp) (hr.resolve_left (by simp))
  ·rw [ba_eq]
   intro he
   have hm : (Lib.itoa a) ≠ [] := itoa_ne a (h a (by simp)).1
   unfold placesT at he
   rw [if_neg (by simp), List.map_cons] at he
   cases hi : Lib.itoa a with
   | nil => exact hm hi
   | cons c t =>
    rw [hi] at he
    have hc := itoa_digit a (h a (by simp)).1 c (by rw [hi]; simp)
    cases r with
    | nil =>
     rw [List.map_nil, Lib.join_one] at he
     injection he with h1 h2
     rw [h1] at hc
     exact absurd hc (by decide)
    | cons b r =>
     rw [List.map_cons, join2] at he
     injection he with h1 h2
     rw [h1] at hc
     exact absurd hc (by decide)
theorem drop_cons {s : ByteArray} {q : Nat} {c : UInt8} {l : List UInt8} (h : s.data.toList.drop q = c :: l) : q < s.size ∧ bt s (q : Int) = (c.toNat : Int) ∧ s.data.toList.drop (q + 1) = l := by
 have hlen : s.data.toList.length = s.size := by simp
 have hq : q < s.data.toList.length := by
  rcases Nat.lt_or_ge q s.data.toList.length with h' | h'
  ·exact h'
  ·rw [List.drop_eq_nil_of_le h'] at h; cases h
 rw [List.drop_eq_getElem_cons hq] at h
 injection h with h1 h2
 refine ⟨by omega, ?_, h2⟩
 unfold bt
 rw [dif_pos (by rw [Int.toNat_natCast]; omega)]
 rw [<- h1]
 simp
 rfl
/-- The search of a word over letters that are known. -/
def wordP : Nat -> List S135 -> Nat -> List UInt8 -> Option (S135 × Nat)
 | 0, _, _, _ => none
 | f + 1, ws, n, l => match ws.find? (fun x => x.f1.size == n) with
  | some x => some (x, n)
  | none => match l[n]? with
   | none => none
   | some c => if 0 < (ws.filter fun x => bt x.f1 (n : Int) == (c.toNat : Int)).length then wordP f (ws.filter fun x => bt x.f1 (n : Int) == (c.toNat : Int)) (n + 1) l else none
theorem wordP_F : ∀ (f : Nat) (ws : List S135) (n : Nat) (l post : List UInt8) (s : ByteArray) (q : Nat) (x : S135) (m : Nat), s.data.toList.drop q = l ++ post -> wordP f ws n l = some (x, m) -> wordF f ws n s (q + n) = (some x, q + m)
 | 0, ws, n, l, post, s, q, x, m, hd, h => by cases h
 | f + 1, ws, n, l, post, s, q, x, m, hd, h => by
  unfold wordP at h
  unfold wordF
  cases hf : ws.find? (fun x => x.f1.size == n) with
  | some y =>
   rw [hf] at h
   dsimp only at h ⊢
   injection h with h
   injection h with h1 h2
   rw [h1, h2]
  | none =>
   rw [hf] at h
   dsimp only at h ⊢
   cases hc : l[n]? with
   | none => rw [hc] at h; cases h
   | some c =>
    rw [hc] at h
    dsimp only at h
    split at h
    ·rename_i hp
     have hn : n < l.length := (List.getElem?_eq_some_iff.1 hc).1
     have hl : s.data.toList.drop (q + n) = c :: (l.drop (n + 1) ++ post) := by
      rw [<- List.drop_drop, hd, List.drop_append_of_le_length (by omega), List.drop_eq_getElem_cons hn]
      rw [List.getElem?_eq_getElem hn] at hc
      injection hc with hc
      rw [hc]; rfl
     obtain ⟨hq, hb, _⟩ := drop_cons hl
     have hfil : (ws.filter fun x => !offB s n (q + n) x) = ws.filter fun x => bt x.f1 (n : Int) == (c.toNat : Int) := by
      apply List.filter_congr
      intro y hy
      unfold offB
      rw [hb]
      simp [bne]
     rw [hfil, if_pos ⟨hq, hp⟩]
     exact wordP_F f _ (n + 1) l post s q x m hd h
    ·cases h
def wordN (k : Nat) : S135 := ⟨wK k, ⟨(wT k).toArray⟩, wA k⟩
theorem may_deep (depth : Int) (h : depth ≠ 1) : mayS depth = wordS := by
 unfold mayS
 apply List.filter_eq_self.2
 intro x hx
 unfold deepB
 have : (depth == 1) = false := by rw [beq_eq_false_iff_ne]; exact h
 rw [this]; simp
theorem wordP_deep (k : Nat) (h : k < 8) : wordP 8 wordS 0 (wT k) = some (wordN k, (wT k).length) := by
 match k, h with
 | 0, _ => rfl
 | 1, _ => rfl
 | 2, _ => rfl
 | 3, _ => rfl
 | 4, _ => rfl
 | 5, _ => rfl
 | 6, _ => rfl
 | 7, _ => rfl
theorem wordP_one (k : Nat) (h : k < 8) (ha : wA k = 0) : wordP 8 (mayS 1) 0 (wT k) = some (wordN k, (wT k).length) := by
 match k, h with
 | 0, _ => rfl
 | 1, _ => rfl
 | 2, _ => rfl
 | 3, _ => rfl
 | 4, _ => rfl
 | 5, _ => exact absurd ha (by decide)
 | 6, _ => exact absurd ha (by decide)
 | 7, _ => exact absurd ha (by decide)
theorem wordV_at (k : Nat) (h : k < 8) (depth : Int) (hd : 0 < wA k -> depth ≠ 1) (s : ByteArray) (q : Nat) (post : List UInt8) (hs : s.data.toList.drop q = wT k ++ post) : wordV depth s q = (some (wordN k), q + (wT k).length) := by
 unfold wordV
 have key : wordP 8 (mayS depth) 0 (wT k) = some (wordN k, (wT k).length) := by
  by_cases h1 : depth = 1
  ·subst h1
   have h0 : 0 <= wA k := by
    match k, h with
    | 0, _ => decide
    | 1, _ => decide
    | 2, _ => decide
    | 3, _ => decide
    | 4, _ => decide
    | 5, _ => decide
    | 6, _ => decide
    | 7, _ => decide
   exact wordP_one k h (by
    rcases Int.lt_or_le 0 (wA k) with h' | h'
    ·exact absurd rfl (hd h')
    ·omega)
  ·rw [may_deep depth h1]
   exact wordP_deep k h
 exact wordP_F 8 (mayS depth) 0 (wT k) post s q (wordN k) _ hs key
theorem args_show (d : Nat) (IH : ∀ (t : S59) (s : ByteArray) (q : Nat) (post : List UInt8), rightT d t = true -> s.data.toList.drop q = showT d t ++ post -> readF d s q = (some t, q + (showT d t).length)) :
  ∀ (xs : List S59) (i : Nat) (s : ByteArray) (q : Nat) (post : List UInt8), (∀ x ∈ xs, rightT d x = true) -> s.data.toList.drop q = argsT (showT d) i xs ++ post -> argsF (readF d) xs.length i s q = (some xs, q + (argsT (showT d) i xs).length)
 | [], i, s, q, post, hr, hs => by simp [argsF, argsT]
 | a :: r, i, s, q, post, hr, hs => by
  simp only [argsT, List.cons_append, List.append_assoc] at hs
  obtain ⟨h1, h2, h3⟩ := drop_cons hs
  have hsg : signB s q (sepT i) = true := by
   unfold signB
   rw [h2]
   simp [h1]
  have ha := IH a s (q + 1) _ (hr a (by simp)) h3
  have h4 : s.data.toList.drop (q + 1 + (showT d a).length) = argsT (showT d) (i + 1) r ++ post := by
   rw [<- List.drop_drop, h3]
   simp
  have hb := args_show d IH r (i + 1) s _ post (fun x hx => hr x (by simp [hx])) h4
  show argsF (readF d) (r.length + 1) i s q = _
  unfold argsF
  rw [if_pos hsg, ha]
  dsimp only
  rw [hb]
  dsimp only
  simp only [argsT, List.length_cons, List.length_append]
  congr 1
  omega
/-- A right type is read from its text. -/
theorem read_show : ∀ (d : Nat) (t : S59) (s : ByteArray) (q : Nat) (post : List UInt8), rightT d t = true -> s.data.toList.drop q = showT d t ++ post -> readF d s q = (some t, q + (showT d t).length)
 | 0, t, s, q, post, hr, hs => by cases hr
 | d + 1, t, s, q, post, hr, hs => by
  obtain ⟨⟨k, hk, hkd, hw, hn⟩, hall, hle⟩ := right_parts hr
  have hsh : showT (d + 1) t = wT k ++ (argsT (showT d) 0 t.f1 ++ (if t.f1.length = 0 then [] else [41])) := by
   unfold showT
   rw [hw, List.append_assoc]
  rw [hsh, List.append_assoc, List.append_assoc] at hs
  have hdp : 0 < wA k -> ((d : Int) + 1) ≠ 1 := by
   intro hp he
   have hd0 : d = 0 := by omega
   subst hd0
   cases hx : t.f1 with
   | nil => rw [hx] at hn; simp at hn; omega
   | cons x r =>
    have := hall x (by rw [hx]; simp)
    cases this
  have hwv := wordV_at k hk ((d : Int) + 1) hdp s q _ hs
  have h4 : s.data.toList.drop (q + (wT k).length) = argsT (showT d) 0 t.f1 ++ ((if t.f1.length = 0 then [] else [41]) ++ post) := by
   rw [<- List.drop_drop, hs]
   simp
  have hargs := args_show d (fun t s q post => read_show d t s q post) t.f1 0 s _ _ hall h4
  have hN : (wordN k).f2.toNat = t.f1.length := by
   show (wA k).toNat = _
   omega
  unfold readF
  rw [hwv]
  dsimp only
  rw [hN, hargs]
  dsimp only
  rw [hsh]
  have het : t = ⟨wK k, t.f1⟩ := by rw [<- hkd]; exact (eta59 t).symm
  by_cases h0 : t.f1.length = 0
  ·rw [if_pos (show (wordN k).f2 = 0 from by show wA k = 0; omega), if_pos h0, List.append_nil]
   rw [List.length_append]
   refine Prod.ext ?_ ?_
   ·show some (⟨wK k, t.f1⟩ : S59) = some t
    rw [<- het]
   ·show q + (wT k).length + (argsT (showT d) 0 t.f1).length = _
    omega
  ·have h5 : s.data.toList.drop (q + (wT k).length + (argsT (showT d) 0 t.f1).length) = 41 :: post := by
    rw [<- List.drop_drop, h4, if_neg h0]
    simp
   obtain ⟨h6, h7, _⟩ := drop_cons h5
   have hsg : signB s (q + (wT k).length + (argsT (showT d) 0 t.f1).length) 41 = true := by
    unfold signB
    rw [h7]
    simp [h6]
   rw [if_neg (show ¬ (wordN k).f2 = 0 from by show ¬ wA k = 0; omega), if_pos hsg, if_neg h0]
   refine Prod.ext ?_ ?_
   ·show some (⟨wK k, t.f1⟩ : S59) = some t
    rw [<- het]
   ·show q + (wT k).length + (argsT (showT d) 0 t.f1).length + 1 = _
    rw [List.length_append, List.length_append]
    simp
    omega
theorem parseV_T (t : S59) (h : rightT 6 t = true) : parseV ⟨(showT 6 t).toArray⟩ = some t := by
 have hr := read_show 6 t ⟨(showT 6 t).toArray⟩ 0 [] h (by simp)
 unfold parseV
 rw [hr, if_neg]
 show ¬ 0 + (showT 6 t).length < (showT 6 t).length
 omega
theorem bet_eq (x y z : Int) : window_between.f x y z = some (decide (y <= x) && decide (x <= z)) := by
 unfold window_between.f
 by_cases h : x ≥ y
 ·rw [if_pos h]; simp; omega
 ·rw [if_neg h]; simp; omega
theorem betT_eq (x y z : Int) : trigger_between.f x y z = some (decide (y <= x) && decide (x <= z)) := by
 unfold trigger_between.f
 by_cases h : x ≥ y
 ·rw [if_pos h]; simp; omega
 ·rw [if_neg h]; simp; omega
def Num7 (n : Int) : Prop := 0 <= n ∧ n <= 9999999
theorem fn_range {a b c d : Int} (h : fnOk a b c d = true) : Num7 a ∧ Num7 b ∧ Num7 c ∧ Num7 d := by
 unfold fnOk window_Fn_Check.f at h
 simp only [bet_eq, Option.bind_some, Bool.and_eq_true, decide_eq_true_eq, beq_iff_eq] at h
 unfold Num7
 repeat' split at h
 all_goals first
  | (simp at h; done)
  | (simp only [wrap64, mn] at *; omega)
theorem tr_range {a b c : Int} {d : Bool} (h : trOk a b c d = true) : Num7 a ∧ Num7 b ∧ Num7 c := by
 unfold trOk trigger_Spec_Check.f at h
 simp only [betT_eq, Option.bind_some, Bool.and_eq_true, decide_eq_true_eq] at h
 unfold Num7
 repeat' split at h
 all_goals first
  | (simp at h; done)
  | omega
/-- A node that is right where it stands. -/
structure Okn (x : S63) : Prop where
 op : 1 <= x.f0 ∧ x.f0 <= 6
 s1 : Small3 x.f1
 s2 : Small3 x.f2
 r1 : risesB x.f1 (leastOf x.f0) (mostOf x.f0) = true
 r2 : risesB x.f2 0 (sidesOf x.f0) = true
 fm : formN x = true
theorem rises_len {l : List Int} {a b : Int} (h : risesB l a b = true) : a <= (l.length : Int) ∧ (l.length : Int) <= b := by
 unfold risesB at h
 simp only [Bool.and_eq_true, decide_eq_true_eq] at h
 exact h.2
theorem okn_of {ns : List S63} {i : Nat} (hi : i < ns.length) (h32 : ns.length <= 32) (h : nodeErr ns i = 0) : Okn (rd_T63 ns i) := by
 unfold nodeErr at h
 split at h
 ·cases h
 rename_i hop
 split at h
 ·rename_i hin
  split at h
  ·rename_i hfm
   unfold inputsB at hin
   simp only [Bool.and_eq_true, Bool.not_eq_true'] at hin
   obtain ⟨h1, h2, h3, h4⟩ := hin
   have key : ∀ l : List Int, l.any (badIn ns i) = false -> Small3 l := by
    intro l hl k hk
    have := List.any_eq_false.1 hl k hk
    unfold badIn at this
    simp only [Bool.not_eq_true, Bool.or_eq_false_iff, decide_eq_false_iff_not] at this
    omega
   exact ⟨by omega, key _ h3, key _ h4, h1, h2, hfm⟩
  ·cases h
 ·cases h
/-! ### What is read at a place -/
theorem numC_at (n : Int) (d : Nat) (h0 : 0 <= n) (h1 : n < 1000000000000) (h2 : n.toNat < 10 ^ d) (hd : 1 <= d) (rest : List UInt8) : numC d ⟨(Lib.itoa n ++ 32 :: rest).toArray⟩ false = (n, ⟨rest.toArray⟩, false) := by
 obtain ⟨e1, e2, e3, _⟩ := cutS_at (s := ⟨(Lib.itoa n ++ 32 :: rest).toArray⟩) rfl (not_mem_of (itoa_digit n h0) (.inl (by decide)))
 unfold numC
 rw [e1, e2, e3, numV_itoa n d h0 h1 h2 hd]
 rfl
theorem sidesC_at (l : List Int) (h : Small3 l) (hr : l = [] ∨ risesB l 1 4 = true) (rest : List UInt8) : sidesC ⟨(placesT l ++ 32 :: rest).toArray⟩ false = (l, ⟨rest.toArray⟩, false) := by
 obtain ⟨e1, e2, e3, _⟩ := cutS_at (s := ⟨(placesT l ++ 32 :: rest).toArray⟩) rfl (not_mem_of (places_digit l h) (.inl (by decide)))
 unfold sidesC
 rw [e1, e2, e3, sidesV_T l h hr]
 rfl
theorem places_one (n : Int) : placesT [n] = Lib.itoa n := by
 unfold placesT
 rw [if_neg (by simp), List.map_cons, List.map_nil, Lib.join_one]
theorem ba_self (s : ByteArray) : (⟨s.data.toList.toArray⟩ : ByteArray) = s := by
 apply ByteArray.ext
 simp
theorem empty_of {s : ByteArray} (h : s.toList.isEmpty = true) : s = ⟨#[]⟩ := by
 rw [ByteArray.toList_eq, List.isEmpty_iff] at h
 apply ByteArray.ext
 exact Array.toList_inj.mp h
theorem zero59 {t : S59} (h : (t.f0 == 0 && ((t.f1.length : Int) == 0)) = true) : t = z59 := by
 simp only [Bool.and_eq_true, beq_iff_eq] at h
 have : t.f1 = [] := List.eq_nil_of_length_eq_zero (by omega)
 rw [<- eta59 t, h.1, this]
 rfl
theorem small_num {n : Int} (h : 0 <= n ∧ n <= 999) : 0 <= n ∧ n < 1000000000000 ∧ n.toNat < 10 ^ 3 := by
 refine ⟨h.1, by omega, by omega⟩
theorem num7_num {n : Int} (h : Num7 n) : 0 <= n ∧ n < 1000000000000 ∧ n.toNat < 10 ^ 7 := by
 unfold Num7 at h
 refine ⟨h.1, by omega, by omega⟩
theorem one_of {l : List Int} (h1 : 1 <= (l.length : Int)) (h2 : (l.length : Int) <= 1) : ∃ a, l = [a] := by
 match l, h1, h2 with
 | [a], _, _ => exact ⟨a, rfl⟩
 | [], h1, _ => simp at h1
 | a :: b :: r, _, h2 => simp at h2; omega
theorem nil_of {l : List Int} (h : (l.length : Int) <= 0) : l = [] := List.eq_nil_of_length_eq_zero (by omega)
theorem rises_some {l : List Int} (h : risesB l 0 4 = true) : l = [] ∨ risesB l 1 4 = true := by
 cases l with
 | nil => exact .inl rfl
 | cons a r =>
  right
  unfold risesB at h ⊢
  simp only [Bool.and_eq_true, decide_eq_true_eq] at h ⊢
  refine ⟨h.1, ?_, h.2.2⟩
  simp
  omega
/-- A right node's line is read as the node. -/
theorem read_line (x : S63) (h : Okn x) : readV ⟨(bodyT x).toArray⟩ = (x, true) := by
 obtain ⟨op, ins, si, tx, ty, ⟨a, b, c, d⟩, ⟨e0, e1, e2, e3⟩⟩ := x
 obtain ⟨hop, h1, h2, hr1, hr2, hfm⟩ := h
 dsimp only at hop h1 h2 hr1 hr2
 have hl1 := rises_len hr1
 have hl2 := rises_len hr2
 unfold formN formB at hfm
 dsimp only at hfm
 simp only [Bool.and_eq_true] at hfm
 obtain ⟨hft, hfy, hff, hfg⟩ := hfm
 have hops : op = 1 ∨ op = 2 ∨ op = 3 ∨ op = 4 ∨ op = 5 ∨ op = 6 := by omega
 rcases hops with rfl | rfl | rfl | rfl | rfl | rfl
 ·-- source
  rw [if_neg (by decide)] at hft
  rw [if_pos rfl] at hfy
  rw [if_neg (by decide)] at hff hfg
  simp only [Bool.and_eq_true, beq_iff_eq, Bool.not_eq_true'] at hff hfg
  obtain ⟨rfl, rfl, rfl, rfl⟩ := hff
  obtain ⟨rfl, rfl, rfl, rfl⟩ := hfg
  obtain rfl := nil_of (l := ins) (by simpa [mostOf] using hl1.2)
  obtain rfl := nil_of (l := si) (by simpa [sidesOf] using hl2.2)
  obtain rfl := empty_of hft
  have hb : bodyT ⟨1, [], [], ⟨#[]⟩, ty, ⟨0, 0, 0, 0⟩, ⟨0, 0, 0, false⟩⟩ = [115, 111, 117, 114, 99, 101] ++ 32 :: showT 6 ty := by
   unfold bodyT partsT
   dsimp only
   rw [if_pos rfl, join2, Lib.join_one]
  rw [hb]
  obtain ⟨q1, q2, q3, q4⟩ := cutS_at (s := ⟨([115, 111, 117, 114, 99, 101] ++ 32 :: showT 6 ty).toArray⟩) rfl (by decide)
  unfold readV
  rw [q4, if_pos rfl, q2, q3]
  unfold srcV
  rw [parseV_T ty hfy]
  rfl
 ·-- each
  rw [if_pos (.inl rfl)] at hft
  rw [if_neg (by decide)] at hfy hff hfg
  simp only [Bool.and_eq_true, beq_iff_eq, Bool.not_eq_true'] at hff hfg
  obtain ⟨rfl, rfl, rfl, rfl⟩ := hff
  obtain ⟨rfl, rfl, rfl, rfl⟩ := hfg
  obtain rfl := zero59 hfy
  obtain ⟨n, rfl⟩ := one_of (l := ins) (by simpa [leastOf] using hl1.1) (by simpa [mostOf] using hl1.2)
  obtain ⟨g0, g1, g2⟩ := small_num (h1 n (by simp))
  have hb : bodyT ⟨2, [n], si, tx, z59, ⟨0, 0, 0, 0⟩, ⟨0, 0, 0, false⟩⟩ = [101, 97, 99, 104] ++ 32 :: (Lib.itoa n ++ 32 :: (placesT si ++ 32 :: tx.data.toList)) := by
   unfold bodyT partsT
   dsimp only
   rw [if_neg (by simp), if_pos rfl, join2, join2, join2, Lib.join_one, places_one]
  rw [hb]
  obtain ⟨q1, q2, q3, q4⟩ := cutS_at (s := ⟨([101, 97, 99, 104] ++ 32 :: (Lib.itoa n ++ 32 :: (placesT si ++ 32 :: tx.data.toList))).toArray⟩) rfl (by decide)
  unfold readV
  rw [q4, if_neg (by decide), if_pos rfl, q2, q3]
  unfold eachV
  have hn := numC_at n 3 g0 g1 g2 (by decide) (placesT si ++ 32 :: tx.data.toList)
  have hs := sidesC_at si h2 (rises_some hr2) tx.data.toList
  rw [show (!true) = false from rfl]
  rw [show ((3 : Nat) : Int) = 3 from rfl] at hn
  rw [hn]
  dsimp only
  rw [hs]
  dsimp only
  rw [ba_self, hft]
  rfl
 ·-- window
  rw [if_neg (by decide)] at hft hfy hfg
  rw [if_pos rfl] at hff
  simp only [Bool.and_eq_true, beq_iff_eq, Bool.not_eq_true'] at hfg
  obtain ⟨rfl, rfl, rfl, rfl⟩ := hfg
  obtain rfl := zero59 hfy
  obtain rfl := empty_of hft
  obtain rfl := nil_of (l := si) (by simpa [sidesOf] using hl2.2)
  obtain ⟨n, rfl⟩ := one_of (l := ins) (by simpa [leastOf] using hl1.1) (by simpa [mostOf] using hl1.2)
  obtain ⟨g0, g1, g2⟩ := small_num (h1 n (by simp))
  obtain ⟨fa, fb, fc, fd⟩ := fn_range hff
  obtain ⟨a0, a1, a2⟩ := num7_num fa
  obtain ⟨b0, b1, b2⟩ := num7_num fb
  obtain ⟨c0, c1, c2⟩ := num7_num fc
  obtain ⟨d0, d1, d2⟩ := num7_num fd
  have hb : bodyT ⟨3, [n], [], ⟨#[]⟩, z59, ⟨a, b, c, d⟩, ⟨0, 0, 0, false⟩⟩ = [119, 105, 110, 100, 111, 119] ++ 32 :: (Lib.itoa n ++ 32 :: (Lib.itoa a ++ 32 :: (Lib.itoa b ++ 32 :: (Lib.itoa c ++ 32 :: Lib.itoa d)))) := by
   unfold bodyT partsT
   dsimp only
   rw [if_neg (by simp), if_neg (by simp), if_pos rfl, join2, join2, join2, join2, join2, Lib.join_one, places_one]
  rw [hb]
  obtain ⟨q1, q2, q3, q4⟩ := cutS_at (s := ⟨([119, 105, 110, 100, 111, 119] ++ 32 :: (Lib.itoa n ++ 32 :: (Lib.itoa a ++ 32 :: (Lib.itoa b ++ 32 :: (Lib.itoa c ++ 32 :: Lib.itoa d))))).toArray⟩) rfl (by decide)
  unfold readV
  rw [q4, if_neg (by decide), if_neg (by decide), if_pos rfl, q2, q3]
  unfold winV
  have hn := numC_at n 3 g0 g1 g2 (by decide) (Lib.itoa a ++ 32 :: (Lib.itoa b ++ 32 :: (Lib.itoa c ++ 32 :: Lib.itoa d)))
  have ha := numC_at a 7 a0 a1 a2 (by decide) (Lib.itoa b ++ 32 :: (Lib.itoa c ++ 32 :: Lib.itoa d))
  have hbb := numC_at b 7 b0 b1 b2 (by decide) (Lib.itoa c ++ 32 :: Lib.itoa d)
  have hc := numC_at c 7 c0 c1 c2 (by decide) (Lib.itoa d)
  have hd := numV_itoa d 7 d0 d1 d2 (by decide)
  rw [show (!true) = false from rfl]
  rw [show ((3 : Nat) : Int) = 3 from rfl] at hn
  rw [show ((7 : Nat) : Int) = 7 from rfl] at ha hbb hc hd
  rw [hn]; dsimp only
  rw [ha]; dsimp only
  rw [hbb]; dsimp only
  rw [hc]; dsimp only
  rw [hd]
  rfl
 ·-- group
  rw [if_pos (.inr rfl)] at hft
  rw [if_neg (by decide)] at hfy hff
  rw [if_pos rfl] at hfg
  simp only [Bool.and_eq_true, beq_iff_eq, Bool.not_eq_true'] at hff
  obtain ⟨rfl, rfl, rfl, rfl⟩ := hff
  obtain rfl := zero59 hfy
  obtain rfl := nil_of (l := si) (by simpa [sidesOf] using hl2.2)
  obtain ⟨n, rfl⟩ := one_of (l := ins) (by simpa [leastOf] using hl1.1) (by simpa [mostOf] using hl1.2)
  obtain ⟨g0, g1, g2⟩ := small_num (h1 n (by simp))
  obtain ⟨fa, fb, fc⟩ := tr_range hfg
  obtain ⟨a0, a1, a2⟩ := num7_num fa
  obtain ⟨b0, b1, b2⟩ := num7_num fb
  obtain ⟨c0, c1, c2⟩ := num7_num fc
  obtain ⟨hw, hhw⟩ : ∃ hw : List UInt8, hw = (if e3 = true then [97, 99, 99] else [100, 105, 115]) := ⟨_, rfl⟩
  have hw32 : (32 : UInt8) ∉ hw := by rw [hhw]; cases e3 <;> decide
  have hb : bodyT ⟨4, [n], [], tx, z59, ⟨0, 0, 0, 0⟩, ⟨e0, e1, e2, e3⟩⟩ = [103, 114, 111, 117, 112] ++ 32 :: (Lib.itoa n ++ 32 :: (Lib.itoa e0 ++ 32 :: (Lib.itoa e1 ++ 32 :: (Lib.itoa e2 ++ 32 :: (hw ++ 32 :: tx.data.toList))))) := by
   unfold bodyT partsT
   dsimp only
   rw [if_neg (by simp), if_neg (by simp), if_neg (by simp), if_pos rfl, join2, join2, join2, join2, join2, join2, Lib.join_one, places_one, hhw]
  rw [hb]
  obtain ⟨q1, q2, q3, q4⟩ := cutS_at (s := ⟨([103, 114, 111, 117, 112] ++ 32 :: (Lib.itoa n ++ 32 :: (Lib.itoa e0 ++ 32 :: (Lib.itoa e1 ++ 32 :: (Lib.itoa e2 ++ 32 :: (hw ++ 32 :: tx.data.toList)))))).toArray⟩) rfl (by decide)
  obtain ⟨p1, p2, p3, p4⟩ := cutS_at (s := ⟨(hw ++ 32 :: tx.data.toList).toArray⟩) rfl hw32
  unfold readV
  rw [q4, if_neg (by decide), if_neg (by decide), if_neg (by decide), if_pos rfl, q2, q3]
  unfold grpV
  have hn := numC_at n 3 g0 g1 g2 (by decide) (Lib.itoa e0 ++ 32 :: (Lib.itoa e1 ++ 32 :: (Lib.itoa e2 ++ 32 :: (hw ++ 32 :: tx.data.toList))))
  have ha := numC_at e0 7 a0 a1 a2 (by decide) (Lib.itoa e1 ++ 32 :: (Lib.itoa e2 ++ 32 :: (hw ++ 32 :: tx.data.toList)))
  have hbb := numC_at e1 7 b0 b1 b2 (by decide) (Lib.itoa e2 ++ 32 :: (hw ++ 32 :: tx.data.toList))
  have hc := numC_at e2 7 c0 c1 c2 (by decide) (hw ++ 32 :: tx.data.toList)
  rw [show (!true) = false from rfl]
  rw [show ((3 : Nat) : Int) = 3 from rfl] at hn
  rw [show ((7 : Nat) : Int) = 7 from rfl] at ha hbb hc
  rw [hn]; dsimp only
  rw [ha]; dsimp only
  rw [hbb]; dsimp only
  rw [hc]; dsimp only
  rw [p2, p3, p4, ba_self, hft, hhw]
  cases e3 <;> rfl
 ·-- flatten
  rw [if_neg (by decide)] at hft hfy hff hfg
  simp only [Bool.and_eq_true, beq_iff_eq, Bool.not_eq_true'] at hff hfg
  obtain ⟨rfl, rfl, rfl, rfl⟩ := hff
  obtain ⟨rfl, rfl, rfl, rfl⟩ := hfg
  obtain rfl := zero59 hfy
  obtain rfl := empty_of hft
  obtain rfl := nil_of (l := si) (by simpa [sidesOf] using hl2.2)
  have hb : bodyT ⟨5, ins, [], ⟨#[]⟩, z59, ⟨0, 0, 0, 0⟩, ⟨0, 0, 0, false⟩⟩ = [102, 108, 97, 116, 116, 101, 110] ++ 32 :: placesT ins := by
   unfold bodyT partsT
   dsimp only
   rw [if_neg (by simp), if_neg (by simp), if_neg (by simp), if_neg (by simp), if_pos rfl, join2, Lib.join_one]
  rw [hb]
  obtain ⟨q1, q2, q3, q4⟩ := cutS_at (s := ⟨([102, 108, 97, 116, 116, 101, 110] ++ 32 :: placesT ins).toArray⟩) rfl (by decide)
  unfold readV
  rw [q4, if_neg (by decide), if_neg (by decide), if_neg (by decide), if_neg (by decide), if_pos rfl, q2, q3]
  unfold flatV
  rw [placesV_T ins h1 (by intro he; rw [he] at hl1; simp [leastOf] at hl1) (by simpa [leastOf, mostOf] using hr1)]
  rfl
 ·-- sink
  rw [if_neg (by decide)] at hft hfy hff hfg
  simp only [Bool.and_eq_true, beq_iff_eq, Bool.not_eq_true'] at hff hfg
  obtain ⟨rfl, rfl, rfl, rfl⟩ := hff
  obtain ⟨rfl, rfl, rfl, rfl⟩ := hfg
  obtain rfl := zero59 hfy
  obtain rfl := empty_of hft
  obtain rfl := nil_of (l := si) (by simpa [sidesOf] using hl2.2)
  obtain ⟨n, rfl⟩ := one_of (l := ins) (by simpa [leastOf] using hl1.1) (by simpa [mostOf] using hl1.2)
  obtain ⟨g0, g1, g2⟩ := small_num (h1 n (by simp))
  have hb : bodyT ⟨6, [n], [], ⟨#[]⟩, z59, ⟨0, 0, 0, 0⟩, ⟨0, 0, 0, false⟩⟩ = [115, 105, 110, 107] ++ 32 :: Lib.itoa n := by
   unfold bodyT partsT
   dsimp only
   rw [if_neg (by simp), if_neg (by simp), if_neg (by simp), if_neg (by simp), if_neg (by simp), join2, Lib.join_one, places_one]
  rw [hb]
  obtain ⟨q1, q2, q3, q4⟩ := cutS_at (s := ⟨([115, 105, 110, 107] ++ 32 :: Lib.itoa n).toArray⟩) rfl (by decide)
  unfold readV
  rw [q4, if_neg (by decide), if_neg (by decide), if_neg (by decide), if_neg (by decide), if_neg (by decide), if_pos rfl, q2, q3]
  unfold sinkV
  have hn := numV_itoa n 3 g0 g1 g2 (by decide)
  rw [show ((3 : Nat) : Int) = 3 from rfl] at hn
  rw [hn]
  rfl
end Go.Proofs.YtamfloegflejnaaGreatDoor
