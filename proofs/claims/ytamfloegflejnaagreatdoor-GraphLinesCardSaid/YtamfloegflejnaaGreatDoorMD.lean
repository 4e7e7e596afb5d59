/-
  Plain: how lines, numbers and places that are told are read back.
-/
import Derived.Test.YtamfloegflejnaaGreatDoorMA
import Derived.Lib.AtoiAllCases
import Derived.Lib.IndexBytes
import Derived.Lib.PathFns
import Derived.Lib.CutLaws
set_option linter.unusedVariables false
set_option linter.unusedSimpArgs false
namespace Go.Proofs.YtamfloegflejnaaGreatDoor
open Go.RowKit Go.Proofs.YtamfloegflejnaaGreatDoorW.PrintWords Go.Proofs.YtamfloegflejnaaGreatDoorW.PrintLast Go.Proofs.YtamfloegflejnaaGreatDoorW.PrintMore PGraphLines

/-! ### Cuts -/
theorem index_at (c : UInt8) : ∀ (a b : List UInt8), c ∉ a → Lib.indexByte (a ++ c :: b) c = a.length
  | [], b, h => by simp [Lib.indexByte]
  | x :: r, b, h => by
    have hx : ¬ x = c := fun e => h (by rw [e]; simp)
    have ih := index_at c r b (fun e => h (by simp [e]))
    simp only [List.cons_append, Lib.indexByte, ih]
    rw [if_neg (by simpa using hx), if_neg (by simp)]
    simp
theorem index_no (c : UInt8) : ∀ (a : List UInt8), c ∉ a → Lib.indexByte a c = -1
  | [], h => rfl
  | x :: r, h => by
    have hx : ¬ x = c := fun e => h (by rw [e]; simp)
    have ih := index_no c r (fun e => h (by simp [e]))
    simp only [Lib.indexByte, ih]
    rw [if_neg (by simpa using hx)]
    rfl
theorem cut_at (c : UInt8) (a b : List UInt8) (h : c ∉ a) : Lib.cut (a ++ c :: b) [c] = (a, b, true) := by
  unfold Lib.cut
  rw [Lib.index_one, index_at c a b h, if_pos (by omega), Int.toNat_natCast]
  simp
theorem cut_no (c : UInt8) (a : List UInt8) (h : c ∉ a) : Lib.cut a [c] = (a, [], false) := by
  unfold Lib.cut
  rw [Lib.index_one, index_no c a h]
  rfl
theorem cutS_at {s : ByteArray} {a b : List UInt8} (hs : s = ⟨(a ++ 32 :: b).toArray⟩) (h : 32 ∉ a) : hdS s = ⟨a.toArray⟩ ∧ tlS s = ⟨b.toArray⟩ ∧ okS s = true ∧ howL s = a := by
  subst hs
  have : cutS ⟨(a ++ 32 :: b).toArray⟩ = (a, b, true) := by unfold cutS; exact cut_at 32 a b h
  unfold hdS tlS okS howL
  rw [this]
  exact ⟨rfl, rfl, rfl, rfl⟩
theorem cutN_at {s : ByteArray} {a b : List UInt8} (hs : s = ⟨(a ++ 10 :: b).toArray⟩) (h : 10 ∉ a) : lnS s = ⟨a.toArray⟩ ∧ nxS s = ⟨b.toArray⟩ ∧ (cutN s).2.2 = true := by
  subst hs
  have : cutN ⟨(a ++ 10 :: b).toArray⟩ = (a, b, true) := by unfold cutN; exact cut_at 10 a b h
  unfold lnS nxS
  rw [this]
  exact ⟨rfl, rfl, rfl⟩

/-! ### Joins -/
theorem join2 (x y : List UInt8) (r : List (List UInt8)) (c : UInt8) : Lib.join (x :: y :: r) [c] = x ++ c :: Lib.join (y :: r) [c] := by
  simp [Lib.join, List.intercalate, List.intersperse]
theorem ba_eq (l : List UInt8) : (⟨l.toArray⟩ : ByteArray).data.toList = l := by simp
theorem indexB_at (c : UInt8) (a b : List UInt8) (h : c ∉ a) : Lib.indexB ⟨(a ++ c :: b).toArray⟩ ⟨#[c]⟩ = (a.length : Nat) := by
  show Lib.index (⟨(a ++ c :: b).toArray⟩ : ByteArray).data.toList (⟨#[c]⟩ : ByteArray).data.toList = _
  rw [ba_eq]
  show Lib.index _ [c] = _
  rw [Lib.index_one, index_at c a b h]
theorem indexB_no (c : UInt8) (a : List UInt8) (h : c ∉ a) : Lib.indexB ⟨a.toArray⟩ ⟨#[c]⟩ = -1 := by
  show Lib.index (⟨a.toArray⟩ : ByteArray).data.toList (⟨#[c]⟩ : ByteArray).data.toList = _
  rw [ba_eq]
  show Lib.index _ [c] = _
  rw [Lib.index_one, index_no c a h]
theorem ext_front (a b : List UInt8) (c : UInt8) : (⟨(a ++ c :: b).toArray⟩ : ByteArray).extract 0 (a.length + 0) = ⟨a.toArray⟩ := by
  apply ByteArray.ext
  simp [ByteArray.data_extract]
theorem ext_back (a b : List UInt8) (c : UInt8) (n : Nat) (hn : n = (⟨(a ++ c :: b).toArray⟩ : ByteArray).size) : (⟨(a ++ c :: b).toArray⟩ : ByteArray).extract (a.length + 1) n = ⟨b.toArray⟩ := by
  subst hn
  rw [Lib.extract_from, ba_eq]
  simp
/-- What was joined falls into its parts. -/
theorem pieces_join : ∀ (x : List UInt8) (r : List (List UInt8)), (∀ y ∈ x :: r, (44 : UInt8) ∉ y) → piecesS ⟨(Lib.join (x :: r) [44]).toArray⟩ = (x :: r).map fun y => ⟨y.toArray⟩
  | x, [], h => by
    have hx := h x (by simp)
    unfold piecesS
    rw [Lib.join_one, Lib.countB_miss _ _ (indexB_no 44 x hx), Lib.splitB_zero]
    rfl
  | x, y :: r, h => by
    have hx := h x (by simp)
    have ih := pieces_join y r (fun z hz => h z (by simp [hz]))
    unfold piecesS at ih ⊢
    rw [join2]
    have hi := indexB_at 44 x (Lib.join (y :: r) [44]) hx
    have hs1 : (⟨#[44]⟩ : ByteArray).size = 1 := rfl
    rw [Lib.countB_hit _ _ x.length (by decide) hi, Nat.add_comm, Lib.splitB_hit _ _ _ _ x.length hi, ext_front, hs1, ext_back x (Lib.join (y :: r) [44]) 44 _ rfl, ih]
    rfl

/-! ### Digits -/
theorem digit_nat (d : Nat) (h : d < 10) : (UInt8.ofNat (48 + d)).toNat = 48 + d := by
  rw [UInt8.toNat_ofNat']
  omega
theorem parse_dec : ∀ (n u : Nat) (r : List UInt8), u ≤ n → u < 1000000000000 → Lib.parseUint10 0 (Lib.decDigits u ++ r) = Lib.parseUint10 u r := by
  intro n
  induction n with
  | zero =>
    intro u r hu _
    obtain rfl : u = 0 := by omega
    rw [Lib.decDigits_one (by omega)]
    rfl
  | succ n ih =>
    intro u r hu hb
    by_cases h10 : u < 10
    · rw [Lib.decDigits_one h10]
      have hd := digit_nat u h10
      show Lib.parseUint10 0 (UInt8.ofNat (48 + u) :: r) = _
      rw [Lib.parseUint10, hd, if_pos (by omega), if_neg (by omega), if_neg (by omega)]
      congr 1
      omega
    · rw [Lib.decDigits, dif_neg h10, List.append_assoc, ih (u / 10) _ (by omega) (by omega)]
      have hd := digit_nat (u % 10) (by omega)
      show Lib.parseUint10 (u / 10) (UInt8.ofNat (48 + u % 10) :: r) = _
      rw [Lib.parseUint10, hd, if_pos (by omega), if_neg (by omega), if_neg (by omega)]
      congr 1
      omega
theorem dec_digit : ∀ (n u : Nat), u ≤ n → ∀ c ∈ Lib.decDigits u, 48 ≤ c.toNat ∧ c.toNat ≤ 57 := by
  intro n
  induction n with
  | zero =>
    intro u hu c hc
    obtain rfl : u = 0 := by omega
    rw [Lib.decDigits_one (by omega)] at hc
    rw [List.mem_singleton.1 hc]
    decide
  | succ n ih =>
    intro u hu c hc
    by_cases h10 : u < 10
    · rw [Lib.decDigits_one h10] at hc
      rw [List.mem_singleton.1 hc, digit_nat u h10]
      omega
    · rw [Lib.decDigits, dif_neg h10] at hc
      rcases List.mem_append.1 hc with h | h
      · exact ih (u / 10) (by omega) c h
      · rw [List.mem_singleton.1 h, digit_nat (u % 10) (by omega)]
        omega
theorem dec_ne (u : Nat) : Lib.decDigits u ≠ [] := by
  rw [Lib.decDigits]
  split
  · simp
  · simp
theorem dec_len (k : Nat) : ∀ u : Nat, u < 10 ^ k → 1 ≤ k → (Lib.decDigits u).length ≤ k := by
  induction k with
  | zero => intro u h h1; omega
  | succ k ih =>
    intro u h h1
    by_cases h10 : u < 10
    · rw [Lib.decDigits_one h10]; simp
    · rw [Lib.decDigits, dif_neg h10, List.length_append]
      have hk : 1 ≤ k := by
        rcases Nat.eq_zero_or_pos k with rfl | h'
        · simp at h; omega
        · exact h'
      have : u / 10 < 10 ^ k := by
        rw [Nat.pow_succ] at h
        omega
      have := ih (u / 10) this hk
      simp
      omega
theorem atoi_dec (u : Nat) (h : u < 1000000000000) : Lib.atoiAll (Lib.decDigits u) = .ok (u : Int) := by
  have hd := dec_digit u u (Nat.le_refl _)
  have hp := parse_dec u u [] (Nat.le_refl _) h
  rw [List.append_nil] at hp
  cases hl : Lib.decDigits u with
  | nil => exact absurd hl (dec_ne u)
  | cons c r =>
    rw [hl] at hd hp
    have hc := hd c (by simp)
    rw [Lib.atoiAll_plain c r (by omega) (by omega)]
    unfold Lib.parseMag
    rw [if_neg (by simp), hp]
    unfold Lib.parseUint10 Lib.signless
    dsimp only
    rw [if_neg (by omega)]
theorem itoa_dec (n : Int) (h : 0 ≤ n) : Lib.itoa n = Lib.decDigits n.toNat := by
  unfold Lib.itoa
  rw [if_neg (by omega)]
/-- A number is read from its numeral. -/
theorem numV_itoa (n : Int) (d : Nat) (h0 : 0 ≤ n) (h1 : n < 1000000000000) (h2 : n.toNat < 10 ^ d) (hd : 1 ≤ d) : numV ⟨(Lib.itoa n).toArray⟩ d = some n := by
  unfold numV
  rw [ba_eq]
  have hl := dec_len d n.toNat h2 hd
  have hs : (⟨(Lib.decDigits n.toNat).toArray⟩ : ByteArray).size = (Lib.decDigits n.toNat).length := by simp [ByteArray.size]
  have ha := atoi_dec n.toNat (by omega)
  rw [Int.toNat_of_nonneg h0] at ha
  rw [itoa_dec n h0, ha]
  dsimp only
  rw [if_pos ⟨h0, by rw [hs]; omega, by rw [itoa_dec n h0]⟩]
theorem itoa_digit (n : Int) (h0 : 0 ≤ n) : ∀ c ∈ Lib.itoa n, 48 ≤ c.toNat ∧ c.toNat ≤ 57 := by
  rw [itoa_dec n h0]
  exact dec_digit _ _ (Nat.le_refl _)
theorem itoa_ne (n : Int) (h0 : 0 ≤ n) : Lib.itoa n ≠ [] := by
  rw [itoa_dec n h0]
  exact dec_ne _
theorem not_mem_of {l : List UInt8} {c : UInt8} {lo hi : Nat} (h : ∀ x ∈ l, lo ≤ x.toNat ∧ x.toNat ≤ hi) (hc : c.toNat < lo ∨ hi < c.toNat) : c ∉ l := by
  intro hm
  have := h c hm
  omega
/-- Places are read back. -/
def Small3 (l : List Int) : Prop := ∀ k ∈ l, 0 ≤ k ∧ k ≤ 999
theorem places_digit (l : List Int) (h : Small3 l) : ∀ c ∈ placesT l, 44 ≤ c.toNat ∧ c.toNat ≤ 57 := by
  unfold placesT
  split
  · intro c hc; rw [List.mem_singleton.1 hc]; decide
  · intro c hc
    have key : ∀ (xs : List Int), Small3 xs → ∀ c ∈ Lib.join (xs.map Lib.itoa) [44], 44 ≤ c.toNat ∧ c.toNat ≤ 57 := by
      intro xs
      induction xs with
      | nil => intro _ c hc; simp [Lib.join_nil] at hc
      | cons a r ih =>
        intro hs c hc
        have ha := hs a (by simp)
        have hr : Small3 r := fun k hk => hs k (by simp [hk])
        cases r with
        | nil =>
          rw [List.map_cons, List.map_nil, Lib.join_one] at hc
          have := itoa_digit a ha.1 c hc
          omega
        | cons b r =>
          rw [List.map_cons, List.map_cons, join2] at hc
          rcases List.mem_append.1 hc with hc | hc
          · have := itoa_digit a ha.1 c hc
            omega
          · rcases List.mem_cons.1 hc with rfl | hc
            · decide
            · exact ih hr c (by rw [List.map_cons]; exact hc)
    exact key l h c hc
theorem placesV_T (l : List Int) (h : Small3 l) (h0 : l ≠ []) (hr : risesB l 1 4 = true) : placesV ⟨(placesT l).toArray⟩ = (l, true) := by
  cases l with
  | nil => exact absurd rfl h0
  | cons a r =>
    have hp : piecesS ⟨(placesT (a :: r)).toArray⟩ = (a :: r).map fun n => ⟨(Lib.itoa n).toArray⟩ := by
      unfold placesT
      rw [if_neg (by simp), List.map_cons, pieces_join (Lib.itoa a) (r.map Lib.itoa) (fun y hy => by
        obtain ⟨n, hn, rfl⟩ : ∃ n, n ∈ a :: r ∧ Lib.itoa n = y := by
          rw [← List.map_cons (f := Lib.itoa)] at hy
          exact List.mem_map.1 hy
        exact not_mem_of (itoa_digit n (h n hn).1) (.inl (by decide)))]
      simp
    have hv : ∀ n ∈ a :: r, numV ⟨(Lib.itoa n).toArray⟩ 3 = some n := fun n hn => numV_itoa n 3 (h n hn).1 (by have := (h n hn).2; omega) (by have := h n hn; omega) (by omega)
    have hn : numsS ((a :: r).map fun n => (⟨(Lib.itoa n).toArray⟩ : ByteArray)) = a :: r := by
      unfold numsS
      rw [List.map_map]
      conv => rhs; rw [← List.map_id (a :: r)]
      apply List.map_congr_left
      intro n hn
      show (numV _ 3).getD 0 = n
      rw [hv n hn]; rfl
    have hb : badS ((a :: r).map fun n => (⟨(Lib.itoa n).toArray⟩ : ByteArray)) = false := by
      unfold badS
      rw [List.any_eq_false]
      intro x hx
      obtain ⟨n, hn, rfl⟩ := List.mem_map.1 hx
      rw [hv n hn]
      simp
    unfold placesV
    rw [hp, hn, hb, hr]
    rfl
theorem sidesV_T (l : List Int) (h : Small3 l) (hr : l = [] ∨ risesB l 1 4 = true) : sidesV ⟨(placesT l).toArray⟩ = (l, true) := by
  unfold sidesV
  cases l with
  | nil => rw [if_pos (show (⟨(placesT []).toArray⟩ : ByteArray).data.toList = [45] from rfl)]
  | cons a r =>
    rw [if_neg ?_]
    · exact placesV_T (a :: r) h (by simp) (hr.resolve_left (by simp))
    · rw [ba_eq]
      intro he
      have hm : (Lib.itoa a) ≠ [] := itoa_ne a (h a (by simp)).1
      unfold placesT at he
      rw [if_neg (by simp), List.map_cons] at he
      cases hi : Lib.itoa a with
      | nil => exact hm hi
      | cons c t =>
        rw [hi] at he
        have hc := itoa_digit a (h a (by simp)).1 c (by rw [hi]; simp)
        cases r with
        | nil =>
          rw [List.map_nil, Lib.join_one] at he
          injection he with h1 h2
          rw [h1] at hc
          exact absurd hc (by decide)
        | cons b r =>
          rw [List.map_cons, join2] at he
          injection he with h1 h2
          rw [h1] at hc
          exact absurd hc (by decide)

end Go.Proofs.YtamfloegflejnaaGreatDoor
