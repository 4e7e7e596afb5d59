/-
  Plain law: the numeral of an integer as decimal digits, and as the scanner reads it.
-/
import Derived.Test.YtamfloegflejnaaDoorS1
import Derived.Lib.ItoaMem
set_option linter.unusedVariables false
namespace Go.Proofs.YtamfloegflejnaaDoor
open Go.RowKit Go.Proofs.YtamfloegflejnaaDoorW.PrintWords

/-- The decimal digits of a number, the greatest first. -/
def digs (u : Nat) : List Nat := if h : u < 10 then [u] else digs (u / 10) ++ [u % 10]
termination_by u
decreasing_by omega

theorem digs_lt (u : Nat) (h : u < 10) : digs u = [u] := by rw [digs, dif_pos h]
theorem digs_ge (u : Nat) (h : ¬ u < 10) : digs u = digs (u / 10) ++ [u % 10] := by rw [digs, dif_neg h]

theorem digs_text (u : Nat) : Lib.decDigits u = (digs u).map fun d => UInt8.ofNat (48 + d) := by
  induction u using Nat.strongRecOn with
  | _ u ih =>
    by_cases h : u < 10
    · rw [digs_lt u h, Lib.decDigits_one h]; rfl
    · rw [Lib.decDigits, dif_neg h, digs_ge u h, ih (u / 10) (by omega)]
      simp

theorem digs_val (u : Nat) : dval (digs u) = u := by
  induction u using Nat.strongRecOn with
  | _ u ih =>
    by_cases h : u < 10
    · rw [digs_lt u h]; simp [dval]
    · rw [digs_ge u h, dval_snoc, ih (u / 10) (by omega)]; omega

theorem digs_le (u : Nat) : ∀ d ∈ digs u, d ≤ 9 := by
  induction u using Nat.strongRecOn with
  | _ u ih =>
    by_cases h : u < 10
    · rw [digs_lt u h]; simp; omega
    · rw [digs_ge u h]
      intro d hd
      rcases List.mem_append.1 hd with hd | hd
      · exact ih (u / 10) (by omega) d hd
      · simp at hd; omega

theorem digs_pos (u : Nat) : 1 ≤ (digs u).length := by
  by_cases h : u < 10
  · rw [digs_lt u h]; simp
  · rw [digs_ge u h]; simp

theorem digs_head (u : Nat) (hu : 1 ≤ u) : 1 ≤ dval ((digs u).take 1) := by
  induction u using Nat.strongRecOn with
  | _ u ih =>
    by_cases h : u < 10
    · rw [digs_lt u h]; simpa [dval] using hu
    · rw [digs_ge u h, List.take_append_of_le_length (digs_pos _)]
      exact ih (u / 10) (by omega) (by omega)

theorem digs_len (k u : Nat) (hk : 1 ≤ k) (h : u < 10 ^ k) : (digs u).length ≤ k := by
  induction k generalizing u with
  | zero => omega
  | succ k ih =>
    by_cases h1 : u < 10
    · rw [digs_lt u h1]; simp
    · rw [digs_ge u h1]
      have hk1 : 1 ≤ k := by
        rcases Nat.eq_zero_or_pos k with rfl | h0
        · simp at h; omega
        · exact h0
      have := ih (u / 10) hk1 (by rw [Nat.pow_succ] at h; omega)
      simp only [List.length_append, List.length_singleton]
      omega

/-- A text whose bytes from a on are these digits and nothing more. -/
theorem pk_text (l : List UInt8) (i : Nat) (h : i < l.length) : pk ⟨l.toArray⟩ (i : Int) = ((l[i]).toNat : Int) := by
  unfold pk bt
  have hs : (⟨l.toArray⟩ : ByteArray).size = l.length := rfl
  rw [if_pos (by rw [hs]; exact_mod_cast h), dif_pos (by rw [hs]; simpa using h)]
  simp [ByteArray.getElem_eq_getElem_data]

theorem pk_past (l : List UInt8) (i : Nat) (h : l.length ≤ i) : pk ⟨l.toArray⟩ (i : Int) = 0 := by
  unfold pk
  have hs : (⟨l.toArray⟩ : ByteArray).size = l.length := rfl
  rw [if_neg (by rw [hs]; omega)]

theorem pk_dig (pre : List UInt8) (ds : List Nat) (h9 : ∀ d ∈ ds, d ≤ 9) (i : Nat) (h : i < ds.length) :
    pk ⟨(pre ++ ds.map fun d => UInt8.ofNat (48 + d)).toArray⟩ ((pre.length + i : Nat) : Int) = 48 + (ds[i] : Int) := by
  rw [pk_text _ _ (by simp; exact h)]
  have h1 : ds[i] ≤ 9 := h9 _ (List.getElem_mem h)
  rw [List.getElem_append_right (by omega)]
  simp only [Nat.add_sub_cancel_left, List.getElem_map]
  rw [UInt8.toNat_ofNat_of_lt' (by simp [UInt8.size]; omega)]
  omega

theorem numat_text (pre : List UInt8) (u : Nat) : NumAt ⟨(pre ++ (digs u).map fun d => UInt8.ofNat (48 + d)).toArray⟩ pre.length (digs u) where
  pos := digs_pos u
  digit := fun i h => ⟨pk_dig pre (digs u) (digs_le u) i h, digs_le u _ (List.getElem_mem h)⟩
  head := fun h => by
    refine digs_head u ?_
    rcases Nat.eq_zero_or_pos u with rfl | h0
    · rw [digs_lt 0 (by omega)] at h; simp at h
    · exact h0
  stop := by
    left
    rw [pk_past _ _ (by simp)]
    omega

/-- What the numeral of n is. -/
structure Numeral (n : Int) (s : ByteArray) (off : Nat) (ds : List Nat) : Prop where
  text : s = ⟨(Lib.itoa n).toArray⟩
  size : s.size = off + ds.length
  some : 1 ≤ ds.length
  short : ds.length ≤ 19
  at_ : ∀ (i : Nat) (h : i < ds.length), bt s ((off + i : Nat) : Int) = 48 + (ds[i] : Int) ∧ ds[i] ≤ 9
  num : NumAt s off ds
  pos : 0 ≤ n → off = 0 ∧ (dval ds : Int) = n
  neg : n < 0 → off = 1 ∧ (dval ds : Int) = -n ∧ bt s 0 = 45 ∧ 1 ≤ dval (ds.take 1)
  lead : 0 < n → 1 ≤ dval (ds.take 1)

theorem bt_pk (s : ByteArray) (i : Nat) (h : i < s.size) : bt s (i : Int) = pk s (i : Int) := by
  unfold pk
  rw [if_pos (by exact_mod_cast h)]

theorem numeral (n : Int) (h0 : -9223372036854775808 ≤ n) (h1 : n ≤ 9223372036854775807) : ∃ s off ds, Numeral n s off ds := by
  by_cases hn : 0 ≤ n
  · obtain ⟨u, rfl⟩ := Int.eq_ofNat_of_zero_le hn
    have ht : Lib.itoa (u : Int) = [] ++ (digs u).map fun d => UInt8.ofNat (48 + d) := by rw [Lib.itoa_nonneg, digs_text]; rfl
    have hN := numat_text [] u
    rw [← ht] at hN
    have hsz : (⟨(Lib.itoa (u : Int)).toArray⟩ : ByteArray).size = 0 + (digs u).length := by show (Lib.itoa (u : Int)).length = _; rw [ht]; simp
    refine ⟨⟨(Lib.itoa (u : Int)).toArray⟩, 0, digs u, rfl, hsz, digs_pos u, digs_len 19 u (by omega) (by omega), fun i h => ?_, hN, fun _ => ⟨rfl, by rw [digs_val]⟩, fun h => by omega, fun h => digs_head u (by omega)⟩
    rw [bt_pk _ _ (by rw [hsz]; omega)]
    exact hN.digit i h
  · obtain ⟨u, hu⟩ := Int.eq_ofNat_of_zero_le (show 0 ≤ -n by omega)
    obtain rfl : n = -(u : Int) := by omega
    have ht : Lib.itoa (-(u : Int)) = [45] ++ (digs u).map fun d => UInt8.ofNat (48 + d) := by rw [Lib.itoa_neg u (by omega), digs_text]; rfl
    have hN := numat_text [45] u
    rw [← ht] at hN
    have hsz : (⟨(Lib.itoa (-(u : Int))).toArray⟩ : ByteArray).size = 1 + (digs u).length := by show (Lib.itoa (-(u : Int))).length = _; rw [ht]; simp; omega
    refine ⟨⟨(Lib.itoa (-(u : Int))).toArray⟩, 1, digs u, rfl, hsz, digs_pos u, digs_len 19 u (by omega) (by omega), fun i h => ?_, hN, fun h => by omega, fun _ => ⟨rfl, by rw [digs_val]; omega, ?_, digs_head u (by omega)⟩, fun h => by omega⟩
    · rw [bt_pk _ _ (by rw [hsz]; omega)]
      exact hN.digit i h
    · have := bt_pk ⟨(Lib.itoa (-(u : Int))).toArray⟩ 0 (by rw [hsz]; omega)
      rw [show ((0 : Nat) : Int) = 0 from rfl] at this
      rw [this, show (0 : Int) = ((0 : Nat) : Int) from rfl, ht, pk_text _ _ (by simp)]
      rfl

end Go.Proofs.YtamfloegflejnaaDoor
