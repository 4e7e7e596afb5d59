/-
  Plain law: how a text is written in quotes, byte for byte.
-/
import Derived.Test.YtamfloegflejnaaDoorP
import Derived.Lib.IndexBytes
set_option linter.unusedVariables false
namespace Go.Proofs.YtamfloegflejnaaDoor
open Go.RowKit Go.Proofs.YtamfloegflejnaaDoorW.PrintWords

/-- A byte that stands for itself within quotes. -/
def plainZ (c : Int) : Bool := decide (32 ≤ c) && decide (c ≤ 126) && !(c == 34) && !(c == 92)
def hx (n : Nat) : Nat := if n < 10 then 48 + n else 87 + n
def encB (b : UInt8) : List UInt8 := if plainZ b.toNat = true then [b] else [92, UInt8.ofNat (hx (b.toNat / 16)), UInt8.ofNat (hx (b.toNat % 16))]
def enc (l : List UInt8) : List UInt8 := l.flatMap encB

theorem encB_plain (b : UInt8) (h : plainZ b.toNat = true) : encB b = [b] := by unfold encB; rw [if_pos h]
theorem encB_esc (b : UInt8) (h : plainZ b.toNat = false) : encB b = [92, UInt8.ofNat (hx (b.toNat / 16)), UInt8.ofNat (hx (b.toNat % 16))] := by unfold encB; rw [if_neg (by rw [h]; decide)]

theorem hx_fin : ∀ n : Fin 16, 48 ≤ hx n.val ∧ hx n.val ≤ 102 := by decide
theorem hx_range (n : Nat) (h : n < 16) : 48 ≤ hx n ∧ hx n ≤ 102 := hx_fin ⟨n, h⟩
theorem hx_byte (n : Nat) (h : n < 16) : (UInt8.ofNat (hx n)).toNat = hx n := by
  rw [UInt8.toNat_ofNat_of_lt' (by have := (hx_range n h).2; simp [UInt8.size]; omega)]

theorem encB_length (b : UInt8) : 1 ≤ (encB b).length ∧ (encB b).length ≤ 3 := by
  unfold encB
  split <;> simp

theorem encB_range (b : UInt8) : ∀ x ∈ encB b, 32 ≤ x.toNat ∧ x.toNat ≤ 126 := by
  intro x hx1
  have hb : b.toNat < 256 := b.toNat_lt
  cases h : plainZ b.toNat with
  | true =>
    rw [encB_plain b h] at hx1
    simp at hx1
    subst hx1
    simp [plainZ] at h
    omega
  | false =>
    rw [encB_esc b h] at hx1
    simp at hx1
    have h1 := hx_range (b.toNat / 16) (by omega)
    have h2 := hx_range (b.toNat % 16) (by omega)
    rcases hx1 with rfl | rfl | rfl
    · decide
    · rw [hx_byte _ (by omega)]; omega
    · rw [hx_byte _ (by omega)]; omega

theorem enc_take_succ (l : List UInt8) (k : Nat) (h : k < l.length) : enc (l.take (k + 1)) = enc (l.take k) ++ encB l[k] := by
  unfold enc
  rw [List.take_succ_eq_append_getElem h, List.flatMap_append]
  simp

theorem enc_split (l : List UInt8) (k : Nat) (h : k < l.length) : enc l = enc (l.take k) ++ (encB l[k] ++ enc (l.drop (k + 1))) := by
  have e : l = l.take k ++ (l[k] :: l.drop (k + 1)) := by rw [← List.drop_eq_getElem_cons h, List.take_append_drop]
  refine (congrArg enc e).trans ?_
  unfold enc
  rw [List.flatMap_append, List.flatMap_cons]

theorem enc_length (l : List UInt8) : l.length ≤ (enc l).length ∧ (enc l).length ≤ 3 * l.length := by
  induction l with
  | nil => simp [enc]
  | cons b l ih =>
    have h := encB_length b
    unfold enc at *
    simp only [List.flatMap_cons, List.length_append, List.length_cons]
    omega

theorem enc_range (l : List UInt8) : ∀ x ∈ enc l, 32 ≤ x.toNat ∧ x.toNat ≤ 126 := by
  intro x hx1
  unfold enc at hx1
  obtain ⟨b, _, hb⟩ := List.mem_flatMap.1 hx1
  exact encB_range b x hb

/-- The text in quotes. -/
def quoted (l : List UInt8) : List UInt8 := 34 :: (enc l ++ [34])

theorem quoted_length (l : List UInt8) : (quoted l).length = (enc l).length + 2 := by simp [quoted]

theorem quoted_range (l : List UInt8) : ∀ x ∈ quoted l, 32 ≤ x.toNat ∧ x.toNat ≤ 126 := by
  intro x hx1
  simp [quoted] at hx1
  rcases hx1 with rfl | h | rfl
  · decide
  · exact enc_range l x h
  · decide

/-- Where byte k of the text stands, behind the first quote at a - 1. -/
def encAt (l : List UInt8) (k : Nat) : Nat := 1 + (enc (l.take k)).length

/-- What the scanner meets at each byte. -/
structure TextAt (s : ByteArray) (l : List UInt8) : Prop where
  size : s.size = (enc l).length + 2
  first : pk s ((0 : Nat) : Int) = 34
  plain : ∀ (k : Nat) (h : k < l.length), plainZ (l[k]).toNat = true → pk s ((encAt l k : Nat) : Int) = ((l[k]).toNat : Int) ∧ encAt l (k + 1) = encAt l k + 1
  esc : ∀ (k : Nat) (h : k < l.length), plainZ (l[k]).toNat = false → pk s ((encAt l k : Nat) : Int) = 92 ∧ pk s ((encAt l k + 1 : Nat) : Int) = (hx ((l[k]).toNat / 16) : Int) ∧ pk s ((encAt l k + 2 : Nat) : Int) = (hx ((l[k]).toNat % 16) : Int) ∧ encAt l (k + 1) = encAt l k + 3
  last : pk s ((encAt l l.length : Nat) : Int) = 34 ∧ encAt l l.length + 1 = s.size
  below : ∀ k, k ≤ l.length → encAt l k < s.size

theorem quoted_at (l : List UInt8) (k : Nat) (h : k < l.length) (j : Nat) (hj : j < (encB l[k]).length) :
    pk ⟨(quoted l).toArray⟩ ((encAt l k + j : Nat) : Int) = (((encB l[k])[j]).toNat : Int) := by
  have e := enc_split l k h
  have hlen : (enc l).length = (enc (l.take k)).length + ((encB l[k]).length + (enc (l.drop (k + 1))).length) := by rw [e]; simp
  rw [pk_text _ _ (by rw [quoted_length]; unfold encAt; omega)]
  unfold quoted encAt
  simp only [show 1 + (enc (l.take k)).length + j = ((enc (l.take k)).length + j) + 1 by omega, List.getElem_cons_succ]
  rw [List.getElem_append_left (by omega)]
  simp only [e]
  rw [List.getElem_append_right (by omega), List.getElem_append_left (by omega)]
  simp

theorem textAt (l : List UInt8) : TextAt ⟨(quoted l).toArray⟩ l where
  size := by show (quoted l).length = _; rw [quoted_length]
  first := by rw [pk_text _ _ (by rw [quoted_length]; omega)]; rfl
  plain := fun k h hp => by
    have e := encB_plain l[k] hp
    constructor
    · have := quoted_at l k h 0 (by rw [e]; simp)
      simp only [e] at this
      simpa using this
    · unfold encAt
      rw [enc_take_succ l k h, e]
      simp; omega
  esc := fun k h hp => by
    have e := encB_esc l[k] hp
    have hb : (l[k]).toNat < 256 := (l[k]).toNat_lt
    refine ⟨?_, ?_, ?_, ?_⟩
    · have := quoted_at l k h 0 (by rw [e]; simp)
      simp only [e] at this
      simpa using this
    · have := quoted_at l k h 1 (by rw [e]; simp)
      simp only [e] at this
      rw [this]
      simp only [List.getElem_cons_succ, List.getElem_cons_zero]
      rw [hx_byte _ (by omega)]
    · have := quoted_at l k h 2 (by rw [e]; simp)
      simp only [e] at this
      rw [this]
      simp only [List.getElem_cons_succ, List.getElem_cons_zero]
      rw [hx_byte _ (by omega)]
    · unfold encAt
      rw [enc_take_succ l k h, e]
      simp; omega
  last := by
    have e : encAt l l.length = (enc l).length + 1 := by unfold encAt; rw [List.take_length]; omega
    constructor
    · rw [e, pk_text _ _ (by rw [quoted_length]; omega)]
      unfold quoted
      simp
    · rw [e]; show _ = (quoted l).length; rw [quoted_length]
  below := fun k hk => by
    show _ < (quoted l).length
    rw [quoted_length]
    unfold encAt
    have : (enc (l.take k)).length ≤ (enc l).length := by
      rcases Nat.lt_or_ge k l.length with h | h
      · rw [enc_split l k h]; simp
      · rw [List.take_of_length_le h]; exact Nat.le_refl _
    omega

/-- A hex digit's value. -/
def hexv (c : Int) : Int := Lib.indexByte (⟨#[48, 49, 50, 51, 52, 53, 54, 55, 56, 57, 97, 98, 99, 100, 101, 102]⟩ : ByteArray).data.toList c.toNat.toUInt8
theorem hexv_fin : ∀ n : Fin 16, hexv (hx n.val : Int) = (n.val : Int) := by decide +kernel
theorem hexv_hx (n : Nat) (h : n < 16) : hexv (hx n : Int) = (n : Int) := hexv_fin ⟨n, h⟩

/-- The high digit of a byte that is not plain is not one whose row is all plain. -/
theorem esc_high_fin : ∀ b : Fin 256, plainZ (b.val : Int) = false → b.val / 16 ≠ 3 ∧ b.val / 16 ≠ 4 ∧ b.val / 16 ≠ 6 := by decide +kernel
theorem esc_high (b : UInt8) (h : plainZ b.toNat = false) : b.toNat / 16 ≠ 3 ∧ b.toNat / 16 ≠ 4 ∧ b.toNat / 16 ≠ 6 := esc_high_fin ⟨b.toNat, b.toNat_lt⟩ h

end Go.Proofs.YtamfloegflejnaaDoor
