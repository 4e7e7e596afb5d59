/-
  Plain: a right node's line is read back as the node.
-/
import Derived.Test.YtamfloegflejnaaGreatDoorME
set_option linter.unusedVariables false
set_option linter.unusedSimpArgs false
namespace Go.Proofs.YtamfloegflejnaaGreatDoor
open Go.RowKit Go.Proofs.YtamfloegflejnaaGreatDoorW.PrintWords Go.Proofs.YtamfloegflejnaaGreatDoorW.PrintLast Go.Proofs.YtamfloegflejnaaGreatDoorW.PrintMore PGraphLines

theorem bet_eq (x y z : Int) : window_between.f x y z = some (decide (y ≤ x) && decide (x ≤ z)) := by
  unfold window_between.f
  by_cases h : x ≥ y
  · rw [if_pos h]; simp; omega
  · rw [if_neg h]; simp; omega
theorem betT_eq (x y z : Int) : trigger_between.f x y z = some (decide (y ≤ x) && decide (x ≤ z)) := by
  unfold trigger_between.f
  by_cases h : x ≥ y
  · rw [if_pos h]; simp; omega
  · rw [if_neg h]; simp; omega
def Num7 (n : Int) : Prop := 0 ≤ n ∧ n ≤ 9999999
theorem fn_range {a b c d : Int} (h : fnOk a b c d = true) : Num7 a ∧ Num7 b ∧ Num7 c ∧ Num7 d := by
  unfold fnOk window_Fn_Check.f at h
  simp only [bet_eq, Option.bind_some, Bool.and_eq_true, decide_eq_true_eq, beq_iff_eq] at h
  unfold Num7
  repeat' split at h
  all_goals first
    | (simp at h; done)
    | (simp only [wrap64, mn] at *; omega)
theorem tr_range {a b c : Int} {d : Bool} (h : trOk a b c d = true) : Num7 a ∧ Num7 b ∧ Num7 c := by
  unfold trOk trigger_Spec_Check.f at h
  simp only [betT_eq, Option.bind_some, Bool.and_eq_true, decide_eq_true_eq] at h
  unfold Num7
  repeat' split at h
  all_goals first
    | (simp at h; done)
    | omega

/-- A node that is right where it stands. -/
structure Okn (x : S63) : Prop where
  op : 1 ≤ x.f0 ∧ x.f0 ≤ 6
  s1 : Small3 x.f1
  s2 : Small3 x.f2
  r1 : risesB x.f1 (leastOf x.f0) (mostOf x.f0) = true
  r2 : risesB x.f2 0 (sidesOf x.f0) = true
  fm : formN x = true
theorem rises_len {l : List Int} {a b : Int} (h : risesB l a b = true) : a ≤ (l.length : Int) ∧ (l.length : Int) ≤ b := by
  unfold risesB at h
  simp only [Bool.and_eq_true, decide_eq_true_eq] at h
  exact h.2
theorem okn_of {ns : List S63} {i : Nat} (hi : i < ns.length) (h32 : ns.length ≤ 32) (h : nodeErr ns i = 0) : Okn (rd_T63 ns i) := by
  unfold nodeErr at h
  split at h
  · cases h
  rename_i hop
  split at h
  · rename_i hin
    split at h
    · rename_i hfm
      unfold inputsB at hin
      simp only [Bool.and_eq_true, Bool.not_eq_true'] at hin
      obtain ⟨h1, h2, h3, h4⟩ := hin
      have key : ∀ l : List Int, l.any (badIn ns i) = false → Small3 l := by
        intro l hl k hk
        have := List.any_eq_false.1 hl k hk
        unfold badIn at this
        simp only [Bool.not_eq_true, Bool.or_eq_false_iff, decide_eq_false_iff_not] at this
        omega
      exact ⟨by omega, key _ h3, key _ h4, h1, h2, hfm⟩
    · cases h
  · cases h

/-! ### What is read at a place -/
theorem numC_at (n : Int) (d : Nat) (h0 : 0 ≤ n) (h1 : n < 1000000000000) (h2 : n.toNat < 10 ^ d) (hd : 1 ≤ d) (rest : List UInt8) : numC d ⟨(Lib.itoa n ++ 32 :: rest).toArray⟩ false = (n, ⟨rest.toArray⟩, false) := by
  obtain ⟨e1, e2, e3, _⟩ := cutS_at (s := ⟨(Lib.itoa n ++ 32 :: rest).toArray⟩) rfl (not_mem_of (itoa_digit n h0) (.inl (by decide)))
  unfold numC
  rw [e1, e2, e3, numV_itoa n d h0 h1 h2 hd]
  rfl
theorem sidesC_at (l : List Int) (h : Small3 l) (hr : l = [] ∨ risesB l 1 4 = true) (rest : List UInt8) : sidesC ⟨(placesT l ++ 32 :: rest).toArray⟩ false = (l, ⟨rest.toArray⟩, false) := by
  obtain ⟨e1, e2, e3, _⟩ := cutS_at (s := ⟨(placesT l ++ 32 :: rest).toArray⟩) rfl (not_mem_of (places_digit l h) (.inl (by decide)))
  unfold sidesC
  rw [e1, e2, e3, sidesV_T l h hr]
  rfl
theorem places_one (n : Int) : placesT [n] = Lib.itoa n := by
  unfold placesT
  rw [if_neg (by simp), List.map_cons, List.map_nil, Lib.join_one]
theorem ba_self (s : ByteArray) : (⟨s.data.toList.toArray⟩ : ByteArray) = s := by
  apply ByteArray.ext
  simp
theorem empty_of {s : ByteArray} (h : s.toList.isEmpty = true) : s = ⟨#[]⟩ := by
  rw [ByteArray.toList_eq, List.isEmpty_iff] at h
  apply ByteArray.ext
  exact Array.toList_inj.mp h
theorem zero59 {t : S59} (h : (t.f0 == 0 && ((t.f1.length : Int) == 0)) = true) : t = z59 := by
  simp only [Bool.and_eq_true, beq_iff_eq] at h
  have : t.f1 = [] := List.eq_nil_of_length_eq_zero (by omega)
  rw [← eta59 t, h.1, this]
  rfl
theorem small_num {n : Int} (h : 0 ≤ n ∧ n ≤ 999) : 0 ≤ n ∧ n < 1000000000000 ∧ n.toNat < 10 ^ 3 := by
  refine ⟨h.1, by omega, by omega⟩
theorem num7_num {n : Int} (h : Num7 n) : 0 ≤ n ∧ n < 1000000000000 ∧ n.toNat < 10 ^ 7 := by
  unfold Num7 at h
  refine ⟨h.1, by omega, by omega⟩
theorem one_of {l : List Int} (h1 : 1 ≤ (l.length : Int)) (h2 : (l.length : Int) ≤ 1) : ∃ a, l = [a] := by
  match l, h1, h2 with
  | [a], _, _ => exact ⟨a, rfl⟩
  | [], h1, _ => simp at h1
  | a :: b :: r, _, h2 => simp at h2; omega
theorem nil_of {l : List Int} (h : (l.length : Int) ≤ 0) : l = [] := List.eq_nil_of_length_eq_zero (by omega)
theorem rises_some {l : List Int} (h : risesB l 0 4 = true) : l = [] ∨ risesB l 1 4 = true := by
  cases l with
  | nil => exact .inl rfl
  | cons a r =>
    right
    unfold risesB at h ⊢
    simp only [Bool.and_eq_true, decide_eq_true_eq] at h ⊢
    refine ⟨h.1, ?_, h.2.2⟩
    simp
    omega

/-- A right node's line is read as the node. -/
theorem read_line (x : S63) (h : Okn x) : readV ⟨(bodyT x).toArray⟩ = (x, true) := by
  obtain ⟨op, ins, si, tx, ty, ⟨a, b, c, d⟩, ⟨e0, e1, e2, e3⟩⟩ := x
  obtain ⟨hop, h1, h2, hr1, hr2, hfm⟩ := h
  dsimp only at hop h1 h2 hr1 hr2
  have hl1 := rises_len hr1
  have hl2 := rises_len hr2
  unfold formN formB at hfm
  dsimp only at hfm
  simp only [Bool.and_eq_true] at hfm
  obtain ⟨hft, hfy, hff, hfg⟩ := hfm
  have hops : op = 1 ∨ op = 2 ∨ op = 3 ∨ op = 4 ∨ op = 5 ∨ op = 6 := by omega
  rcases hops with rfl | rfl | rfl | rfl | rfl | rfl
  · -- source
    rw [if_neg (by decide)] at hft
    rw [if_pos rfl] at hfy
    rw [if_neg (by decide)] at hff hfg
    simp only [Bool.and_eq_true, beq_iff_eq, Bool.not_eq_true'] at hff hfg
    obtain ⟨rfl, rfl, rfl, rfl⟩ := hff
    obtain ⟨rfl, rfl, rfl, rfl⟩ := hfg
    obtain rfl := nil_of (l := ins) (by simpa [mostOf] using hl1.2)
    obtain rfl := nil_of (l := si) (by simpa [sidesOf] using hl2.2)
    obtain rfl := empty_of hft
    have hb : bodyT ⟨1, [], [], ⟨#[]⟩, ty, ⟨0, 0, 0, 0⟩, ⟨0, 0, 0, false⟩⟩ = [115, 111, 117, 114, 99, 101] ++ 32 :: showT 6 ty := by
      unfold bodyT partsT
      dsimp only
      rw [if_pos rfl, join2, Lib.join_one]
    rw [hb]
    obtain ⟨q1, q2, q3, q4⟩ := cutS_at (s := ⟨([115, 111, 117, 114, 99, 101] ++ 32 :: showT 6 ty).toArray⟩) rfl (by decide)
    unfold readV
    rw [q4, if_pos rfl, q2, q3]
    unfold srcV
    rw [parseV_T ty hfy]
    rfl
  · -- each
    rw [if_pos (.inl rfl)] at hft
    rw [if_neg (by decide)] at hfy hff hfg
    simp only [Bool.and_eq_true, beq_iff_eq, Bool.not_eq_true'] at hff hfg
    obtain ⟨rfl, rfl, rfl, rfl⟩ := hff
    obtain ⟨rfl, rfl, rfl, rfl⟩ := hfg
    obtain rfl := zero59 hfy
    obtain ⟨n, rfl⟩ := one_of (l := ins) (by simpa [leastOf] using hl1.1) (by simpa [mostOf] using hl1.2)
    obtain ⟨g0, g1, g2⟩ := small_num (h1 n (by simp))
    have hb : bodyT ⟨2, [n], si, tx, z59, ⟨0, 0, 0, 0⟩, ⟨0, 0, 0, false⟩⟩ = [101, 97, 99, 104] ++ 32 :: (Lib.itoa n ++ 32 :: (placesT si ++ 32 :: tx.data.toList)) := by
      unfold bodyT partsT
      dsimp only
      rw [if_neg (by simp), if_pos rfl, join2, join2, join2, Lib.join_one, places_one]
    rw [hb]
    obtain ⟨q1, q2, q3, q4⟩ := cutS_at (s := ⟨([101, 97, 99, 104] ++ 32 :: (Lib.itoa n ++ 32 :: (placesT si ++ 32 :: tx.data.toList))).toArray⟩) rfl (by decide)
    unfold readV
    rw [q4, if_neg (by decide), if_pos rfl, q2, q3]
    unfold eachV
    have hn := numC_at n 3 g0 g1 g2 (by decide) (placesT si ++ 32 :: tx.data.toList)
    have hs := sidesC_at si h2 (rises_some hr2) tx.data.toList
    rw [show (!true) = false from rfl]
    rw [show ((3 : Nat) : Int) = 3 from rfl] at hn
    rw [hn]
    dsimp only
    rw [hs]
    dsimp only
    rw [ba_self, hft]
    rfl
  · -- window
    rw [if_neg (by decide)] at hft hfy hfg
    rw [if_pos rfl] at hff
    simp only [Bool.and_eq_true, beq_iff_eq, Bool.not_eq_true'] at hfg
    obtain ⟨rfl, rfl, rfl, rfl⟩ := hfg
    obtain rfl := zero59 hfy
    obtain rfl := empty_of hft
    obtain rfl := nil_of (l := si) (by simpa [sidesOf] using hl2.2)
    obtain ⟨n, rfl⟩ := one_of (l := ins) (by simpa [leastOf] using hl1.1) (by simpa [mostOf] using hl1.2)
    obtain ⟨g0, g1, g2⟩ := small_num (h1 n (by simp))
    obtain ⟨fa, fb, fc, fd⟩ := fn_range hff
    obtain ⟨a0, a1, a2⟩ := num7_num fa
    obtain ⟨b0, b1, b2⟩ := num7_num fb
    obtain ⟨c0, c1, c2⟩ := num7_num fc
    obtain ⟨d0, d1, d2⟩ := num7_num fd
    have hb : bodyT ⟨3, [n], [], ⟨#[]⟩, z59, ⟨a, b, c, d⟩, ⟨0, 0, 0, false⟩⟩ = [119, 105, 110, 100, 111, 119] ++ 32 :: (Lib.itoa n ++ 32 :: (Lib.itoa a ++ 32 :: (Lib.itoa b ++ 32 :: (Lib.itoa c ++ 32 :: Lib.itoa d)))) := by
      unfold bodyT partsT
      dsimp only
      rw [if_neg (by simp), if_neg (by simp), if_pos rfl, join2, join2, join2, join2, join2, Lib.join_one, places_one]
    rw [hb]
    obtain ⟨q1, q2, q3, q4⟩ := cutS_at (s := ⟨([119, 105, 110, 100, 111, 119] ++ 32 :: (Lib.itoa n ++ 32 :: (Lib.itoa a ++ 32 :: (Lib.itoa b ++ 32 :: (Lib.itoa c ++ 32 :: Lib.itoa d))))).toArray⟩) rfl (by decide)
    unfold readV
    rw [q4, if_neg (by decide), if_neg (by decide), if_pos rfl, q2, q3]
    unfold winV
    have hn := numC_at n 3 g0 g1 g2 (by decide) (Lib.itoa a ++ 32 :: (Lib.itoa b ++ 32 :: (Lib.itoa c ++ 32 :: Lib.itoa d)))
    have ha := numC_at a 7 a0 a1 a2 (by decide) (Lib.itoa b ++ 32 :: (Lib.itoa c ++ 32 :: Lib.itoa d))
    have hbb := numC_at b 7 b0 b1 b2 (by decide) (Lib.itoa c ++ 32 :: Lib.itoa d)
    have hc := numC_at c 7 c0 c1 c2 (by decide) (Lib.itoa d)
    have hd := numV_itoa d 7 d0 d1 d2 (by decide)
    rw [show (!true) = false from rfl]
    rw [show ((3 : Nat) : Int) = 3 from rfl] at hn
    rw [show ((7 : Nat) : Int) = 7 from rfl] at ha hbb hc hd
    rw [hn]; dsimp only
    rw [ha]; dsimp only
    rw [hbb]; dsimp only
    rw [hc]; dsimp only
    rw [hd]
    rfl
  · -- group
    rw [if_pos (.inr rfl)] at hft
    rw [if_neg (by decide)] at hfy hff
    rw [if_pos rfl] at hfg
    simp only [Bool.and_eq_true, beq_iff_eq, Bool.not_eq_true'] at hff
    obtain ⟨rfl, rfl, rfl, rfl⟩ := hff
    obtain rfl := zero59 hfy
    obtain rfl := nil_of (l := si) (by simpa [sidesOf] using hl2.2)
    obtain ⟨n, rfl⟩ := one_of (l := ins) (by simpa [leastOf] using hl1.1) (by simpa [mostOf] using hl1.2)
    obtain ⟨g0, g1, g2⟩ := small_num (h1 n (by simp))
    obtain ⟨fa, fb, fc⟩ := tr_range hfg
    obtain ⟨a0, a1, a2⟩ := num7_num fa
    obtain ⟨b0, b1, b2⟩ := num7_num fb
    obtain ⟨c0, c1, c2⟩ := num7_num fc
    obtain ⟨hw, hhw⟩ : ∃ hw : List UInt8, hw = (if e3 = true then [97, 99, 99] else [100, 105, 115]) := ⟨_, rfl⟩
    have hw32 : (32 : UInt8) ∉ hw := by rw [hhw]; cases e3 <;> decide
    have hb : bodyT ⟨4, [n], [], tx, z59, ⟨0, 0, 0, 0⟩, ⟨e0, e1, e2, e3⟩⟩ = [103, 114, 111, 117, 112] ++ 32 :: (Lib.itoa n ++ 32 :: (Lib.itoa e0 ++ 32 :: (Lib.itoa e1 ++ 32 :: (Lib.itoa e2 ++ 32 :: (hw ++ 32 :: tx.data.toList))))) := by
      unfold bodyT partsT
      dsimp only
      rw [if_neg (by simp), if_neg (by simp), if_neg (by simp), if_pos rfl, join2, join2, join2, join2, join2, join2, Lib.join_one, places_one, hhw]
    rw [hb]
    obtain ⟨q1, q2, q3, q4⟩ := cutS_at (s := ⟨([103, 114, 111, 117, 112] ++ 32 :: (Lib.itoa n ++ 32 :: (Lib.itoa e0 ++ 32 :: (Lib.itoa e1 ++ 32 :: (Lib.itoa e2 ++ 32 :: (hw ++ 32 :: tx.data.toList)))))).toArray⟩) rfl (by decide)
    obtain ⟨p1, p2, p3, p4⟩ := cutS_at (s := ⟨(hw ++ 32 :: tx.data.toList).toArray⟩) rfl hw32
    unfold readV
    rw [q4, if_neg (by decide), if_neg (by decide), if_neg (by decide), if_pos rfl, q2, q3]
    unfold grpV
    have hn := numC_at n 3 g0 g1 g2 (by decide) (Lib.itoa e0 ++ 32 :: (Lib.itoa e1 ++ 32 :: (Lib.itoa e2 ++ 32 :: (hw ++ 32 :: tx.data.toList))))
    have ha := numC_at e0 7 a0 a1 a2 (by decide) (Lib.itoa e1 ++ 32 :: (Lib.itoa e2 ++ 32 :: (hw ++ 32 :: tx.data.toList)))
    have hbb := numC_at e1 7 b0 b1 b2 (by decide) (Lib.itoa e2 ++ 32 :: (hw ++ 32 :: tx.data.toList))
    have hc := numC_at e2 7 c0 c1 c2 (by decide) (hw ++ 32 :: tx.data.toList)
    rw [show (!true) = false from rfl]
    rw [show ((3 : Nat) : Int) = 3 from rfl] at hn
    rw [show ((7 : Nat) : Int) = 7 from rfl] at ha hbb hc
    rw [hn]; dsimp only
    rw [ha]; dsimp only
    rw [hbb]; dsimp only
    rw [hc]; dsimp only
    rw [p2, p3, p4, ba_self, hft, hhw]
    cases e3 <;> rfl
  · -- flatten
    rw [if_neg (by decide)] at hft hfy hff hfg
    simp only [Bool.and_eq_true, beq_iff_eq, Bool.not_eq_true'] at hff hfg
    obtain ⟨rfl, rfl, rfl, rfl⟩ := hff
    obtain ⟨rfl, rfl, rfl, rfl⟩ := hfg
    obtain rfl := zero59 hfy
    obtain rfl := empty_of hft
    obtain rfl := nil_of (l := si) (by simpa [sidesOf] using hl2.2)
    have hb : bodyT ⟨5, ins, [], ⟨#[]⟩, z59, ⟨0, 0, 0, 0⟩, ⟨0, 0, 0, false⟩⟩ = [102, 108, 97, 116, 116, 101, 110] ++ 32 :: placesT ins := by
      unfold bodyT partsT
      dsimp only
      rw [if_neg (by simp), if_neg (by simp), if_neg (by simp), if_neg (by simp), if_pos rfl, join2, Lib.join_one]
    rw [hb]
    obtain ⟨q1, q2, q3, q4⟩ := cutS_at (s := ⟨([102, 108, 97, 116, 116, 101, 110] ++ 32 :: placesT ins).toArray⟩) rfl (by decide)
    unfold readV
    rw [q4, if_neg (by decide), if_neg (by decide), if_neg (by decide), if_neg (by decide), if_pos rfl, q2, q3]
    unfold flatV
    rw [placesV_T ins h1 (by intro he; rw [he] at hl1; simp [leastOf] at hl1) (by simpa [leastOf, mostOf] using hr1)]
    rfl
  · -- sink
    rw [if_neg (by decide)] at hft hfy hff hfg
    simp only [Bool.and_eq_true, beq_iff_eq, Bool.not_eq_true'] at hff hfg
    obtain ⟨rfl, rfl, rfl, rfl⟩ := hff
    obtain ⟨rfl, rfl, rfl, rfl⟩ := hfg
    obtain rfl := zero59 hfy
    obtain rfl := empty_of hft
    obtain rfl := nil_of (l := si) (by simpa [sidesOf] using hl2.2)
    obtain ⟨n, rfl⟩ := one_of (l := ins) (by simpa [leastOf] using hl1.1) (by simpa [mostOf] using hl1.2)
    obtain ⟨g0, g1, g2⟩ := small_num (h1 n (by simp))
    have hb : bodyT ⟨6, [n], [], ⟨#[]⟩, z59, ⟨0, 0, 0, 0⟩, ⟨0, 0, 0, false⟩⟩ = [115, 105, 110, 107] ++ 32 :: Lib.itoa n := by
      unfold bodyT partsT
      dsimp only
      rw [if_neg (by simp), if_neg (by simp), if_neg (by simp), if_neg (by simp), if_neg (by simp), join2, Lib.join_one, places_one]
    rw [hb]
    obtain ⟨q1, q2, q3, q4⟩ := cutS_at (s := ⟨([115, 105, 110, 107] ++ 32 :: Lib.itoa n).toArray⟩) rfl (by decide)
    unfold readV
    rw [q4, if_neg (by decide), if_neg (by decide), if_neg (by decide), if_neg (by decide), if_neg (by decide), if_pos rfl, q2, q3]
    unfold sinkV
    have hn := numV_itoa n 3 g0 g1 g2 (by decide)
    rw [show ((3 : Nat) : Int) = 3 from rfl] at hn
    rw [hn]
    rfl

end Go.Proofs.YtamfloegflejnaaGreatDoor
