/-
 Plain: the ref's scan of a type accepts what the graph's own reader accepts.
 Plain: the ref's Read of a line says what the graph's own read says.
 Plain: a right pipeline's text with one more line behind it, parsed.
-/
import Derived.Test.YtamfloegflejnaaGreatDoorVA
import Derived.Test.YtamfloegflejnaaGreatDoorMD
import Derived.Test.YtamfloegflejnaaGreatDoorUA
import Derived.Test.YtamfloegflejnaaGreatDoorVB
import Derived.Test.YtamfloegflejnaaGreatDoorMG
import Derived.Test.YtamfloegflejnaaGreatDoorNM
set_option linter.unusedVariables false
set_option linter.unusedSimpArgs false
namespace Go.Proofs.YtamfloegflejnaaGreatDoor
open Go.RowKit Go.Proofs.YtamfloegflejnaaGreatDoorW.PrintWords Go.Proofs.YtamfloegflejnaaGreatDoorW.PrintLast Go.Proofs.YtamfloegflejnaaGreatDoorW.PrintMore PGraphLines
/-- The first n bytes of a word stand here. -/
def PreN (s : ByteArray) (q n : Nat) (x : S135) : Prop := ∀ i, i < n -> bt x.f1 (i : Int) = bt s ((q + i : Nat) : Int)
theorem wordF_pre : ∀ (f : Nat) (ws : List S135) (n : Nat) (s : ByteArray) (q : Nat) (x : S135) (e : Nat), (∀ y ∈ ws, PreN s q n y) -> q + n <= s.size -> wordF f ws n s (q + n) = (some x, e) -> PreN s q x.f1.size x ∧ e = q + x.f1.size ∧ e <= s.size
 | 0, ws, n, s, q, x, e, h, hq, hw => by cases hw
 | f + 1, ws, n, s, q, x, e, h, hq, hw => by
  unfold wordF at hw
  split at hw
  ·rename_i y hy
   injection hw with h1 h2
   injection h1 with h1
   subst h1
   have hm := List.mem_of_find?_eq_some hy
   have hs := List.find?_some hy
   have hs2 : y.f1.size = n := by simpa using hs
   rw [hs2]
   exact ⟨h y hm, h2.symm, by omega⟩
  ·split at hw
   ·rename_i hc
    refine wordF_pre f _ (n + 1) s q x e (fun y hy i hi => ?_) (by omega) hw
    obtain ⟨hm, ho⟩ := List.mem_filter.1 hy
    rcases Nat.lt_or_ge i n with hlt | hge
    ·exact h y hm i hlt
    ·obtain rfl : i = n := by omega
     unfold offB at ho
     simpa using ho
   ·cases hw
theorem pre_drop {s : ByteArray} {q n : Nat} {x : S135} (hn : n = x.f1.size) (hq : q + n <= s.size) (h : PreN s q n x) : ∃ post, s.data.toList.drop q = x.f1.data.toList ++ post := by
 have hl : s.data.toList.length = s.size := by simp
 have hx : x.f1.data.toList.length = x.f1.size := by simp
 refine ⟨(s.data.toList.drop q).drop n, ?_⟩
 have : (s.data.toList.drop q).take n = x.f1.data.toList := by
  apply List.ext_getElem
  ·rw [List.length_take, List.length_drop]; omega
  ·intro i h1 h2
   have hi : i < n := by rw [List.length_take] at h1; omega
   have := h i hi
   unfold bt at this
   rw [dif_pos (by rw [Int.toNat_natCast]; omega), dif_pos (by rw [Int.toNat_natCast]; omega)] at this
   rw [List.getElem_take, List.getElem_drop]
   have e : (x.f1[i]'(by omega)).toNat = (s[q + i]'(by omega)).toNat := by
    have h3 : ((x.f1[((i : Nat) : Int).toNat]'(by rw [Int.toNat_natCast]; omega)).toNat : Int) = ((s[((q + i : Nat) : Int).toNat]'(by rw [Int.toNat_natCast]; omega)).toNat : Int) := this
    simp only [Int.toNat_natCast] at h3
    omega
   have e2 := UInt8.toNat_inj.1 e
   simpa [ByteArray.getElem_eq_getElem_data] using e2.symm
 conv => lhs; rw [<- List.take_append_drop n (s.data.toList.drop q)]
 rw [this]
theorem mem_word {x : S135} (h : x ∈ wordS) : ∃ j, j < 8 ∧ x = wordN j := by
 simp only [wordS, wordsL, List.map_cons, List.map_nil, List.mem_cons, List.not_mem_nil, or_false] at h
 rcases h with rfl | rfl | rfl | rfl | rfl | rfl | rfl | rfl
 ·exact ⟨0, by omega, rfl⟩
 ·exact ⟨1, by omega, rfl⟩
 ·exact ⟨2, by omega, rfl⟩
 ·exact ⟨3, by omega, rfl⟩
 ·exact ⟨4, by omega, rfl⟩
 ·exact ⟨5, by omega, rfl⟩
 ·exact ⟨6, by omega, rfl⟩
 ·exact ⟨7, by omega, rfl⟩
theorem wK_facts (j : Nat) (h : j < 8) : 1 <= (wK j).toNat ∧ (wK j).toNat <= 9 ∧ ((wK j).toNat : Int) = wK j ∧ wordT (wK j) = wT j ∧ wargs (wK j) = wA j := by
 have hcase : ∀ i, i < 8 -> (1 <= (wK i).toNat ∧ (wK i).toNat <= 9 ∧ ((wK i).toNat : Int) = wK i) := by decide
 obtain ⟨a, b, c⟩ := hcase j h
 refine ⟨a, b, c, ?_, ?_⟩
 ·match j, h with
  | 0, _ => rfl
  | 1, _ => rfl
  | 2, _ => rfl
  | 3, _ => rfl
  | 4, _ => rfl
  | 5, _ => rfl
  | 6, _ => rfl
  | 7, _ => rfl
 ·match j, h with
  | 0, _ => rfl
  | 1, _ => rfl
  | 2, _ => rfl
  | 3, _ => rfl
  | 4, _ => rfl
  | 5, _ => rfl
  | 6, _ => rfl
  | 7, _ => rfl
theorem begins_iff (a s : ByteArray) (q : Nat) (hq : q <= s.size) : beginsB a (s.extract q s.size) = true ↔ ∃ post, s.data.toList.drop q = a.data.toList ++ post := by
 have hl : s.data.toList.length = s.size := by simp
 have ha : a.data.toList.length = a.size := by simp
 have he : (s.extract q s.size).data.toList = s.data.toList.drop q := by rw [Lib.extract_from]
 have hsz : (s.extract q s.size).size = s.size - q := by rw [ByteArray.size_extract]; omega
 have hx : ((s.extract q s.size).extract 0 a.size).toList = (s.data.toList.drop q).take a.size := by
  rw [ByteArray.toList_eq, ByteArray.data_extract, Array.toList_extract, List.extract, he]
  simp
 unfold beginsB
 rw [Bool.and_eq_true, decide_eq_true_eq, beq_iff_eq, hsz, Int.toNat_natCast, hx, ByteArray.toList_eq]
 constructor
 ·rintro ⟨h1, h2⟩
  exact ⟨(s.data.toList.drop q).drop a.size, by rw [<- h2]; exact (List.take_append_drop _ _).symm⟩
 ·rintro ⟨post, h⟩
  have hlen := congrArg List.length h
  rw [List.length_drop, List.length_append] at hlen
  exact ⟨by omega, by rw [h, <- ha]; simp⟩
theorem ok_iff (d : Nat) (s : ByteArray) (q k : Nat) (hq : q <= s.size) : okW d s q k = true ↔ wordT (k : Int) ≠ [] ∧ (d = 1 -> ¬ 0 < wargs (k : Int)) ∧ ∃ post, s.data.toList.drop q = wordT (k : Int) ++ post := by
 have hb := begins_iff (wordB k) s q hq
 have hw : (wordB k).data.toList = wordT (k : Int) := ba_eq _
 rw [hw] at hb
 unfold okW
 rw [Bool.and_eq_true, Bool.and_eq_true, hb, ByteArray.toList_eq, hw]
 simp only [Bool.not_eq_true', Bool.and_eq_false_iff, beq_eq_false_iff_ne, decide_eq_false_iff_not, List.isEmpty_eq_false_iff]
 constructor
 ·rintro ⟨h1, h2, h3⟩
  exact ⟨h1, fun hd => h2.elim (fun h => absurd (show (d : Int) = 1 by omega) (by omega)) (fun h => h), h3⟩
 ·rintro ⟨h1, h2, h3⟩
  refine ⟨h1, ?_, h3⟩
  by_cases hd : d = 1
  ·right; have := h2 hd; omega
  ·left; omega
theorem find_some : ∀ (n k : Nat) (d : Nat) (s : ByteArray) (q j : Nat), findW d s q n k = some j -> okW d s q j = true ∧ k <= j ∧ j < k + n
 | 0, k, d, s, q, j, h => by cases h
 | n + 1, k, d, s, q, j, h => by
  unfold findW at h
  split at h
  ·injection h with h; subst h; exact ⟨by assumption, by omega, by omega⟩
  ·have := find_some n (k + 1) d s q j h
   exact ⟨this.1, by omega, by omega⟩
theorem find_none : ∀ (n k : Nat) (d : Nat) (s : ByteArray) (q : Nat), findW d s q n k = none -> ∀ j, k <= j -> j < k + n -> okW d s q j = false
 | 0, k, d, s, q, h, j, h1, h2 => by omega
 | n + 1, k, d, s, q, h, j, h1, h2 => by
  unfold findW at h
  split at h
  ·cases h
  ·rename_i hk
   rcases Nat.lt_or_ge k j with hlt | hge
   ·exact find_none n (k + 1) d s q h j (by omega) (by omega)
   ·obtain rfl : k = j := by omega
    simpa using hk
/-- The word that one finds is the word that the other finds. -/
theorem word_find (d : Nat) (s : ByteArray) (q : Nat) (hq : q <= s.size) :
  (findW (d + 1) s q 9 1 = none ∧ (wordV ((d : Int) + 1) s q).1 = none) ∨ ∃ j, j < 8 ∧ findW (d + 1) s q 9 1 = some (wK j).toNat ∧ wordV ((d : Int) + 1) s q = (some (wordN j), q + (wT j).length) ∧ q + (wT j).length <= s.size := by
 have hl : s.data.toList.length = s.size := by simp
 cases hf : findW (d + 1) s q 9 1 with
 | some k =>
  right
  obtain ⟨hok, hk1, hk2⟩ := find_some 9 1 (d + 1) s q k hf
  obtain ⟨h1, h2, post, h3⟩ := (ok_iff (d + 1) s q k hq).1 hok
  rcases wordT_cases (k : Int) with ⟨j, hj, hkj, _, hwt, hwa⟩ | ⟨_, he⟩
  ·have hwv := wordV_at j hj ((d : Int) + 1) (fun hp he => by have := h2 (by omega); rw [hwa] at this; exact this hp) s q post (by rw [<- hwt]; exact h3)
   have hlen := congrArg List.length h3
   rw [List.length_drop, List.length_append, hwt] at hlen
   have hpos := (wT_len j hj).1
   exact ⟨j, hj, by rw [<- hkj, Int.toNat_natCast], hwv, by omega⟩
  ·exact absurd he h1
 | none =>
  left
  refine ⟨rfl, ?_⟩
  cases hw : (wordV ((d : Int) + 1) s q).1 with
  | none => rfl
  | some x =>
   exfalso
   have hmem := wordF_mem _ _ _ _ _ _ hw
   obtain ⟨hm, hdp⟩ := List.mem_filter.1 hmem
   obtain ⟨j, hj, rfl⟩ := mem_word hm
   have hpre := wordF_pre 8 (mayS ((d : Int) + 1)) 0 s q (wordN j) (wordV ((d : Int) + 1) s q).2 (fun y _ i hi => absurd hi (by omega)) (by omega) (Prod.ext hw rfl)
   obtain ⟨hp1, hp2, hp3⟩ := hpre
   obtain ⟨post, hpost⟩ := pre_drop rfl (by omega) hp1
   obtain ⟨f1, f2, f3, f4, f5⟩ := wK_facts j hj
   have hno := find_none 9 1 (d + 1) s q hf (wK j).toNat f1 (by omega)
   have hyes : okW (d + 1) s q (wK j).toNat = true := by
    rw [ok_iff (d + 1) s q _ hq, f3, f4, f5]
    refine ⟨fun e => ?_, fun hd => ?_, post, ?_⟩
    ·have := (wT_len j hj).1; rw [e] at this; simp at this
    ·intro hp
     unfold deepB at hdp
     have e1 : decide (0 < (wordN j).f2) = true := by rw [decide_eq_true_iff]; exact hp
     have e2 : ((d : Int) + 1 == 1) = true := by rw [beq_iff_eq]; omega
     rw [e1, e2] at hdp
     cases hdp
    ·rw [hpost]
     show (⟨(wT j).toArray⟩ : ByteArray).data.toList ++ post = _
     rw [ba_eq]
   rw [hno] at hyes
   cases hyes
theorem sign_lt {s : ByteArray} {q : Nat} {c : UInt8} (h : signB s q c = true) : q < s.size := by
 unfold signB at h
 simp only [Bool.and_eq_true, decide_eq_true_eq] at h
 exact h.1
/-- What one accepts the other accepts, up to the same place. -/
def Alike (s : ByteArray) {α : Type} (a : Option Nat) (b : Option α × Nat) : Prop := (b.1.isSome = true -> a = some b.2 ∧ b.2 <= s.size) ∧ (b.1.isSome = false -> a = none)
theorem args_alike (s : ByteArray) (f : ByteArray -> Nat -> Option Nat) (g : ByteArray -> Nat -> Option S59 × Nat) (H : ∀ q, q <= s.size -> Alike s (f s q) (g s q)) : ∀ (n i q : Nat), q <= s.size -> Alike s (scanA f n i s q) (argsF g n i s q)
 | 0, i, q, hq => ⟨fun _ => ⟨rfl, hq⟩, fun h => by cases h⟩
 | n + 1, i, q, hq => by
  unfold scanA argsF
  cases hs : signB s q (sepT i) with
  | false => rw [if_neg (by decide), if_neg (by decide)]; exact ⟨(fun h => by cases h), fun _ => rfl⟩
  | true =>
   have hlt := sign_lt hs
   rw [if_pos rfl, if_pos rfl]
   have h1 := H (q + 1) (by omega)
   generalize f s (q + 1) = a at *
   generalize g s (q + 1) = b at *
   obtain ⟨b1, b2⟩ := b
   cases b1 with
   | none => rw [h1.2 rfl]; exact ⟨(fun h => by cases h), fun _ => rfl⟩
   | some t =>
    obtain ⟨e, hb2⟩ := h1.1 rfl
    subst e
    have ih := args_alike s f g H n (i + 1) b2 hb2
    dsimp only at ih ⊢
    generalize scanA f n (i + 1) s b2 = x at *
    generalize argsF g n (i + 1) s b2 = y at *
    obtain ⟨y1, y2⟩ := y
    cases y1 with
    | none => exact ⟨(fun h => by cases h), fun _ => ih.2 rfl⟩
    | some l => exact ⟨fun _ => ih.1 rfl, fun h => by cases h⟩
theorem scan_alike (s : ByteArray) : ∀ (d q : Nat), q <= s.size -> Alike s (scanF d s q) (readF d s q)
 | 0, q, hq => ⟨(fun h => by cases h), fun _ => rfl⟩
 | d + 1, q, hq => by
  rcases word_find d s q hq with ⟨e1, e2⟩ | ⟨j, hj, e1, e2, hle⟩
  ·unfold scanF readF
   rw [e1]
   generalize wordV ((d : Int) + 1) s q = r at *
   obtain ⟨r1, r2⟩ := r
   dsimp only at e2
   subst e2
   exact ⟨(fun h => by cases h), fun _ => rfl⟩
  ·obtain ⟨f1, f2, f3, f4, f5⟩ := wK_facts j hj
   have hwb : (wordB (wK j).toNat).size = (wT j).length := by
    unfold wordB
    rw [f3, f4, ba_size]
   unfold scanF readF
   rw [e1, e2]
   dsimp only
   rw [f3, f5, hwb]
   have ha := args_alike s (scanF d) (readF d) (fun q hq => scan_alike s d q hq) (wA j).toNat 0 (q + (wT j).length) hle
   rw [show (wordN j).f2 = wA j from rfl]
   generalize scanA (scanF d) (wA j).toNat 0 s (q + (wT j).length) = x at *
   generalize argsF (readF d) (wA j).toNat 0 s (q + (wT j).length) = y at *
   obtain ⟨y1, y2⟩ := y
   cases y1 with
   | none => rw [ha.2 rfl]; exact ⟨(fun h => by cases h), fun _ => rfl⟩
   | some l =>
    obtain ⟨e, hy2⟩ := ha.1 rfl
    subst e
    dsimp only
    by_cases h0 : wA j = 0
    ·rw [if_pos h0, if_pos h0]
     exact ⟨fun _ => ⟨rfl, hy2⟩, fun h => by cases h⟩
    ·rw [if_neg h0, if_neg h0]
     cases hs : signB s y2 41 with
     | false => rw [if_neg (by decide), if_neg (by decide)]; exact ⟨(fun h => by cases h), fun _ => rfl⟩
     | true =>
      have := sign_lt hs
      rw [if_pos rfl, if_pos rfl]
      exact ⟨fun _ => ⟨rfl, this⟩, fun h => by cases h⟩
theorem type_alike (s : ByteArray) : typeB s = (parseV s).isSome := by
 have h := scan_alike s 6 0 (Nat.zero_le _)
 unfold typeB parseV
 generalize scanF 6 s 0 = a at *
 generalize readF 6 s 0 = b at *
 obtain ⟨b1, b2⟩ := b
 cases b1 with
 | none =>
  rw [h.2 rfl]
  dsimp only
  split <;> rfl
 | some t =>
  rw [(h.1 rfl).1]
  dsimp only
  by_cases hlt : b2 < s.size
  ·rw [if_pos hlt, decide_eq_false (by omega)]; rfl
  ·rw [if_neg hlt, decide_eq_true (by omega)]; rfl
theorem first_num (s : ByteArray) (c : UInt8) (d f : Nat) (acc : List Int) : numsG c d (f + 1) s acc = match numV ⟨(Lib.cut s.data.toList [c]).1.toArray⟩ d with
  | none => ([], false)
  | some v => if (Lib.cut s.data.toList [c]).2.2 = true then numsG c d f ⟨(Lib.cut s.data.toList [c]).2.1.toArray⟩ (acc ++ [v]) else (acc ++ [v], true) := rfl
theorem hd_none (s : ByteArray) : (32 : UInt8) ∉ (hdS s).data.toList := by
 unfold hdS cutS
 rw [ba_eq]
 by_cases h : (32 : UInt8) ∈ s.data.toList
 ·obtain ⟨a, b, e, hn⟩ := List.eq_append_cons_of_mem h
  rw [e, cut_at 32 a b hn]; exact hn
 ·rw [cut_no 32 _ h]; exact h
theorem hd_all (s : ByteArray) (h : okS s = false) : hdS s = s ∧ (32 : UInt8) ∉ s.data.toList := by
 have hn : (32 : UInt8) ∉ s.data.toList := by
  intro hm
  obtain ⟨a, b, e, hn⟩ := List.eq_append_cons_of_mem hm
  unfold okS cutS at h
  rw [e, cut_at 32 a b hn] at h
  cases h
 refine ⟨?_, hn⟩
 unfold hdS cutS
 rw [cut_no 32 _ hn]
theorem num_space (s : ByteArray) (d : Nat) (hd : d <= 10) (h : okS s = true) : numV s d = none := by
 have hm : (32 : UInt8) ∈ s.data.toList := by
  rcases Classical.em ((32 : UInt8) ∈ s.data.toList) with hm | hm
  ·exact hm
  ·unfold okS cutS at h
   rw [cut_no 32 _ hm] at h
   cases h
 rw [numV_canon s d hd, if_neg]
 unfold canonB
 simp only [Bool.and_eq_true, List.all_eq_true]
 rintro ⟨_, _, _, h4⟩
 have := h4 32 hm
 cases this
/-- A number alone. -/
theorem nums_one (s : ByteArray) (d : Nat) (hn : (32 : UInt8) ∉ s.data.toList) : numsR s 32 d = match numV s d with
  | none => ([], false)
  | some v => ([v], true) := by
 unfold numsR
 rw [first_num, cut_no 32 _ hn]
 rw [show (⟨s.data.toList.toArray⟩ : ByteArray) = s from by apply ByteArray.ext; simp]
 cases numV s d with
 | none => rfl
 | some v => rfl
theorem nums_one_ok (s : ByteArray) (d : Nat) (hn : (32 : UInt8) ∉ s.data.toList) : (numsR s 32 d).2 = (numV s d).isSome := by
 rw [nums_one s d hn]
 cases numV s d <;> rfl
/-- One level of numbers between blanks. -/
theorem nums_step (s : ByteArray) (d f : Nat) (acc : List Int) : numsG 32 d (f + 1) s acc = match numV (hdS s) d with
  | none => ([], false)
  | some v => if okS s = true then numsG 32 d f (tlS s) (acc ++ [v]) else (acc ++ [v], true) := rfl
/-! ### Places -/
theorem pieces_at (a b : List UInt8) (h : (44 : UInt8) ∉ a) : piecesS ⟨(a ++ 44 :: b).toArray⟩ = ⟨a.toArray⟩ :: piecesS ⟨b.toArray⟩ := by
 have hi := indexB_at 44 a b h
 have hs1 : (⟨#[44]⟩ : ByteArray).size = 1 := rfl
 unfold piecesS
 rw [Lib.countB_hit _ _ a.length (by decide) hi, Nat.add_comm, Lib.splitB_hit _ _ _ _ a.length hi, ext_front, hs1, ext_back a b 44 _ rfl]
theorem pieces_no (a : List UInt8) (h : (44 : UInt8) ∉ a) : piecesS ⟨a.toArray⟩ = [⟨a.toArray⟩] := by
 unfold piecesS
 rw [Lib.countB_miss _ _ (indexB_no 44 a h), Lib.splitB_zero]
theorem nums_places : ∀ (f : Nat) (s : ByteArray) (acc : List Int), s.size < f -> numsG 44 3 f s acc = if badS (piecesS s) = true then ([], false) else (acc ++ numsS (piecesS s), true)
 | 0, s, acc, h => by omega
 | f + 1, s, acc, h => by
  have hs : s = ⟨s.data.toList.toArray⟩ := by apply ByteArray.ext; simp
  have hl : s.data.toList.length = s.size := by simp
  generalize s.data.toList = l at *
  rw [first_num]
  by_cases hm : (44 : UInt8) ∈ l
  ·obtain ⟨a, b, e, hn⟩ := List.eq_append_cons_of_mem hm
   subst e
   rw [hs, ba_eq, cut_at 44 a b hn, pieces_at a b hn]
   have ih := fun acc => nums_places f ⟨b.toArray⟩ acc (by rw [ba_size]; rw [List.length_append, List.length_cons] at hl; omega)
   dsimp only
   unfold badS numsS at ih ⊢
   rw [List.any_cons, List.map_cons]
   show (match numV ⟨a.toArray⟩ ((3 : Nat) : Int) with
    | none => ([], false)
    | some v => if true = true then numsG 44 3 f ⟨b.toArray⟩ (acc ++ [v]) else (acc ++ [v], true)) = _
   rw [show ((3 : Nat) : Int) = 3 from rfl]
   cases numV ⟨a.toArray⟩ 3 with
   | none => simp
   | some v =>
    dsimp only
    rw [if_pos rfl, ih]
    simp
  ·rw [hs, ba_eq, cut_no 44 l hm, pieces_no l hm]
   dsimp only
   unfold badS numsS
   rw [List.any_cons, List.map_cons]
   show (match numV ⟨l.toArray⟩ ((3 : Nat) : Int) with
    | none => ([], false)
    | some v => if false = true then numsG 44 3 f ⟨[].toArray⟩ (acc ++ [v]) else (acc ++ [v], true)) = _
   rw [show ((3 : Nat) : Int) = 3 from rfl]
   cases numV ⟨l.toArray⟩ 3 with
   | none => simp
   | some v => simp
theorem places_alike (s : ByteArray) : ((numsR s 44 3).2 && risesB (numsR s 44 3).1 1 4) = (placesV s).2 := by
 unfold numsR placesV
 rw [nums_places _ s [] (by omega)]
 cases badS (piecesS s) with
 | true => rfl
 | false => rfl
theorem sides_alike (s : ByteArray) : (if s.data.toList = [45] then true else (numsR s 44 3).2 && risesB (numsR s 44 3).1 1 4) = (sidesV s).2 := by
 unfold sidesV
 split
 ·rfl
 ·exact places_alike s
theorem one_alike (r : ByteArray) : (oneR r).2.2 = (okS r && (numV (hdS r) 3).isSome) ∧ (oneR r).2.1 = tlS r := by
 unfold oneR
 rw [nums_one_ok (hdS r) 3 (hd_none r)]
 exact ⟨rfl, rfl⟩
theorem sink_alike (r : ByteArray) : ((numsR r 32 3).2 && (((numsR r 32 3).1.length : Int) == 1)) = (numV r 3).isSome := by
 cases ho : okS r with
 | false =>
  rw [nums_one r 3 (hd_all r ho).2]
  rw [show ((3 : Nat) : Int) = 3 from rfl]
  cases numV r 3 <;> rfl
 | true =>
  have hn := num_space r 3 (by omega) ho
  rw [show ((3 : Nat) : Int) = 3 from rfl] at hn
  rw [hn]
  unfold numsR
  rw [nums_step]
  cases numV (hdS r) ((3 : Nat) : Int) with
  | none => rfl
  | some v =>
   dsimp only
   rw [if_pos ho]
   have := (numsG_len 32 3 r.size (tlS r) ([] ++ [v])).2
   cases hb : (numsG 32 3 r.size (tlS r) ([] ++ [v])).2 with
   | false => rfl
   | true =>
    have h2 := this hb
    have h3 : ((numsG 32 3 r.size (tlS r) ([] ++ [v])).1.length : Int) ≠ 1 := by simp at h2 ⊢; omega
    rw [beq_eq_false_iff_ne.2 h3]
    rfl
/-- Four numbers between blanks. -/
def fourV (r : ByteArray) : Bool := (okS r && (numV (hdS r) 7).isSome) && ((okS (tlS r) && (numV (hdS (tlS r)) 7).isSome) && ((okS (tlS (tlS r)) && (numV (hdS (tlS (tlS r))) 7).isSome) && (numV (tlS (tlS (tlS r))) 7).isSome))
theorem last_num (r : ByteArray) (f : Nat) (acc : List Int) : ((numsG 32 7 (f + 1) r acc).2 && (((numsG 32 7 (f + 1) r acc).1.length : Int) == ((acc.length + 1 : Nat) : Int))) = (numV r 7).isSome := by
 cases ho : okS r with
 | false =>
  rw [nums_step, (hd_all r ho).1, show ((7 : Nat) : Int) = 7 from rfl]
  cases numV r 7 with
  | none => rfl
  | some v => dsimp only; rw [if_neg (by rw [ho]; decide)]; simp
 | true =>
  have hn := num_space r 7 (by omega) ho
  rw [show ((7 : Nat) : Int) = 7 from rfl] at hn
  rw [hn, nums_step]
  cases numV (hdS r) ((7 : Nat) : Int) with
  | none => rfl
  | some v =>
   dsimp only
   rw [if_pos ho]
   have := (numsG_len 32 7 f (tlS r) (acc ++ [v])).2
   cases hb : (numsG 32 7 f (tlS r) (acc ++ [v])).2 with
   | false => rfl
   | true =>
    have h2 := this hb
    have h3 : ((numsG 32 7 f (tlS r) (acc ++ [v])).1.length : Int) ≠ ((acc.length + 1 : Nat) : Int) := by rw [List.length_append, List.length_singleton] at h2; omega
    rw [beq_eq_false_iff_ne.2 h3]
    rfl
theorem mid_num (r : ByteArray) (f m : Nat) (acc : List Int) (hm : acc.length + 1 < m) : ((numsG 32 7 (f + 1) r acc).2 && (((numsG 32 7 (f + 1) r acc).1.length : Int) == (m : Int))) = ((okS r && (numV (hdS r) 7).isSome) && (match numV (hdS r) 7 with
  | none => false
  | some v => (numsG 32 7 f (tlS r) (acc ++ [v])).2 && (((numsG 32 7 f (tlS r) (acc ++ [v])).1.length : Int) == (m : Int)))) := by
 rw [nums_step, show ((7 : Nat) : Int) = 7 from rfl]
 cases numV (hdS r) 7 with
 | none => simp
 | some v =>
  dsimp only
  cases okS r with
  | true => rw [if_pos rfl]; simp
  | false =>
   rw [if_neg (by decide)]
   have : (((acc ++ [v]).length : Int) == (m : Int)) = false := by rw [beq_eq_false_iff_ne, List.length_append, List.length_singleton]; omega
   simp only [this]
   simp
theorem cut_sizes (r : ByteArray) (h : okS r = true) : (tlS r).size < r.size := by
 have := (cut_less r.data.toList 32).2 h
 have hl : r.data.toList.length = r.size := by simp
 unfold tlS cutS
 rw [ba_size]
 omega
theorem win_alike (r : ByteArray) : winR r = fourV r := by
 have key : ∀ f, 4 <= f -> ((numsG 32 7 f r []).2 && (((numsG 32 7 f r []).1.length : Int) == 4)) = fourV r := by
  intro f hf
  obtain ⟨f, rfl⟩ : ∃ g, f = g + 1 + 1 + 1 + 1 := ⟨f - 4, by omega⟩
  have e4 : (4 : Int) = ((4 : Nat) : Int) := rfl
  rw [e4, mid_num r _ 4 [] (by decide)]
  unfold fourV
  cases h1 : numV (hdS r) 7 with
  | none => simp
  | some v1 =>
   dsimp only
   rw [mid_num (tlS r) _ 4 ([] ++ [v1]) (by simp)]
   cases h2 : numV (hdS (tlS r)) 7 with
   | none => simp
   | some v2 =>
    dsimp only
    rw [mid_num (tlS (tlS r)) _ 4 ([] ++ [v1] ++ [v2]) (by simp)]
    cases h3 : numV (hdS (tlS (tlS r))) 7 with
    | none => simp
    | some v3 =>
     dsimp only
     have := last_num (tlS (tlS (tlS r))) f ([] ++ [v1] ++ [v2] ++ [v3])
     rw [show (([] ++ [v1] ++ [v2] ++ [v3] : List Int).length + 1) = 4 from rfl] at this
     rw [this]
 by_cases hs : 3 <= r.size
 ·exact key (r.size + 1) (by omega)
 ·-- a line so short has no four numbers
  have hf : fourV r = false := by
   unfold fourV
   cases ho : okS r with
   | false => simp
   | true =>
    have s1 := cut_sizes r ho
    cases ho2 : okS (tlS r) with
    | false => simp
    | true =>
     have s2 := cut_sizes (tlS r) ho2
     cases ho3 : okS (tlS (tlS r)) with
     | false => simp
     | true =>
      have s3 := cut_sizes (tlS (tlS r)) ho3
      omega
  have hw : winR r = false := by
   unfold winR
   cases hb : (numsR r 32 7).2 with
   | false => rfl
   | true =>
    have := (numsR_len r 32 7).1
    have h3 : ((numsR r 32 7).1.length : Int) ≠ 4 := by omega
    rw [beq_eq_false_iff_ne.2 h3]
    rfl
  rw [hf, hw]
theorem three_alike (n : Nat) (r : ByteArray) : threeR (n + 1) r = if (okS r && (numV (hdS r) 7).isSome) = true then threeR n (tlS r) else none := by
 show (if (okS r && (numsR (hdS r) 32 7).2) = true then threeR n (tlS r) else none) = _
 rw [nums_one_ok (hdS r) 7 (hd_none r)]
 rfl
/-- One reading says what the other says. -/
theorem read_alike (s : ByteArray) : readR s = (readV s).2 := by
 unfold readR readV
 cases hok : okS s with
 | false =>
  rw [if_pos rfl]
  unfold srcV eachV winV grpV flatV sinkV numC sidesC
  repeat' split
  all_goals simp
 | true =>
  rw [if_neg (by decide)]
  generalize tlS s = r
  by_cases h0 : howL s = [115, 111, 117, 114, 99, 101]
  ·rw [if_pos h0, if_pos h0, type_alike]
   unfold srcV
   cases parseV r <;> rfl
  rw [if_neg h0, if_neg h0]
  by_cases h1 : howL s = [115, 105, 110, 107]
  ·rw [if_pos h1, if_neg (by rw [h1]; decide), if_neg (by rw [h1]; decide), if_neg (by rw [h1]; decide), if_neg (by rw [h1]; decide), if_pos h1, sink_alike]
   unfold sinkV
   cases numV r 3 <;> rfl
  rw [if_neg h1]
  by_cases h2 : howL s = [102, 108, 97, 116, 116, 101, 110]
  ·rw [if_pos h2, if_neg (by rw [h2]; decide), if_neg (by rw [h2]; decide), if_neg (by rw [h2]; decide), if_pos h2, places_alike]
   unfold flatV
   cases (placesV r).2 <;> rfl
  rw [if_neg h2, if_neg h2, if_neg h1]
  obtain ⟨o1, o2⟩ := one_alike r
  rw [o1, o2]
  by_cases h3 : howL s = [101, 97, 99, 104]
  ·rw [if_pos h3, if_pos h3]
   unfold eachV eachR numC sidesC
   dsimp only
   rw [sides_alike]
   cases okS r <;> cases (numV (hdS r) 3) <;> cases okS (tlS r) <;> cases (sidesV (hdS (tlS r))).2 <;> cases textB (tlS (tlS r)) <;> rfl
  rw [if_neg h3, if_neg h3]
  by_cases h4 : howL s = [119, 105, 110, 100, 111, 119]
  ·rw [if_pos h4, if_pos h4, win_alike]
   unfold winV fourV numC
   dsimp only
   cases okS r <;> cases (numV (hdS r) 3) <;> cases okS (tlS r) <;> cases (numV (hdS (tlS r)) 7) <;> cases okS (tlS (tlS r)) <;> cases (numV (hdS (tlS (tlS r))) 7) <;> cases okS (tlS (tlS (tlS r))) <;> cases (numV (hdS (tlS (tlS (tlS r)))) 7) <;> cases (numV (tlS (tlS (tlS (tlS r)))) 7) <;> rfl
  rw [if_neg h4, if_neg h4]
  by_cases h5 : howL s = [103, 114, 111, 117, 112]
  ·rw [if_pos h5, if_pos h5]
   unfold grpV grpR numC
   rw [three_alike, three_alike, three_alike]
   dsimp only
   unfold threeR
   cases okS r <;> cases (numV (hdS r) 3) <;> cases okS (tlS r) <;> cases (numV (hdS (tlS r)) 7) <;> cases okS (tlS (tlS r)) <;> cases (numV (hdS (tlS (tlS r))) 7) <;> cases okS (tlS (tlS (tlS r))) <;> cases (numV (hdS (tlS (tlS (tlS r)))) 7) <;> simp [bne, Bool.not_and, Bool.not_or, Bool.and_assoc]
  ·rw [if_neg h5, if_neg h5]
   split <;> rfl
theorem parse_tail (l : List UInt8) (hn : (10 : UInt8) ∉ l) : ∀ (ns : List S63) (f : Nat) (acc : List S63), (∀ x ∈ ns, Okn x) -> ns.length + 1 < f →
  parseL f ⟨(textT ns ++ (l ++ [10])).toArray⟩ acc = if (readV ⟨l.toArray⟩).2 = true then (acc ++ ns ++ [(readV ⟨l.toArray⟩).1], true) else (acc ++ ns, false)
 | [], f + 1, acc, h, hf => by
  have hs : textT [] ++ (l ++ [10]) = l ++ 10 :: [] := by simp [textT]
  obtain ⟨e1, e2, e3⟩ := cutN_at (s := ⟨(textT [] ++ (l ++ [10])).toArray⟩) (by rw [hs]) hn
  unfold parseL
  rw [e1, e2, e3, if_neg (by show ¬ (textT [] ++ (l ++ [10])).length = 0; rw [hs]; simp)]
  obtain ⟨g, rfl⟩ : ∃ g, f = g + 1 := ⟨f - 1, by simp at hf; omega⟩
  cases hr : (readV ⟨l.toArray⟩).2 with
  | true =>
   rw [if_pos ⟨rfl, rfl⟩, if_pos rfl]
   unfold parseL
   rw [if_pos (show (⟨([] : List UInt8).toArray⟩ : ByteArray).size = 0 from rfl)]
   simp
  | false =>
   rw [if_neg (by simp), if_neg (by decide)]
   simp
 | x :: r, f + 1, acc, h, hf => by
  have hx := h x (by simp)
  have hs : textT (x :: r) ++ (l ++ [10]) = bodyT x ++ 10 :: (textT r ++ (l ++ [10])) := by simp [textT, lineT]
  obtain ⟨e1, e2, e3⟩ := cutN_at (s := ⟨(textT (x :: r) ++ (l ++ [10])).toArray⟩) (by rw [hs]) (body_seen hx).1
  unfold parseL
  rw [e1, e2, e3, read_line x hx]
  rw [if_neg (by show ¬ (textT (x :: r) ++ (l ++ [10])).length = 0; rw [hs]; simp), if_pos ⟨rfl, rfl⟩, parse_tail l hn r f _ (fun y hy => h y (by simp [hy])) (by simp at hf; omega)]
  simp
theorem checkL_no40 (ns : List S63) : ∀ r, (checkL ns r).2 ≠ 40
 | [] => by show (0 : Int) ≠ 40; decide
 | i :: r => by
  unfold checkL
  split
  ·exact checkL_no40 ns r
  ·show nodeErr ns i ≠ 40
   unfold nodeErr
   repeat' split
   all_goals decide
theorem checkV_no40 (ns : List S63) : (checkV ns).2 ≠ 40 := by
 unfold checkV
 split
 ·decide
 ·exact checkL_no40 ns _
/-- What Parse says of the text with the line behind it. -/
def LinePost (n : Nat) (b : Bool) (w : World) (e : Ending) (w' : World) : Prop :=
 (∃ (A : Option Addr) (k c : Nat) (at_ er : Int), e = .returned (.tuple #[.agg #[.slice A k c], .int .i64 at_, .int .i64 er]) ∧ (b = false -> at_ = (n : Int) ∧ er = 40) ∧ (b = true -> er ≠ 40)) ∧ Below w.heap.size w w'
theorem line_post {ns : List S63} {x : S63} {b : Bool} {w w' : World} {e : Ending} (h : GParse (if b = true then (ns ++ [x], true) else (ns, false)) w e w') : LinePost ns.length b w e w' := by
 cases b with
 | false =>
  obtain ⟨h1, h2⟩ : GParse (ns, false) w e w' := h
  rw [if_pos rfl] at h1
  exact ⟨⟨none, 0, 0, _, _, h1, (fun _ => ⟨rfl, rfl⟩), (fun h => by cases h)⟩, h2⟩
 | true =>
  obtain ⟨h1, h2⟩ : GParse (ns ++ [x], true) w e w' := h
  refine ⟨?_, h2⟩
  rw [if_neg (by simp)] at h1
  split at h1
  ·obtain ⟨A, c, he, _⟩ := h1
   exact ⟨A, _, c, _, _, he, (fun h => by cases h), (fun _ => by decide)⟩
  ·exact ⟨none, 0, 0, _, _, h1, (fun h => by cases h), (fun _ => checkV_no40 _)⟩
theorem smallL_mem : ∀ (l : List S43) (q : Int), smallL l q = true -> ∀ n ∈ l, n.f1.length <= 100 ∧ n.f2.length <= 100 ∧ n.f3.size <= 5000
 | [], q, h, n, hn => by cases hn
 | m :: r, q, h, n, hn => by
  unfold smallL at h
  split at h
  ·rename_i hc
   rcases List.mem_cons.1 hn with rfl | hn
   ·exact ⟨hc.1, hc.2.1, hc.2.2.1⟩
   ·exact smallL_mem r _ h n hn
  ·cases h
theorem smallB_mem {l : List S43} (h : smallB l = true) : l.length <= 100 ∧ ∀ n ∈ l, n.f1.length <= 100 ∧ n.f2.length <= 100 ∧ n.f3.size <= 5000 := by
 unfold smallB at h
 split at h
 ·rename_i hl
  exact ⟨hl, smallL_mem l _ h⟩
 ·cases h
theorem small_mild {l : List S43} (h : smallB l = true) : Mild l := (smallB_mem h).2
end Go.Proofs.YtamfloegflejnaaGreatDoor
