/-
 graph's test of the rest of a node: the method form.
-/
import Derived.Test.YtamfloegflejnaaGreatDoorKC
import Derived.Deep.QuietTactic
import Derived.BigQuiet
import Derived.Deep.CutRange
set_option linter.unusedVariables false
set_option linter.unusedSimpArgs false
set_option maxHeartbeats 1000000
set_option maxRecDepth 100000
namespace Go.Proofs.YtamfloegflejnaaGreatDoor
open Lib (hid)
open Go.RowKit Go.Proofs.YtamfloegflejnaaGreatDoorW.PrintWords Go.Proofs.YtamfloegflejnaaGreatDoorW.PrintLast Go.Proofs.YtamfloegflejnaaGreatDoorW.PrintMore PGraphLines
theorem eqA61 (d : Nat) (w : World) (x0 y0 : Int) (x1 y1 : Int) (x2 y2 : Int) (x3 y3 : Bool) :
  (Op.equalIn (d + 2) 61 (.agg #[.int .i64 x0, .int .i64 x1, .int .i64 x2, .bool x3]) (.agg #[.int .i64 y0, .int .i64 y1, .int .i64 y2, .bool y3])).run Tryz.prog w = .ok (x0 == y0 && (x1 == y1 && (x2 == y2 && (x3 == y3)))) w := by
 refine eqA_of Tryz.underlying61 (by kernel_rfl) ?_
 refine eqf_cons (by rfl) (by go_simp; rfl) (by go_simp; rfl) (by go_simp) ?_
 refine eqf_cons (by rfl) (by go_simp; rfl) (by go_simp; rfl) (by go_simp) ?_
 refine eqf_cons (by rfl) (by go_simp; rfl) (by go_simp; rfl) (by go_simp) ?_
 exact eqf_last (by rfl) (by go_simp; rfl) (by go_simp; rfl) (by go_simp)
attribute [local go_sem high] eqA60 eqA61
theorem fn_some (a b c d : Int) : ∃ r, window_Fn_Check.f a b c d = some r := by
 have hb : ∀ x y z, ∃ r, window_between.f x y z = some r := fun x y z => by
  unfold window_between.f
  repeat' split
  all_goals exact ⟨_, rfl⟩
 unfold window_Fn_Check.f
 repeat' (first | exact ⟨_, rfl⟩ | split | (generalize hq : window_between.f _ _ _ = q; obtain ⟨r, hr⟩ := hb _ _ _; rw [hr] at hq; subst hq; simp only [Option.bind_some]))
theorem tr_some (a b c : Int) (d : Bool) : ∃ r, trigger_Spec_Check.f a b c d = some r := by
 have hb : ∀ x y z, ∃ r, trigger_between.f x y z = some r := fun x y z => by
  unfold trigger_between.f
  repeat' split
  all_goals exact ⟨_, rfl⟩
 unfold trigger_Spec_Check.f
 repeat' (first | exact ⟨_, rfl⟩ | split | (generalize hq : trigger_between.f _ _ _ = q; obtain ⟨r, hr⟩ := hb _ _ _; rw [hr] at hq; subst hq; simp only [Option.bind_some]))
def fnOk (a b c d : Int) : Bool := window_Fn_Check.f a b c d == some 0
def trOk (a b c : Int) (d : Bool) : Bool := trigger_Spec_Check.f a b c d == some 0
/-- The rest of a node is as it must be. -/
def formB (op : Int) (tx : ByteArray) (t : S59) (a b cc dd e0 e1 e2 : Int) (e3 : Bool) : Bool :=
 (if op = 2 ∨ op = 4 then textB tx else tx.toList.isEmpty) && ((if op = 1 then rightT 6 t else (t.f0 == 0 && ((t.f1.length : Int) == 0))) && ((if op = 3 then fnOk a b cc dd else (a == 0 && (b == 0 && (cc == 0 && dd == 0)))) && (if op = 4 then trOk e0 e1 e2 e3 else (e0 == 0 && (e1 == 0 && (e2 == 0 && !e3))))))
theorem fn_calls (a b c d : Int) (w : World) : Calls Tryz.prog 67 #[.agg #[.int .i64 a, .int .i64 b, .int .i64 c, .int .i64 d]] w fun e w' => (∃ r : Int, e = .returned (.int .i64 r) ∧ (r == 0) = fnOk a b c d) ∧ Below w.heap.size w w' := by
 obtain ⟨r, hr⟩ := fn_some a b c d
 exact (window_Fn_Check.calls a b c d r w hr).mono fun e w' ⟨he, hb⟩ => ⟨⟨r, he, by unfold fnOk; rw [hr]; rfl⟩, hb⟩
theorem tr_calls (a b c : Int) (d : Bool) (w : World) : Calls Tryz.prog 68 #[.agg #[.int .i64 a, .int .i64 b, .int .i64 c, .bool d]] w fun e w' => (∃ r : Int, e = .returned (.int .i64 r) ∧ (r == 0) = trOk a b c d) ∧ Below w.heap.size w w' := by
 obtain ⟨r, hr⟩ := tr_some a b c d
 exact (trigger_Spec_Check.calls a b c d r w hr).mono fun e w' ⟨he, hb⟩ => ⟨⟨r, he, by unfold trOk; rw [hr]; rfl⟩, hb⟩
theorem check_bool (t : S59) (A : Option Addr) (c : Nat) (w : World) (hc : t.f1.length <= c) (hC : k59.C w A t.f1.length t.f1) :
  Calls Tryz.prog 66 #[.agg #[.int .i64 t.f0, .slice A t.f1.length c]] w fun e w' => (∃ r : Int, e = .returned (.int .i64 r) ∧ (r == 0) = rightT 6 t) ∧ Below w.heap.size w w' :=
 (check_any t A c w hc hC).mono fun e w' ⟨he, hb⟩ => ⟨⟨_, he, by cases rightT 6 t <;> rfl⟩, hb⟩
theorem form_any (op a b cc dd e0 e1 e2 : Int) (e3 : Bool) (tx : ByteArray) (t : S59) (A1 A2 A5 : Option Addr) (n1 c1 n2 c2 c5 : Nat) (w : World) (htx : tx.size <= 1152921504606846976) (hc5 : t.f1.length <= c5) (hC : k59.C w A5 t.f1.length t.f1) :
  Calls Tryz.prog 44 #[.agg #[.int .i64 op, .slice A1 n1 c1, .slice A2 n2 c2, .string tx, .int .i64 t.f0, .slice A5 t.f1.length c5, .int .i64 a, .int .i64 b, .int .i64 cc, .int .i64 dd, .int .i64 e0, .int .i64 e1, .int .i64 e2, .bool e3]] w fun e w' => e = .returned (.bool (formB op tx t a b cc dd e0 e1 e2 e3)) ∧ Below w.heap.size w w' := by
 have HT := hid (heap_alloc_new w (.cells #[.int .i64 op, .slice A1 n1 c1, .slice A2 n2 c2, .string tx, .int .i64 t.f0, .slice A5 t.f1.length c5, .int .i64 a, .int .i64 b, .int .i64 cc, .int .i64 dd, .int .i64 e0, .int .i64 e1, .int .i64 e2, .bool e3] 63))
 cases hk : (t.f0 == 0) with
 | true =>
  go_enter Tryz.func44, Tryz.ntmps44
  go_upto_region 1 with fail
  have HB0 := hid (below_alloc (Below.refl w.heap.size w) (.cells #[.int .i64 op, .slice A1 n1 c1, .slice A2 n2 c2, .string tx, .int .i64 t.f0, .slice A5 t.f1.length c5, .int .i64 a, .int .i64 b, .int .i64 cc, .int .i64 dd, .int .i64 e0, .int .i64 e1, .int .i64 e2, .bool e3] 63))
  generalize w.alloc (.cells #[.int .i64 op, .slice A1 n1 c1, .slice A2 n2 c2, .string tx, .int .i64 t.f0, .slice A5 t.f1.length c5, .int .i64 a, .int .i64 b, .int .i64 cc, .int .i64 dd, .int .i64 e0, .int .i64 e1, .int .i64 e2, .bool e3] 63) = V at HT HB0 ⊢
  have m0 := blk_cell HT.out 0
  simp only [List.getElem?_toArray, List.getElem?_cons_succ, List.getElem?_cons_zero] at m0
  have m1 := blk_cell HT.out 1
  simp only [List.getElem?_toArray, List.getElem?_cons_succ, List.getElem?_cons_zero] at m1
  have m2 := blk_cell HT.out 2
  simp only [List.getElem?_toArray, List.getElem?_cons_succ, List.getElem?_cons_zero] at m2
  have m3 := blk_cell HT.out 3
  simp only [List.getElem?_toArray, List.getElem?_cons_succ, List.getElem?_cons_zero] at m3
  have m4 := blk_cell HT.out 4
  simp only [List.getElem?_toArray, List.getElem?_cons_succ, List.getElem?_cons_zero] at m4
  have m5 := blk_cell HT.out 5
  simp only [List.getElem?_toArray, List.getElem?_cons_succ, List.getElem?_cons_zero] at m5
  have m6 := blk_cell HT.out 6
  simp only [List.getElem?_toArray, List.getElem?_cons_succ, List.getElem?_cons_zero] at m6
  have m7 := blk_cell HT.out 7
  simp only [List.getElem?_toArray, List.getElem?_cons_succ, List.getElem?_cons_zero] at m7
  have m8 := blk_cell HT.out 8
  simp only [List.getElem?_toArray, List.getElem?_cons_succ, List.getElem?_cons_zero] at m8
  have m9 := blk_cell HT.out 9
  simp only [List.getElem?_toArray, List.getElem?_cons_succ, List.getElem?_cons_zero] at m9
  have m10 := blk_cell HT.out 10
  simp only [List.getElem?_toArray, List.getElem?_cons_succ, List.getElem?_cons_zero] at m10
  have m11 := blk_cell HT.out 11
  simp only [List.getElem?_toArray, List.getElem?_cons_succ, List.getElem?_cons_zero] at m11
  have m12 := blk_cell HT.out 12
  simp only [List.getElem?_toArray, List.getElem?_cons_succ, List.getElem?_cons_zero] at m12
  have m13 := blk_cell HT.out 13
  simp only [List.getElem?_toArray, List.getElem?_cons_succ, List.getElem?_cons_zero] at m13
  go_quiet (fail)
  rename_i nq
  have HBN := hid (pw_below_drewN HB0.out nq)
  by_cases h1 : op = 1
  ·subst h1
   have hF : formB 1 tx t a b cc dd e0 e1 e2 e3 = (tx.toList.isEmpty && (rightT 6 t && ((a == 0 && (b == 0 && (cc == 0 && dd == 0))) && (e0 == 0 && (e1 == 0 && (e2 == 0 && !e3)))))) := by unfold formB; rw [if_neg (by decide), if_pos rfl, if_neg (by decide), if_neg (by decide)]
   generalize tx.toList.isEmpty = v1 at hF ⊢
   generalize (a == 0 && (b == 0 && (cc == 0 && dd == 0))) = v3 at hF ⊢
   generalize (e0 == 0 && (e1 == 0 && (e2 == 0 && !e3))) = v4 at hF ⊢
   go_wp2_with fail
   refine (check_bool t A5 c5 _ hc5 (Kd.C_below hC HBN.out)).mono ?_
   rintro e V2 ⟨⟨r, rfl, hr⟩, hb2⟩
   rw [<- hr] at hF
   have HB2 := hid (HBN.out.trans (hb2.mono HBN.out.size))
   clear hb2 hr
   go_upto_region 12 with fail
   generalize (r == 0) = v2 at hF ⊢
   have HF := hid hF
   clear hF
   cases v1 with
   | false =>
    go_wp2_with fail
    exact bodyPost_ret (v := .bool false) (by simp [results, Tryz.results44, go_sem]) rfl ⟨by rw [HF.out]; simp, HB2.out⟩
   | true =>
    cases v2 with
    | false =>
     go_wp2_with fail
     exact bodyPost_ret (v := .bool false) (by simp [results, Tryz.results44, go_sem]) rfl ⟨by rw [HF.out]; simp, HB2.out⟩
    | true =>
     cases v3 with
     | false =>
      go_wp2_with fail
      exact bodyPost_ret (v := .bool false) (by simp [results, Tryz.results44, go_sem]) rfl ⟨by rw [HF.out]; simp, HB2.out⟩
     | true =>
      cases v4 with
      | false =>
       go_wp2_with fail
       exact bodyPost_ret (v := .bool false) (by simp [results, Tryz.results44, go_sem]) rfl ⟨by rw [HF.out]; simp, HB2.out⟩
      | true =>
       go_wp2_with fail
       exact bodyPost_ret (v := .bool true) (by simp [results, Tryz.results44, go_sem]) rfl ⟨by rw [HF.out]; rfl, HB2.out⟩
  by_cases h2 : op = 2
  ·subst h2
   have hF : formB 2 tx t a b cc dd e0 e1 e2 e3 = (textB tx && ((t.f0 == 0 && ((t.f1.length : Int) == 0)) && ((a == 0 && (b == 0 && (cc == 0 && dd == 0))) && (e0 == 0 && (e1 == 0 && (e2 == 0 && !e3)))))) := by unfold formB; rw [if_pos (.inl rfl), if_neg (by decide), if_neg (by decide), if_neg (by decide)]
   rw [hk, Bool.true_and] at hF
   generalize ((t.f1.length : Int) == 0) = v2 at hF ⊢
   generalize (a == 0 && (b == 0 && (cc == 0 && dd == 0))) = v3 at hF ⊢
   generalize (e0 == 0 && (e1 == 0 && (e2 == 0 && !e3))) = v4 at hF ⊢
   go_wp2_with fail
   refine (text_any tx htx _).mono ?_
   rintro e V2 ⟨rfl, hb2⟩
   have HB2 := hid (HBN.out.trans (hb2.mono HBN.out.size))
   clear hb2
   generalize textB tx = v1 at hF ⊢
   have HF := hid hF
   clear hF
   go_upto_region 12 with fail
   cases v1 with
   | false =>
    go_wp2_with fail
    exact bodyPost_ret (v := .bool false) (by simp [results, Tryz.results44, go_sem]) rfl ⟨by rw [HF.out]; simp, HB2.out⟩
   | true =>
    cases v2 with
    | false =>
     go_wp2_with fail
     exact bodyPost_ret (v := .bool false) (by simp [results, Tryz.results44, go_sem]) rfl ⟨by rw [HF.out]; simp, HB2.out⟩
    | true =>
     cases v3 with
     | false =>
      go_wp2_with fail
      exact bodyPost_ret (v := .bool false) (by simp [results, Tryz.results44, go_sem]) rfl ⟨by rw [HF.out]; simp, HB2.out⟩
     | true =>
      cases v4 with
      | false =>
       go_wp2_with fail
       exact bodyPost_ret (v := .bool false) (by simp [results, Tryz.results44, go_sem]) rfl ⟨by rw [HF.out]; simp, HB2.out⟩
      | true =>
       go_wp2_with fail
       exact bodyPost_ret (v := .bool true) (by simp [results, Tryz.results44, go_sem]) rfl ⟨by rw [HF.out]; rfl, HB2.out⟩
  by_cases h3 : op = 3
  ·subst h3
   have hF : formB 3 tx t a b cc dd e0 e1 e2 e3 = (tx.toList.isEmpty && ((t.f0 == 0 && ((t.f1.length : Int) == 0)) && (fnOk a b cc dd && (e0 == 0 && (e1 == 0 && (e2 == 0 && !e3)))))) := by unfold formB; rw [if_neg (by decide), if_neg (by decide), if_pos rfl, if_neg (by decide)]
   rw [hk, Bool.true_and] at hF
   generalize ((t.f1.length : Int) == 0) = v2 at hF ⊢
   generalize tx.toList.isEmpty = v1 at hF ⊢
   generalize (e0 == 0 && (e1 == 0 && (e2 == 0 && !e3))) = v4 at hF ⊢
   go_wp2_with fail
   refine (fn_calls a b cc dd _).mono ?_
   rintro e V2 ⟨⟨r, rfl, hr⟩, hb2⟩
   rw [<- hr] at hF
   have HB2 := hid (HBN.out.trans (hb2.mono HBN.out.size))
   clear hb2 hr
   go_upto_region 12 with fail
   generalize (r == 0) = v3 at hF ⊢
   have HF := hid hF
   clear hF
   cases v1 with
   | false =>
    go_wp2_with fail
    exact bodyPost_ret (v := .bool false) (by simp [results, Tryz.results44, go_sem]) rfl ⟨by rw [HF.out]; simp, HB2.out⟩
   | true =>
    cases v2 with
    | false =>
     go_wp2_with fail
     exact bodyPost_ret (v := .bool false) (by simp [results, Tryz.results44, go_sem]) rfl ⟨by rw [HF.out]; simp, HB2.out⟩
    | true =>
     cases v3 with
     | false =>
      go_wp2_with fail
      exact bodyPost_ret (v := .bool false) (by simp [results, Tryz.results44, go_sem]) rfl ⟨by rw [HF.out]; simp, HB2.out⟩
     | true =>
      cases v4 with
      | false =>
       go_wp2_with fail
       exact bodyPost_ret (v := .bool false) (by simp [results, Tryz.results44, go_sem]) rfl ⟨by rw [HF.out]; simp, HB2.out⟩
      | true =>
       go_wp2_with fail
       exact bodyPost_ret (v := .bool true) (by simp [results, Tryz.results44, go_sem]) rfl ⟨by rw [HF.out]; rfl, HB2.out⟩
  by_cases h4 : op = 4
  ·subst h4
   have hF : formB 4 tx t a b cc dd e0 e1 e2 e3 = (textB tx && ((t.f0 == 0 && ((t.f1.length : Int) == 0)) && ((a == 0 && (b == 0 && (cc == 0 && dd == 0))) && trOk e0 e1 e2 e3))) := by unfold formB; rw [if_pos (.inr rfl), if_neg (by decide), if_neg (by decide), if_pos rfl]
   rw [hk, Bool.true_and] at hF
   generalize ((t.f1.length : Int) == 0) = v2 at hF ⊢
   generalize (a == 0 && (b == 0 && (cc == 0 && dd == 0))) = v3 at hF ⊢
   go_wp2_with fail
   refine (text_any tx htx _).mono ?_
   rintro e V2 ⟨rfl, hb2⟩
   have HB2 := hid (HBN.out.trans (hb2.mono HBN.out.size))
   have HT2 := hid ((hb2.block _ (by simpa using blk_lt HT.out)).trans (show (V.drewN nq).heap[w.heap.size]? = some (.cells #[.int .i64 4, .slice A1 n1 c1, .slice A2 n2 c2, .string tx, .int .i64 t.f0, .slice A5 t.f1.length c5, .int .i64 a, .int .i64 b, .int .i64 cc, .int .i64 dd, .int .i64 e0, .int .i64 e1, .int .i64 e2, .bool e3] 63 (0, 0)) from HT.out))
   clear hb2 HT m0 m1 m2 m3 m4 m5 m6 m7 m8 m9 m10 m11 m12 m13
   generalize textB tx = v1 at hF ⊢
   have m10 := blk_cell HT2.out 10
   simp only [List.getElem?_toArray, List.getElem?_cons_succ, List.getElem?_cons_zero] at m10
   have m11 := blk_cell HT2.out 11
   simp only [List.getElem?_toArray, List.getElem?_cons_succ, List.getElem?_cons_zero] at m11
   have m12 := blk_cell HT2.out 12
   simp only [List.getElem?_toArray, List.getElem?_cons_succ, List.getElem?_cons_zero] at m12
   have m13 := blk_cell HT2.out 13
   simp only [List.getElem?_toArray, List.getElem?_cons_succ, List.getElem?_cons_zero] at m13
   go_wp2_with fail
   refine (tr_calls e0 e1 e2 e3 _).mono ?_
   rintro e V3 ⟨⟨r, rfl, hr⟩, hb3⟩
   rw [<- hr] at hF
   have HB3 := hid (HB2.out.trans (hb3.mono HB2.out.size))
   clear hb3 hr
   go_upto_region 12 with fail
   generalize (r == 0) = v4 at hF ⊢
   have HF := hid hF
   clear hF
   cases v1 with
   | false =>
    go_wp2_with fail
    exact bodyPost_ret (v := .bool false) (by simp [results, Tryz.results44, go_sem]) rfl ⟨by rw [HF.out]; simp, HB3.out⟩
   | true =>
    cases v2 with
    | false =>
     go_wp2_with fail
     exact bodyPost_ret (v := .bool false) (by simp [results, Tryz.results44, go_sem]) rfl ⟨by rw [HF.out]; simp, HB3.out⟩
    | true =>
     cases v3 with
     | false =>
      go_wp2_with fail
      exact bodyPost_ret (v := .bool false) (by simp [results, Tryz.results44, go_sem]) rfl ⟨by rw [HF.out]; simp, HB3.out⟩
     | true =>
      cases v4 with
      | false =>
       go_wp2_with fail
       exact bodyPost_ret (v := .bool false) (by simp [results, Tryz.results44, go_sem]) rfl ⟨by rw [HF.out]; simp, HB3.out⟩
      | true =>
       go_wp2_with fail
       exact bodyPost_ret (v := .bool true) (by simp [results, Tryz.results44, go_sem]) rfl ⟨by rw [HF.out]; rfl, HB3.out⟩
  have hF : formB op tx t a b cc dd e0 e1 e2 e3 = (tx.toList.isEmpty && ((t.f0 == 0 && ((t.f1.length : Int) == 0)) && ((a == 0 && (b == 0 && (cc == 0 && dd == 0))) && (e0 == 0 && (e1 == 0 && (e2 == 0 && !e3)))))) := by unfold formB; rw [if_neg (by omega), if_neg h1, if_neg h3, if_neg h4]
  rw [hk, Bool.true_and] at hF
  generalize ((t.f1.length : Int) == 0) = v2 at hF ⊢
  generalize tx.toList.isEmpty = v1 at hF ⊢
  generalize (a == 0 && (b == 0 && (cc == 0 && dd == 0))) = v3 at hF ⊢
  generalize (e0 == 0 && (e1 == 0 && (e2 == 0 && !e3))) = v4 at hF ⊢
  have b1 : (op == 1) = false := by rw [beq_eq_false_iff_ne]; exact h1
  have b2 : (op == 2) = false := by rw [beq_eq_false_iff_ne]; exact h2
  have b3 : (op == 3) = false := by rw [beq_eq_false_iff_ne]; exact h3
  have b4 : (op == 4) = false := by rw [beq_eq_false_iff_ne]; exact h4
  have HF := hid hF
  clear hF h1 h2 h3 h4
  go_upto_region 12 with fail
  cases v1 with
  | false =>
   go_wp2_with fail
   exact bodyPost_ret (v := .bool false) (by simp [results, Tryz.results44, go_sem]) rfl ⟨by rw [HF.out]; simp, HBN.out⟩
  | true =>
   cases v2 with
   | false =>
    go_wp2_with fail
    exact bodyPost_ret (v := .bool false) (by simp [results, Tryz.results44, go_sem]) rfl ⟨by rw [HF.out]; simp, HBN.out⟩
   | true =>
    cases v3 with
    | false =>
     go_wp2_with fail
     exact bodyPost_ret (v := .bool false) (by simp [results, Tryz.results44, go_sem]) rfl ⟨by rw [HF.out]; simp, HBN.out⟩
    | true =>
     cases v4 with
     | false =>
      go_wp2_with fail
      exact bodyPost_ret (v := .bool false) (by simp [results, Tryz.results44, go_sem]) rfl ⟨by rw [HF.out]; simp, HBN.out⟩
     | true =>
      go_wp2_with fail
      exact bodyPost_ret (v := .bool true) (by simp [results, Tryz.results44, go_sem]) rfl ⟨by rw [HF.out]; rfl, HBN.out⟩
 | false =>
  go_enter Tryz.func44, Tryz.ntmps44
  go_upto_region 1 with fail
  have HB0 := hid (below_alloc (Below.refl w.heap.size w) (.cells #[.int .i64 op, .slice A1 n1 c1, .slice A2 n2 c2, .string tx, .int .i64 t.f0, .slice A5 t.f1.length c5, .int .i64 a, .int .i64 b, .int .i64 cc, .int .i64 dd, .int .i64 e0, .int .i64 e1, .int .i64 e2, .bool e3] 63))
  generalize w.alloc (.cells #[.int .i64 op, .slice A1 n1 c1, .slice A2 n2 c2, .string tx, .int .i64 t.f0, .slice A5 t.f1.length c5, .int .i64 a, .int .i64 b, .int .i64 cc, .int .i64 dd, .int .i64 e0, .int .i64 e1, .int .i64 e2, .bool e3] 63) = V at HT HB0 ⊢
  have m0 := blk_cell HT.out 0
  simp only [List.getElem?_toArray, List.getElem?_cons_succ, List.getElem?_cons_zero] at m0
  have m1 := blk_cell HT.out 1
  simp only [List.getElem?_toArray, List.getElem?_cons_succ, List.getElem?_cons_zero] at m1
  have m2 := blk_cell HT.out 2
  simp only [List.getElem?_toArray, List.getElem?_cons_succ, List.getElem?_cons_zero] at m2
  have m3 := blk_cell HT.out 3
  simp only [List.getElem?_toArray, List.getElem?_cons_succ, List.getElem?_cons_zero] at m3
  have m4 := blk_cell HT.out 4
  simp only [List.getElem?_toArray, List.getElem?_cons_succ, List.getElem?_cons_zero] at m4
  have m5 := blk_cell HT.out 5
  simp only [List.getElem?_toArray, List.getElem?_cons_succ, List.getElem?_cons_zero] at m5
  have m6 := blk_cell HT.out 6
  simp only [List.getElem?_toArray, List.getElem?_cons_succ, List.getElem?_cons_zero] at m6
  have m7 := blk_cell HT.out 7
  simp only [List.getElem?_toArray, List.getElem?_cons_succ, List.getElem?_cons_zero] at m7
  have m8 := blk_cell HT.out 8
  simp only [List.getElem?_toArray, List.getElem?_cons_succ, List.getElem?_cons_zero] at m8
  have m9 := blk_cell HT.out 9
  simp only [List.getElem?_toArray, List.getElem?_cons_succ, List.getElem?_cons_zero] at m9
  have m10 := blk_cell HT.out 10
  simp only [List.getElem?_toArray, List.getElem?_cons_succ, List.getElem?_cons_zero] at m10
  have m11 := blk_cell HT.out 11
  simp only [List.getElem?_toArray, List.getElem?_cons_succ, List.getElem?_cons_zero] at m11
  have m12 := blk_cell HT.out 12
  simp only [List.getElem?_toArray, List.getElem?_cons_succ, List.getElem?_cons_zero] at m12
  have m13 := blk_cell HT.out 13
  simp only [List.getElem?_toArray, List.getElem?_cons_succ, List.getElem?_cons_zero] at m13
  go_quiet (fail)
  rename_i nq
  have HBN := hid (pw_below_drewN HB0.out nq)
  by_cases h1 : op = 1
  ·subst h1
   have hF : formB 1 tx t a b cc dd e0 e1 e2 e3 = (tx.toList.isEmpty && (rightT 6 t && ((a == 0 && (b == 0 && (cc == 0 && dd == 0))) && (e0 == 0 && (e1 == 0 && (e2 == 0 && !e3)))))) := by unfold formB; rw [if_neg (by decide), if_pos rfl, if_neg (by decide), if_neg (by decide)]
   generalize tx.toList.isEmpty = v1 at hF ⊢
   generalize (a == 0 && (b == 0 && (cc == 0 && dd == 0))) = v3 at hF ⊢
   generalize (e0 == 0 && (e1 == 0 && (e2 == 0 && !e3))) = v4 at hF ⊢
   go_wp2_with fail
   refine (check_bool t A5 c5 _ hc5 (Kd.C_below hC HBN.out)).mono ?_
   rintro e V2 ⟨⟨r, rfl, hr⟩, hb2⟩
   rw [<- hr] at hF
   have HB2 := hid (HBN.out.trans (hb2.mono HBN.out.size))
   clear hb2 hr
   go_upto_region 12 with fail
   generalize (r == 0) = v2 at hF ⊢
   have HF := hid hF
   clear hF
   cases v1 with
   | false =>
    go_wp2_with fail
    exact bodyPost_ret (v := .bool false) (by simp [results, Tryz.results44, go_sem]) rfl ⟨by rw [HF.out]; simp, HB2.out⟩
   | true =>
    cases v2 with
    | false =>
     go_wp2_with fail
     exact bodyPost_ret (v := .bool false) (by simp [results, Tryz.results44, go_sem]) rfl ⟨by rw [HF.out]; simp, HB2.out⟩
    | true =>
     cases v3 with
     | false =>
      go_wp2_with fail
      exact bodyPost_ret (v := .bool false) (by simp [results, Tryz.results44, go_sem]) rfl ⟨by rw [HF.out]; simp, HB2.out⟩
     | true =>
      cases v4 with
      | false =>
       go_wp2_with fail
       exact bodyPost_ret (v := .bool false) (by simp [results, Tryz.results44, go_sem]) rfl ⟨by rw [HF.out]; simp, HB2.out⟩
      | true =>
       go_wp2_with fail
       exact bodyPost_ret (v := .bool true) (by simp [results, Tryz.results44, go_sem]) rfl ⟨by rw [HF.out]; rfl, HB2.out⟩
  by_cases h2 : op = 2
  ·subst h2
   have hF : formB 2 tx t a b cc dd e0 e1 e2 e3 = (textB tx && ((t.f0 == 0 && ((t.f1.length : Int) == 0)) && ((a == 0 && (b == 0 && (cc == 0 && dd == 0))) && (e0 == 0 && (e1 == 0 && (e2 == 0 && !e3)))))) := by unfold formB; rw [if_pos (.inl rfl), if_neg (by decide), if_neg (by decide), if_neg (by decide)]
   rw [hk, Bool.false_and] at hF
   generalize (a == 0 && (b == 0 && (cc == 0 && dd == 0))) = v3 at hF ⊢
   generalize (e0 == 0 && (e1 == 0 && (e2 == 0 && !e3))) = v4 at hF ⊢
   go_wp2_with fail
   refine (text_any tx htx _).mono ?_
   rintro e V2 ⟨rfl, hb2⟩
   have HB2 := hid (HBN.out.trans (hb2.mono HBN.out.size))
   clear hb2
   generalize textB tx = v1 at hF ⊢
   have HF := hid hF
   clear hF
   go_upto_region 12 with fail
   cases v1 with
   | false =>
    go_wp2_with fail
    exact bodyPost_ret (v := .bool false) (by simp [results, Tryz.results44, go_sem]) rfl ⟨by rw [HF.out]; simp, HB2.out⟩
   | true =>
    go_wp2_with fail
    exact bodyPost_ret (v := .bool false) (by simp [results, Tryz.results44, go_sem]) rfl ⟨by rw [HF.out]; simp, HB2.out⟩
  by_cases h3 : op = 3
  ·subst h3
   have hF : formB 3 tx t a b cc dd e0 e1 e2 e3 = (tx.toList.isEmpty && ((t.f0 == 0 && ((t.f1.length : Int) == 0)) && (fnOk a b cc dd && (e0 == 0 && (e1 == 0 && (e2 == 0 && !e3)))))) := by unfold formB; rw [if_neg (by decide), if_neg (by decide), if_pos rfl, if_neg (by decide)]
   rw [hk, Bool.false_and] at hF
   generalize tx.toList.isEmpty = v1 at hF ⊢
   generalize (e0 == 0 && (e1 == 0 && (e2 == 0 && !e3))) = v4 at hF ⊢
   go_wp2_with fail
   refine (fn_calls a b cc dd _).mono ?_
   rintro e V2 ⟨⟨r, rfl, hr⟩, hb2⟩
   rw [<- hr] at hF
   have HB2 := hid (HBN.out.trans (hb2.mono HBN.out.size))
   clear hb2 hr
   go_upto_region 12 with fail
   generalize (r == 0) = v3 at hF ⊢
   have HF := hid hF
   clear hF
   cases v1 with
   | false =>
    go_wp2_with fail
    exact bodyPost_ret (v := .bool false) (by simp [results, Tryz.results44, go_sem]) rfl ⟨by rw [HF.out]; simp, HB2.out⟩
   | true =>
    go_wp2_with fail
    exact bodyPost_ret (v := .bool false) (by simp [results, Tryz.results44, go_sem]) rfl ⟨by rw [HF.out]; simp, HB2.out⟩
  by_cases h4 : op = 4
  ·subst h4
   have hF : formB 4 tx t a b cc dd e0 e1 e2 e3 = (textB tx && ((t.f0 == 0 && ((t.f1.length : Int) == 0)) && ((a == 0 && (b == 0 && (cc == 0 && dd == 0))) && trOk e0 e1 e2 e3))) := by unfold formB; rw [if_pos (.inr rfl), if_neg (by decide), if_neg (by decide), if_pos rfl]
   rw [hk, Bool.false_and] at hF
   generalize (a == 0 && (b == 0 && (cc == 0 && dd == 0))) = v3 at hF ⊢
   go_wp2_with fail
   refine (text_any tx htx _).mono ?_
   rintro e V2 ⟨rfl, hb2⟩
   have HB2 := hid (HBN.out.trans (hb2.mono HBN.out.size))
   have HT2 := hid ((hb2.block _ (by simpa using blk_lt HT.out)).trans (show (V.drewN nq).heap[w.heap.size]? = some (.cells #[.int .i64 4, .slice A1 n1 c1, .slice A2 n2 c2, .string tx, .int .i64 t.f0, .slice A5 t.f1.length c5, .int .i64 a, .int .i64 b, .int .i64 cc, .int .i64 dd, .int .i64 e0, .int .i64 e1, .int .i64 e2, .bool e3] 63 (0, 0)) from HT.out))
   clear hb2 HT m0 m1 m2 m3 m4 m5 m6 m7 m8 m9 m10 m11 m12 m13
   generalize textB tx = v1 at hF ⊢
   have m10 := blk_cell HT2.out 10
   simp only [List.getElem?_toArray, List.getElem?_cons_succ, List.getElem?_cons_zero] at m10
   have m11 := blk_cell HT2.out 11
   simp only [List.getElem?_toArray, List.getElem?_cons_succ, List.getElem?_cons_zero] at m11
   have m12 := blk_cell HT2.out 12
   simp only [List.getElem?_toArray, List.getElem?_cons_succ, List.getElem?_cons_zero] at m12
   have m13 := blk_cell HT2.out 13
   simp only [List.getElem?_toArray, List.getElem?_cons_succ, List.getElem?_cons_zero] at m13
   go_wp2_with fail
   refine (tr_calls e0 e1 e2 e3 _).mono ?_
   rintro e V3 ⟨⟨r, rfl, hr⟩, hb3⟩
   rw [<- hr] at hF
   have HB3 := hid (HB2.out.trans (hb3.mono HB2.out.size))
   clear hb3 hr
   go_upto_region 12 with fail
   generalize (r == 0) = v4 at hF ⊢
   have HF := hid hF
   clear hF
   cases v1 with
   | false =>
    go_wp2_with fail
    exact bodyPost_ret (v := .bool false) (by simp [results, Tryz.results44, go_sem]) rfl ⟨by rw [HF.out]; simp, HB3.out⟩
   | true =>
    go_wp2_with fail
    exact bodyPost_ret (v := .bool false) (by simp [results, Tryz.results44, go_sem]) rfl ⟨by rw [HF.out]; simp, HB3.out⟩
  have hF : formB op tx t a b cc dd e0 e1 e2 e3 = (tx.toList.isEmpty && ((t.f0 == 0 && ((t.f1.length : Int) == 0)) && ((a == 0 && (b == 0 && (cc == 0 && dd == 0))) && (e0 == 0 && (e1 == 0 && (e2 == 0 && !e3)))))) := by unfold formB; rw [if_neg (by omega), if_neg h1, if_neg h3, if_neg h4]
  rw [hk, Bool.false_and] at hF
  generalize tx.toList.isEmpty = v1 at hF ⊢
  generalize (a == 0 && (b == 0 && (cc == 0 && dd == 0))) = v3 at hF ⊢
  generalize (e0 == 0 && (e1 == 0 && (e2 == 0 && !e3))) = v4 at hF ⊢
  have b1 : (op == 1) = false := by rw [beq_eq_false_iff_ne]; exact h1
  have b2 : (op == 2) = false := by rw [beq_eq_false_iff_ne]; exact h2
  have b3 : (op == 3) = false := by rw [beq_eq_false_iff_ne]; exact h3
  have b4 : (op == 4) = false := by rw [beq_eq_false_iff_ne]; exact h4
  have HF := hid hF
  clear hF h1 h2 h3 h4
  go_upto_region 12 with fail
  cases v1 with
  | false =>
   go_wp2_with fail
   exact bodyPost_ret (v := .bool false) (by simp [results, Tryz.results44, go_sem]) rfl ⟨by rw [HF.out]; simp, HBN.out⟩
  | true =>
   go_wp2_with fail
   exact bodyPost_ret (v := .bool false) (by simp [results, Tryz.results44, go_sem]) rfl ⟨by rw [HF.out]; simp, HBN.out⟩
end Go.Proofs.YtamfloegflejnaaGreatDoor
