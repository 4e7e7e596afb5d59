/-
 The law GraphLine: it answers true.
 The card of GraphLine: the walk joined to the row and to the card.
-/
import Derived.Test.YtamfloegflejnaaGreatDoorUB
import Derived.Test.YtamfloegflejnaaGreatDoorVC
import Derived.Test.YtamfloegflejnaaGreatDoorMG
import Derived.Test.YtamfloegflejnaaGreatDoorMO
import Derived.Test.YtamfloegflejnaaGreatDoorCards
import Derived.Test.YtamfloegflejnaaGreatDoorTie
import Derived.ProofKit
import Derived.OpenShut
import Derived.ChangeMaps5
import Derived.LaidMore
import Derived.Lay
import Derived.SevenTiedAt
import Derived.Stop.Joined
import Derived.Below
import Derived.ChangeSame
import Derived.Carry
import Derived.Shelf.Vars
set_option linter.unusedVariables false
set_option linter.unusedSimpArgs false
set_option maxHeartbeats 4000000
set_option maxRecDepth 100000
namespace Go.Proofs.YtamfloegflejnaaGreatDoor
open Lib (hid)
open Go.RowKit Go.Proofs.YtamfloegflejnaaGreatDoorW.PrintWords Go.Proofs.YtamfloegflejnaaGreatDoorW.PrintLast Go.Proofs.YtamfloegflejnaaGreatDoorW.PrintMore PGraphLines
def Yes (w : World) (e : Ending) (w' : World) : Prop := e = .returned (.bool true) ∧ Below w.heap.size w w'
theorem textT_small {l : List S43} (hv : (checkV (l.map upN)).2 = 0) : (⟨(textT (l.map upN)).toArray⟩ : ByteArray).size <= 300000 := by
 have h1 := text_len (okn_all hv)
 have h2 := (checkV_zero hv).1.2
 have h3 := Nat.mul_le_mul_right 7008 h2
 rw [ba_size]
 omega
theorem line_parse (l : List S43) (line : ByteArray) (hv : (checkV (l.map upN)).2 = 0) (hz : line.size <= 3000) (hn : (10 : UInt8) ∉ line.data.toList) (w : World) (hE : Env w) :
  Calls Tryz.prog 8 #[.string (((⟨(textT (l.map upN)).toArray⟩ : ByteArray) ++ line) ++ ⟨#[10]⟩)] w (LinePost l.length (readR line) w) := by
 have hs := textT_small hv
 have he : ((⟨(textT (l.map upN)).toArray⟩ : ByteArray) ++ line) ++ ⟨#[10]⟩ = ⟨(textT (l.map upN) ++ (line.data.toList ++ [10])).toArray⟩ := by
  apply ByteArray.ext
  simp
 have hb : (⟨line.data.toList.toArray⟩ : ByteArray) = line := by apply ByteArray.ext; simp
 have hsz : (((⟨(textT (l.map upN)).toArray⟩ : ByteArray) ++ line) ++ ⟨#[10]⟩).size <= 900000 := by
  rw [ByteArray.size_append, ByteArray.size_append]
  have : (⟨#[10]⟩ : ByteArray).size = 1 := rfl
  omega
 have hp := graph_parse _ hsz w hE
 have hpt := parse_tail line.data.toList hn (l.map upN) ((((⟨(textT (l.map upN)).toArray⟩ : ByteArray) ++ line) ++ ⟨#[10]⟩).size + 1) [] (okn_all hv) (by
  have := text_pos (l.map upN)
  rw [he, ba_size, List.length_append, List.length_append]
  simp only [List.length_singleton]
  omega)
 rw [<- he, hb] at hpt
 rw [hpt] at hp
 rw [read_alike]
 refine hp.mono fun e w' h => ?_
 have := line_post (ns := l.map upN) (x := (readV line).1) (b := (readV line).2) (by simpa using h)
 rwa [List.length_map] at this
theorem law_line (l : List S43) (line : ByteArray) (A : Option Addr) (c : Nat) (w : World) (hE : Env w) (hc : l.length <= c) (hC : k43.C w A l.length l) :
  Calls Tryz.prog 3 #[.slice A l.length c, .string line] w (Yes w) := by
 have HE := hid hE
 have HS := hid (small_any l A c w hc hC)
 have HC := hid hC
 clear hE hC
 cases hsm : smallB l with
 | false =>
  rw [hsm] at HS
  go_enter Tryz.func3, Tryz.ntmps3
  go_wp2_with fail
  refine HS.out.mono ?_
  rintro e w1 ⟨rfl, hb1⟩
  have HA := hid (awake_calls w1 (HE.out.later hb1)); have HB1 := hid hb1
  clear hb1
  go_wp2_with fail
  refine HA.out.mono ?_
  rintro e w2 ⟨rfl, hb2⟩
  have HB2 := hid hb2
  clear hb2
  go_wp2_with fail
  exact bodyPost_ret (v := .bool true) (by simp [results, Tryz.results3, go_sem]) rfl ⟨rfl, HB1.out.trans (HB2.out.mono HB1.out.size)⟩
 | true =>
  rw [hsm] at HS
  by_cases hz : line.size <= 3000
  ·have t0 : decide ((3000 : Int) < (line.size : Int)) = false := by rw [decide_eq_false_iff_not]; omega
   have hm := small_mild hsm
   have HCK : ∀ W, Below w.heap.size w W -> Hid _ := fun W hb => hid (check2_any l A c W hm hc (Kd.C_below HC.out hb))
   by_cases hv : (checkV (l.map upN)).2 = 0
   ·have HSH : ∀ W, Below w.heap.size w W -> Hid _ := fun W hb => hid (show3_any l A c W hv hc (Kd.C_below HC.out hb))
    have hcv := checkV_both hv
    rw [hcv] at HCK
    have htx := textT_small hv
    have HGP : Hid (∀ W, (10 : UInt8) ∉ line.data.toList -> Env W -> Calls Tryz.prog 8 #[.string (((⟨(textT (l.map upN)).toArray⟩ : ByteArray) ++ line) ++ ⟨#[10]⟩)] W (LinePost l.length (readR line) W)) := hid (fun W hn he => line_parse l line hv hz hn W he)
    have HRD := hid (fun W => read2_any line (by omega) W)
    have HSHW := hid HSH
    have HTX := hid htx
    clear hm hcv HSH htx
    go_enter Tryz.func3, Tryz.ntmps3
    go_wp2_with fail
    refine HS.out.mono ?_
    rintro e w1 ⟨rfl, hb1⟩
    have HK1 := HCK w1 hb1
    have HB1 := hid hb1
    clear hb1 HCK HS
    go_wp2_with fail
    refine HK1.out.mono ?_
    rintro e w2 ⟨rfl, hb2⟩
    have HB2 := hid (HB1.out.trans (hb2.mono HB1.out.size))
    clear hb2 HK1 HB1
    go_wp2_with fail
    go_loopg [32] line.size (fun n v wr => ∃ j : Nat, n + j = line.size ∧ v = .int .i64 j ∧ wr = w2 ∧ Aside0 (∀ i (h : i < line.data.toList.length), i < j -> line.data.toList[i] ≠ 10))
    case atStart => exact ⟨0, by omega, rfl, rfl, ⟨fun i h hi => by omega⟩⟩
    case round =>
     obtain ⟨j, hj, rfl, rfl, ⟨hN⟩⟩ := hrel
     have HN := hid hN
     clear hN
     by_cases hlt : j < line.size
     ·obtain ⟨m, rfl⟩ : ∃ m, gk = m + 1 := ⟨gk - 1, by omega⟩
      have hlen : line.data.toList.length = line.size := by simp
      have hgt : (line[j]'hlt) = line.data.toList[j]'(by omega) := by simp [ByteArray.getElem_eq_getElem_data]
      by_cases hh : (line[j]'hlt) = 10
      ·have t1 : ((((line[j]'hlt).toNat : Nat) : Int) == 10) = true := by rw [hh]; rfl
       have HA := hid (awake_calls wr (HE.out.later HB2.out))
       clear hh hgt
       go_wp2_with fail
       refine HA.out.mono ?_
       rintro e w3 ⟨rfl, hb3⟩
       have HB3 := hid (HB2.out.trans (hb3.mono HB2.out.size))
       clear hb3
       go_wp2_with fail
       exact bodyPost_ret (v := .bool true) (by simp [results, Tryz.results3, go_sem]) rfl ⟨rfl, HB3.out⟩
      ·have t1 : ((((line[j]'hlt).toNat : Nat) : Int) == 10) = false := by
        rw [beq_eq_false_iff_ne]
        intro he
        exact hh (UInt8.toNat_inj.mp (by show (line[j]'hlt).toNat = 10; omega))
       have HN2 : Hid (∀ i (h : i < line.data.toList.length), i < j + 1 -> line.data.toList[i] ≠ 10) := by
        intro i h hi
        rcases Nat.lt_or_ge i j with h1 | h1
        ·exact HN.out i h h1
        ·obtain rfl : i = j := by omega
         rw [<- hgt]; exact hh
       clear hh hgt
       go_wp2_with fail
       go_roundg m
       case measure => omega
       case rel => exact ⟨j + 1, by omega, by go_num, rfl, ⟨HN2.out⟩⟩
     ·have hn : (10 : UInt8) ∉ line.data.toList := by
       intro hm
       obtain ⟨i, hi, he⟩ := List.getElem_of_mem hm
       have hlen : line.data.toList.length = line.size := by simp
       exact HN.out i hi (by omega) he
      have HP1 := hid (fun W he => HGP.out W hn he)
      obtain rfl : j = line.size := by omega
      clear hn HN HGP
      generalize (⟨(textT (l.map upN)).toArray⟩ : ByteArray) = tx at *
      have HS3 := HSHW.out wr HB2.out
      have htx := HTX.out
      have p1 : (9223372036854775807 < tx.size + line.size) = False := eq_false (by omega)
      have p2 : (9223372036854775807 < tx.size + line.size + 1) = False := eq_false (by omega)
      go_wp2_with fail
      refine HS3.out.mono ?_
      rintro e w3 ⟨rfl, hb3⟩
      have HB3 := hid (HB2.out.trans (hb3.mono HB2.out.size))
      have HP3 := hid (HP1.out w3 (HE.out.later HB3.out))
      clear hb3 HS3 HSHW HP1 HB2
      go_wp2_with fail
      refine HP3.out.mono ?_
      rintro e w4 ⟨⟨A4, k4, c4, at4, er, rfl, hno, hyes⟩, hb4⟩
      have HB4 := hid (below_alloc (HB3.out.trans (hb4.mono HB3.out.size)) (.cells #[.slice A4 k4 c4] 29))
      have HR4 := hid (HRD.out (w4.alloc (.cells #[.slice A4 k4 c4] 29)))
      have HNO := hid hno; have HYES := hid hyes
      clear hb4 HP3 HB3 hno hyes HRD
      go_wp2_with fail
      generalize w4.alloc (.cells #[.slice A4 k4 c4] 29) = w4' at *
      refine HR4.out.mono ?_
      rintro e w5 ⟨⟨op, A1, n1, k1, A2, n2, k2, nt, kd, A5, n5, k5, ga, gb, gc, gd, e0, e1, e2, e3, rfl⟩, hb5⟩
      have HB5 := hid (HB4.out.trans (hb5.mono HB4.out.size))
      clear hb5 HR4 HB4
      have HB5b := hid (below_alloc HB5.out (.cells #[.int .i64 op, .slice A1 n1 k1, .slice A2 n2 k2, .string nt, .int .i64 kd, .slice A5 n5 k5, .int .i64 ga, .int .i64 gb, .int .i64 gc, .int .i64 gd, .int .i64 e0, .int .i64 e1, .int .i64 e2, .bool e3] 43))
      have HA := hid (awake_calls (w5.alloc (.cells #[.int .i64 op, .slice A1 n1 k1, .slice A2 n2 k2, .string nt, .int .i64 kd, .slice A5 n5 k5, .int .i64 ga, .int .i64 gb, .int .i64 gc, .int .i64 gd, .int .i64 e0, .int .i64 e1, .int .i64 e2, .bool e3] 43)) (HE.out.later HB5b.out))
      cases hr : readR line with
      | false =>
       obtain ⟨rfl, rfl⟩ := HNO.out hr
       clear HNO HYES hr
       go_wp2_with fail
       refine HA.out.mono ?_
       rintro e w6 ⟨rfl, hb6⟩
       have HB6 := hid (HB5b.out.trans (hb6.mono HB5b.out.size))
       clear hb6
       go_wp2_with fail
       exact bodyPost_ret (v := .bool true) (by simp [results, Tryz.results3, go_sem]) rfl ⟨rfl, HB6.out⟩
      | true =>
       have t2 : (er != 40) = true := by rw [bne_iff_ne]; exact HYES.out hr
       clear HNO HYES hr
       go_wp2_with fail
       refine HA.out.mono ?_
       rintro e w6 ⟨rfl, hb6⟩
       have HB6 := hid (HB5b.out.trans (hb6.mono HB5b.out.size))
       clear hb6
       go_wp2_with fail
       exact bodyPost_ret (v := .bool true) (by simp [results, Tryz.results3, go_sem]) rfl ⟨rfl, HB6.out⟩
   ·go_enter Tryz.func3, Tryz.ntmps3
    go_wp2_with fail
    refine HS.out.mono ?_
    rintro e w1 ⟨rfl, hb1⟩
    have HK1 := HCK w1 hb1
    have HB1 := hid hb1
    clear hb1
    obtain ⟨er, her⟩ : ∃ er, er = (checkV (l.map upN)).2 := ⟨_, rfl⟩
    rw [<- her] at HK1 hv
    have t1 : (er != 0) = true := by rw [bne_iff_ne]; exact hv
    go_wp2_with fail
    refine HK1.out.mono ?_
    rintro e w2 ⟨rfl, hb2⟩
    have HB2 := hid (HB1.out.trans (hb2.mono HB1.out.size))
    clear hb2
    have HA := hid (awake_calls w2 (HE.out.later HB2.out))
    go_wp2_with fail
    refine HA.out.mono ?_
    rintro e w3 ⟨rfl, hb3⟩
    have HB3 := hid (HB2.out.trans (hb3.mono HB2.out.size))
    clear hb3
    go_wp2_with fail
    exact bodyPost_ret (v := .bool true) (by simp [results, Tryz.results3, go_sem]) rfl ⟨rfl, HB3.out⟩
  ·have t0 : decide ((3000 : Int) < (line.size : Int)) = true := by rw [decide_eq_true_iff]; omega
   go_enter Tryz.func3, Tryz.ntmps3
   go_wp2_with fail
   refine HS.out.mono ?_
   rintro e w1 ⟨rfl, hb1⟩
   have HA := hid (awake_calls w1 (HE.out.later hb1)); have HB1 := hid hb1
   clear hb1
   go_wp2_with fail
   refine HA.out.mono ?_
   rintro e w2 ⟨rfl, hb2⟩
   have HB2 := hid hb2
   clear hb2
   go_wp2_with fail
   exact bodyPost_ret (v := .bool true) (by simp [results, Tryz.results3, go_sem]) rfl ⟨rfl, HB1.out.trans (HB2.out.mono HB1.out.size)⟩
end Go.Proofs.YtamfloegflejnaaGreatDoor
set_option maxRecDepth 100000
namespace Go.Proofs.YtamfloegflejnaaGreatDoor.graphLine
open Go Go.ChangeShapes Go.WideShapes Go.ChangeAt Go.RowKit Go.ChangeMaps
theorem own : ownKnob Tryz.prog.godebug = none := by kernel_rfl
theorem laidOut : laidOutB Tryz.prog = true := by kernel_rfl
def laid : List (String × DataW Unit) := [("math/bits.deBruijn32tab", Rows.laid_math_bits_deBruijn32tab), ("math/bits.deBruijn64tab", Rows.laid_math_bits_deBruijn64tab), ("internal/strconv.uint64pow10", Rows.laid_internal_strconv_uint64pow10), ("unicode/utf8.acceptRanges", Rows.laid_unicode_utf8_acceptRanges), ("strconv.ErrRange", Rows.laid_strconv_ErrRange), ("strconv.ErrSyntax", Rows.laid_strconv_ErrSyntax), ("unicode/utf8.first", Rows.laid_unicode_utf8_first)]
section
variable {H : Type} {enc : TypeId × Value -> H} {P : Program}
theorem post_of_below {f : Func} {s : ChangeSpec} {apart fresh handsOn again : Bool} {W W' : World} {args : Array Value} {v : Value} {ds gs : List (DataW H)} {before pa pv : List MemPlace}
  (hW : DataW.Whole enc P f.params.toList s.vars apart W args.toList ds gs before)
  (hres : ∀ (b : Nat) (sp : Nat -> Bool) (hd : Bool), DataW.TrodAll enc P W' b sp hd f.resultTypes.toList (v.resultList f.resultTypes.size) (s.fn H (ds ++ gs)).results [])
  (hargs : ∀ sp : Nat -> Bool, (∀ p ∈ before, sp p.block = true) -> DataW.TrodAll enc P W' 0 sp true f.params.toList args.toList (s.fn H (ds ++ gs)).args pa)
  (hvars : ∀ sp : Nat -> Bool, (∀ p ∈ before, sp p.block = true) -> DataW.TrodVars enc P W' sp s.vars (s.fn H (ds ++ gs)).vars pv)
  (hps : before = pa ++ pv) (hb : Below W.heap.size W W')
  (hok : ∀ (j : Nat) (t : TypeId) (r : Value), f.resultTypes[j]? = some t -> (v.resultList f.resultTypes.size)[j]? = some r -> Value.okWide P W' .any 0 t r) :
  s.post enc P f apart fresh handsOn again W args v W' := by
 have hlt : ∀ p ∈ before, p.block < W.heap.size := fun p hp => hW.lt p hp
 have hold : ∀ p ∈ before, (fun b => decide (b < W.heap.size)) p.block = true := fun p hp => by simpa using hlt p hp
 refine ⟨ds, gs, before, [], pa, pv, hW, hres _ _ _, hargs _ hold, hvars _ hold, World.keptBut_mono (fun p hp => ⟨hp, ?_⟩) (hb.frame (· ∈ before)), fun _ => ?_⟩
 ·rw [hps, List.mem_append] at hp
  exact Or.inr hp
 ·obtain ⟨_, _, _, _, _, hz, hn⟩ := hW
  refine ⟨hok, _, _, ([] ++ pa) ++ pv, ⟨[] ++ pa, pv, trodAll_append (hargs _ (fun _ _ => rfl)) (hres _ _ _), hvars _ (fun _ _ => rfl), rfl, ?_, ?_⟩, ?_⟩
  ·intro b off hp
   have hin : MemPlace.cell b off ∈ before := by rw [hps]; simpa using hp
   rw [hb.frozen (hlt _ hin)]
   exact hz b off hin
  ·intro ha
   have := hn ha
   rw [hps] at this
   simpa using this
  ·intro p hp _
   rw [hps]
   simpa using hp
end
theorem wrap_both {H : Type} {enc : TypeId × Value -> H} {a : Assume} {C : Checked} {os : Os} {f : FuncId} {fn : Func} {s : ChangeSpec} {conds : List PathCond} {apart fresh handsOn again : Bool} {X : World -> Array Value -> Prop}
  (hX : ∀ (w w' : World) (args : Array Value), w.heap = w'.heap -> X w args -> X w' args)
  (own : ownKnob C.prog.godebug = none) (started : os.Started) (noInit : C.prog.inits.idxOf? f = none) (hfn : C.prog.funcs[f]? = some fn)
  (witness : ∃ (w : World) (tape : Tape) (i : Input), w.os = os ∧ (w.forCall tape i).Shaped C.prog ∧ i.vars = [] ∧ Input.okWide C.prog (w.forCall tape i) .any w.heap.size f i ∧
   ((s.pre enc C.prog fn conds apart (w.forCall tape i).memory i.args ∧ X (w.forCall tape i).memory i.args) ∧ sizedMet enc C.prog fn (OpenSpec.ofChange s) apart (w.forCall tape i).memory i.args) ∧ a.holds C.prog (lone (Frame.enter C.prog f i.args .normal) [] (w.forCall tape i)))
  (contract : ∀ (W : World) (base : Nat) (args : Array Value) (ds gs : List (DataW H)) (before : List MemPlace),
   (∀ (j : Nat) t v, fn.params[j]? = some t -> args[j]? = some v -> Value.okWide C.prog W .any base t v) →
   DataW.Whole enc C.prog fn.params.toList s.vars apart W args.toList ds gs before -> X W args -> W.ShapedOpen C.prog →
   Calls C.prog f args W fun e W' => ∃ v, e = .returned v ∧ s.post enc C.prog fn apart fresh handsOn again W args v W') :
  ReturnsInHanded a C os f .any (fun w args => (s.pre enc C.prog fn conds apart w args ∧ X w args) ∧ sizedMet enc C.prog fn (OpenSpec.ofChange s) apart w args) (s.post enc C.prog fn apart fresh handsOn again) := by
 refine returnsInHanded_of_calls own started noInit witness ?_
 intro w tape i _ hsh _ hok hpre hholds
 obtain ⟨_, _, _, fn', hfn', _, _, _, _, hval⟩ := hok
 obtain rfl := Option.some.inj (hfn'.symm.trans hfn)
 obtain ⟨⟨⟨ds, gs, before, hw, hc⟩, hx⟩, hz⟩ := hpre
 refine (contract (w.forCall tape i) w.heap.size i.args ds gs before hval (DataW.Whole.of_heap (w' := w.forCall tape i) (by rfl) hw) (hX _ _ _ (by rfl) hx) hsh).mono fun e W' ⟨v, he, hp⟩ => ?_
 subst he
 exact ChangeSpec.post_blind hp
theorem iface_of {H : Type} {enc : TypeId × Value -> H} {w : World} {b : Nat} {sp : Nat -> Bool} {fuel : Nat} {cs : Array Value} {nm : String} {d : DataW H} {p : List MemPlace}
  (h : DataW.trod enc Tryz.prog w b sp false fuel 84 cs.toList = some (.iface nm d, p)) : ∃ tp v, cs = #[.iface tp v] := by
 obtain ⟨cs⟩ := cs
 cases fuel with
 | zero => simp [DataW.trod] at h
 | succ n =>
  unfold DataW.trod at h
  rw [Tryz.underlying84] at h
  split at h <;> simp_all
theorem env_of_laid {W : World} (h : laidMetH Tryz.prog laid W) (hsh : W.ShapedOpen Tryz.prog) : Env W := by
 rw [MakeChecks.laidMetH_plain _ _ _ (by kernel_rfl)] at h
 obtain ⟨ps, ⟨g0, t0, cs0, f0, p0, q0, hg0, ht0, hv0, hd0, ⟨g1, t1, cs1, f1, p1, q1, hg1, ht1, hv1, hd1, ⟨g, t, cs, fuel, p, q, hg, ht, hv, hd, ⟨g3, t3, cs3, f3, p3, q3, hg3, ht3, hv3, hd3, ⟨g4, t4, cs4, f4, p4, q4, hg4, ht4, hv4, hd4, ⟨g5, t5, cs5, f5, p5, q5, hg5, ht5, hv5, hd5, _⟩, _⟩, _⟩, _⟩, _⟩, _⟩, _, _⟩ := h
 obtain rfl := Option.some.inj ((show Tryz.prog.globalNamed "internal/strconv.uint64pow10" = some 1 by kernel_rfl).symm.trans hg)
 obtain rfl := Option.some.inj ((show (Tryz.prog.globals[1]?).map (·.type) = some 177 by kernel_rfl).symm.trans ht)
 obtain rfl := Option.some.inj ((show Tryz.prog.globalNamed "strconv.ErrRange" = some 3 by kernel_rfl).symm.trans hg4)
 obtain rfl := Option.some.inj ((show (Tryz.prog.globals[3]?).map (·.type) = some 84 by kernel_rfl).symm.trans ht4)
 obtain rfl := Option.some.inj ((show Tryz.prog.globalNamed "strconv.ErrSyntax" = some 2 by kernel_rfl).symm.trans hg5)
 obtain rfl := Option.some.inj ((show (Tryz.prog.globals[2]?).map (·.type) = some 84 by kernel_rfl).symm.trans ht5)
 refine ⟨?_, ?_, ?_, ?_⟩
 ·exact cell_of_shapedOpen_int (P := Tryz.prog) (g := 0) (t := 3) (zero := #[.int .i64 0]) hsh (of_decide_eq_true (by kernel_rfl)) (by kernel_rfl) rfl (by kernel_rfl) (by kernel_rfl) Tryz.underlying3
 ·have hd' : DataW.trod _ Tryz.prog W _ _ _ fuel 177 cs.toList = some (Lib.tabData .u64 Lib.pow10Tab, p) := hd
  have := Lib.cells_of_tab (e := 160) (n := 20) Tryz.underlying177 Tryz.underlying160 (by kernel_rfl) (by kernel_rfl) hd'
  unfold Lib.TabIs
  rw [hv, <- this]
 ·obtain ⟨tp, v, rfl⟩ := iface_of hd5
  exact ⟨tp, v, hv5⟩
 ·obtain ⟨tp, v, rfl⟩ := iface_of hd4
  exact ⟨tp, v, hv4⟩
theorem lifted (os : Os) (started : os.Started) (H : Type) (enc : TypeId × Value -> H) :
  ReturnsInHanded {} Tryz.checked os 3 .any (fun w args => (Rows.graphLineSpec.pre enc Tryz.prog Tryz.f3 Rows.graphLineRow.domain false w args ∧ laidMetH Tryz.prog laid w) ∧ sizedMet enc Tryz.prog Tryz.f3 (OpenSpec.ofChange Rows.graphLineSpec) false w args)
   (Rows.graphLineSpec.post enc Tryz.prog Tryz.f3 false true false false) := by
 refine wrap_both (C := Tryz.checked) (X := fun w _ => laidMetH Tryz.prog laid w) (fun _ _ _ hh h => h.of_heap hh) own started (by kernel_rfl) Tryz.func3
  (ChangeSpec.witness_shaped (enc := enc) (C := Tryz.checked) (os := os) (X := fun w _ => laidMetH Tryz.prog laid w) false (World.laidAll Tryz.prog os laid) #[.slice none 0 0, .string ⟨#[]⟩] 8 (World.laidAll_os _ _ _)
   (World.shaped_of_ZipB (by kernel_rfl) (by kernel_rfl)) (by kernel_rfl) (by kernel_rfl) (by kernel_rfl)
   (by rw [MakeChecks.laidMetH_plain _ _ _ (by kernel_rfl)]; exact laidMet_laidAll _ (by kernel_rfl) (by kernel_rfl))) ?_
 intro W base args ds gs before hval0 hW hL hsh
 have hval : ∀ (j : Nat) t v, Tryz.f3.params[j]? = some t -> args[j]? = some v -> Value.okWide Tryz.prog W .any base t v := hval0
 have hW' := hW
 obtain ⟨p, q, hA0, hV, rfl, _, _⟩ := hW
 have hA : DataW.TrodAll enc Tryz.prog W 0 (fun _ => true) true Tryz.f3.params.toList args.toList ds p := hA0
 rw [Tryz.params3] at hA hval
 obtain ⟨v0, v1, d0, d1, p0, p1, rfl, rfl, rfl, h0, h1⟩ := trodAll_two hA
 obtain ⟨rfl, rfl⟩ := trodVars_none hV
 have h0k := h0
 obtain ⟨A, c, l, rfl, hc, hC⟩ := nodes_down (hval 0 22 v0 rfl rfl) h0
 obtain ⟨line, rfl, rfl, rfl, wk⟩ := open_string Tryz.underlying9 (hval 1 9 v1 rfl rfl) h1
 clear hA0 hval0
 simp only [List.append_nil] at hW'
 refine (law_line l line A c W (env_of_laid hL hsh) hc hC).mono fun e W' ⟨he, hb⟩ => ?_
 subst he
 have hlt : ∀ x ∈ p0, x.block < W.heap.size := fun x hx => hW'.lt x (by simpa using hx)
 exact ⟨_, rfl, post_of_below (pa := p0) (pv := []) hW' (fun _ _ _ => trodAll_mk1 (shut_bool Tryz.underlying4 _)) (fun sp hsp => by
  have hs := WideElems.Trod_stays (sp' := sp) laidOut (by kernel_rfl) (of_decide_eq_true (by kernel_rfl)) h0k (fun x hx => hb.same (hlt x hx)) (fun x hx => hsp x (by simpa using hx))
  have hh := trodAll_mk2 hs (shut_string (enc := enc) (w := W') (base := 0) (sp := sp) (held := true) Tryz.underlying9 wk)
  rw [List.append_nil] at hh
  exact hh) (fun _ _ => rfl) (by simp) hb (ok_one (by kernel_rfl) rfl (okWide_bool_mk Tryz.underlying4 _))⟩
theorem over : Rows.graphLineRow.holds Tryz.pinned (OpenSpec.ofChange Rows.graphLineSpec) :=
 OpenClaim.holds_of_wide 3 Tryz.f3 rfl rfl rfl rfl rfl rfl rfl ⟨rfl, rfl, rfl, rfl, rfl⟩ rfl rfl rfl rfl rfl (by kernel_rfl) Tryz.func3 (by kernel_rfl)
  (of_decide_eq_true (by kernel_rfl)) (by unfold Func.isWrapper; first | (rw [if_pos (by decide +kernel)]; kernel_rfl) | (rw [if_neg (by decide +kernel)]; exact ⟨rfl, rfl⟩))
  (fun os started H enc _ => lifted os started H enc)
/-- The statement. -/
theorem proved : Rows.GraphLineCardSaid :=
 Claim7.holds_tied_plain_at .later [] [.data, .data, .data, .data, .sentinel, .sentinel, .pinned] true (true, "c17677df2d8ddd0f83a8ddeb518fc648f7b2e174439b31c4ea9cbc304c15fee5") true over (fun _ h => by cases h) (by kernel_rfl) (fun _ h => by cases h) graphLine_row_tie rfl ⟨rfl, rfl⟩ (by kernel_rfl) rfl
  (fun f fn hf hfn => by
   obtain rfl : f = 3 := Option.some.inj ((show Tryz.prog.funcNamed "watershed/watershedlaw11.GraphLine" = some 3 by kernel_rfl).symm.trans hf) |>.symm
   obtain rfl : fn = Tryz.f3 := (Option.some.inj (Tryz.func3.symm.trans hfn)).symm
   exact ⟨by kernel_rfl, fun j t ht => by
    rw [Tryz.params3] at ht
    have hm : t ∈ [22, 9] := by simpa using Array.mem_of_getElem? ht
    have hall : ([22, 9].all fun u => !Tryz.prog.wantsStandIn u) = true := by kernel_rfl
    exact (show Tryz.prog.wantsStandIn t = false by simpa using List.all_eq_true.1 hall t hm)⟩)
  (by kernel_rfl)
#print axioms proved
end Go.Proofs.YtamfloegflejnaaGreatDoor.graphLine
