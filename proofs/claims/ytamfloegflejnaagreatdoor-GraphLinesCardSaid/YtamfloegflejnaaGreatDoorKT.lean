/-
  graph's Show: the text of a right pipeline.
-/
import Derived.Test.YtamfloegflejnaaGreatDoorKS
set_option linter.unusedVariables false
set_option linter.unusedSimpArgs false
namespace Go.Proofs.YtamfloegflejnaaGreatDoor
open Go.RowKit Go.Proofs.YtamfloegflejnaaGreatDoorW.PrintWords Go.Proofs.YtamfloegflejnaaGreatDoorW.PrintLast Go.Proofs.YtamfloegflejnaaGreatDoorW.PrintMore PGraphLines

/-- A pipeline's text. -/
def textT : List S63 → List UInt8
  | [] => []
  | x :: r => lineT x ++ textT r
theorem textT_append (a b : List S63) : textT (a ++ b) = textT a ++ textT b := by
  induction a with
  | nil => rfl
  | cons x r ih => simp [textT, ih, List.append_assoc]
theorem textT_take (ns : List S63) (k : Nat) (h : k < ns.length) : textT (ns.take (k + 1)) = textT (ns.take k) ++ lineT ns[k] := by
  rw [List.take_succ_eq_append_getElem h, textT_append]
  simp [textT]
theorem textT_len (ns : List S63) (h : ∀ x ∈ ns, Fit x) : (textT ns).length ≤ ns.length * 7000008 := by
  induction ns with
  | nil => simp [textT]
  | cons x r ih =>
    have h1 := join_parts_le x (h x (by simp))
    have h2 := ih (fun y hy => h y (by simp [hy]))
    simp only [textT, List.length_append, List.length_cons, Nat.add_mul]
    omega
theorem textT_le (ns : List S63) (h : ∀ x ∈ ns, Fit x) (h32 : ns.length ≤ 32) : (textT ns).length ≤ 1000000000 := by
  have h1 := textT_len ns h
  have h2 := Nat.mul_le_mul_right 7000008 h32
  omega
theorem build_below {w w' : World} {B b : Nat} {bs : List Value} (h : Lib.IsBuilder 82 5 B b bs w) (hb : Below w.heap.size w w') : Lib.IsBuilder 82 5 B b bs w' := by
  have key : ∀ p, Lib.BuilderAt 82 5 B b p bs w → Lib.BuilderAt 82 5 B b p bs w' := by
    rintro p ⟨hB, v, hbk, hown, hne⟩
    exact ⟨hB, v, (hb.block _ (blk_lt hbk)).trans hbk, pw_own_below hown hb, hne⟩
  exact h.imp (key _) (key _)
theorem getD_at (ns : List S63) (k : Nat) (h : k < ns.length) : rd_T63 ns (k : Int) = ns[k] := by simp [rd_T63, List.getD, List.getElem?_eq_getElem h]

set_option maxHeartbeats 1000000 in
set_option maxRecDepth 100000 in
theorem graph_show_bad (A : Option Addr) (c : Nat) (ns : List S63) (w : World) (hc : ns.length ≤ c) (hC : k63.C w A ns.length ns) (hTm : Tame ns) (hv : (checkV ns).2 ≠ 0) :
    Calls Tryz.prog 11 #[.agg #[.slice A ns.length c]] w fun e w' => e = .returned (.tuple #[.string ⟨#[]⟩, .int .i64 (checkV ns).2]) ∧ Below w.heap.size w w' := by
  have hb0 := below_alloc (Below.refl w.heap.size w) (.cells #[.slice A ns.length c] 29)
  have HC := Lib.hid (Kd.C_below hC hb0)
  have HP := Lib.hid (heap_alloc_new w (.cells #[.slice A ns.length c] 29))
  have HB0 := Lib.hid hb0; have HTm := Lib.hid hTm
  have t0 : ((checkV ns).2 != 0) = true := by rw [bne_iff_ne]; exact hv
  clear hC hb0 hTm hv
  go_enter Tryz.func11, Tryz.ntmps11
  go_wp2_with fail
  refine (graph_check A c ns _ hc HC.out HTm.out).mono ?_
  rintro e w1 ⟨rfl, hb1⟩
  have HB1 := Lib.hid (HB0.out.trans (hb1.mono HB0.out.size))
  clear hb1
  obtain ⟨v2, hv2⟩ : ∃ v2, v2 = (checkV ns).2 := ⟨_, rfl⟩
  obtain ⟨v1, hv1⟩ : ∃ v1, v1 = (checkV ns).1 := ⟨_, rfl⟩
  rw [← hv2] at t0 ⊢
  rw [← hv1]
  have HV2 := Lib.hid hv2
  clear hv1 hv2
  go_wp2_with fail
  exact bodyPost_ret (v := .tuple #[.string ⟨#[]⟩, .int .i64 v2]) (by simp [results, Tryz.results11, go_sem]) rfl ⟨by rw [HV2.out], HB1.out⟩

set_option maxHeartbeats 1000000 in
set_option maxRecDepth 100000 in
theorem graph_show_ok (A : Option Addr) (c : Nat) (ns : List S63) (w : World) (hE : Env w) (hc : ns.length ≤ c) (hC : k63.C w A ns.length ns) (hTm : Tame ns) (hv : checkV ns = (0, 0)) (h1 : 1 ≤ ns.length) (h32 : ns.length ≤ 32) (hF : ∀ x ∈ ns, Fit x) :
    Calls Tryz.prog 11 #[.agg #[.slice A ns.length c]] w fun e w' => e = .returned (.tuple #[.string ⟨(textT ns).toArray⟩, .int .i64 0]) ∧ Below w.heap.size w w' := by
  have hb0 := below_alloc (Below.refl w.heap.size w) (.cells #[.slice A ns.length c] 29)
  have HC0 := Lib.hid hC
  have HC := Lib.hid (Kd.C_below hC hb0)
  have HP := Lib.hid (heap_alloc_new w (.cells #[.slice A ns.length c] 29))
  have HE := Lib.hid hE
  have HB0 := Lib.hid hb0; have HTm := Lib.hid hTm; have HF := Lib.hid hF; have HV := Lib.hid hv
  have HN := Lib.hid (textT_len ns hF)
  clear hC hb0 hTm hv hF hE
  go_enter Tryz.func11, Tryz.ntmps11
  go_wp2_with fail
  refine (graph_check A c ns _ hc HC.out HTm.out).mono ?_
  rintro e w1 ⟨rfl, hb1⟩
  rw [HV.out]
  have HB1 := Lib.hid (HB0.out.trans (hb1.mono HB0.out.size))
  have HP1 := Lib.hid ((hb1.block _ (blk_lt HP.out)).trans HP.out)
  have m0 : w1.cell? ⟨w.heap.size, 0, none⟩ = some (.slice A ns.length c) := (blk_cell HP1.out 0).trans rfl
  have hz := blk_lt HP1.out
  clear hb1
  go_wp2_with fail
  have HI : Hid (Lib.IsBuilder 82 5 w.heap.size w1.heap.size (Lib.byteCells []) (w1.alloc (.cells #[.pointer none, .slice none 0 0] 82))) :=
    .inl ⟨HB1.out.size, .slice none 0 0, heap_alloc_new w1 _, World.ownsRow_nil _ _ _ _, by simp [Value.ownBlock]⟩
  have HB2 := Lib.hid (below_alloc HB1.out (.cells #[.pointer none, .slice none 0 0] 82))
  clear m0 hz
  generalize w1.alloc (.cells #[.pointer none, .slice none 0 0] 82) = w2 at HI HB2 ⊢
  generalize w1.heap.size = b at HI ⊢
  go_loopg [20] ns.length (fun n i wr => ∃ k : Nat, n + k = ns.length ∧ i = .int .i64 k ∧ Aside0 (Lib.IsBuilder 82 5 w.heap.size b (Lib.byteCells (textT (ns.take k))) wr) ∧ Aside0 (Below w.heap.size w wr))
  case atStart => exact ⟨0, by omega, rfl, ⟨HI.out⟩, ⟨HB2.out⟩⟩
  case round =>
    obtain ⟨k, hk, rfl, ⟨hI⟩, ⟨hB⟩⟩ := hrel
    have HIk := Lib.hid hI; have HBk := Lib.hid hB
    clear hI hB
    by_cases hlt : k < ns.length
    · obtain ⟨m, rfl⟩ : ∃ m, gk = m + 1 := ⟨gk - 1, by omega⟩
      obtain ⟨ad, A1, c1, A2, c2, A5, c5, rfl, g0, g1, g2, g3, g4, g5, g6, g7, g8, g9, g10, g11, g12, g13, hc1, k1, hc2, k2, hc5, k5⟩ := at_T63 (Kd.C_below HC0.out HBk.out) (k : Int) (by omega) (by omega)
      rw [Int.toNat_natCast] at g0 g1 g2 g3 g4 g5 g6 g7 g8 g9 g10 g11 g12 g13
      have HTT := Lib.hid (textT_take ns k hlt)
      have hfx := HF.out ns[k] (List.getElem_mem hlt)
      have hgd := getD_at ns k hlt
      have hlen := textT_le (ns.take k) (fun x hx => HF.out x (List.mem_of_mem_take hx)) (by rw [List.length_take]; omega)
      rw [← hgd] at hfx
      rw [← hgd] at HTT
      have hll := join_parts_le _ hfx
      clear hgd
      generalize rd_T63 ns (k : Int) = x at *
      have HFX := Lib.hid hfx; have HLL := Lib.hid hll; have HLN := Lib.hid hlen
      have K1 := Lib.hid k1; have K2 := Lib.hid k2; have K5 := Lib.hid k5
      clear hfx hll hlen k1 k2 k5
      go_wp2_with fail
      have HNX := Lib.hid (heap_alloc_new wr (.cells #[.int .i64 x.f0, .slice A1 x.f1.length c1, .slice A2 x.f2.length c2, .string x.f3, .int .i64 x.f4.f0, .slice A5 x.f4.f1.length c5, .int .i64 x.f5.f0, .int .i64 x.f5.f1, .int .i64 x.f5.f2, .int .i64 x.f5.f3, .int .i64 x.f6.f0, .int .i64 x.f6.f1, .int .i64 x.f6.f2, .bool x.f6.f3] 63))
      have hba := below_alloc (Below.refl wr.heap.size wr) (.cells #[.int .i64 x.f0, .slice A1 x.f1.length c1, .slice A2 x.f2.length c2, .string x.f3, .int .i64 x.f4.f0, .slice A5 x.f4.f1.length c5, .int .i64 x.f5.f0, .int .i64 x.f5.f1, .int .i64 x.f5.f2, .int .i64 x.f5.f3, .int .i64 x.f6.f0, .int .i64 x.f6.f1, .int .i64 x.f6.f2, .bool x.f6.f3] 63)
      have HBA := Lib.hid (HBk.out.trans (hba.mono HBk.out.size))
      have K1a := Lib.hid (Kd.C_below K1.out hba); have K2a := Lib.hid (Kd.C_below K2.out hba); have K5a := Lib.hid (Kd.C_below K5.out hba)
      have HIA := Lib.hid (build_below HIk.out hba)
      clear hba K1 K2 K5 g0 g1 g2 g3 g4 g5 g6 g7 g8 g9 g10 g11 g12 g13
      generalize wr.heap.size = N at HNX ⊢
      generalize wr.alloc (.cells #[.int .i64 x.f0, .slice A1 x.f1.length c1, .slice A2 x.f2.length c2, .string x.f3, .int .i64 x.f4.f0, .slice A5 x.f4.f1.length c5, .int .i64 x.f5.f0, .int .i64 x.f5.f1, .int .i64 x.f5.f2, .int .i64 x.f5.f3, .int .i64 x.f6.f0, .int .i64 x.f6.f1, .int .i64 x.f6.f2, .bool x.f6.f3] 63) = V at *
      refine (line_show x A1 A2 A5 c1 c2 c5 V (HE.out.later HBA.out) HFX.out hc1 K1a.out hc2 K2a.out hc5 K5a.out).mono ?_
      rintro e V1 ⟨rfl, hb2⟩
      have HB3 := Lib.hid (HBA.out.trans (hb2.mono HBA.out.size))
      have HI3 := Lib.hid (build_below HIA.out hb2)
      clear hb2
      go_wp2_with fail
      refine (b_string w b (textT (ns.take k)) ⟨(lineT x).toArray⟩ V1 HI3.out HB3.out ?_).mono ?_
      · have h1 := HLL.out
        have h2 := HLN.out
        show _ + (lineT x).length ≤ _
        omega
      rintro e V2 ⟨rfl, s2⟩
      have HS2 := Lib.hid s2
      clear s2
      go_wp2_with fail
      go_roundg m
      case measure => omega
      case rel => exact ⟨k + 1, by omega, by go_num, ⟨by rw [HTT.out]; exact HS2.out.1⟩, ⟨HS2.out.2.1⟩⟩
    · obtain rfl : k = ns.length := by omega
      have hI := HIk.out
      rw [List.take_length] at hI
      have HIE := Lib.hid hI
      have hne : textT ns ≠ [] := by
        intro he
        cases ns with
        | nil => exact absurd h1 (by simp)
        | cons x r =>
          have := congrArg List.length he
          simp [textT, lineT] at this
      have HNE := Lib.hid hne
      clear hI hne
      go_wp2_with fail
      refine (Tryz.Builder_String w.heap.size b (textT ns) wr HIE.out HNE.out).mono ?_
      rintro e w4 ⟨rfl, hb4⟩
      have HB4 := Lib.hid (HBk.out.trans hb4)
      clear hb4
      go_wp2_with fail
      exact bodyPost_ret (v := .tuple #[.string ⟨(textT ns).toArray⟩, .int .i64 0]) (by simp [results, Tryz.results11, go_sem]) rfl ⟨rfl, HB4.out⟩

end Go.Proofs.YtamfloegflejnaaGreatDoor
