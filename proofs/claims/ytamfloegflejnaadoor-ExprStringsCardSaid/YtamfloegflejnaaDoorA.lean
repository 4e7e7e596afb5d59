/-
  The law's fixed answer: add( it, 1) is read and told as add(it,1), and add(1) has its fault at 5.
-/
import Derived.Test.YtamfloegflejnaaDoorS5
import Derived.Test.YtamfloegflejnaaDoorN
set_option linter.unusedVariables false
set_option linter.unusedSimpArgs false
namespace Go.Proofs.YtamfloegflejnaaDoor
open Go.RowKit Go.Proofs.YtamfloegflejnaaDoorW.PrintWords Go.Proofs.YtamfloegflejnaaDoorW.PrintLast Go.Proofs.YtamfloegflejnaaDoorW.PrintMore PExprNumbers

def S1 : ByteArray := ⟨#[97, 100, 100, 40, 32, 105, 116, 44, 32, 49, 41]⟩
def S2 : ByteArray := ⟨#[97, 100, 100, 40, 49, 41]⟩

theorem s1_bl0 : expr_scanner_blanks.f 20 S1 0 false = some (S1, 0, false) := by decide +kernel
theorem s1_run : expr_scanner_run.f 20 S1 0 false = some (⟨#[97, 100, 100]⟩, S1, 3, false) := by decide +kernel
theorem s1_sg1 : expr_scanner_sign.f 20 S1 3 false 40 = some (S1, 4, false) := by decide +kernel
theorem s1_bl4 : expr_scanner_blanks.f 20 S1 4 false = some (S1, 5, false) := by decide +kernel
theorem s1_run5 : expr_scanner_run.f 20 S1 5 false = some (⟨#[105, 116]⟩, S1, 7, false) := by decide +kernel
theorem s1_sg7 : expr_scanner_sign.f 20 S1 7 false 44 = some (S1, 8, false) := by decide +kernel
theorem s1_bl8 : expr_scanner_blanks.f 20 S1 8 false = some (S1, 9, false) := by decide +kernel
theorem s1_sg10 : expr_scanner_sign.f 20 S1 10 false 41 = some (S1, 11, false) := by decide +kernel
theorem s1_bl11 : expr_scanner_blanks.f 20 S1 11 false = some (S1, (S1.size : Int), false) := by decide +kernel
theorem s1_p0 : pk S1 0 = 97 := by decide +kernel
theorem s1_p5 : pk S1 5 = 105 := by decide +kernel
theorem s1_p9 : pk S1 9 = 49 := by decide +kernel
theorem s1_p10 : pk S1 10 = 41 := by decide +kernel
theorem s2_bl0 : expr_scanner_blanks.f 20 S2 0 false = some (S2, 0, false) := by decide +kernel
theorem s2_run : expr_scanner_run.f 20 S2 0 false = some (⟨#[97, 100, 100]⟩, S2, 3, false) := by decide +kernel
theorem s2_sg1 : expr_scanner_sign.f 20 S2 3 false 40 = some (S2, 4, false) := by decide +kernel
theorem s2_bl4 : expr_scanner_blanks.f 20 S2 4 false = some (S2, 4, false) := by decide +kernel
theorem s2_sg5 : expr_scanner_sign.f 20 S2 5 false 44 = some (S2, 5, true) := by decide +kernel
theorem s2_sg5b : expr_scanner_sign.f 20 S2 5 true 41 = some (S2, 5, true) := by decide +kernel
theorem s2_p0 : pk S2 0 = 97 := by decide +kernel
theorem s2_p4 : pk S2 4 = 49 := by decide +kernel
theorem s2_p5 : pk S2 5 = 41 := by decide +kernel
theorem sh_add : expr_shape.f 20 ⟨#[97, 100, 100]⟩ = some (⟨#[101, 101]⟩, true) := by decide +kernel
theorem sh_it : expr_shape.f 20 ⟨#[105, 116]⟩ = some (⟨#[]⟩, true) := by decide +kernel
theorem sh_int : expr_shape.f 20 ⟨#[105, 110, 116]⟩ = some (⟨#[]⟩, false) := by decide +kernel

theorem numat_one (s : ByteArray) (a : Nat) (h : pk s (a : Int) = 49) (h2 : pk s ((a + 1 : Nat) : Int) = 41) : NumAt s a [1] where
  pos := Nat.le_refl _
  digit := fun i hi => by
    obtain rfl : i = 0 := by simp at hi; omega
    exact ⟨by simpa using h, by simp⟩
  head := fun h => absurd h (by decide)
  stop := by left; show pk s ((a + 1 : Nat) : Int) < 48; rw [h2]; decide

/-- The scanner's expr at a lone 1. -/
theorem one_any (s : ByteArray) (g a0 a : Nat) (depth : Int) (w0 w : World) (hs : s.size ≤ 140737488351232) (ha : a + 1 ≤ s.size) (hbl : expr_scanner_blanks.f 20 s (a0 : Int) false = some (s, (a : Int), false)) (h : pk s (a : Int) = 49) (h2 : pk s ((a + 1 : Nat) : Int) = 41) (hI : IsS48 w0 w g s (a0 : Int) false) (hB : Below w0.heap.size w0 w) :
    Calls Tryd.prog 11 #[.pointer (some ⟨g, 0, none⟩), .int .i64 depth] w fun e w' => e = .returned (.agg #[.string ⟨#[105, 110, 116]⟩, .int .i64 1, .string ⟨#[]⟩, .int .i64 0, .slice none 0 0, .slice none 0 0]) ∧ After w0 w w' g s ((a + 1 : Nat) : Int) false :=
  expr_num 20 g s a0 a ((a + 1 : Nat) : Int) 49 depth 1 0 0 0 0 0 ⟨#[105, 110, 116]⟩ ⟨#[]⟩ false w0 w hI hB hbl (by omega) h rfl (.inr ⟨rfl, by decide, by decide⟩) fun w1 hI1 hB1 =>
    number_pos g s a [1] w0 w1 hI1 hB1 (numat_one s a h h2) (by show dval [1] ≤ _; decide) hs ha

theorem does1 (w : World) : ExprDoes w S1 11 false ⟨#[97, 100, 100]⟩ 0 ⟨#[]⟩ 2 ([.string ⟨#[105, 116]⟩, .int .i64 0, .string ⟨#[]⟩, .int .i64 0, .slice none 0 0, .slice none 0 0] ++ [.string ⟨#[105, 110, 116]⟩, .int .i64 1, .string ⟨#[]⟩, .int .i64 0, .slice none 0 0, .slice none 0 0]) := fun W g hI hB =>
  expr_add 20 g S1 0 0 3 11 false 2 _ w W hI hB s1_bl0 (by decide) s1_p0 s1_run sh_add fun w1 hI1 hB1 =>
    call_ok 20 g S1 3 4 7 8 10 11 0 1 ⟨#[105, 116]⟩ ⟨#[]⟩ ⟨#[105, 110, 116]⟩ ⟨#[]⟩ w w1 hI1 hB1 s1_sg1
      (fun W hI hB => expr_it 20 g S1 4 5 7 23 w W hI hB s1_bl4 (by decide) s1_p5 s1_run5 sh_it) s1_sg7
      (fun W hI hB => one_any S1 g 8 9 23 w W (by decide) (by decide) s1_bl8 s1_p9 s1_p10 hI hB) s1_sg10

theorem does2 (w : World) : ExprDoes w S2 5 true ⟨#[97, 100, 100]⟩ 0 ⟨#[]⟩ 1 [.string ⟨#[105, 110, 116]⟩, .int .i64 1, .string ⟨#[]⟩, .int .i64 0, .slice none 0 0, .slice none 0 0] := fun W g hI hB =>
  expr_add 20 g S2 0 0 3 5 true 1 _ w W hI hB s2_bl0 (by decide) s2_p0 s2_run sh_add fun w1 hI1 hB1 =>
    call_bad 20 g S2 3 4 5 5 1 ⟨#[105, 110, 116]⟩ ⟨#[]⟩ w w1 hI1 hB1 s2_sg1
      (fun W hI hB => one_any S2 g 4 4 23 w W (by decide) (by decide) s2_bl4 s2_p4 s2_p5 hI hB) s2_sg5 s2_sg5b

theorem parse1 (w : World) : Calls Tryd.prog 6 #[.string S1] w fun e w' => ∃ A c, e = .returned (.tuple #[.agg #[.string ⟨#[97, 100, 100]⟩, .int .i64 0, .string ⟨#[]⟩, .int .i64 0, .slice none 0 0, .slice A 2 c], .int .i64 0, .int .i64 0]) ∧ Below w.heap.size w w' ∧ w'.ownsRow w.heap.size 30 6 (.slice A 2 c) 2 ([.string ⟨#[105, 116]⟩, .int .i64 0, .string ⟨#[]⟩, .int .i64 0, .slice none 0 0, .slice none 0 0] ++ [.string ⟨#[105, 110, 116]⟩, .int .i64 1, .string ⟨#[]⟩, .int .i64 0, .slice none 0 0, .slice none 0 0]) :=
  parse_ok 20 S1 11 _ _ _ _ _ w (by decide) (by decide) (does1 w) s1_bl11
theorem parse2 (w : World) : Calls Tryd.prog 6 #[.string S2] w fun e w' => e = .returned (.tuple #[.agg #[.string ⟨#[]⟩, .int .i64 0, .string ⟨#[]⟩, .int .i64 0, .slice none 0 0, .slice none 0 0], .int .i64 5, .int .i64 40]) ∧ Below w.heap.size w w' :=
  parse_bad S2 5 _ _ _ _ _ w (by decide) (by decide) (does2 w)

theorem itoa1 : Lib.itoa 1 = [49] := by
  have := Lib.itoa_nonneg 1; rw [show ((1 : Nat) : Int) = 1 from rfl] at this; rw [this, Lib.decDigits_one (by decide)]; rfl

/-- The text of add(it,1). -/
def T1 : List UInt8 := [97, 100, 100, 40, 105, 116, 44, 49, 41]

theorem show1 (G c : Nat) (w : World) (hG : G < w.heap.size) (h0 : w.cell? ⟨G, 0, none⟩ = some (.string ⟨#[105, 116]⟩)) (h1 : w.cell? ⟨G, 1, none⟩ = some (.int .i64 0)) (h2 : w.cell? ⟨G, 2, none⟩ = some (.string ⟨#[]⟩)) (h3 : w.cell? ⟨G, 3, none⟩ = some (.int .i64 0)) (h4 : w.cell? ⟨G, 4, none⟩ = some (.slice none 0 0)) (h5 : w.cell? ⟨G, 5, none⟩ = some (.slice none 0 0)) (h6 : w.cell? ⟨G, 6, none⟩ = some (.string ⟨#[105, 110, 116]⟩)) (h7 : w.cell? ⟨G, 7, none⟩ = some (.int .i64 1)) (h8 : w.cell? ⟨G, 8, none⟩ = some (.string ⟨#[]⟩)) (h9 : w.cell? ⟨G, 9, none⟩ = some (.int .i64 0)) (h10 : w.cell? ⟨G, 10, none⟩ = some (.slice none 0 0)) (h11 : w.cell? ⟨G, 11, none⟩ = some (.slice none 0 0)) :
    Calls Tryd.prog 5 #[.agg #[.string ⟨#[97, 100, 100]⟩, .int .i64 0, .string ⟨#[]⟩, .int .i64 0, .slice none 0 0, .slice (some ⟨G, 0, none⟩) 2 c]] w fun e w' => e = .returned (.tuple #[.string ⟨T1.toArray⟩, .int .i64 0]) ∧ Below w.heap.size w w' := by
  refine show_ok _ _ _ _ _ _ T1 w (by decide) (by decide) ?_
  intro W b hW hBW hsz
  have hc : ∀ j v, w.cell? ⟨G, j, none⟩ = some v → W.cell? ⟨G, j, none⟩ = some v := fun j v h => (hBW.cell (p := ⟨G, j, none⟩) hG).trans h
  refine node_add 20 w.heap.size b [] (Lib.byteCells T1) 24 (some ⟨G, 0, none⟩) 2 c W hW (by decide) hsz rfl sh_add ?_
  intro V hV hBV hszV
  have hcV : ∀ j v, w.cell? ⟨G, j, none⟩ = some v → V.cell? ⟨G, j, none⟩ = some v := fun j v h => (hBV.cell (p := ⟨G, j, none⟩) hG).trans (hc j v h)
  exact wcall_add w.heap.size b G c [] (Lib.byteCells [105, 116]) (Lib.byteCells [49]) 0 1 _ _ _ _ V hV (by decide) hszV hG (hcV _ _ h0) (hcV _ _ h1) (hcV _ _ h2) (hcV _ _ h3) (hcV _ _ h4) (hcV _ _ h5) (hcV _ _ h6) (hcV _ _ h7) (hcV _ _ h8) (hcV _ _ h9) (hcV _ _ h10) (hcV _ _ h11)
    (fun X hX hBX hszX => node_it 20 w.heap.size b _ _ 23 X hX (by decide) hszX rfl sh_it fun Y hY hBY hszY => wcall_it w.heap.size b _ 23 Y hY (by decide) hszY)
    (fun X hX hBX hszX => itoa1 ▸ node_int 20 w.heap.size b _ 1 23 (fun _ => True) X hX (by decide) hszX rfl sh_int itoa_one (by rw [itoa1]; exact Lib.hid (by decide)) (fun _ _ => trivial))
set_option maxHeartbeats 1000000 in
set_option maxRecDepth 100000 in
theorem awake_any (w : World) : Calls Tryd.prog 7 #[] w fun e w' => e = .returned (.bool true) ∧ Below w.heap.size w w' := by
  go_enter Tryd.func7, Tryd.ntmps7
  go_wp2_with fail
  refine (parse1 _).mono ?_
  rintro e w1 ⟨A, c, rfl, hb, hO⟩
  obtain ⟨G, cap, hv, hG0, hG1⟩ := hO.form (by decide)
  simp only [Value.slice.injEq] at hv
  obtain ⟨rfl, _, rfl⟩ := hv
  have hcell : Hid (∀ j u, ([.string ⟨#[105, 116]⟩, .int .i64 0, .string ⟨#[]⟩, .int .i64 0, .slice none 0 0, .slice none 0 0] ++ [.string ⟨#[105, 110, 116]⟩, .int .i64 1, .string ⟨#[]⟩, .int .i64 0, .slice none 0 0, .slice none 0 0] : List Value)[j]? = some u → w1.cell? ⟨G, j, none⟩ = some u) := by
    intro j u hu
    have := hO.cells (g := G) rfl j u hu
    have hadd : (⟨G, 0, none⟩ : Addr).add j = ⟨G, j, none⟩ := by unfold Addr.add; split <;> simp_all
    rwa [hadd] at this
  have HB := Lib.hid hb
  have HG := Lib.hid hG1
  clear hb hO hG0 hG1
  go_wp2_with fail
  have hcA : ∀ j u, (([.string ⟨#[105, 116]⟩, .int .i64 0, .string ⟨#[]⟩, .int .i64 0, .slice none 0 0, .slice none 0 0] ++ [.string ⟨#[105, 110, 116]⟩, .int .i64 1, .string ⟨#[]⟩, .int .i64 0, .slice none 0 0, .slice none 0 0] : List Value)[j]? = some u) → (w1.alloc (.cells #[.string ⟨#[97, 100, 100]⟩, .int .i64 0, .string ⟨#[]⟩, .int .i64 0, .slice none 0 0, .slice (some ⟨G, 0, none⟩) 2 c] 30)).cell? ⟨G, j, none⟩ = some u := fun j u hu => Lib.cell?_alloc_some _ (hcell.out j u hu)
  refine (show1 G c _ (by simpa using Nat.lt_succ_of_lt HG.out) (hcA 0 _ rfl) (hcA 1 _ rfl) (hcA 2 _ rfl) (hcA 3 _ rfl) (hcA 4 _ rfl) (hcA 5 _ rfl) (hcA 6 _ rfl) (hcA 7 _ rfl) (hcA 8 _ rfl) (hcA 9 _ rfl) (hcA 10 _ rfl) (hcA 11 _ rfl)).mono ?_
  clear hcA
  rintro e w2 ⟨rfl, hb2⟩
  have HB2 := Lib.hid hb2
  clear hb2
  go_wp2_with fail
  refine (parse2 _).mono ?_
  rintro e w3 ⟨rfl, hb3⟩
  have HB3 := Lib.hid hb3
  clear hb3
  go_wp2_with fail
  refine bodyPost_ret (v := .bool true) (by simp [results, Tryd.results7, go_sem]) rfl ⟨rfl, ?_⟩
  have hn := HB.out.size
  have h2 := HB2.out.size
  rw [World.size_alloc] at h2
  exact (((HB.out.alloc hn _).trans (HB2.out.mono (by rw [World.size_alloc]; omega))).trans (HB3.out.mono (by omega))).alloc (by have := HB3.out.size; omega) _

end Go.Proofs.YtamfloegflejnaaDoor
