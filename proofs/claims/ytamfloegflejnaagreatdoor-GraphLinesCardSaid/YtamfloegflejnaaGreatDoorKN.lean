/-
  graph's reader of a line: a number as a part; one place.
-/
import Derived.Test.YtamfloegflejnaaGreatDoorKM
set_option linter.unusedVariables false
set_option linter.unusedSimpArgs false
namespace Go.Proofs.YtamfloegflejnaaGreatDoor
open Go.RowKit Go.Proofs.YtamfloegflejnaaGreatDoorW.PrintWords Go.Proofs.YtamfloegflejnaaGreatDoorW.PrintLast Go.Proofs.YtamfloegflejnaaGreatDoorW.PrintMore PGraphLines

theorem cut_size (s : ByteArray) : (⟨(cutS s).1.toArray⟩ : ByteArray).size ≤ s.size ∧ (⟨(cutS s).2.1.toArray⟩ : ByteArray).size ≤ s.size := by
  have hl : s.data.toList.length = s.size := by simp
  unfold cutS Lib.cut
  split
  · constructor
    · show (List.take _ _).length ≤ _; rw [List.length_take]; omega
    · show (List.drop _ _).length ≤ _; rw [List.length_drop]; omega
  · constructor
    · show s.data.toList.length ≤ _; omega
    · show ([] : List UInt8).length ≤ _; simp

set_option maxHeartbeats 1000000 in
set_option maxRecDepth 100000 in
theorem num_last (w0 w : World) (g : Nat) (rest : ByteArray) (bad : Bool) (hE : Env w0) (h : RdAt w0 w g rest bad) (hs : rest.size ≤ 1000000) :
    Calls Tryz.prog 41 #[.pointer (some ⟨g, 0, none⟩), .bool true] w fun e w' => e = .returned (.int .i64 ((numV rest 7).getD 0)) ∧ RdStep w0 w w' g rest (bad || (numV rest 7).isNone) := by
  have H := Lib.hid h
  clear h
  go_enter Tryz.func41, Tryz.ntmps41
  go_wp2_with fail
  refine (part_last w0 w g rest bad H.out).mono ?_
  rintro e w1 ⟨rfl, rfl⟩
  have S1 := Lib.hid (RdStep.refl H.out)
  go_wp2_with fail
  refine (rd_number w0 w1 g _ rest _ 7 hE S1.out.1 (by omega)).mono ?_
  rintro e w2 ⟨rfl, s2⟩
  have S2 := Lib.hid (S1.out.trans s2)
  clear s2 S1
  go_wp2_with fail
  exact bodyPost_ret (v := .int .i64 ((numV rest 7).getD 0)) (by simp [results, Tryz.results41, go_sem]) rfl ⟨rfl, S2.out⟩

set_option maxHeartbeats 1000000 in
set_option maxRecDepth 100000 in
theorem num_cut (w0 w : World) (g : Nat) (rest : ByteArray) (bad : Bool) (hE : Env w0) (h : RdAt w0 w g rest bad) (hs : rest.size ≤ 1000000) :
    Calls Tryz.prog 41 #[.pointer (some ⟨g, 0, none⟩), .bool false] w fun e w' => e = .returned (.int .i64 ((numV ⟨(cutS rest).1.toArray⟩ 7).getD 0)) ∧ RdStep w0 w w' g ⟨(cutS rest).2.1.toArray⟩ ((bad || !(cutS rest).2.2) || (numV ⟨(cutS rest).1.toArray⟩ 7).isNone) := by
  have H := Lib.hid h
  clear h
  go_enter Tryz.func41, Tryz.ntmps41
  go_wp2_with fail
  refine (part_cut w0 w g rest bad hE H.out (by omega)).mono ?_
  rintro e w1 ⟨rfl, s1⟩
  have S1 := Lib.hid s1
  clear s1
  go_wp2_with fail
  refine (rd_number w0 w1 g _ ⟨(cutS rest).1.toArray⟩ _ 7 hE S1.out.1 (by have := (cut_size rest).1; omega)).mono ?_
  rintro e w2 ⟨rfl, s2⟩
  have S2 := Lib.hid (S1.out.trans s2)
  clear s2 S1
  go_wp2_with fail
  exact bodyPost_ret (v := .int .i64 ((numV ⟨(cutS rest).1.toArray⟩ 7).getD 0)) (by simp [results, Tryz.results41, go_sem]) rfl ⟨rfl, S2.out⟩

set_option maxHeartbeats 1000000 in
set_option maxRecDepth 100000 in
theorem one_last (w0 w : World) (g : Nat) (rest : ByteArray) (bad : Bool) (hE : Env w0) (h : RdAt w0 w g rest bad) (hs : rest.size ≤ 1000000) :
    Calls Tryz.prog 38 #[.pointer (some ⟨g, 0, none⟩), .bool true] w fun e w' => (∃ N, e = .returned (.slice (some ⟨N, 0, none⟩) 1 1) ∧ w'.heap[N]? = some (.cells #[.int .i64 ((numV rest 3).getD 0)] 3 (0, 0)) ∧ w.heap.size ≤ N) ∧ RdStep w0 w w' g rest (bad || (numV rest 3).isNone) := by
  have H := Lib.hid h
  clear h
  go_enter Tryz.func38, Tryz.ntmps38
  go_wp2_with fail
  refine (part_last w0 w g rest bad H.out).mono ?_
  rintro e w1 ⟨rfl, rfl⟩
  have S1 := Lib.hid (RdStep.refl H.out)
  go_wp2_with fail
  refine (rd_number w0 w1 g _ rest _ 3 hE S1.out.1 (by omega)).mono ?_
  rintro e w2 ⟨rfl, s2⟩
  have S2 := Lib.hid (S1.out.trans s2)
  clear s2 S1
  go_wp2_with fail
  refine bodyPost_ret (v := .slice (some ⟨w2.heap.size, 0, none⟩) 1 1) (by simp [results, Tryz.results38, go_sem]) rfl ⟨⟨w2.heap.size, rfl, by simpa using heap_alloc_new w2 _, S2.out.2.1⟩, S2.out.trans (S2.out.1.of_below (Below.alloc (Below.refl _ _) (Nat.le_refl _) _))⟩

set_option maxHeartbeats 1000000 in
set_option maxRecDepth 100000 in
theorem one_cut (w0 w : World) (g : Nat) (rest : ByteArray) (bad : Bool) (hE : Env w0) (h : RdAt w0 w g rest bad) (hs : rest.size ≤ 1000000) :
    Calls Tryz.prog 38 #[.pointer (some ⟨g, 0, none⟩), .bool false] w fun e w' => (∃ N, e = .returned (.slice (some ⟨N, 0, none⟩) 1 1) ∧ w'.heap[N]? = some (.cells #[.int .i64 ((numV ⟨(cutS rest).1.toArray⟩ 3).getD 0)] 3 (0, 0)) ∧ w.heap.size ≤ N) ∧ RdStep w0 w w' g ⟨(cutS rest).2.1.toArray⟩ ((bad || !(cutS rest).2.2) || (numV ⟨(cutS rest).1.toArray⟩ 3).isNone) := by
  have H := Lib.hid h
  clear h
  go_enter Tryz.func38, Tryz.ntmps38
  go_wp2_with fail
  refine (part_cut w0 w g rest bad hE H.out (by omega)).mono ?_
  rintro e w1 ⟨rfl, s1⟩
  have S1 := Lib.hid s1
  clear s1
  go_wp2_with fail
  refine (rd_number w0 w1 g _ ⟨(cutS rest).1.toArray⟩ _ 3 hE S1.out.1 (by have := (cut_size rest).1; omega)).mono ?_
  rintro e w2 ⟨rfl, s2⟩
  have S2 := Lib.hid (S1.out.trans s2)
  clear s2 S1
  go_wp2_with fail
  refine bodyPost_ret (v := .slice (some ⟨w2.heap.size, 0, none⟩) 1 1) (by simp [results, Tryz.results38, go_sem]) rfl ⟨⟨w2.heap.size, rfl, by simpa using heap_alloc_new w2 _, S2.out.2.1⟩, S2.out.trans (S2.out.1.of_below (Below.alloc (Below.refl _ _) (Nat.le_refl _) _))⟩


end Go.Proofs.YtamfloegflejnaaGreatDoor
