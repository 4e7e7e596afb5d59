/-
 Taken over from the print: Line.
-/
import Derived.Test.YtamfloegflejnaaGreatDoorH1
import Derived.Test.YtamfloegflejnaaGreatDoorR5
set_option linter.unusedVariables false
set_option linter.unusedSimpArgs false
set_option maxHeartbeats 8000000
set_option maxRecDepth 100000
namespace Go.Proofs.YtamfloegflejnaaGreatDoor
open Go.RowKit Go.Proofs.YtamfloegflejnaaGreatDoorW.PrintWords Go.Proofs.YtamfloegflejnaaGreatDoorW.PrintLast Go.Proofs.YtamfloegflejnaaGreatDoorW.PrintMore PGraphLines
attribute [local go_sem] max2_int min2_int max_two min_two max_three min_three max_four min_four
/-! ### r11_Line: function 20 -/
def r11_Line.j0 : Nat -> ByteArray -> Int -> List Int -> List Int -> ByteArray -> Int -> List (S37) -> Int -> Int -> Int -> Int -> Int -> Int -> Int -> Bool -> Option (ByteArray)
 | 0, _, _, _, _, _, _, _, _, _, _, _, _, _, _, _ => none
 | k + 1, x3, x225000, x225001, x225002, x225003, x225004, x225005, x225006, x225007, x225008, x225009, x225010, x225011, x225012, x225013 => (r11_commas.f k x225001).bind fun t233 => (if 6 + t233.size <= 9223372036854775807 then (if ((⟨#[103, 114, 111, 117, 112, 32]⟩ : ByteArray) ++ t233).size + 1 <= 9223372036854775807 then ((r11_Digits.f k x225010).bind fun t234 => (if (((⟨#[103, 114, 111, 117, 112, 32]⟩ : ByteArray) ++ t233) ++ (⟨#[32]⟩ : ByteArray)).size + t234.size <= 9223372036854775807 then (if ((((⟨#[103, 114, 111, 117, 112, 32]⟩ : ByteArray) ++ t233) ++ (⟨#[32]⟩ : ByteArray)) ++ t234).size + 1 <= 9223372036854775807 then ((r11_Digits.f k x225011).bind fun t235 => (if (((((⟨#[103, 114, 111, 117, 112, 32]⟩ : ByteArray) ++ t233) ++ (⟨#[32]⟩ : ByteArray)) ++ t234) ++ (⟨#[32]⟩ : ByteArray)).size + t235.size <= 9223372036854775807 then (if ((((((⟨#[103, 114, 111, 117, 112, 32]⟩ : ByteArray) ++ t233) ++ (⟨#[32]⟩ : ByteArray)) ++ t234) ++ (⟨#[32]⟩ : ByteArray)) ++ t235).size + 1 <= 9223372036854775807 then ((r11_Digits.f k x225012).bind fun t236 => (if (((((((⟨#[103, 114, 111, 117, 112, 32]⟩ : ByteArray) ++ t233) ++ (⟨#[32]⟩ : ByteArray)) ++ t234) ++ (⟨#[32]⟩ : ByteArray)) ++ t235) ++ (⟨#[32]⟩ : ByteArray)).size + t236.size <= 9223372036854775807 then (if ((((((((⟨#[103, 114, 111, 117, 112, 32]⟩ : ByteArray) ++ t233) ++ (⟨#[32]⟩ : ByteArray)) ++ t234) ++ (⟨#[32]⟩ : ByteArray)) ++ t235) ++ (⟨#[32]⟩ : ByteArray)) ++ t236).size + x3.size <= 9223372036854775807 then (if (((((((((⟨#[103, 114, 111, 117, 112, 32]⟩ : ByteArray) ++ t233) ++ (⟨#[32]⟩ : ByteArray)) ++ t234) ++ (⟨#[32]⟩ : ByteArray)) ++ t235) ++ (⟨#[32]⟩ : ByteArray)) ++ t236) ++ x3).size + x225003.size <= 9223372036854775807 then (some ((((((((((⟨#[103, 114, 111, 117, 112, 32]⟩ : ByteArray) ++ t233) ++ (⟨#[32]⟩ : ByteArray)) ++ t234) ++ (⟨#[32]⟩ : ByteArray)) ++ t235) ++ (⟨#[32]⟩ : ByteArray)) ++ t236) ++ x3) ++ x225003)) else (none)) else (none)) else (none))) else (none)) else (none))) else (none)) else (none))) else (none)) else (none))
def r11_Line.f (k : Nat) (a0_0 : Int) (l0_1 : List Int) (l0_2 : List Int) (a0_3 : ByteArray) (a0_4 : Int) (l0_5 : List (S37)) (a0_6 : Int) (a0_7 : Int) (a0_8 : Int) (a0_9 : Int) (a0_10 : Int) (a0_11 : Int) (a0_12 : Int) (a0_13 : Bool) : Option (ByteArray) := if a0_0 = 1 then ((r02_Show.f k a0_4 l0_5).bind fun t225 => (if 7 + t225.size <= 9223372036854775807 then (some ((⟨#[115, 111, 117, 114, 99, 101, 32]⟩ : ByteArray) ++ t225)) else (none))) else (if a0_0 = 2 then ((r11_commas.f k l0_1).bind fun t226 => (if 5 + t226.size <= 9223372036854775807 then (if ((⟨#[101, 97, 99, 104, 32]⟩ : ByteArray) ++ t226).size + 1 <= 9223372036854775807 then ((r11_commas.f k l0_2).bind fun t227 => (if (((⟨#[101, 97, 99, 104, 32]⟩ : ByteArray) ++ t226) ++ (⟨#[32]⟩ : ByteArray)).size + t227.size <= 9223372036854775807 then (if ((((⟨#[101, 97, 99, 104, 32]⟩ : ByteArray) ++ t226) ++ (⟨#[32]⟩ : ByteArray)) ++ t227).size + 1 <= 9223372036854775807 then (if (((((⟨#[101, 97, 99, 104, 32]⟩ : ByteArray) ++ t226) ++ (⟨#[32]⟩ : ByteArray)) ++ t227) ++ (⟨#[32]⟩ : ByteArray)).size + a0_3.size <= 9223372036854775807 then (some ((((((⟨#[101, 97, 99, 104, 32]⟩ : ByteArray) ++ t226) ++ (⟨#[32]⟩ : ByteArray)) ++ t227) ++ (⟨#[32]⟩ : ByteArray)) ++ a0_3)) else (none)) else (none)) else (none))) else (none)) else (none))) else (if a0_0 = 3 then ((r11_commas.f k l0_1).bind fun t228 => (if 7 + t228.size <= 9223372036854775807 then (if ((⟨#[119, 105, 110, 100, 111, 119, 32]⟩ : ByteArray) ++ t228).size + 1 <= 9223372036854775807 then ((r11_Digits.f k a0_6).bind fun t229 => (if (((⟨#[119, 105, 110, 100, 111, 119, 32]⟩ : ByteArray) ++ t228) ++ (⟨#[32]⟩ : ByteArray)).size + t229.size <= 9223372036854775807 then (if ((((⟨#[119, 105, 110, 100, 111, 119, 32]⟩ : ByteArray) ++ t228) ++ (⟨#[32]⟩ : ByteArray)) ++ t229).size + 1 <= 9223372036854775807 then ((r11_Digits.f k a0_7).bind fun t230 => (if (((((⟨#[119, 105, 110, 100, 111, 119, 32]⟩ : ByteArray) ++ t228) ++ (⟨#[32]⟩ : ByteArray)) ++ t229) ++ (⟨#[32]⟩ : ByteArray)).size + t230.size <= 9223372036854775807 then (if ((((((⟨#[119, 105, 110, 100, 111, 119, 32]⟩ : ByteArray) ++ t228) ++ (⟨#[32]⟩ : ByteArray)) ++ t229) ++ (⟨#[32]⟩ : ByteArray)) ++ t230).size + 1 <= 9223372036854775807 then ((r11_Digits.f k a0_8).bind fun t231 => (if (((((((⟨#[119, 105, 110, 100, 111, 119, 32]⟩ : ByteArray) ++ t228) ++ (⟨#[32]⟩ : ByteArray)) ++ t229) ++ (⟨#[32]⟩ : ByteArray)) ++ t230) ++ (⟨#[32]⟩ : ByteArray)).size + t231.size <= 9223372036854775807 then (if ((((((((⟨#[119, 105, 110, 100, 111, 119, 32]⟩ : ByteArray) ++ t228) ++ (⟨#[32]⟩ : ByteArray)) ++ t229) ++ (⟨#[32]⟩ : ByteArray)) ++ t230) ++ (⟨#[32]⟩ : ByteArray)) ++ t231).size + 1 <= 9223372036854775807 then ((r11_Digits.f k a0_9).bind fun t232 => (if (((((((((⟨#[119, 105, 110, 100, 111, 119, 32]⟩ : ByteArray) ++ t228) ++ (⟨#[32]⟩ : ByteArray)) ++ t229) ++ (⟨#[32]⟩ : ByteArray)) ++ t230) ++ (⟨#[32]⟩ : ByteArray)) ++ t231) ++ (⟨#[32]⟩ : ByteArray)).size + t232.size <= 9223372036854775807 then (some ((((((((((⟨#[119, 105, 110, 100, 111, 119, 32]⟩ : ByteArray) ++ t228) ++ (⟨#[32]⟩ : ByteArray)) ++ t229) ++ (⟨#[32]⟩ : ByteArray)) ++ t230) ++ (⟨#[32]⟩ : ByteArray)) ++ t231) ++ (⟨#[32]⟩ : ByteArray)) ++ t232)) else (none))) else (none)) else (none))) else (none)) else (none))) else (none)) else (none))) else (none)) else (none))) else (if a0_0 = 4 then (if a0_13 = true then (r11_Line.j0 k (⟨#[32, 97, 99, 99, 32]⟩ : ByteArray) a0_0 l0_1 l0_2 a0_3 a0_4 l0_5 a0_6 a0_7 a0_8 a0_9 a0_10 a0_11 a0_12 a0_13) else (r11_Line.j0 k (⟨#[32, 100, 105, 115, 32]⟩ : ByteArray) a0_0 l0_1 l0_2 a0_3 a0_4 l0_5 a0_6 a0_7 a0_8 a0_9 a0_10 a0_11 a0_12 a0_13)) else (if a0_0 = 5 then ((r11_commas.f k l0_1).bind fun t237 => (if 8 + t237.size <= 9223372036854775807 then (some ((⟨#[102, 108, 97, 116, 116, 101, 110, 32]⟩ : ByteArray) ++ t237)) else (none))) else ((r11_commas.f k l0_1).bind fun t238 => (if 5 + t238.size <= 9223372036854775807 then (some ((⟨#[115, 105, 110, 107, 32]⟩ : ByteArray) ++ t238)) else (none)))))))
def r11_Line.T5 : Bool × List (List Nat × List Nat) := (true, [([], []), ([0], [0]), ([1], [1]), ([2], [2]), ([3], [3]), ([], []), ([5], [5]), ([6, 2], [6]), ([4, 7], [4, 7]), ([8], [8]), ([], []), ([10], [10]), ([9, 11], [9, 11]), ([12, 7, 0, 1, 2, 3, 4, 5, 6, 7, 8, 9, 10, 11, 12], [12])])
def r11_Line.B5 : List Nat := [0, 1, 3, 7, 15, 0, 32, 103, 255, 511, 0, 1024, 4095, 8191]
theorem r11_Line.tab5 : rtab .any (opsOf Tryz.f20 5) = r11_Line.T5 := by kernel_rfl
theorem r11_Line.bits5 : waitsOk r11_Line.T5.2 r11_Line.B5 = true := by kernel_rfl
def r11_Line.T7 : Bool × List (List Nat × List Nat) := (true, [([], []), ([0], [0]), ([1], [1]), ([2], [2]), ([3], [3]), ([], []), ([5], [5]), ([6], [6]), ([7, 2], [7]), ([4, 8], [4, 8]), ([9], [9]), ([], []), ([11], [11]), ([12], [12]), ([13, 8], [13]), ([10, 14], [10, 14]), ([15], [15]), ([], []), ([17], [17]), ([18], [18]), ([19, 14], [19]), ([16, 20], [16, 20]), ([21], [21]), ([], []), ([23], [23]), ([24], [24]), ([25, 20], [25]), ([22, 26], [22, 26]), ([27, 26, 0, 1, 2, 3, 4, 5, 6, 7, 8, 9, 10, 11, 12, 13, 14, 15, 16, 17, 18, 19, 20, 21, 22, 23, 24, 25, 26, 27], [27])])
def r11_Line.B7 : List Nat := [0, 1, 3, 7, 15, 0, 32, 96, 231, 511, 1023, 0, 2048, 6144, 14823, 32767, 65535, 0, 131072, 393216, 948711, 2097151, 4194303, 0, 8388608, 25165824, 60717543, 134217727, 268435455]
theorem r11_Line.tab7 : rtab .any (opsOf Tryz.f20 7) = r11_Line.T7 := by kernel_rfl
theorem r11_Line.bits7 : waitsOk r11_Line.T7.2 r11_Line.B7 = true := by kernel_rfl
def r11_Line.T12 : Bool × List (List Nat × List Nat) := (true, [([], []), ([0], [0]), ([1], [1]), ([2], [2]), ([3], [3]), ([], []), ([5], [5]), ([6], [6]), ([7, 2], [7]), ([4, 8], [4, 8]), ([9], [9]), ([], []), ([11], [11]), ([12], [12]), ([13, 8], [13]), ([10, 14], [10, 14]), ([15], [15]), ([], []), ([17], [17]), ([18], [18]), ([19, 14], [19]), ([16, 20], [16, 20]), ([], []), ([21, 22], [21, 22]), ([], []), ([24], [24]), ([23, 25], [23, 25]), ([26, 20, 0, 1, 2, 3, 4, 5, 6, 7, 8, 9, 10, 11, 12, 13, 14, 15, 16, 17, 18, 19, 20, 21, 22, 23, 24, 25, 26], [26])])
def r11_Line.B12 : List Nat := [0, 1, 3, 7, 15, 0, 32, 96, 231, 511, 1023, 0, 2048, 6144, 14823, 32767, 65535, 0, 131072, 393216, 948711, 2097151, 0, 8388607, 0, 16777216, 67108863, 134217727]
theorem r11_Line.tab12 : rtab .any (opsOf Tryz.f20 12) = r11_Line.T12 := by kernel_rfl
theorem r11_Line.bits12 : waitsOk r11_Line.T12.2 r11_Line.B12 = true := by kernel_rfl
theorem r11_Line.calls (k : Nat) (a0_0 : Int) (A0_1 : Option Addr) (c0_1 : Nat) (l0_1 : List Int) (A0_2 : Option Addr) (c0_2 : Nat) (l0_2 : List Int) (a0_3 : ByteArray) (a0_4 : Int) (A0_5 : Option Addr) (c0_5 : Nat) (l0_5 : List (S37)) (a0_6 : Int) (a0_7 : Int) (a0_8 : Int) (a0_9 : Int) (a0_10 : Int) (a0_11 : Int) (a0_12 : Int) (a0_13 : Bool) (r : ByteArray) (w : World) (hr0_1 : Kd.C (Kd.int .i64) w A0_1 l0_1.length l0_1) (hc0_1 : l0_1.length <= c0_1) (hr0_2 : Kd.C (Kd.int .i64) w A0_2 l0_2.length l0_2) (hc0_2 : l0_2.length <= c0_2) (hr0_5 : Kd.C k37 w A0_5 l0_5.length l0_5) (hc0_5 : l0_5.length <= c0_5) (h : r11_Line.f k a0_0 l0_1 l0_2 a0_3 a0_4 l0_5 a0_6 a0_7 a0_8 a0_9 a0_10 a0_11 a0_12 a0_13 = some r) :
  Calls Tryz.prog 20 #[.agg #[.int .i64 a0_0, .slice A0_1 l0_1.length c0_1, .slice A0_2 l0_2.length c0_2, .string a0_3, .int .i64 a0_4, .slice A0_5 l0_5.length c0_5, .int .i64 a0_6, .int .i64 a0_7, .int .i64 a0_8, .int .i64 a0_9, .int .i64 a0_10, .int .i64 a0_11, .int .i64 a0_12, .bool a0_13]] w fun e w' => e = .returned (.string r) ∧ Below w.heap.size w w' := by
 have hu43 := Tryz.underlying43
 have hu37 := Tryz.underlying37
 have HR0_1 := Aside0.mk hr0_1
 have HC0_1 := Aside0.mk hc0_1
 clear hr0_1 hc0_1
 have HR0_2 := Aside0.mk hr0_2
 have HC0_2 := Aside0.mk hc0_2
 clear hr0_2 hc0_2
 have HR0_5 := Aside0.mk hr0_5
 have HC0_5 := Aside0.mk hc0_5
 clear hr0_5 hc0_5
 have HB := Aside0.mk (Below.refl w.heap.size w)
 have H : (if a0_0 = 1 then ((r02_Show.f k a0_4 l0_5).bind fun t225 => (if 7 + t225.size <= 9223372036854775807 then (some ((⟨#[115, 111, 117, 114, 99, 101, 32]⟩ : ByteArray) ++ t225)) else (none))) else (if a0_0 = 2 then ((r11_commas.f k l0_1).bind fun t226 => (if 5 + t226.size <= 9223372036854775807 then (if ((⟨#[101, 97, 99, 104, 32]⟩ : ByteArray) ++ t226).size + 1 <= 9223372036854775807 then ((r11_commas.f k l0_2).bind fun t227 => (if (((⟨#[101, 97, 99, 104, 32]⟩ : ByteArray) ++ t226) ++ (⟨#[32]⟩ : ByteArray)).size + t227.size <= 9223372036854775807 then (if ((((⟨#[101, 97, 99, 104, 32]⟩ : ByteArray) ++ t226) ++ (⟨#[32]⟩ : ByteArray)) ++ t227).size + 1 <= 9223372036854775807 then (if (((((⟨#[101, 97, 99, 104, 32]⟩ : ByteArray) ++ t226) ++ (⟨#[32]⟩ : ByteArray)) ++ t227) ++ (⟨#[32]⟩ : ByteArray)).size + a0_3.size <= 9223372036854775807 then (some ((((((⟨#[101, 97, 99, 104, 32]⟩ : ByteArray) ++ t226) ++ (⟨#[32]⟩ : ByteArray)) ++ t227) ++ (⟨#[32]⟩ : ByteArray)) ++ a0_3)) else (none)) else (none)) else (none))) else (none)) else (none))) else (if a0_0 = 3 then ((r11_commas.f k l0_1).bind fun t228 => (if 7 + t228.size <= 9223372036854775807 then (if ((⟨#[119, 105, 110, 100, 111, 119, 32]⟩ : ByteArray) ++ t228).size + 1 <= 9223372036854775807 then ((r11_Digits.f k a0_6).bind fun t229 => (if (((⟨#[119, 105, 110, 100, 111, 119, 32]⟩ : ByteArray) ++ t228) ++ (⟨#[32]⟩ : ByteArray)).size + t229.size <= 9223372036854775807 then (if ((((⟨#[119, 105, 110, 100, 111, 119, 32]⟩ : ByteArray) ++ t228) ++ (⟨#[32]⟩ : ByteArray)) ++ t229).size + 1 <= 9223372036854775807 then ((r11_Digits.f k a0_7).bind fun t230 => (if (((((⟨#[119, 105, 110, 100, 111, 119, 32]⟩ : ByteArray) ++ t228) ++ (⟨#[32]⟩ : ByteArray)) ++ t229) ++ (⟨#[32]⟩ : ByteArray)).size + t230.size <= 9223372036854775807 then (if ((((((⟨#[119, 105, 110, 100, 111, 119, 32]⟩ : ByteArray) ++ t228) ++ (⟨#[32]⟩ : ByteArray)) ++ t229) ++ (⟨#[32]⟩ : ByteArray)) ++ t230).size + 1 <= 9223372036854775807 then ((r11_Digits.f k a0_8).bind fun t231 => (if (((((((⟨#[119, 105, 110, 100, 111, 119, 32]⟩ : ByteArray) ++ t228) ++ (⟨#[32]⟩ : ByteArray)) ++ t229) ++ (⟨#[32]⟩ : ByteArray)) ++ t230) ++ (⟨#[32]⟩ : ByteArray)).size + t231.size <= 9223372036854775807 then (if ((((((((⟨#[119, 105, 110, 100, 111, 119, 32]⟩ : ByteArray) ++ t228) ++ (⟨#[32]⟩ : ByteArray)) ++ t229) ++ (⟨#[32]⟩ : ByteArray)) ++ t230) ++ (⟨#[32]⟩ : ByteArray)) ++ t231).size + 1 <= 9223372036854775807 then ((r11_Digits.f k a0_9).bind fun t232 => (if (((((((((⟨#[119, 105, 110, 100, 111, 119, 32]⟩ : ByteArray) ++ t228) ++ (⟨#[32]⟩ : ByteArray)) ++ t229) ++ (⟨#[32]⟩ : ByteArray)) ++ t230) ++ (⟨#[32]⟩ : ByteArray)) ++ t231) ++ (⟨#[32]⟩ : ByteArray)).size + t232.size <= 9223372036854775807 then (some ((((((((((⟨#[119, 105, 110, 100, 111, 119, 32]⟩ : ByteArray) ++ t228) ++ (⟨#[32]⟩ : ByteArray)) ++ t229) ++ (⟨#[32]⟩ : ByteArray)) ++ t230) ++ (⟨#[32]⟩ : ByteArray)) ++ t231) ++ (⟨#[32]⟩ : ByteArray)) ++ t232)) else (none))) else (none)) else (none))) else (none)) else (none))) else (none)) else (none))) else (none)) else (none))) else (if a0_0 = 4 then (if a0_13 = true then (r11_Line.j0 k (⟨#[32, 97, 99, 99, 32]⟩ : ByteArray) a0_0 l0_1 l0_2 a0_3 a0_4 l0_5 a0_6 a0_7 a0_8 a0_9 a0_10 a0_11 a0_12 a0_13) else (r11_Line.j0 k (⟨#[32, 100, 105, 115, 32]⟩ : ByteArray) a0_0 l0_1 l0_2 a0_3 a0_4 l0_5 a0_6 a0_7 a0_8 a0_9 a0_10 a0_11 a0_12 a0_13)) else (if a0_0 = 5 then ((r11_commas.f k l0_1).bind fun t237 => (if 8 + t237.size <= 9223372036854775807 then (some ((⟨#[102, 108, 97, 116, 116, 101, 110, 32]⟩ : ByteArray) ++ t237)) else (none))) else ((r11_commas.f k l0_1).bind fun t238 => (if 5 + t238.size <= 9223372036854775807 then (some ((⟨#[115, 105, 110, 107, 32]⟩ : ByteArray) ++ t238)) else (none)))))))) = some r := h
 clear h
 by_cases c2 : a0_0 = 1
 ·rw [if_pos c2] at H
  obtain ⟨c2b0, c2b1⟩ := eqB c2
  clear c2
  replace H := Option.bind_eq_some_iff.mp H
  obtain ⟨t225, A30, H⟩ := H
  have A3 := Aside0.mk A30
  clear A30
  by_cases c4 : 7 + t225.size <= 9223372036854775807
  ·rw [if_pos c4] at H
   obtain ⟨c4b0, c4b1, c4b2⟩ := leT c4
   obtain rfl := Option.some.inj H
   go_enter Tryz.func20, Tryz.ntmps20
   go_wp2_with (first | ((with_reducible refine gate_dst (N := 1) rfl ?_); refine box_event ?hg (N := 1) ?hd (cs := #[.int .i64 a0_0, .slice A0_1 l0_1.length c0_1, .slice A0_2 l0_2.length c0_2, .string a0_3, .int .i64 a0_4, .slice A0_5 l0_5.length c0_5, .int .i64 a0_6, .int .i64 a0_7, .int .i64 a0_8, .int .i64 a0_9, .int .i64 a0_10, .int .i64 a0_11, .int .i64 a0_12, .bool a0_13]) (t := 43) ?hr ?_; (case hd => rfl); (case hg => rfl); (case hr => first | (go_simp; done) | (go_simp; rfl)); intro gb224 hg w5 hbox hb; have BK224 := Aside0.mk (hbox); have GW224 := Aside0.mk ((by rw [hg]; exact (below_size (by repeat (first | exact HB.out | apply below_alloc | apply pw_below_drewN | apply below_drew1))) : w.heap.size <= gb224)); have GE224 := GW224; replace HB := Aside0.mk (below_step (by repeat (first | exact HB.out | apply below_alloc | apply pw_below_drewN | apply below_drew1)) hb); clear hb hbox hg; obtain ⟨_, _, _, _, _, _, _, _, _, _, _, _, _, _⟩ := cl14 BK224.out; obtain ⟨_, _, _, _, _, _, _, _, _, _, _, _, _, _⟩ := fz14 BK224.out) | ((with_reducible refine gate_callee (f := 45) rfl ?_); refine goesL_ (some 10) rfl rfl Tryz.func45 (by kernel_rfl) rfl #[.agg #[.int .i64 a0_4, .slice A0_5 l0_5.length c0_5]] rfl (by (try simp only [List.map_toArray, List.map_cons, List.map_nil]); first | done | rfl | (simp only [List.length_drop, List.length_take]; rfl)) ?_; (with_reducible refine (r02_Show.calls k a0_4 _ _ l0_5 t225 _ ?side1 ?side2 A3.out).mono ?_); (case side1 => repeat (first | exact (Kd.C_below HR0_5.out HB.out) | (with_reducible refine Kd.C_alloc ?_ _) | (with_reducible refine Kd.C_drewN ?_ _) | (with_reducible refine Kd.C_drew ?_))); (case side2 => exact HC0_5.out); rintro e w7 ⟨rfl, hb⟩; refine ⟨_, rfl, ?_⟩; replace BK224 := Aside0.mk (blk_below (g := gb224) (o := .cells #[.int .i64 a0_0, .slice A0_1 l0_1.length c0_1, .slice A0_2 l0_2.length c0_2, .string a0_3, .int .i64 a0_4, .slice A0_5 l0_5.length c0_5, .int .i64 a0_6, .int .i64 a0_7, .int .i64 a0_8, .int .i64 a0_9, .int .i64 a0_10, .int .i64 a0_11, .int .i64 a0_12, .bool a0_13] 43 (0, 0)) (by (with_reducible repeat (first | refine blk_drewN ?_ _ | refine blk_drew ?_ | refine blk_alloc ?_ _)); exact BK224.out) hb); replace HB := Aside0.mk (below_step (by repeat (first | (with_reducible first | exact HB.out | apply below_alloc | apply pw_below_drewN | apply below_drew1 | refine below_set ?_ GE224.out) | exact HB.out)) hb); (try clear hb); (try clear hb2); (try clear hk); (try clear hi)))
   go_ret
   exact ⟨rfl, HB.out⟩
  ·rw [if_neg c4] at H
   exact absurd H (by simp)
 ·rw [if_neg c2] at H
  obtain ⟨c2b0, c2b1⟩ := neB c2
  by_cases c8 : a0_0 = 2
  ·rw [if_pos c8] at H
   obtain ⟨c8b0, c8b1⟩ := eqB c8
   clear c8
   replace H := Option.bind_eq_some_iff.mp H
   obtain ⟨t226, A90, H⟩ := H
   have A9 := Aside0.mk A90
   clear A90
   by_cases c10 : 5 + t226.size <= 9223372036854775807
   ·rw [if_pos c10] at H
    obtain ⟨c10b0, c10b1, c10b2⟩ := leT c10
    by_cases c11 : ((⟨#[101, 97, 99, 104, 32]⟩ : ByteArray) ++ t226).size + 1 <= 9223372036854775807
    ·rw [if_pos c11] at H
     obtain ⟨c11b0, c11b1, c11b2⟩ := leT c11
     have c11n : 5 + t226.size + 1 <= 9223372036854775807 := by have := c11; simp only [ByteArray.size_append] at this; exact this
     obtain ⟨c11n0, c11n1, c11n2⟩ := leT c11n
     replace H := Option.bind_eq_some_iff.mp H
     obtain ⟨t227, A120, H⟩ := H
     have A12 := Aside0.mk A120
     clear A120
     by_cases c13 : (((⟨#[101, 97, 99, 104, 32]⟩ : ByteArray) ++ t226) ++ (⟨#[32]⟩ : ByteArray)).size + t227.size <= 9223372036854775807
     ·rw [if_pos c13] at H
      obtain ⟨c13b0, c13b1, c13b2⟩ := leT c13
      have c13n : 5 + t226.size + 1 + t227.size <= 9223372036854775807 := by have := c13; simp only [ByteArray.size_append] at this; exact this
      obtain ⟨c13n0, c13n1, c13n2⟩ := leT c13n
      by_cases c14 : ((((⟨#[101, 97, 99, 104, 32]⟩ : ByteArray) ++ t226) ++ (⟨#[32]⟩ : ByteArray)) ++ t227).size + 1 <= 9223372036854775807
      ·rw [if_pos c14] at H
       obtain ⟨c14b0, c14b1, c14b2⟩ := leT c14
       have c14n : 5 + t226.size + 1 + t227.size + 1 <= 9223372036854775807 := by have := c14; simp only [ByteArray.size_append] at this; exact this
       obtain ⟨c14n0, c14n1, c14n2⟩ := leT c14n
       by_cases c15 : (((((⟨#[101, 97, 99, 104, 32]⟩ : ByteArray) ++ t226) ++ (⟨#[32]⟩ : ByteArray)) ++ t227) ++ (⟨#[32]⟩ : ByteArray)).size + a0_3.size <= 9223372036854775807
       ·rw [if_pos c15] at H
        obtain ⟨c15b0, c15b1, c15b2⟩ := leT c15
        have c15n : 5 + t226.size + 1 + t227.size + 1 + a0_3.size <= 9223372036854775807 := by have := c15; simp only [ByteArray.size_append] at this; exact this
        obtain ⟨c15n0, c15n1, c15n2⟩ := leT c15n
        obtain rfl := Option.some.inj H
        go_enter Tryz.func20, Tryz.ntmps20
        try go_wp2_with (first | ((with_reducible refine gate_dst (N := 1) rfl ?_); refine box_event ?hg (N := 1) ?hd (cs := #[.int .i64 a0_0, .slice A0_1 l0_1.length c0_1, .slice A0_2 l0_2.length c0_2, .string a0_3, .int .i64 a0_4, .slice A0_5 l0_5.length c0_5, .int .i64 a0_6, .int .i64 a0_7, .int .i64 a0_8, .int .i64 a0_9, .int .i64 a0_10, .int .i64 a0_11, .int .i64 a0_12, .bool a0_13]) (t := 43) ?hr ?_; (case hd => rfl); (case hg => rfl); (case hr => go_simp); intro gb224 hg w16 hbox hb; have BK224 := Aside0.mk (hbox); have GW224 := Aside0.mk ((by rw [hg]; exact (below_size HB.out) : w.heap.size <= gb224)); have GE224 := GW224; replace HB := Aside0.mk (below_step HB.out hb); clear hb hbox hg; obtain ⟨_, _, _, _, _, _, _, _, _, _, _, _, _, _⟩ := cl14 BK224.out; obtain ⟨_, _, _, _, _, _, _, _, _, _, _, _, _, _⟩ := fz14 BK224.out))
        replace BK224 := Aside0.mk (blk_drew BK224.out)
        replace HB := Aside0.mk (below_drew1 HB.out)
        refine start_ (n := 14) (S := fun w' => w'.cell? ⟨gb224, 0, none⟩ = some (.int .i64 a0_0) ∧ w'.cell? ⟨gb224, 1, none⟩ = some (.slice A0_1 l0_1.length c0_1) ∧ w'.cell? ⟨gb224, 2, none⟩ = some (.slice A0_2 l0_2.length c0_2) ∧ w'.cell? ⟨gb224, 3, none⟩ = some (.string a0_3) ∧ w'.cell? ⟨gb224, 4, none⟩ = some (.int .i64 a0_4) ∧ w'.cell? ⟨gb224, 5, none⟩ = some (.slice A0_5 l0_5.length c0_5) ∧ w'.cell? ⟨gb224, 6, none⟩ = some (.int .i64 a0_6) ∧ w'.cell? ⟨gb224, 7, none⟩ = some (.int .i64 a0_7) ∧ w'.cell? ⟨gb224, 8, none⟩ = some (.int .i64 a0_8) ∧ w'.cell? ⟨gb224, 9, none⟩ = some (.int .i64 a0_9) ∧ w'.cell? ⟨gb224, 10, none⟩ = some (.int .i64 a0_10) ∧ w'.cell? ⟨gb224, 11, none⟩ = some (.int .i64 a0_11) ∧ w'.cell? ⟨gb224, 12, none⟩ = some (.int .i64 a0_12) ∧ w'.cell? ⟨gb224, 13, none⟩ = some (.bool a0_13)) (ds := []) (bts 14 0) (by kernel_rfl) rfl rfl (cl14 BK224.out) (fun hHeld => ?_); refine with_tabW r11_Line.tab5 r11_Line.bits5 (fun HT_ HW_ => ?_)
        generalize w16.drew = w18 at BK224 HB hHeld ⊢
        refine pure_ (i := 0) (N := some 14) (bts 14 1) rfl rfl (any_of HT_.out (by kernel_rfl)) (fun _ _ _ h => h) (Or.inl ⟨by rfl, by intro w'; go_simp; with_reducible rfl⟩) (by simp only [Act.put, pq1, pq2, pq3, i64_w, i32_w]; rfl) ?_
        refine pure_ (i := 5) (N := some 19) (bts 14 33) rfl rfl (any_of HT_.out (by kernel_rfl)) (fun _ _ _ h => h) (Or.inl ⟨by rfl, by intro w'; go_simp; with_reducible rfl⟩) (by simp only [Act.put, pq1, pq2, pq3, i64_w, i32_w]; rfl) ?_
        refine pure_ (i := 10) (N := some 24) (bts 14 1057) rfl rfl (any_of HT_.out (by kernel_rfl)) (fun _ _ _ h => h) (Or.inl ⟨by rfl, by intro w'; go_simp; with_reducible rfl⟩) (by simp only [Act.put, pq1, pq2, pq3, i64_w, i32_w]; rfl) ?_
        refine take_ (i := 1) (N := some 15) (bts 14 1059) rfl rfl (take_ofW HT_.out HW_.out (by kernel_rfl)) (fun _ _ _ h => h) (Or.inl ⟨by rfl, by rintro w' ⟨s0, s1, s2, s3, s4, s5, s6, s7, s8, s9, s10, s11, s12, s13⟩; go_simp; with_reducible rfl⟩) hHeld (by simp only [Act.put, pq1, pq2, pq3, i64_w, i32_w]; rfl) ?_
        refine take_ (i := 6) (N := some 20) (bts 14 1123) rfl rfl (take_ofW HT_.out HW_.out (by kernel_rfl)) (fun _ _ _ h => h) (Or.inl ⟨by rfl, by rintro w' ⟨s0, s1, s2, s3, s4, s5, s6, s7, s8, s9, s10, s11, s12, s13⟩; go_simp; with_reducible rfl⟩) hHeld (by simp only [Act.put, pq1, pq2, pq3, i64_w, i32_w]; rfl) ?_
        refine take_ (i := 11) (N := some 25) (bts 14 3171) rfl rfl (take_ofW HT_.out HW_.out (by kernel_rfl)) (fun _ _ _ h => h) (Or.inl ⟨by rfl, by rintro w' ⟨s0, s1, s2, s3, s4, s5, s6, s7, s8, s9, s10, s11, s12, s13⟩; go_simp; with_reducible rfl⟩) hHeld (by simp only [Act.put, pq1, pq2, pq3, i64_w, i32_w]; rfl) ?_
        refine one_ (i := 2) (N := some 16) (bts 14 3175) rfl rfl (one_of HT_.out (by kernel_rfl)) (by decide) (fun K hK => ?_)
        refine goes_ Tryz.func46 (by kernel_rfl) rfl #[.slice A0_1 l0_1.length c0_1] (by rfl) rfl rfl (by (try simp only [List.map_toArray, List.map_cons, List.map_nil]); first | done | rfl | (simp only [List.length_drop, List.length_take]; rfl)) ?_
        with_reducible refine (r11_commas.calls k _ _ l0_1 t226 _ ?side1 ?side2 A9.out).mono ?_
        (case side1 => repeat (first | exact (Kd.C_below HR0_1.out HB.out) | (with_reducible refine Kd.C_alloc ?_ _) | (with_reducible refine Kd.C_drewN ?_ _) | (with_reducible refine Kd.C_drew ?_)))
        (case side2 => exact HC0_1.out)
        rintro e w19 ⟨rfl, hb⟩
        refine ⟨_, rfl, ?_⟩
        replace BK224 := Aside0.mk (blk_below (g := gb224) (by (with_reducible repeat (first | refine blk_drewN ?_ _ | refine blk_drew ?_ | refine blk_alloc ?_ _)); exact BK224.out) hb)
        replace HB := Aside0.mk (below_step HB.out hb)
        (try clear hb)
        (try clear hb2)
        (try clear hk)
        (try clear hi)
        refine hK.out _ _ (cl14 BK224.out) (fun hHeld => ?_)
        clear hK K
        refine norm_ (a' := ?_) ?_ ?_
        rotate_left
        ·show Act.put _ (some 16) _ = _
         simp only [Act.put, pq1, pq2, pq3, i64_w, i32_w]
         rfl
        refine pure_ (i := 3) (N := some 17) (bts 14 3183) rfl rfl (any_of HT_.out (by kernel_rfl)) (fun _ _ _ h => h) (Or.inl ⟨by rfl, by intro w'; go_simp; with_reducible rfl⟩) (by simp only [Act.put, pq1, pq2, pq3, i64_w, i32_w]; rfl) ?_
        refine pure_ (i := 4) (N := some 18) (bts 14 3199) rfl rfl (any_of HT_.out (by kernel_rfl)) (fun _ _ _ h => h) (Or.inl ⟨by rfl, by intro w'; go_simp; with_reducible rfl⟩) (by simp only [Act.put, pq1, pq2, pq3, i64_w, i32_w]; rfl) ?_
        refine one_ (i := 7) (N := some 21) (bts 14 3327) rfl rfl (one_of HT_.out (by kernel_rfl)) (by decide) (fun K hK => ?_)
        refine goes_ Tryz.func46 (by kernel_rfl) rfl #[.slice A0_2 l0_2.length c0_2] (by rfl) rfl rfl (by (try simp only [List.map_toArray, List.map_cons, List.map_nil]); first | done | rfl | (simp only [List.length_drop, List.length_take]; rfl)) ?_
        with_reducible refine (r11_commas.calls k _ _ l0_2 t227 _ ?side1 ?side2 A12.out).mono ?_
        (case side1 => repeat (first | exact (Kd.C_below HR0_2.out HB.out) | (with_reducible refine Kd.C_alloc ?_ _) | (with_reducible refine Kd.C_drewN ?_ _) | (with_reducible refine Kd.C_drew ?_)))
        (case side2 => exact HC0_2.out)
        rintro e w20 ⟨rfl, hb⟩
        refine ⟨_, rfl, ?_⟩
        replace BK224 := Aside0.mk (blk_below (g := gb224) (by (with_reducible repeat (first | refine blk_drewN ?_ _ | refine blk_drew ?_ | refine blk_alloc ?_ _)); exact BK224.out) hb)
        replace HB := Aside0.mk (below_step HB.out hb)
        (try clear hb)
        (try clear hb2)
        (try clear hk)
        (try clear hi)
        refine hK.out _ _ (cl14 BK224.out) (fun hHeld => ?_)
        clear hK K
        refine norm_ (a' := ?_) ?_ ?_
        rotate_left
        ·show Act.put _ (some 21) _ = _
         simp only [Act.put, pq1, pq2, pq3, i64_w, i32_w]
         rfl
        refine pure_ (i := 8) (N := some 22) (bts 14 3583) rfl rfl (any_of HT_.out (by kernel_rfl)) (fun _ _ _ h => h) (Or.inl ⟨by rfl, by intro w'; go_simp; with_reducible rfl⟩) (by simp only [Act.put, pq1, pq2, pq3, i64_w, i32_w]; rfl) ?_
        refine pure_ (i := 9) (N := some 23) (bts 14 4095) rfl rfl (any_of HT_.out (by kernel_rfl)) (fun _ _ _ h => h) (Or.inl ⟨by rfl, by intro w'; go_simp; with_reducible rfl⟩) (by simp only [Act.put, pq1, pq2, pq3, i64_w, i32_w]; rfl) ?_
        refine pure_ (i := 12) (N := some 26) (bts 14 8191) rfl rfl (any_of HT_.out (by kernel_rfl)) (fun _ _ _ h => h) (Or.inl ⟨by rfl, by intro w'; go_simp; with_reducible rfl⟩) (by simp only [Act.put, pq1, pq2, pq3, i64_w, i32_w]; rfl) ?_
        refine pure_ (i := 13) (N := some 2) (bts 14 16383) rfl rfl (any_of HT_.out (by kernel_rfl)) (fun _ _ _ h => h) (Or.inl ⟨by rfl, by intro w'; go_simp; with_reducible rfl⟩) (by simp only [Act.put, pq1, pq2, pq3, i64_w, i32_w]; rfl) ?_
        refine done_ (done_of HT_.out (by kernel_rfl)) ?_
        try go_wp2
        go_ret
        exact ⟨rfl, HB.out⟩
       ·rw [if_neg c15] at H
        exact absurd H (by simp)
      ·rw [if_neg c14] at H
       exact absurd H (by simp)
     ·rw [if_neg c13] at H
      exact absurd H (by simp)
    ·rw [if_neg c11] at H
     exact absurd H (by simp)
   ·rw [if_neg c10] at H
    exact absurd H (by simp)
  ·rw [if_neg c8] at H
   obtain ⟨c8b0, c8b1⟩ := neB c8
   by_cases c21 : a0_0 = 3
   ·rw [if_pos c21] at H
    obtain ⟨c21b0, c21b1⟩ := eqB c21
    clear c21
    replace H := Option.bind_eq_some_iff.mp H
    obtain ⟨t228, A220, H⟩ := H
    have A22 := Aside0.mk A220
    clear A220
    by_cases c23 : 7 + t228.size <= 9223372036854775807
    ·rw [if_pos c23] at H
     obtain ⟨c23b0, c23b1, c23b2⟩ := leT c23
     by_cases c24 : ((⟨#[119, 105, 110, 100, 111, 119, 32]⟩ : ByteArray) ++ t228).size + 1 <= 9223372036854775807
     ·rw [if_pos c24] at H
      obtain ⟨c24b0, c24b1, c24b2⟩ := leT c24
      have c24n : 7 + t228.size + 1 <= 9223372036854775807 := by have := c24; simp only [ByteArray.size_append] at this; exact this
      obtain ⟨c24n0, c24n1, c24n2⟩ := leT c24n
      replace H := Option.bind_eq_some_iff.mp H
      obtain ⟨t229, A250, H⟩ := H
      have A25 := Aside0.mk A250
      clear A250
      by_cases c26 : (((⟨#[119, 105, 110, 100, 111, 119, 32]⟩ : ByteArray) ++ t228) ++ (⟨#[32]⟩ : ByteArray)).size + t229.size <= 9223372036854775807
      ·rw [if_pos c26] at H
       obtain ⟨c26b0, c26b1, c26b2⟩ := leT c26
       have c26n : 7 + t228.size + 1 + t229.size <= 9223372036854775807 := by have := c26; simp only [ByteArray.size_append] at this; exact this
       obtain ⟨c26n0, c26n1, c26n2⟩ := leT c26n
       by_cases c27 : ((((⟨#[119, 105, 110, 100, 111, 119, 32]⟩ : ByteArray) ++ t228) ++ (⟨#[32]⟩ : ByteArray)) ++ t229).size + 1 <= 9223372036854775807
       ·rw [if_pos c27] at H
        obtain ⟨c27b0, c27b1, c27b2⟩ := leT c27
        have c27n : 7 + t228.size + 1 + t229.size + 1 <= 9223372036854775807 := by have := c27; simp only [ByteArray.size_append] at this; exact this
        obtain ⟨c27n0, c27n1, c27n2⟩ := leT c27n
        replace H := Option.bind_eq_some_iff.mp H
        obtain ⟨t230, A280, H⟩ := H
        have A28 := Aside0.mk A280
        clear A280
        by_cases c29 : (((((⟨#[119, 105, 110, 100, 111, 119, 32]⟩ : ByteArray) ++ t228) ++ (⟨#[32]⟩ : ByteArray)) ++ t229) ++ (⟨#[32]⟩ : ByteArray)).size + t230.size <= 9223372036854775807
        ·rw [if_pos c29] at H
         obtain ⟨c29b0, c29b1, c29b2⟩ := leT c29
         have c29n : 7 + t228.size + 1 + t229.size + 1 + t230.size <= 9223372036854775807 := by have := c29; simp only [ByteArray.size_append] at this; exact this
         obtain ⟨c29n0, c29n1, c29n2⟩ := leT c29n
         by_cases c30 : ((((((⟨#[119, 105, 110, 100, 111, 119, 32]⟩ : ByteArray) ++ t228) ++ (⟨#[32]⟩ : ByteArray)) ++ t229) ++ (⟨#[32]⟩ : ByteArray)) ++ t230).size + 1 <= 9223372036854775807
         ·rw [if_pos c30] at H
          obtain ⟨c30b0, c30b1, c30b2⟩ := leT c30
          have c30n : 7 + t228.size + 1 + t229.size + 1 + t230.size + 1 <= 9223372036854775807 := by have := c30; simp only [ByteArray.size_append] at this; exact this
          obtain ⟨c30n0, c30n1, c30n2⟩ := leT c30n
          replace H := Option.bind_eq_some_iff.mp H
          obtain ⟨t231, A310, H⟩ := H
          have A31 := Aside0.mk A310
          clear A310
          by_cases c32 : (((((((⟨#[119, 105, 110, 100, 111, 119, 32]⟩ : ByteArray) ++ t228) ++ (⟨#[32]⟩ : ByteArray)) ++ t229) ++ (⟨#[32]⟩ : ByteArray)) ++ t230) ++ (⟨#[32]⟩ : ByteArray)).size + t231.size <= 9223372036854775807
          ·rw [if_pos c32] at H
           obtain ⟨c32b0, c32b1, c32b2⟩ := leT c32
           have c32n : 7 + t228.size + 1 + t229.size + 1 + t230.size + 1 + t231.size <= 9223372036854775807 := by have := c32; simp only [ByteArray.size_append] at this; exact this
           obtain ⟨c32n0, c32n1, c32n2⟩ := leT c32n
           by_cases c33 : ((((((((⟨#[119, 105, 110, 100, 111, 119, 32]⟩ : ByteArray) ++ t228) ++ (⟨#[32]⟩ : ByteArray)) ++ t229) ++ (⟨#[32]⟩ : ByteArray)) ++ t230) ++ (⟨#[32]⟩ : ByteArray)) ++ t231).size + 1 <= 9223372036854775807
           ·rw [if_pos c33] at H
            obtain ⟨c33b0, c33b1, c33b2⟩ := leT c33
            have c33n : 7 + t228.size + 1 + t229.size + 1 + t230.size + 1 + t231.size + 1 <= 9223372036854775807 := by have := c33; simp only [ByteArray.size_append] at this; exact this
            obtain ⟨c33n0, c33n1, c33n2⟩ := leT c33n
            replace H := Option.bind_eq_some_iff.mp H
            obtain ⟨t232, A340, H⟩ := H
            have A34 := Aside0.mk A340
            clear A340
            by_cases c35 : (((((((((⟨#[119, 105, 110, 100, 111, 119, 32]⟩ : ByteArray) ++ t228) ++ (⟨#[32]⟩ : ByteArray)) ++ t229) ++ (⟨#[32]⟩ : ByteArray)) ++ t230) ++ (⟨#[32]⟩ : ByteArray)) ++ t231) ++ (⟨#[32]⟩ : ByteArray)).size + t232.size <= 9223372036854775807
            ·rw [if_pos c35] at H
             obtain ⟨c35b0, c35b1, c35b2⟩ := leT c35
             have c35n : 7 + t228.size + 1 + t229.size + 1 + t230.size + 1 + t231.size + 1 + t232.size <= 9223372036854775807 := by have := c35; simp only [ByteArray.size_append] at this; exact this
             obtain ⟨c35n0, c35n1, c35n2⟩ := leT c35n
             obtain rfl := Option.some.inj H
             go_enter Tryz.func20, Tryz.ntmps20
             try go_wp2_with (first | ((with_reducible refine gate_dst (N := 1) rfl ?_); refine box_event ?hg (N := 1) ?hd (cs := #[.int .i64 a0_0, .slice A0_1 l0_1.length c0_1, .slice A0_2 l0_2.length c0_2, .string a0_3, .int .i64 a0_4, .slice A0_5 l0_5.length c0_5, .int .i64 a0_6, .int .i64 a0_7, .int .i64 a0_8, .int .i64 a0_9, .int .i64 a0_10, .int .i64 a0_11, .int .i64 a0_12, .bool a0_13]) (t := 43) ?hr ?_; (case hd => rfl); (case hg => rfl); (case hr => go_simp); intro gb224 hg w36 hbox hb; have BK224 := Aside0.mk (hbox); have GW224 := Aside0.mk ((by rw [hg]; exact (below_size HB.out) : w.heap.size <= gb224)); have GE224 := GW224; replace HB := Aside0.mk (below_step HB.out hb); clear hb hbox hg; obtain ⟨_, _, _, _, _, _, _, _, _, _, _, _, _, _⟩ := cl14 BK224.out; obtain ⟨_, _, _, _, _, _, _, _, _, _, _, _, _, _⟩ := fz14 BK224.out))
             replace BK224 := Aside0.mk (blk_drew BK224.out)
             replace HB := Aside0.mk (below_drew1 HB.out)
             refine start_ (n := 29) (S := fun w' => w'.cell? ⟨gb224, 0, none⟩ = some (.int .i64 a0_0) ∧ w'.cell? ⟨gb224, 1, none⟩ = some (.slice A0_1 l0_1.length c0_1) ∧ w'.cell? ⟨gb224, 2, none⟩ = some (.slice A0_2 l0_2.length c0_2) ∧ w'.cell? ⟨gb224, 3, none⟩ = some (.string a0_3) ∧ w'.cell? ⟨gb224, 4, none⟩ = some (.int .i64 a0_4) ∧ w'.cell? ⟨gb224, 5, none⟩ = some (.slice A0_5 l0_5.length c0_5) ∧ w'.cell? ⟨gb224, 6, none⟩ = some (.int .i64 a0_6) ∧ w'.cell? ⟨gb224, 7, none⟩ = some (.int .i64 a0_7) ∧ w'.cell? ⟨gb224, 8, none⟩ = some (.int .i64 a0_8) ∧ w'.cell? ⟨gb224, 9, none⟩ = some (.int .i64 a0_9) ∧ w'.cell? ⟨gb224, 10, none⟩ = some (.int .i64 a0_10) ∧ w'.cell? ⟨gb224, 11, none⟩ = some (.int .i64 a0_11) ∧ w'.cell? ⟨gb224, 12, none⟩ = some (.int .i64 a0_12) ∧ w'.cell? ⟨gb224, 13, none⟩ = some (.bool a0_13)) (ds := []) (bts 29 0) (by kernel_rfl) rfl rfl (cl14 BK224.out) (fun hHeld => ?_); refine with_tabW r11_Line.tab7 r11_Line.bits7 (fun HT_ HW_ => ?_)
             generalize w36.drew = w38 at BK224 HB hHeld ⊢
             refine pure_ (i := 0) (N := some 29) (bts 29 1) rfl rfl (any_of HT_.out (by kernel_rfl)) (fun _ _ _ h => h) (Or.inl ⟨by rfl, by intro w'; go_simp; with_reducible rfl⟩) (by simp only [Act.put, pq1, pq2, pq3, i64_w, i32_w]; rfl) ?_
             refine pure_ (i := 5) (N := some 34) (bts 29 33) rfl rfl (any_of HT_.out (by kernel_rfl)) (fun _ _ _ h => h) (Or.inl ⟨by rfl, by intro w'; go_simp; with_reducible rfl⟩) (by simp only [Act.put, pq1, pq2, pq3, i64_w, i32_w]; rfl) ?_
             refine pure_ (i := 6) (N := some 35) (bts 29 97) rfl rfl (any_of HT_.out (by kernel_rfl)) (fun _ _ _ h => h) (Or.inl ⟨by rfl, by intro w'; go_simp; with_reducible rfl⟩) (by simp only [Act.put, pq1, pq2, pq3, i64_w, i32_w]; rfl) ?_
             refine pure_ (i := 11) (N := some 40) (bts 29 2145) rfl rfl (any_of HT_.out (by kernel_rfl)) (fun _ _ _ h => h) (Or.inl ⟨by rfl, by intro w'; go_simp; with_reducible rfl⟩) (by simp only [Act.put, pq1, pq2, pq3, i64_w, i32_w]; rfl) ?_
             refine pure_ (i := 12) (N := some 41) (bts 29 6241) rfl rfl (any_of HT_.out (by kernel_rfl)) (fun _ _ _ h => h) (Or.inl ⟨by rfl, by intro w'; go_simp; with_reducible rfl⟩) (by simp only [Act.put, pq1, pq2, pq3, i64_w, i32_w]; rfl) ?_
             refine pure_ (i := 17) (N := some 46) (bts 29 137313) rfl rfl (any_of HT_.out (by kernel_rfl)) (fun _ _ _ h => h) (Or.inl ⟨by rfl, by intro w'; go_simp; with_reducible rfl⟩) (by simp only [Act.put, pq1, pq2, pq3, i64_w, i32_w]; rfl) ?_
             refine pure_ (i := 18) (N := some 47) (bts 29 399457) rfl rfl (any_of HT_.out (by kernel_rfl)) (fun _ _ _ h => h) (Or.inl ⟨by rfl, by intro w'; go_simp; with_reducible rfl⟩) (by simp only [Act.put, pq1, pq2, pq3, i64_w, i32_w]; rfl) ?_
             refine pure_ (i := 23) (N := some 52) (bts 29 8788065) rfl rfl (any_of HT_.out (by kernel_rfl)) (fun _ _ _ h => h) (Or.inl ⟨by rfl, by intro w'; go_simp; with_reducible rfl⟩) (by simp only [Act.put, pq1, pq2, pq3, i64_w, i32_w]; rfl) ?_
             refine pure_ (i := 24) (N := some 53) (bts 29 25565281) rfl rfl (any_of HT_.out (by kernel_rfl)) (fun _ _ _ h => h) (Or.inl ⟨by rfl, by intro w'; go_simp; with_reducible rfl⟩) (by simp only [Act.put, pq1, pq2, pq3, i64_w, i32_w]; rfl) ?_
             refine take_ (i := 1) (N := some 30) (bts 29 25565283) rfl rfl (take_ofW HT_.out HW_.out (by kernel_rfl)) (fun _ _ _ h => h) (Or.inl ⟨by rfl, by rintro w' ⟨s0, s1, s2, s3, s4, s5, s6, s7, s8, s9, s10, s11, s12, s13⟩; go_simp; with_reducible rfl⟩) hHeld (by simp only [Act.put, pq1, pq2, pq3, i64_w, i32_w]; rfl) ?_
             refine take_ (i := 7) (N := some 36) (bts 29 25565411) rfl rfl (take_ofW HT_.out HW_.out (by kernel_rfl)) (fun _ _ _ h => h) (Or.inl ⟨by rfl, by rintro w' ⟨s0, s1, s2, s3, s4, s5, s6, s7, s8, s9, s10, s11, s12, s13⟩; go_simp; with_reducible rfl⟩) hHeld (by simp only [Act.put, pq1, pq2, pq3, i64_w, i32_w]; rfl) ?_
             refine take_ (i := 13) (N := some 42) (bts 29 25573603) rfl rfl (take_ofW HT_.out HW_.out (by kernel_rfl)) (fun _ _ _ h => h) (Or.inl ⟨by rfl, by rintro w' ⟨s0, s1, s2, s3, s4, s5, s6, s7, s8, s9, s10, s11, s12, s13⟩; go_simp; with_reducible rfl⟩) hHeld (by simp only [Act.put, pq1, pq2, pq3, i64_w, i32_w]; rfl) ?_
             refine take_ (i := 19) (N := some 48) (bts 29 26097891) rfl rfl (take_ofW HT_.out HW_.out (by kernel_rfl)) (fun _ _ _ h => h) (Or.inl ⟨by rfl, by rintro w' ⟨s0, s1, s2, s3, s4, s5, s6, s7, s8, s9, s10, s11, s12, s13⟩; go_simp; with_reducible rfl⟩) hHeld (by simp only [Act.put, pq1, pq2, pq3, i64_w, i32_w]; rfl) ?_
             refine take_ (i := 25) (N := some 54) (bts 29 59652323) rfl rfl (take_ofW HT_.out HW_.out (by kernel_rfl)) (fun _ _ _ h => h) (Or.inl ⟨by rfl, by rintro w' ⟨s0, s1, s2, s3, s4, s5, s6, s7, s8, s9, s10, s11, s12, s13⟩; go_simp; with_reducible rfl⟩) hHeld (by simp only [Act.put, pq1, pq2, pq3, i64_w, i32_w]; rfl) ?_
             refine one_ (i := 2) (N := some 31) (bts 29 59652327) rfl rfl (one_of HT_.out (by kernel_rfl)) (by decide) (fun K hK => ?_)
             refine goes_ Tryz.func46 (by kernel_rfl) rfl #[.slice A0_1 l0_1.length c0_1] (by rfl) rfl rfl (by (try simp only [List.map_toArray, List.map_cons, List.map_nil]); first | done | rfl | (simp only [List.length_drop, List.length_take]; rfl)) ?_
             with_reducible refine (r11_commas.calls k _ _ l0_1 t228 _ ?side1 ?side2 A22.out).mono ?_
             (case side1 => repeat (first | exact (Kd.C_below HR0_1.out HB.out) | (with_reducible refine Kd.C_alloc ?_ _) | (with_reducible refine Kd.C_drewN ?_ _) | (with_reducible refine Kd.C_drew ?_)))
             (case side2 => exact HC0_1.out)
             rintro e w39 ⟨rfl, hb⟩
             refine ⟨_, rfl, ?_⟩
             replace BK224 := Aside0.mk (blk_below (g := gb224) (by (with_reducible repeat (first | refine blk_drewN ?_ _ | refine blk_drew ?_ | refine blk_alloc ?_ _)); exact BK224.out) hb)
             replace HB := Aside0.mk (below_step HB.out hb)
             (try clear hb)
             (try clear hb2)
             (try clear hk)
             (try clear hi)
             refine hK.out _ _ (cl14 BK224.out) (fun hHeld => ?_)
             clear hK K
             refine norm_ (a' := ?_) ?_ ?_
             rotate_left
             ·show Act.put _ (some 31) _ = _
              simp only [Act.put, pq1, pq2, pq3, i64_w, i32_w]
              rfl
             refine pure_ (i := 3) (N := some 32) (bts 29 59652335) rfl rfl (any_of HT_.out (by kernel_rfl)) (fun _ _ _ h => h) (Or.inl ⟨by rfl, by intro w'; go_simp; with_reducible rfl⟩) (by simp only [Act.put, pq1, pq2, pq3, i64_w, i32_w]; rfl) ?_
             refine pure_ (i := 4) (N := some 33) (bts 29 59652351) rfl rfl (any_of HT_.out (by kernel_rfl)) (fun _ _ _ h => h) (Or.inl ⟨by rfl, by intro w'; go_simp; with_reducible rfl⟩) (by simp only [Act.put, pq1, pq2, pq3, i64_w, i32_w]; rfl) ?_
             refine one_ (i := 8) (N := some 37) (bts 29 59652607) rfl rfl (one_of HT_.out (by kernel_rfl)) (by decide) (fun K hK => ?_)
             refine goes_ Tryz.func47 (by kernel_rfl) rfl #[.int .i64 a0_6] (by rfl) rfl rfl (by (try simp only [List.map_toArray, List.map_cons, List.map_nil]); first | done | rfl | (simp only [List.length_drop, List.length_take]; rfl)) ?_
             with_reducible refine (r11_Digits.calls k a0_6 t229 _ A25.out).mono ?_
             rintro e w40 ⟨rfl, hb⟩
             refine ⟨_, rfl, ?_⟩
             replace BK224 := Aside0.mk (blk_below (g := gb224) (by (with_reducible repeat (first | refine blk_drewN ?_ _ | refine blk_drew ?_ | refine blk_alloc ?_ _)); exact BK224.out) hb)
             replace HB := Aside0.mk (below_step HB.out hb)
             (try clear hb)
             (try clear hb2)
             (try clear hk)
             (try clear hi)
             refine hK.out _ _ (cl14 BK224.out) (fun hHeld => ?_)
             clear hK K
             refine norm_ (a' := ?_) ?_ ?_
             rotate_left
             ·show Act.put _ (some 37) _ = _
              simp only [Act.put, pq1, pq2, pq3, i64_w, i32_w]
              rfl
             refine pure_ (i := 9) (N := some 38) (bts 29 59653119) rfl rfl (any_of HT_.out (by kernel_rfl)) (fun _ _ _ h => h) (Or.inl ⟨by rfl, by intro w'; go_simp; with_reducible rfl⟩) (by simp only [Act.put, pq1, pq2, pq3, i64_w, i32_w]; rfl) ?_
             refine pure_ (i := 10) (N := some 39) (bts 29 59654143) rfl rfl (any_of HT_.out (by kernel_rfl)) (fun _ _ _ h => h) (Or.inl ⟨by rfl, by intro w'; go_simp; with_reducible rfl⟩) (by simp only [Act.put, pq1, pq2, pq3, i64_w, i32_w]; rfl) ?_
             refine one_ (i := 14) (N := some 43) (bts 29 59670527) rfl rfl (one_of HT_.out (by kernel_rfl)) (by decide) (fun K hK => ?_)
             refine goes_ Tryz.func47 (by kernel_rfl) rfl #[.int .i64 a0_7] (by rfl) rfl rfl (by (try simp only [List.map_toArray, List.map_cons, List.map_nil]); first | done | rfl | (simp only [List.length_drop, List.length_take]; rfl)) ?_
             with_reducible refine (r11_Digits.calls k a0_7 t230 _ A28.out).mono ?_
             rintro e w41 ⟨rfl, hb⟩
             refine ⟨_, rfl, ?_⟩
             replace BK224 := Aside0.mk (blk_below (g := gb224) (by (with_reducible repeat (first | refine blk_drewN ?_ _ | refine blk_drew ?_ | refine blk_alloc ?_ _)); exact BK224.out) hb)
             replace HB := Aside0.mk (below_step HB.out hb)
             (try clear hb)
             (try clear hb2)
             (try clear hk)
             (try clear hi)
             refine hK.out _ _ (cl14 BK224.out) (fun hHeld => ?_)
             clear hK K
             refine norm_ (a' := ?_) ?_ ?_
             rotate_left
             ·show Act.put _ (some 43) _ = _
              simp only [Act.put, pq1, pq2, pq3, i64_w, i32_w]
              rfl
             refine pure_ (i := 15) (N := some 44) (bts 29 59703295) rfl rfl (any_of HT_.out (by kernel_rfl)) (fun _ _ _ h => h) (Or.inl ⟨by rfl, by intro w'; go_simp; with_reducible rfl⟩) (by simp only [Act.put, pq1, pq2, pq3, i64_w, i32_w]; rfl) ?_
             refine pure_ (i := 16) (N := some 45) (bts 29 59768831) rfl rfl (any_of HT_.out (by kernel_rfl)) (fun _ _ _ h => h) (Or.inl ⟨by rfl, by intro w'; go_simp; with_reducible rfl⟩) (by simp only [Act.put, pq1, pq2, pq3, i64_w, i32_w]; rfl) ?_
             refine one_ (i := 20) (N := some 49) (bts 29 60817407) rfl rfl (one_of HT_.out (by kernel_rfl)) (by decide) (fun K hK => ?_)
             refine goes_ Tryz.func47 (by kernel_rfl) rfl #[.int .i64 a0_8] (by rfl) rfl rfl (by (try simp only [List.map_toArray, List.map_cons, List.map_nil]); first | done | rfl | (simp only [List.length_drop, List.length_take]; rfl)) ?_
             with_reducible refine (r11_Digits.calls k a0_8 t231 _ A31.out).mono ?_
             rintro e w42 ⟨rfl, hb⟩
             refine ⟨_, rfl, ?_⟩
             replace BK224 := Aside0.mk (blk_below (g := gb224) (by (with_reducible repeat (first | refine blk_drewN ?_ _ | refine blk_drew ?_ | refine blk_alloc ?_ _)); exact BK224.out) hb)
             replace HB := Aside0.mk (below_step HB.out hb)
             (try clear hb)
             (try clear hb2)
             (try clear hk)
             (try clear hi)
             refine hK.out _ _ (cl14 BK224.out) (fun hHeld => ?_)
             clear hK K
             refine norm_ (a' := ?_) ?_ ?_
             rotate_left
             ·show Act.put _ (some 49) _ = _
              simp only [Act.put, pq1, pq2, pq3, i64_w, i32_w]
              rfl
             refine pure_ (i := 21) (N := some 50) (bts 29 62914559) rfl rfl (any_of HT_.out (by kernel_rfl)) (fun _ _ _ h => h) (Or.inl ⟨by rfl, by intro w'; go_simp; with_reducible rfl⟩) (by simp only [Act.put, pq1, pq2, pq3, i64_w, i32_w]; rfl) ?_
             refine pure_ (i := 22) (N := some 51) (bts 29 67108863) rfl rfl (any_of HT_.out (by kernel_rfl)) (fun _ _ _ h => h) (Or.inl ⟨by rfl, by intro w'; go_simp; with_reducible rfl⟩) (by simp only [Act.put, pq1, pq2, pq3, i64_w, i32_w]; rfl) ?_
             refine one_ (i := 26) (N := some 55) (bts 29 134217727) rfl rfl (one_of HT_.out (by kernel_rfl)) (by decide) (fun K hK => ?_)
             refine goes_ Tryz.func47 (by kernel_rfl) rfl #[.int .i64 a0_9] (by rfl) rfl rfl (by (try simp only [List.map_toArray, List.map_cons, List.map_nil]); first | done | rfl | (simp only [List.length_drop, List.length_take]; rfl)) ?_
             with_reducible refine (r11_Digits.calls k a0_9 t232 _ A34.out).mono ?_
             rintro e w43 ⟨rfl, hb⟩
             refine ⟨_, rfl, ?_⟩
             replace BK224 := Aside0.mk (blk_below (g := gb224) (by (with_reducible repeat (first | refine blk_drewN ?_ _ | refine blk_drew ?_ | refine blk_alloc ?_ _)); exact BK224.out) hb)
             replace HB := Aside0.mk (below_step HB.out hb)
             (try clear hb)
             (try clear hb2)
             (try clear hk)
             (try clear hi)
             refine hK.out _ _ (cl14 BK224.out) (fun hHeld => ?_)
             clear hK K
             refine norm_ (a' := ?_) ?_ ?_
             rotate_left
             ·show Act.put _ (some 55) _ = _
              simp only [Act.put, pq1, pq2, pq3, i64_w, i32_w]
              rfl
             refine pure_ (i := 27) (N := some 56) (bts 29 268435455) rfl rfl (any_of HT_.out (by kernel_rfl)) (fun _ _ _ h => h) (Or.inl ⟨by rfl, by intro w'; go_simp; with_reducible rfl⟩) (by simp only [Act.put, pq1, pq2, pq3, i64_w, i32_w]; rfl) ?_
             refine pure_ (i := 28) (N := some 2) (bts 29 536870911) rfl rfl (any_of HT_.out (by kernel_rfl)) (fun _ _ _ h => h) (Or.inl ⟨by rfl, by intro w'; go_simp; with_reducible rfl⟩) (by simp only [Act.put, pq1, pq2, pq3, i64_w, i32_w]; rfl) ?_
             refine done_ (done_of HT_.out (by kernel_rfl)) ?_
             try go_wp2
             go_ret
             exact ⟨rfl, HB.out⟩
            ·rw [if_neg c35] at H
             exact absurd H (by simp)
           ·rw [if_neg c33] at H
            exact absurd H (by simp)
          ·rw [if_neg c32] at H
           exact absurd H (by simp)
         ·rw [if_neg c30] at H
          exact absurd H (by simp)
        ·rw [if_neg c29] at H
         exact absurd H (by simp)
       ·rw [if_neg c27] at H
        exact absurd H (by simp)
      ·rw [if_neg c26] at H
       exact absurd H (by simp)
     ·rw [if_neg c24] at H
      exact absurd H (by simp)
    ·rw [if_neg c23] at H
     exact absurd H (by simp)
   ·rw [if_neg c21] at H
    obtain ⟨c21b0, c21b1⟩ := neB c21
    by_cases c44 : a0_0 = 4
    ·rw [if_pos c44] at H
     obtain ⟨c44b0, c44b1⟩ := eqB c44
     clear c44
     have HC45 := Aside0.mk H
     clear H
     go_enter Tryz.func20, Tryz.ntmps20
     go_upto_if 61 with (first | ((with_reducible refine gate_dst (N := 1) rfl ?_); refine box_event ?hg (N := 1) ?hd (cs := #[.int .i64 a0_0, .slice A0_1 l0_1.length c0_1, .slice A0_2 l0_2.length c0_2, .string a0_3, .int .i64 a0_4, .slice A0_5 l0_5.length c0_5, .int .i64 a0_6, .int .i64 a0_7, .int .i64 a0_8, .int .i64 a0_9, .int .i64 a0_10, .int .i64 a0_11, .int .i64 a0_12, .bool a0_13]) (t := 43) ?hr ?_; (case hd => rfl); (case hg => rfl); (case hr => go_simp); intro gb224 hg w46 hbox hb; have BK224 := Aside0.mk (hbox); have GW224 := Aside0.mk ((by rw [hg]; exact (below_size HB.out) : w.heap.size <= gb224)); have GE224 := GW224; replace HB := Aside0.mk (below_step HB.out hb); clear hb hbox hg; obtain ⟨_, _, _, _, _, _, _, _, _, _, _, _, _, _⟩ := cl14 BK224.out; obtain ⟨_, _, _, _, _, _, _, _, _, _, _, _, _, _⟩ := fz14 BK224.out))
     (try simp only [Act.put, List.setIfInBounds_toArray, List.set_cons_zero, List.set_cons_succ])
     go_cut [3] (fun v3 wc => ∃ (kq : Nat) (x3_44 : ByteArray), v3 = .string x3_44 ∧ Aside0 (r11_Line.j0 kq x3_44 a0_0 l0_1 l0_2 a0_3 a0_4 l0_5 a0_6 a0_7 a0_8 a0_9 a0_10 a0_11 a0_12 a0_13 = some r) ∧ Aside0 (kq <= k) ∧ Aside0 (wc.heap[gb224]? = some (.cells #[.int .i64 a0_0, (.slice A0_1 l0_1.length c0_1), (.slice A0_2 l0_2.length c0_2), .string a0_3, .int .i64 a0_4, (.slice A0_5 l0_5.length c0_5), .int .i64 a0_6, .int .i64 a0_7, .int .i64 a0_8, .int .i64 a0_9, .int .i64 a0_10, .int .i64 a0_11, .int .i64 a0_12, .bool a0_13] 43 (0, 0))) ∧ Aside0 (Below w.heap.size w wc))
     case first =>
      have H := HC45.out
      clear HC45
      by_cases c48 : a0_13 = true
      ·subst c48
       have H1 : (r11_Line.j0 k (⟨#[32, 97, 99, 99, 32]⟩ : ByteArray) a0_0 l0_1 l0_2 a0_3 a0_4 l0_5 a0_6 a0_7 a0_8 a0_9 a0_10 a0_11 a0_12 true) = some r := by rw [if_pos rfl] at H; exact H
       clear H
       have H := H1
       clear H1
       have H' := Aside0.mk H
       clear H
       go_wp2
       go_meet
       case rel => exact ⟨_, ((⟨#[32, 97, 99, 99, 32]⟩ : ByteArray)), rfl, H', ⟨by first | omega | exact Nat.le_refl _⟩, ⟨by (with_reducible repeat (first | refine blk_drewN ?_ _ | refine blk_drew ?_ | refine blk_alloc ?_ _)); exact BK224.out⟩, ⟨by repeat (first | (with_reducible first | exact HB.out | apply below_alloc | apply pw_below_drewN | apply below_drew1 | refine below_set ?_ GE224.out) | exact HB.out)⟩⟩
      ·replace c48 := Bool.eq_false_iff.mpr c48
       subst c48
       have H1 : (r11_Line.j0 k (⟨#[32, 100, 105, 115, 32]⟩ : ByteArray) a0_0 l0_1 l0_2 a0_3 a0_4 l0_5 a0_6 a0_7 a0_8 a0_9 a0_10 a0_11 a0_12 false) = some r := by rw [if_neg (show ¬ (false = true) by decide)] at H; exact H
       clear H
       have H := H1
       clear H1
       have H' := Aside0.mk H
       clear H
       go_wp2
       go_meet
       case rel => exact ⟨_, ((⟨#[32, 100, 105, 115, 32]⟩ : ByteArray)), rfl, H', ⟨by first | omega | exact Nat.le_refl _⟩, ⟨by (with_reducible repeat (first | refine blk_drewN ?_ _ | refine blk_drew ?_ | refine blk_alloc ?_ _)); exact BK224.out⟩, ⟨by repeat (first | (with_reducible first | exact HB.out | apply below_alloc | apply pw_below_drewN | apply below_drew1 | refine below_set ?_ GE224.out) | exact HB.out)⟩⟩
     case rest =>
      clear HC45
      obtain ⟨kq, x3_44, rfl, HA, HJ44, BK224, HB⟩ := hcut
      cases kq with
      | zero => exact absurd HA.out (by simp [r11_Line.j0])
      | succ kj44 =>
       have H := HA.out
       clear HA
       simp only [r11_Line.j0] at H
       replace H := Option.bind_eq_some_iff.mp H
       obtain ⟨t233, A490, H⟩ := H
       have A49 := Aside0.mk A490
       clear A490
       by_cases c50 : 6 + t233.size <= 9223372036854775807
       ·rw [if_pos c50] at H
        obtain ⟨c50b0, c50b1, c50b2⟩ := leT c50
        by_cases c51 : ((⟨#[103, 114, 111, 117, 112, 32]⟩ : ByteArray) ++ t233).size + 1 <= 9223372036854775807
        ·rw [if_pos c51] at H
         obtain ⟨c51b0, c51b1, c51b2⟩ := leT c51
         have c51n : 6 + t233.size + 1 <= 9223372036854775807 := by have := c51; simp only [ByteArray.size_append] at this; exact this
         obtain ⟨c51n0, c51n1, c51n2⟩ := leT c51n
         replace H := Option.bind_eq_some_iff.mp H
         obtain ⟨t234, A520, H⟩ := H
         have A52 := Aside0.mk A520
         clear A520
         by_cases c53 : (((⟨#[103, 114, 111, 117, 112, 32]⟩ : ByteArray) ++ t233) ++ (⟨#[32]⟩ : ByteArray)).size + t234.size <= 9223372036854775807
         ·rw [if_pos c53] at H
          obtain ⟨c53b0, c53b1, c53b2⟩ := leT c53
          have c53n : 6 + t233.size + 1 + t234.size <= 9223372036854775807 := by have := c53; simp only [ByteArray.size_append] at this; exact this
          obtain ⟨c53n0, c53n1, c53n2⟩ := leT c53n
          by_cases c54 : ((((⟨#[103, 114, 111, 117, 112, 32]⟩ : ByteArray) ++ t233) ++ (⟨#[32]⟩ : ByteArray)) ++ t234).size + 1 <= 9223372036854775807
          ·rw [if_pos c54] at H
           obtain ⟨c54b0, c54b1, c54b2⟩ := leT c54
           have c54n : 6 + t233.size + 1 + t234.size + 1 <= 9223372036854775807 := by have := c54; simp only [ByteArray.size_append] at this; exact this
           obtain ⟨c54n0, c54n1, c54n2⟩ := leT c54n
           replace H := Option.bind_eq_some_iff.mp H
           obtain ⟨t235, A550, H⟩ := H
           have A55 := Aside0.mk A550
           clear A550
           by_cases c56 : (((((⟨#[103, 114, 111, 117, 112, 32]⟩ : ByteArray) ++ t233) ++ (⟨#[32]⟩ : ByteArray)) ++ t234) ++ (⟨#[32]⟩ : ByteArray)).size + t235.size <= 9223372036854775807
           ·rw [if_pos c56] at H
            obtain ⟨c56b0, c56b1, c56b2⟩ := leT c56
            have c56n : 6 + t233.size + 1 + t234.size + 1 + t235.size <= 9223372036854775807 := by have := c56; simp only [ByteArray.size_append] at this; exact this
            obtain ⟨c56n0, c56n1, c56n2⟩ := leT c56n
            by_cases c57 : ((((((⟨#[103, 114, 111, 117, 112, 32]⟩ : ByteArray) ++ t233) ++ (⟨#[32]⟩ : ByteArray)) ++ t234) ++ (⟨#[32]⟩ : ByteArray)) ++ t235).size + 1 <= 9223372036854775807
            ·rw [if_pos c57] at H
             obtain ⟨c57b0, c57b1, c57b2⟩ := leT c57
             have c57n : 6 + t233.size + 1 + t234.size + 1 + t235.size + 1 <= 9223372036854775807 := by have := c57; simp only [ByteArray.size_append] at this; exact this
             obtain ⟨c57n0, c57n1, c57n2⟩ := leT c57n
             replace H := Option.bind_eq_some_iff.mp H
             obtain ⟨t236, A580, H⟩ := H
             have A58 := Aside0.mk A580
             clear A580
             by_cases c59 : (((((((⟨#[103, 114, 111, 117, 112, 32]⟩ : ByteArray) ++ t233) ++ (⟨#[32]⟩ : ByteArray)) ++ t234) ++ (⟨#[32]⟩ : ByteArray)) ++ t235) ++ (⟨#[32]⟩ : ByteArray)).size + t236.size <= 9223372036854775807
             ·rw [if_pos c59] at H
              obtain ⟨c59b0, c59b1, c59b2⟩ := leT c59
              have c59n : 6 + t233.size + 1 + t234.size + 1 + t235.size + 1 + t236.size <= 9223372036854775807 := by have := c59; simp only [ByteArray.size_append] at this; exact this
              obtain ⟨c59n0, c59n1, c59n2⟩ := leT c59n
              by_cases c60 : ((((((((⟨#[103, 114, 111, 117, 112, 32]⟩ : ByteArray) ++ t233) ++ (⟨#[32]⟩ : ByteArray)) ++ t234) ++ (⟨#[32]⟩ : ByteArray)) ++ t235) ++ (⟨#[32]⟩ : ByteArray)) ++ t236).size + x3_44.size <= 9223372036854775807
              ·rw [if_pos c60] at H
               obtain ⟨c60b0, c60b1, c60b2⟩ := leT c60
               have c60n : 6 + t233.size + 1 + t234.size + 1 + t235.size + 1 + t236.size + x3_44.size <= 9223372036854775807 := by have := c60; simp only [ByteArray.size_append] at this; exact this
               obtain ⟨c60n0, c60n1, c60n2⟩ := leT c60n
               by_cases c61 : (((((((((⟨#[103, 114, 111, 117, 112, 32]⟩ : ByteArray) ++ t233) ++ (⟨#[32]⟩ : ByteArray)) ++ t234) ++ (⟨#[32]⟩ : ByteArray)) ++ t235) ++ (⟨#[32]⟩ : ByteArray)) ++ t236) ++ x3_44).size + a0_3.size <= 9223372036854775807
               ·rw [if_pos c61] at H
                obtain ⟨c61b0, c61b1, c61b2⟩ := leT c61
                have c61n : 6 + t233.size + 1 + t234.size + 1 + t235.size + 1 + t236.size + x3_44.size + a0_3.size <= 9223372036854775807 := by have := c61; simp only [ByteArray.size_append] at this; exact this
                obtain ⟨c61n0, c61n1, c61n2⟩ := leT c61n
                obtain rfl := Option.some.inj H
                try go_wp2
                replace BK224 := Aside0.mk (blk_drew BK224.out)
                replace HB := Aside0.mk (below_drew1 HB.out)
                refine start_ (n := 28) (S := fun w' => w'.cell? ⟨gb224, 0, none⟩ = some (.int .i64 a0_0) ∧ w'.cell? ⟨gb224, 1, none⟩ = some (.slice A0_1 l0_1.length c0_1) ∧ w'.cell? ⟨gb224, 2, none⟩ = some (.slice A0_2 l0_2.length c0_2) ∧ w'.cell? ⟨gb224, 3, none⟩ = some (.string a0_3) ∧ w'.cell? ⟨gb224, 4, none⟩ = some (.int .i64 a0_4) ∧ w'.cell? ⟨gb224, 5, none⟩ = some (.slice A0_5 l0_5.length c0_5) ∧ w'.cell? ⟨gb224, 6, none⟩ = some (.int .i64 a0_6) ∧ w'.cell? ⟨gb224, 7, none⟩ = some (.int .i64 a0_7) ∧ w'.cell? ⟨gb224, 8, none⟩ = some (.int .i64 a0_8) ∧ w'.cell? ⟨gb224, 9, none⟩ = some (.int .i64 a0_9) ∧ w'.cell? ⟨gb224, 10, none⟩ = some (.int .i64 a0_10) ∧ w'.cell? ⟨gb224, 11, none⟩ = some (.int .i64 a0_11) ∧ w'.cell? ⟨gb224, 12, none⟩ = some (.int .i64 a0_12) ∧ w'.cell? ⟨gb224, 13, none⟩ = some (.bool a0_13)) (ds := []) (bts 28 0) (by kernel_rfl) rfl rfl (cl14 BK224.out) (fun hHeld => ?_); refine with_tabW r11_Line.tab12 r11_Line.bits12 (fun HT_ HW_ => ?_)
                generalize wc.drew = w62 at BK224 HB hHeld ⊢
                refine pure_ (i := 0) (N := some 62) (bts 28 1) rfl rfl (any_of HT_.out (by kernel_rfl)) (fun _ _ _ h => h) (Or.inl ⟨by rfl, by intro w'; go_simp; with_reducible rfl⟩) (by simp only [Act.put, pq1, pq2, pq3, i64_w, i32_w]; rfl) ?_
                refine pure_ (i := 5) (N := some 67) (bts 28 33) rfl rfl (any_of HT_.out (by kernel_rfl)) (fun _ _ _ h => h) (Or.inl ⟨by rfl, by intro w'; go_simp; with_reducible rfl⟩) (by simp only [Act.put, pq1, pq2, pq3, i64_w, i32_w]; rfl) ?_
                refine pure_ (i := 6) (N := some 68) (bts 28 97) rfl rfl (any_of HT_.out (by kernel_rfl)) (fun _ _ _ h => h) (Or.inl ⟨by rfl, by intro w'; go_simp; with_reducible rfl⟩) (by simp only [Act.put, pq1, pq2, pq3, i64_w, i32_w]; rfl) ?_
                refine pure_ (i := 11) (N := some 73) (bts 28 2145) rfl rfl (any_of HT_.out (by kernel_rfl)) (fun _ _ _ h => h) (Or.inl ⟨by rfl, by intro w'; go_simp; with_reducible rfl⟩) (by simp only [Act.put, pq1, pq2, pq3, i64_w, i32_w]; rfl) ?_
                refine pure_ (i := 12) (N := some 74) (bts 28 6241) rfl rfl (any_of HT_.out (by kernel_rfl)) (fun _ _ _ h => h) (Or.inl ⟨by rfl, by intro w'; go_simp; with_reducible rfl⟩) (by simp only [Act.put, pq1, pq2, pq3, i64_w, i32_w]; rfl) ?_
                refine pure_ (i := 17) (N := some 79) (bts 28 137313) rfl rfl (any_of HT_.out (by kernel_rfl)) (fun _ _ _ h => h) (Or.inl ⟨by rfl, by intro w'; go_simp; with_reducible rfl⟩) (by simp only [Act.put, pq1, pq2, pq3, i64_w, i32_w]; rfl) ?_
                refine pure_ (i := 18) (N := some 80) (bts 28 399457) rfl rfl (any_of HT_.out (by kernel_rfl)) (fun _ _ _ h => h) (Or.inl ⟨by rfl, by intro w'; go_simp; with_reducible rfl⟩) (by simp only [Act.put, pq1, pq2, pq3, i64_w, i32_w]; rfl) ?_
                refine pure_ (i := 22) (N := some 84) (bts 28 4593761) rfl rfl (any_of HT_.out (by kernel_rfl)) (fun _ _ _ h => h) (Or.inl ⟨by rfl, by intro w'; go_simp; with_reducible rfl⟩) (by simp only [Act.put, pq1, pq2, pq3, i64_w, i32_w]; rfl) ?_
                refine pure_ (i := 24) (N := some 86) (bts 28 21370977) rfl rfl (any_of HT_.out (by kernel_rfl)) (fun _ _ _ h => h) (Or.inl ⟨by rfl, by intro w'; go_simp; with_reducible rfl⟩) (by simp only [Act.put, pq1, pq2, pq3, i64_w, i32_w]; rfl) ?_
                refine take_ (i := 1) (N := some 63) (bts 28 21370979) rfl rfl (take_ofW HT_.out HW_.out (by kernel_rfl)) (fun _ _ _ h => h) (Or.inl ⟨by rfl, by rintro w' ⟨s0, s1, s2, s3, s4, s5, s6, s7, s8, s9, s10, s11, s12, s13⟩; go_simp; with_reducible rfl⟩) hHeld (by simp only [Act.put, pq1, pq2, pq3, i64_w, i32_w]; rfl) ?_
                refine take_ (i := 7) (N := some 69) (bts 28 21371107) rfl rfl (take_ofW HT_.out HW_.out (by kernel_rfl)) (fun _ _ _ h => h) (Or.inl ⟨by rfl, by rintro w' ⟨s0, s1, s2, s3, s4, s5, s6, s7, s8, s9, s10, s11, s12, s13⟩; go_simp; with_reducible rfl⟩) hHeld (by simp only [Act.put, pq1, pq2, pq3, i64_w, i32_w]; rfl) ?_
                refine take_ (i := 13) (N := some 75) (bts 28 21379299) rfl rfl (take_ofW HT_.out HW_.out (by kernel_rfl)) (fun _ _ _ h => h) (Or.inl ⟨by rfl, by rintro w' ⟨s0, s1, s2, s3, s4, s5, s6, s7, s8, s9, s10, s11, s12, s13⟩; go_simp; with_reducible rfl⟩) hHeld (by simp only [Act.put, pq1, pq2, pq3, i64_w, i32_w]; rfl) ?_
                refine take_ (i := 19) (N := some 81) (bts 28 21903587) rfl rfl (take_ofW HT_.out HW_.out (by kernel_rfl)) (fun _ _ _ h => h) (Or.inl ⟨by rfl, by rintro w' ⟨s0, s1, s2, s3, s4, s5, s6, s7, s8, s9, s10, s11, s12, s13⟩; go_simp; with_reducible rfl⟩) hHeld (by simp only [Act.put, pq1, pq2, pq3, i64_w, i32_w]; rfl) ?_
                refine take_ (i := 25) (N := some 87) (bts 28 55458019) rfl rfl (take_ofW HT_.out HW_.out (by kernel_rfl)) (fun _ _ _ h => h) (Or.inl ⟨by rfl, by rintro w' ⟨s0, s1, s2, s3, s4, s5, s6, s7, s8, s9, s10, s11, s12, s13⟩; go_simp; with_reducible rfl⟩) hHeld (by simp only [Act.put, pq1, pq2, pq3, i64_w, i32_w]; rfl) ?_
                refine one_ (i := 2) (N := some 64) (bts 28 55458023) rfl rfl (one_of HT_.out (by kernel_rfl)) (by decide) (fun K hK => ?_)
                refine goes_ Tryz.func46 (by kernel_rfl) rfl #[.slice A0_1 l0_1.length c0_1] (by rfl) rfl rfl (by (try simp only [List.map_toArray, List.map_cons, List.map_nil]); first | done | rfl | (simp only [List.length_drop, List.length_take]; rfl)) ?_
                with_reducible refine (r11_commas.calls kj44 _ _ l0_1 t233 _ ?side1 ?side2 A49.out).mono ?_
                (case side1 => repeat (first | exact (Kd.C_below HR0_1.out HB.out) | (with_reducible refine Kd.C_alloc ?_ _) | (with_reducible refine Kd.C_drewN ?_ _) | (with_reducible refine Kd.C_drew ?_)))
                (case side2 => exact HC0_1.out)
                rintro e w63 ⟨rfl, hb⟩
                refine ⟨_, rfl, ?_⟩
                replace BK224 := Aside0.mk (blk_below (g := gb224) (by (with_reducible repeat (first | refine blk_drewN ?_ _ | refine blk_drew ?_ | refine blk_alloc ?_ _)); exact BK224.out) hb)
                replace HB := Aside0.mk (below_step HB.out hb)
                (try clear hb)
                (try clear hb2)
                (try clear hk)
                (try clear hi)
                refine hK.out _ _ (cl14 BK224.out) (fun hHeld => ?_)
                clear hK K
                refine norm_ (a' := ?_) ?_ ?_
                rotate_left
                ·show Act.put _ (some 64) _ = _
                 simp only [Act.put, pq1, pq2, pq3, i64_w, i32_w]
                 rfl
                refine pure_ (i := 3) (N := some 65) (bts 28 55458031) rfl rfl (any_of HT_.out (by kernel_rfl)) (fun _ _ _ h => h) (Or.inl ⟨by rfl, by intro w'; go_simp; with_reducible rfl⟩) (by simp only [Act.put, pq1, pq2, pq3, i64_w, i32_w]; rfl) ?_
                refine pure_ (i := 4) (N := some 66) (bts 28 55458047) rfl rfl (any_of HT_.out (by kernel_rfl)) (fun _ _ _ h => h) (Or.inl ⟨by rfl, by intro w'; go_simp; with_reducible rfl⟩) (by simp only [Act.put, pq1, pq2, pq3, i64_w, i32_w]; rfl) ?_
                refine one_ (i := 8) (N := some 70) (bts 28 55458303) rfl rfl (one_of HT_.out (by kernel_rfl)) (by decide) (fun K hK => ?_)
                refine goes_ Tryz.func47 (by kernel_rfl) rfl #[.int .i64 a0_10] (by rfl) rfl rfl (by (try simp only [List.map_toArray, List.map_cons, List.map_nil]); first | done | rfl | (simp only [List.length_drop, List.length_take]; rfl)) ?_
                with_reducible refine (r11_Digits.calls kj44 a0_10 t234 _ A52.out).mono ?_
                rintro e w64 ⟨rfl, hb⟩
                refine ⟨_, rfl, ?_⟩
                replace BK224 := Aside0.mk (blk_below (g := gb224) (by (with_reducible repeat (first | refine blk_drewN ?_ _ | refine blk_drew ?_ | refine blk_alloc ?_ _)); exact BK224.out) hb)
                replace HB := Aside0.mk (below_step HB.out hb)
                (try clear hb)
                (try clear hb2)
                (try clear hk)
                (try clear hi)
                refine hK.out _ _ (cl14 BK224.out) (fun hHeld => ?_)
                clear hK K
                refine norm_ (a' := ?_) ?_ ?_
                rotate_left
                ·show Act.put _ (some 70) _ = _
                 simp only [Act.put, pq1, pq2, pq3, i64_w, i32_w]
                 rfl
                refine pure_ (i := 9) (N := some 71) (bts 28 55458815) rfl rfl (any_of HT_.out (by kernel_rfl)) (fun _ _ _ h => h) (Or.inl ⟨by rfl, by intro w'; go_simp; with_reducible rfl⟩) (by simp only [Act.put, pq1, pq2, pq3, i64_w, i32_w]; rfl) ?_
                refine pure_ (i := 10) (N := some 72) (bts 28 55459839) rfl rfl (any_of HT_.out (by kernel_rfl)) (fun _ _ _ h => h) (Or.inl ⟨by rfl, by intro w'; go_simp; with_reducible rfl⟩) (by simp only [Act.put, pq1, pq2, pq3, i64_w, i32_w]; rfl) ?_
                refine one_ (i := 14) (N := some 76) (bts 28 55476223) rfl rfl (one_of HT_.out (by kernel_rfl)) (by decide) (fun K hK => ?_)
                refine goes_ Tryz.func47 (by kernel_rfl) rfl #[.int .i64 a0_11] (by rfl) rfl rfl (by (try simp only [List.map_toArray, List.map_cons, List.map_nil]); first | done | rfl | (simp only [List.length_drop, List.length_take]; rfl)) ?_
                with_reducible refine (r11_Digits.calls kj44 a0_11 t235 _ A55.out).mono ?_
                rintro e w65 ⟨rfl, hb⟩
                refine ⟨_, rfl, ?_⟩
                replace BK224 := Aside0.mk (blk_below (g := gb224) (by (with_reducible repeat (first | refine blk_drewN ?_ _ | refine blk_drew ?_ | refine blk_alloc ?_ _)); exact BK224.out) hb)
                replace HB := Aside0.mk (below_step HB.out hb)
                (try clear hb)
                (try clear hb2)
                (try clear hk)
                (try clear hi)
                refine hK.out _ _ (cl14 BK224.out) (fun hHeld => ?_)
                clear hK K
                refine norm_ (a' := ?_) ?_ ?_
                rotate_left
                ·show Act.put _ (some 76) _ = _
                 simp only [Act.put, pq1, pq2, pq3, i64_w, i32_w]
                 rfl
                refine pure_ (i := 15) (N := some 77) (bts 28 55508991) rfl rfl (any_of HT_.out (by kernel_rfl)) (fun _ _ _ h => h) (Or.inl ⟨by rfl, by intro w'; go_simp; with_reducible rfl⟩) (by simp only [Act.put, pq1, pq2, pq3, i64_w, i32_w]; rfl) ?_
                refine pure_ (i := 16) (N := some 78) (bts 28 55574527) rfl rfl (any_of HT_.out (by kernel_rfl)) (fun _ _ _ h => h) (Or.inl ⟨by rfl, by intro w'; go_simp; with_reducible rfl⟩) (by simp only [Act.put, pq1, pq2, pq3, i64_w, i32_w]; rfl) ?_
                refine one_ (i := 20) (N := some 82) (bts 28 56623103) rfl rfl (one_of HT_.out (by kernel_rfl)) (by decide) (fun K hK => ?_)
                refine goes_ Tryz.func47 (by kernel_rfl) rfl #[.int .i64 a0_12] (by rfl) rfl rfl (by (try simp only [List.map_toArray, List.map_cons, List.map_nil]); first | done | rfl | (simp only [List.length_drop, List.length_take]; rfl)) ?_
                with_reducible refine (r11_Digits.calls kj44 a0_12 t236 _ A58.out).mono ?_
                rintro e w66 ⟨rfl, hb⟩
                refine ⟨_, rfl, ?_⟩
                replace BK224 := Aside0.mk (blk_below (g := gb224) (by (with_reducible repeat (first | refine blk_drewN ?_ _ | refine blk_drew ?_ | refine blk_alloc ?_ _)); exact BK224.out) hb)
                replace HB := Aside0.mk (below_step HB.out hb)
                (try clear hb)
                (try clear hb2)
                (try clear hk)
                (try clear hi)
                refine hK.out _ _ (cl14 BK224.out) (fun hHeld => ?_)
                clear hK K
                refine norm_ (a' := ?_) ?_ ?_
                rotate_left
                ·show Act.put _ (some 82) _ = _
                 simp only [Act.put, pq1, pq2, pq3, i64_w, i32_w]
                 rfl
                refine pure_ (i := 21) (N := some 83) (bts 28 58720255) rfl rfl (any_of HT_.out (by kernel_rfl)) (fun _ _ _ h => h) (Or.inl ⟨by rfl, by intro w'; go_simp; with_reducible rfl⟩) (by simp only [Act.put, pq1, pq2, pq3, i64_w, i32_w]; rfl) ?_
                refine pure_ (i := 23) (N := some 85) (bts 28 67108863) rfl rfl (any_of HT_.out (by kernel_rfl)) (fun _ _ _ h => h) (Or.inl ⟨by rfl, by intro w'; go_simp; with_reducible rfl⟩) (by simp only [Act.put, pq1, pq2, pq3, i64_w, i32_w]; rfl) ?_
                refine pure_ (i := 26) (N := some 88) (bts 28 134217727) rfl rfl (any_of HT_.out (by kernel_rfl)) (fun _ _ _ h => h) (Or.inl ⟨by rfl, by intro w'; go_simp; with_reducible rfl⟩) (by simp only [Act.put, pq1, pq2, pq3, i64_w, i32_w]; rfl) ?_
                refine pure_ (i := 27) (N := some 2) (bts 28 268435455) rfl rfl (any_of HT_.out (by kernel_rfl)) (fun _ _ _ h => h) (Or.inl ⟨by rfl, by intro w'; go_simp; with_reducible rfl⟩) (by simp only [Act.put, pq1, pq2, pq3, i64_w, i32_w]; rfl) ?_
                refine done_ (done_of HT_.out (by kernel_rfl)) ?_
                try go_wp2
                go_ret
                exact ⟨rfl, HB.out⟩
               ·rw [if_neg c61] at H
                exact absurd H (by simp)
              ·rw [if_neg c60] at H
               exact absurd H (by simp)
             ·rw [if_neg c59] at H
              exact absurd H (by simp)
            ·rw [if_neg c57] at H
             exact absurd H (by simp)
           ·rw [if_neg c56] at H
            exact absurd H (by simp)
          ·rw [if_neg c54] at H
           exact absurd H (by simp)
         ·rw [if_neg c53] at H
          exact absurd H (by simp)
        ·rw [if_neg c51] at H
         exact absurd H (by simp)
       ·rw [if_neg c50] at H
        exact absurd H (by simp)
    ·rw [if_neg c44] at H
     obtain ⟨c44b0, c44b1⟩ := neB c44
     by_cases c67 : a0_0 = 5
     ·rw [if_pos c67] at H
      obtain ⟨c67b0, c67b1⟩ := eqB c67
      clear c67
      replace H := Option.bind_eq_some_iff.mp H
      obtain ⟨t237, A680, H⟩ := H
      have A68 := Aside0.mk A680
      clear A680
      by_cases c69 : 8 + t237.size <= 9223372036854775807
      ·rw [if_pos c69] at H
       obtain ⟨c69b0, c69b1, c69b2⟩ := leT c69
       obtain rfl := Option.some.inj H
       go_enter Tryz.func20, Tryz.ntmps20
       go_wp2_with (first | ((with_reducible refine gate_dst (N := 1) rfl ?_); refine box_event ?hg (N := 1) ?hd (cs := #[.int .i64 a0_0, .slice A0_1 l0_1.length c0_1, .slice A0_2 l0_2.length c0_2, .string a0_3, .int .i64 a0_4, .slice A0_5 l0_5.length c0_5, .int .i64 a0_6, .int .i64 a0_7, .int .i64 a0_8, .int .i64 a0_9, .int .i64 a0_10, .int .i64 a0_11, .int .i64 a0_12, .bool a0_13]) (t := 43) ?hr ?_; (case hd => rfl); (case hg => rfl); (case hr => first | (go_simp; done) | (go_simp; rfl)); intro gb224 hg w70 hbox hb; have BK224 := Aside0.mk (hbox); have GW224 := Aside0.mk ((by rw [hg]; exact (below_size (by repeat (first | exact HB.out | apply below_alloc | apply pw_below_drewN | apply below_drew1))) : w.heap.size <= gb224)); have GE224 := GW224; replace HB := Aside0.mk (below_step (by repeat (first | exact HB.out | apply below_alloc | apply pw_below_drewN | apply below_drew1)) hb); clear hb hbox hg; obtain ⟨_, _, _, _, _, _, _, _, _, _, _, _, _, _⟩ := cl14 BK224.out; obtain ⟨_, _, _, _, _, _, _, _, _, _, _, _, _, _⟩ := fz14 BK224.out) | ((with_reducible refine gate_callee (f := 46) rfl ?_); refine goesL_ (some 93) rfl rfl Tryz.func46 (by kernel_rfl) rfl #[.slice A0_1 l0_1.length c0_1] rfl (by (try simp only [List.map_toArray, List.map_cons, List.map_nil]); first | done | rfl | (simp only [List.length_drop, List.length_take]; rfl)) ?_; (with_reducible refine (r11_commas.calls k _ _ l0_1 t237 _ ?side1 ?side2 A68.out).mono ?_); (case side1 => repeat (first | exact (Kd.C_below HR0_1.out HB.out) | (with_reducible refine Kd.C_alloc ?_ _) | (with_reducible refine Kd.C_drewN ?_ _) | (with_reducible refine Kd.C_drew ?_))); (case side2 => exact HC0_1.out); rintro e w72 ⟨rfl, hb⟩; refine ⟨_, rfl, ?_⟩; replace BK224 := Aside0.mk (blk_below (g := gb224) (o := .cells #[.int .i64 a0_0, .slice A0_1 l0_1.length c0_1, .slice A0_2 l0_2.length c0_2, .string a0_3, .int .i64 a0_4, .slice A0_5 l0_5.length c0_5, .int .i64 a0_6, .int .i64 a0_7, .int .i64 a0_8, .int .i64 a0_9, .int .i64 a0_10, .int .i64 a0_11, .int .i64 a0_12, .bool a0_13] 43 (0, 0)) (by (with_reducible repeat (first | refine blk_drewN ?_ _ | refine blk_drew ?_ | refine blk_alloc ?_ _)); exact BK224.out) hb); replace HB := Aside0.mk (below_step (by repeat (first | (with_reducible first | exact HB.out | apply below_alloc | apply pw_below_drewN | apply below_drew1 | refine below_set ?_ GE224.out) | exact HB.out)) hb); (try clear hb); (try clear hb2); (try clear hk); (try clear hi)))
       go_ret
       exact ⟨rfl, HB.out⟩
      ·rw [if_neg c69] at H
       exact absurd H (by simp)
     ·rw [if_neg c67] at H
      obtain ⟨c67b0, c67b1⟩ := neB c67
      replace H := Option.bind_eq_some_iff.mp H
      obtain ⟨t238, A730, H⟩ := H
      have A73 := Aside0.mk A730
      clear A730
      by_cases c74 : 5 + t238.size <= 9223372036854775807
      ·rw [if_pos c74] at H
       obtain ⟨c74b0, c74b1, c74b2⟩ := leT c74
       obtain rfl := Option.some.inj H
       go_enter Tryz.func20, Tryz.ntmps20
       go_wp2_with (first | ((with_reducible refine gate_dst (N := 1) rfl ?_); refine box_event ?hg (N := 1) ?hd (cs := #[.int .i64 a0_0, .slice A0_1 l0_1.length c0_1, .slice A0_2 l0_2.length c0_2, .string a0_3, .int .i64 a0_4, .slice A0_5 l0_5.length c0_5, .int .i64 a0_6, .int .i64 a0_7, .int .i64 a0_8, .int .i64 a0_9, .int .i64 a0_10, .int .i64 a0_11, .int .i64 a0_12, .bool a0_13]) (t := 43) ?hr ?_; (case hd => rfl); (case hg => rfl); (case hr => first | (go_simp; done) | (go_simp; rfl)); intro gb224 hg w75 hbox hb; have BK224 := Aside0.mk (hbox); have GW224 := Aside0.mk ((by rw [hg]; exact (below_size (by repeat (first | exact HB.out | apply below_alloc | apply pw_below_drewN | apply below_drew1))) : w.heap.size <= gb224)); have GE224 := GW224; replace HB := Aside0.mk (below_step (by repeat (first | exact HB.out | apply below_alloc | apply pw_below_drewN | apply below_drew1)) hb); clear hb hbox hg; obtain ⟨_, _, _, _, _, _, _, _, _, _, _, _, _, _⟩ := cl14 BK224.out; obtain ⟨_, _, _, _, _, _, _, _, _, _, _, _, _, _⟩ := fz14 BK224.out) | ((with_reducible refine gate_callee (f := 46) rfl ?_); refine goesL_ (some 97) rfl rfl Tryz.func46 (by kernel_rfl) rfl #[.slice A0_1 l0_1.length c0_1] rfl (by (try simp only [List.map_toArray, List.map_cons, List.map_nil]); first | done | rfl | (simp only [List.length_drop, List.length_take]; rfl)) ?_; (with_reducible refine (r11_commas.calls k _ _ l0_1 t238 _ ?side1 ?side2 A73.out).mono ?_); (case side1 => repeat (first | exact (Kd.C_below HR0_1.out HB.out) | (with_reducible refine Kd.C_alloc ?_ _) | (with_reducible refine Kd.C_drewN ?_ _) | (with_reducible refine Kd.C_drew ?_))); (case side2 => exact HC0_1.out); rintro e w77 ⟨rfl, hb⟩; refine ⟨_, rfl, ?_⟩; replace BK224 := Aside0.mk (blk_below (g := gb224) (o := .cells #[.int .i64 a0_0, .slice A0_1 l0_1.length c0_1, .slice A0_2 l0_2.length c0_2, .string a0_3, .int .i64 a0_4, .slice A0_5 l0_5.length c0_5, .int .i64 a0_6, .int .i64 a0_7, .int .i64 a0_8, .int .i64 a0_9, .int .i64 a0_10, .int .i64 a0_11, .int .i64 a0_12, .bool a0_13] 43 (0, 0)) (by (with_reducible repeat (first | refine blk_drewN ?_ _ | refine blk_drew ?_ | refine blk_alloc ?_ _)); exact BK224.out) hb); replace HB := Aside0.mk (below_step (by repeat (first | (with_reducible first | exact HB.out | apply below_alloc | apply pw_below_drewN | apply below_drew1 | refine below_set ?_ GE224.out) | exact HB.out)) hb); (try clear hb); (try clear hb2); (try clear hk); (try clear hi)))
       go_ret
       exact ⟨rfl, HB.out⟩
      ·rw [if_neg c74] at H
       exact absurd H (by simp)
end Go.Proofs.YtamfloegflejnaaGreatDoor
