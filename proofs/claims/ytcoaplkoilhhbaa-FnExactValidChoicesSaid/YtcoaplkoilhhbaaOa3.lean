/- Texts that this law leans on, several in one; written by programs of these sessions (print, wip/deep, gather.py). -/
import Derived.Test.YtcoaplkoilhhbaaOa2
namespace Go.Proofs.Ytcoaplkoilhhbaa.P
open Go.RowKit Go.Proofs.YtcoaplkoilhhbaaW.PrintWords Go.Proofs.YtcoaplkoilhhbaaW.PrintLast Go.Proofs.YtcoaplkoilhhbaaW.PrintMore
attribute [local go_sem] max2_int min2_int max_two min_two max_three min_three max_four min_four
set_option linter.unusedVariables false
set_option linter.unusedSimpArgs false
mutual
def impl_ValidChoices.j0 : Nat → Bool → Int → List Int → List Bool → List (List (List (S59))) → List (List (List (List Int))) → List (List (List Int)) → Int → Option (Bool)
 | 0, _, _, _, _, _, _, _, _ => none
 | k + 1, x47, x243000, x243001, x243002, x243003, x243004, x243005, x245000 => if x47 = true then (some false) else (impl_ValidChoices.l0 k x245000 0 x243000 x243001 x243002 x243003 x243004 x243005 x245000)
def impl_ValidChoices.l0 : Nat → Int → Int → Int → List Int → List Bool → List (List (List (S59))) → List (List (List (List Int))) → List (List (List Int)) → Int → Option (Bool)
 | 0, _, _, _, _, _, _, _, _, _ => none
 | k + 1, x48, x49, x243000, x243001, x243002, x243003, x243004, x243005, x245000 => if x49 < x48 then (if 0 ≤ x49 then (if x49 < (x243003.length : Int) then (if ((rd_L10 x243003 x49).length : Int) = 2 then (if x49 < (x243004.length : Int) then (if ((rd_L7 x243004 x49).length : Int) = 2 then (if x49 < (x243005.length : Int) then (impl_ValidChoices.j2 k x49 x48 x49 (((rd_L6 x243005 x49).length : Int) != 2) x243000 x243001 x243002 x243003 x243004 x243005 x245000) else (none)) else (impl_ValidChoices.j2 k x49 x48 x49 true x243000 x243001 x243002 x243003 x243004 x243005 x245000)) else (none)) else (impl_ValidChoices.j2 k x49 x48 x49 true x243000 x243001 x243002 x243003 x243004 x243005 x245000)) else (none)) else (none)) else (some true)
def impl_ValidChoices.j2 : Nat → Int → Int → Int → Bool → Int → List Int → List Bool → List (List (List (S59))) → List (List (List (List Int))) → List (List (List Int)) → Int → Option (Bool)
 | 0, _, _, _, _, _, _, _, _, _, _, _ => none
 | k + 1, x4, x48, x49, x76, x243000, x243001, x243002, x243003, x243004, x243005, x245000 => if x76 = true then (some false) else (impl_ValidChoices.l1 k x4 x48 x49 0 x243000 x243001 x243002 x243003 x243004 x243005 x245000)
def impl_ValidChoices.l1 : Nat → Int → Int → Int → Int → Int → List Int → List Bool → List (List (List (S59))) → List (List (List (List Int))) → List (List (List Int)) → Int → Option (Bool)
 | 0, _, _, _, _, _, _, _, _, _, _, _ => none
 | k + 1, x4, x48, x49, x77, x243000, x243001, x243002, x243003, x243004, x243005, x245000 => if x77 < 2 then (if 0 ≤ x4 then (if x4 < (x243003.length : Int) then (if 0 ≤ x77 then (if x77 < ((rd_L10 x243003 x4).length : Int) then (impl_ValidChoices.l2 k x4 x77 x48 x49 x77 (rd_L9 (rd_L10 x243003 x4) x77) ((rd_L9 (rd_L10 x243003 x4) x77).length : Int) 0 x243000 x243001 x243002 x243003 x243004 x243005 x245000) else (none)) else (none)) else (none)) else (none)) else (impl_ValidChoices.l0 k x48 (wrap64 (x49 + 1)) x243000 x243001 x243002 x243003 x243004 x243005 x245000)
def impl_ValidChoices.l2 : Nat → Int → Int → Int → Int → Int → List (S59) → Int → Int → Int → List Int → List Bool → List (List (List (S59))) → List (List (List (List Int))) → List (List (List Int)) → Int → Option (Bool)
 | 0, _, _, _, _, _, _, _, _, _, _, _, _, _, _, _ => none
 | k + 1, x4, x5, x48, x49, x77, x87, x88, x89, x243000, x243001, x243002, x243003, x243004, x243005, x245000 => if x89 < x88 then (if 0 ≤ x89 then (if x89 < (x87.length : Int) then ((impl_within.f ((rd_T59 x87 x89).f0) 0 (wrap64 (x245000 - 1))).bind fun t258 => (if t258 = true then ((impl_within.f ((rd_T59 x87 x89).f1) 0 (wrap64 (x243000 - 1))).bind fun t259 => (if t259 = true then (if x89 > 0 then (if 0 ≤ x4 then (if x4 < (x243003.length : Int) then (if 0 ≤ x5 then (if x5 < ((rd_L10 x243003 x4).length : Int) then (if 0 ≤ (wrap64 (x89 - 1)) then (if (wrap64 (x89 - 1)) < ((rd_L9 (rd_L10 x243003 x4) x5).length : Int) then ((impl_comparePushes.f k ((rd_T59 (rd_L9 (rd_L10 x243003 x4) x5) (wrap64 (x89 - 1))).f0) ((rd_T59 (rd_L9 (rd_L10 x243003 x4) x5) (wrap64 (x89 - 1))).f1) ((rd_T59 x87 x89).f0) ((rd_T59 x87 x89).f1)).bind fun t263 => (impl_ValidChoices.j5 k x4 x5 x48 x49 x77 x87 x88 x89 (decide (t263 ≥ 0)) x243000 x243001 x243002 x243003 x243004 x243005 x245000)) else (none)) else (none)) else (none)) else (none)) else (none)) else (none)) else (impl_ValidChoices.j5 k x4 x5 x48 x49 x77 x87 x88 x89 false x243000 x243001 x243002 x243003 x243004 x243005 x245000)) else (impl_ValidChoices.j5 k x4 x5 x48 x49 x77 x87 x88 x89 true x243000 x243001 x243002 x243003 x243004 x243005 x245000))) else (impl_ValidChoices.j5 k x4 x5 x48 x49 x77 x87 x88 x89 true x243000 x243001 x243002 x243003 x243004 x243005 x245000))) else (none)) else (none)) else (if 0 ≤ x4 then (if x4 < (x243005.length : Int) then (if 0 ≤ x5 then (if x5 < ((rd_L6 x243005 x4).length : Int) then ((impl_isRising.f k (rd_L5 (rd_L6 x243005 x4) x5) x245000).bind fun t266 => (if t266 = true then (if x4 < (x243004.length : Int) then (if x5 < ((rd_L7 x243004 x4).length : Int) then ((impl_size_Lint64.f (rd_L6 (rd_L7 x243004 x4) x5)).bind fun t269 => (if t269 = (wrap64 (x243000 + 1)) then ((slices_ContainsFunc_LLint64_Lint64_at_impl_ValidChoices_1.f k (rd_L6 (rd_L7 x243004 x4) x5) x245000).bind fun t272 => (impl_ValidChoices.j6 k x4 x48 x49 x77 t272 x243000 x243001 x243002 x243003 x243004 x243005 x245000)) else (impl_ValidChoices.j6 k x4 x48 x49 x77 true x243000 x243001 x243002 x243003 x243004 x243005 x245000))) else (none)) else (none)) else (impl_ValidChoices.j6 k x4 x48 x49 x77 true x243000 x243001 x243002 x243003 x243004 x243005 x245000))) else (none)) else (none)) else (none)) else (none))
def impl_ValidChoices.j5 : Nat → Int → Int → Int → Int → Int → List (S59) → Int → Int → Bool → Int → List Int → List Bool → List (List (List (S59))) → List (List (List (List Int))) → List (List (List Int)) → Int → Option (Bool)
 | 0, _, _, _, _, _, _, _, _, _, _, _, _, _, _, _, _ => none
 | k + 1, x4, x5, x48, x49, x77, x87, x88, x89, x129, x243000, x243001, x243002, x243003, x243004, x243005, x245000 => if x129 = true then (some false) else (impl_ValidChoices.l2 k x4 x5 x48 x49 x77 x87 x88 (wrap64 (x89 + 1)) x243000 x243001 x243002 x243003 x243004 x243005 x245000)
def impl_ValidChoices.j6 : Nat → Int → Int → Int → Int → Bool → Int → List Int → List Bool → List (List (List (S59))) → List (List (List (List Int))) → List (List (List Int)) → Int → Option (Bool)
 | 0, _, _, _, _, _, _, _, _, _, _, _, _ => none
 | k + 1, x4, x48, x49, x77, x168, x243000, x243001, x243002, x243003, x243004, x243005, x245000 => if x168 = true then (some false) else (impl_ValidChoices.l1 k x4 x48 x49 (wrap64 (x77 + 1)) x243000 x243001 x243002 x243003 x243004 x243005 x245000)
end
def impl_ValidChoices.f (k : Nat) (a0_0 : Int) (l0_1 : List Int) (l0_2 : List Bool) (l0_3 : List (List (List (S59)))) (l0_4 : List (List (List (List Int)))) (l0_5 : List (List (List Int))) : Option (Bool) := (impl_size_bool.f l0_2).bind fun t243 => ((impl_within.f t243 1 5).bind fun t245 => (if t245 = true then ((impl_within.f a0_0 1 4).bind fun t246 => (if t246 = true then ((impl_isRising.f k l0_1 t243).bind fun t247 => (if t247 = true then ((impl_size_LLimpl_Push.f l0_3).bind fun t248 => (if t248 = t243 then ((impl_size_LLLint64.f l0_4).bind fun t249 => (if t249 = t243 then ((impl_size_LLint64.f l0_5).bind fun t250 => (impl_ValidChoices.j0 k (t250 != t243) a0_0 l0_1 l0_2 l0_3 l0_4 l0_5 t243)) else (impl_ValidChoices.j0 k true a0_0 l0_1 l0_2 l0_3 l0_4 l0_5 t243))) else (impl_ValidChoices.j0 k true a0_0 l0_1 l0_2 l0_3 l0_4 l0_5 t243))) else (impl_ValidChoices.j0 k true a0_0 l0_1 l0_2 l0_3 l0_4 l0_5 t243))) else (impl_ValidChoices.j0 k true a0_0 l0_1 l0_2 l0_3 l0_4 l0_5 t243))) else (impl_ValidChoices.j0 k true a0_0 l0_1 l0_2 l0_3 l0_4 l0_5 t243)))
def impl_ValidChoices.T2 : Bool × List (List Nat × List Nat) := (true, [([], []), ([0], [0]), ([1], [1]), ([2, 1], [2]), ([3], [3]), ([4, 3], [3, 4]), ([5, 3, 3], [3, 5]), ([6, 3], [3, 6]), ([3, 7], [3, 7]), ([8, 6], [8]), ([9], [9]), ([10, 9], [9, 10]), ([9], [9]), ([11, 12, 9, 9], [9, 11, 12]), ([13, 9], [9, 13]), ([9, 14], [9, 14]), ([15, 13], [15]), ([16], [16]), ([17, 16], [16, 17]), ([18, 16, 16], [16, 18]), ([16], [16]), ([19, 20, 16], [16, 19, 20]), ([16, 21], [16, 21]), ([22, 19], [22]), ([23], [23]), ([24, 23], [23, 24]), ([25, 23, 23], [23, 25]), ([23], [23]), ([26, 27, 23], [23, 26, 27]), ([23, 28], [23, 28]), ([29, 26], [29]), ([30], [30]), ([31, 30], [30, 31]), ([32, 30, 30], [30, 32]), ([30], [30]), ([33, 34, 30], [30, 33, 34]), ([30, 35], [30, 35])])
def impl_ValidChoices.B2 : List Nat := [0, 1, 3, 7, 15, 31, 63, 127, 255, 511, 1023, 2047, 1023, 8191, 16383, 32767, 65535, 131071, 262143, 524287, 131071, 2097151, 4194303, 8388607, 16777215, 33554431, 67108863, 16777215, 268435455, 536870911, 1073741823, 2147483647, 4294967295, 8589934591, 2147483647, 34359738367, 68719476735]
theorem impl_ValidChoices.tab2 : rtab .any (opsOf Try.f7 2) = impl_ValidChoices.T2 := by kernel_rfl
theorem impl_ValidChoices.bits2 : waitsOk impl_ValidChoices.T2.2 impl_ValidChoices.B2 = true := by kernel_rfl
def impl_ValidChoices.T15 : Bool × List (List Nat × List Nat) := (true, [([], []), ([0], [0]), ([], []), ([2], [2]), ([1, 3], [1, 3]), ([4], [4]), ([5, 4], [5]), ([6], [6]), ([7, 6], [6, 7]), ([6], [6]), ([9, 6], [6, 9]), ([10, 6], [6, 10]), ([8, 11, 6, 6], [6, 8, 11]), ([12, 6], [6, 12]), ([6, 13], [6, 13]), ([14, 12], [14]), ([15], [15]), ([16, 15], [15, 16]), ([17, 15, 15], [15, 17]), ([18], [18]), ([19, 18], [18, 19]), ([18], [18]), ([20, 21, 18], [18, 20, 21]), ([22, 18], [18, 22]), ([18], [18]), ([23, 24, 18], [18, 23, 24]), ([25, 18], [18, 25]), ([18], [18]), ([27, 18], [18, 27]), ([26, 28, 18], [18, 26, 28]), ([29, 18], [18, 29]), ([18], [18]), ([30, 31, 18, 18], [18, 30, 31]), ([32, 18], [18, 32]), ([18, 33, 15], [15, 18, 33]), ([15, 34], [15, 34])])
def impl_ValidChoices.B15 : List Nat := [0, 1, 0, 4, 15, 31, 63, 127, 255, 127, 639, 1663, 4095, 8191, 16383, 32767, 65535, 131071, 262143, 524287, 1048575, 524287, 4194303, 8388607, 524287, 33554431, 67108863, 524287, 134742015, 536870911, 1073741823, 524287, 4294967295, 8589934591, 17179869183, 34359738367]
theorem impl_ValidChoices.tab15 : rtab .any (opsOf Try.f7 15) = impl_ValidChoices.T15 := by kernel_rfl
theorem impl_ValidChoices.bits15 : waitsOk impl_ValidChoices.T15.2 impl_ValidChoices.B15 = true := by kernel_rfl
def impl_ValidChoices.T18 : Bool × List (List Nat × List Nat) := (true, [([], []), ([0], [0]), ([], []), ([1, 2], [1, 2]), ([3], [3]), ([], []), ([4, 5], [4, 5]), ([6], [6]), ([], []), ([7, 8], [7, 8]), ([9], [9]), ([10, 9], [10]), ([11], [11]), ([12, 11], [11, 12]), ([11], [11]), ([13, 14, 11], [11, 13, 14]), ([15, 11], [11, 15]), ([11], [11]), ([16, 17, 11], [11, 16, 17]), ([18, 11], [11, 18]), ([19, 11, 11], [11, 19]), ([11], [11]), ([21, 11], [11, 21]), ([22, 11], [11, 22]), ([20, 23, 11], [11, 20, 23]), ([11, 24], [11, 24]), ([25, 20], [25]), ([26], [26]), ([27, 26], [26, 27]), ([26], [26]), ([28, 29, 26], [26, 28, 29]), ([30, 26], [26, 30]), ([26], [26]), ([31, 32, 26], [26, 31, 32]), ([33, 26], [26, 33]), ([26], [26]), ([34, 35, 26, 26], [26, 34, 35]), ([26, 36], [26, 36])])
def impl_ValidChoices.B18 : List Nat := [0, 1, 0, 7, 15, 0, 63, 127, 0, 511, 1023, 2047, 4095, 8191, 4095, 32767, 65535, 4095, 262143, 524287, 1048575, 4095, 2101247, 6295551, 16777215, 33554431, 67108863, 134217727, 268435455, 134217727, 1073741823, 2147483647, 134217727, 8589934591, 17179869183, 134217727, 68719476735, 137438953471]
theorem impl_ValidChoices.tab18 : rtab .any (opsOf Try.f7 18) = impl_ValidChoices.T18 := by kernel_rfl
theorem impl_ValidChoices.bits18 : waitsOk impl_ValidChoices.T18.2 impl_ValidChoices.B18 = true := by kernel_rfl
def impl_ValidChoices.cz0 : List Nat := [2, 3, 4, 405]
def impl_ValidChoices.cz1 : List Nat := [7, 8, 9, 10, 411, 412]
def impl_ValidChoices.cz2 : List Nat := [14, 15, 16, 17, 418, 420]
def impl_ValidChoices.cz3 : List Nat := [21, 22, 23, 24, 425, 427]
def impl_ValidChoices.cz4 : List Nat := [28, 29, 30, 31, 432, 434]
def impl_ValidChoices.cz5 : List Nat := [35, 36]
def impl_ValidChoices.cz6 : List Nat := [28, 29, 30, 231, 232, 233, 234, 235, 36]
def impl_ValidChoices.cz7 : List Nat := [21, 22, 23, 224, 225, 226, 227, 228, 29, 30, 231, 232, 233, 234, 235, 36]
def impl_ValidChoices.cz8 : List Nat := [14, 15, 16, 217, 218, 219, 220, 221, 22, 23, 224, 225, 226, 227, 228, 29, 30, 231, 232, 233, 234, 235, 36]
def impl_ValidChoices.cz9 : List Nat := [7, 8, 9, 210, 211, 212, 213, 214, 15, 16, 217, 218, 219, 220, 221, 22, 23, 224, 225, 226, 227, 228, 29, 30, 231, 232, 233, 234, 235, 36]
def impl_ValidChoices.cz10 : List Nat := [2, 3, 204, 205, 206, 207, 8, 9, 210, 211, 212, 213, 214, 15, 16, 217, 218, 219, 220, 221, 22, 23, 224, 225, 226, 227, 228, 29, 30, 231, 232, 233, 234, 235, 36]
def impl_ValidChoices.cz11 : List Nat := [0, 401, 402, 3]
def impl_ValidChoices.cz12 : List Nat := [5, 6, 7, 9, 408, 410, 11]
def impl_ValidChoices.cz13 : List Nat := [13, 14, 15, 16, 17, 18, 19, 21, 24, 27, 28, 420, 22, 423, 25, 426, 29, 430, 431]
def impl_ValidChoices.cz14 : List Nat := [33, 34, 35]
def impl_ValidChoices.cz15 : List Nat := [13, 14, 15, 16, 17, 18, 219, 220, 221, 222, 223, 224, 225, 226, 227, 228, 229, 230, 231, 232, 233, 34, 35]
def impl_ValidChoices.cz16 : List Nat := [13, 14, 15, 216, 217, 218, 219, 220, 221, 222, 223, 224, 225, 226, 227, 228, 229, 230, 231, 232, 233, 234, 35]
def impl_ValidChoices.cz17 : List Nat := [5, 6, 207, 208, 209, 210, 211, 212, 213, 14, 15, 216, 217, 218, 219, 220, 221, 222, 223, 224, 225, 226, 227, 228, 229, 230, 231, 232, 233, 234, 35]
def impl_ValidChoices.cz18 : List Nat := [0, 2, 5, 401, 3, 404, 6, 407, 408]
def impl_ValidChoices.cz19 : List Nat := [10, 11, 12, 14, 17, 21, 413, 15, 416, 18, 419, 422, 23]
def impl_ValidChoices.cz20 : List Nat := [24, 25, 26, 27, 29, 32, 35, 428, 30, 431, 33, 434]
def impl_ValidChoices.cz21 : List Nat := [24, 25, 26, 227, 228, 229, 230, 231, 232, 233, 234, 235, 236, 37]
def impl_ValidChoices.cz22 : List Nat := [10, 11, 212, 213, 214, 215, 216, 217, 218, 219, 220, 221, 222, 223, 224, 25, 26, 227, 228, 229, 230, 231, 232, 233, 234, 235, 236, 37]
set_option maxHeartbeats 8000000 in
set_option maxRecDepth 100000 in
theorem impl_ValidChoices.calls (k : Nat) (a0_0 : Int) (A0_1 : Option Addr) (c0_1 : Nat) (l0_1 : List Int) (A0_2 : Option Addr) (c0_2 : Nat) (l0_2 : List Bool) (A0_3 : Option Addr) (c0_3 : Nat) (l0_3 : List (List (List (S59)))) (A0_4 : Option Addr) (c0_4 : Nat) (l0_4 : List (List (List (List Int)))) (A0_5 : Option Addr) (c0_5 : Nat) (l0_5 : List (List (List Int))) (r : Bool) (w : World) (hr0_1 : Kd.C (Kd.int .i64) w A0_1 l0_1.length l0_1) (hc0_1 : l0_1.length ≤ c0_1) (hr0_2 : Kd.C Kd.bool w A0_2 l0_2.length l0_2) (hc0_2 : l0_2.length ≤ c0_2) (hr0_3 : Kd.C (Kd.slice 57 (Kd.slice 59 k59)) w A0_3 l0_3.length l0_3) (hc0_3 : l0_3.length ≤ c0_3) (hr0_4 : Kd.C (Kd.slice 56 (Kd.slice 22 (Kd.slice 2 (Kd.int .i64)))) w A0_4 l0_4.length l0_4) (hc0_4 : l0_4.length ≤ c0_4) (hr0_5 : Kd.C (Kd.slice 22 (Kd.slice 2 (Kd.int .i64))) w A0_5 l0_5.length l0_5) (hc0_5 : l0_5.length ≤ c0_5) (h : impl_ValidChoices.f k a0_0 l0_1 l0_2 l0_3 l0_4 l0_5 = some r) :
  Calls Try.prog 7 #[.agg #[.int .i64 a0_0, .slice A0_1 l0_1.length c0_1, .slice A0_2 l0_2.length c0_2, .slice A0_3 l0_3.length c0_3, .slice A0_4 l0_4.length c0_4, .slice A0_5 l0_5.length c0_5]] w fun e w' => e = .returned (.bool r) ∧ Below w.heap.size w w' := by
 have hu33 := Try.underlying33
 have hu59 := Try.underlying59
 have HR0_1 := AZ.mk hr0_1
 have HC0_1 := AZ.mk hc0_1
 clear hr0_1 hc0_1
 have HR0_2 := AZ.mk hr0_2
 have HC0_2 := AZ.mk hc0_2
 clear hr0_2 hc0_2
 have HR0_3 := AZ.mk hr0_3
 have HC0_3 := AZ.mk hc0_3
 clear hr0_3 hc0_3
 have HR0_4 := AZ.mk hr0_4
 have HC0_4 := AZ.mk hc0_4
 clear hr0_4 hc0_4
 have HR0_5 := AZ.mk hr0_5
 have HC0_5 := AZ.mk hc0_5
 clear hr0_5 hc0_5
 have HB := AZ.mk (Below.refl w.heap.size w)
 have H : ((impl_size_bool.f l0_2).bind fun t243 => ((impl_within.f t243 1 5).bind fun t245 => (if t245 = true then ((impl_within.f a0_0 1 4).bind fun t246 => (if t246 = true then ((impl_isRising.f k l0_1 t243).bind fun t247 => (if t247 = true then ((impl_size_LLimpl_Push.f l0_3).bind fun t248 => (if t248 = t243 then ((impl_size_LLLint64.f l0_4).bind fun t249 => (if t249 = t243 then ((impl_size_LLint64.f l0_5).bind fun t250 => (impl_ValidChoices.j0 k (t250 != t243) a0_0 l0_1 l0_2 l0_3 l0_4 l0_5 t243)) else (impl_ValidChoices.j0 k true a0_0 l0_1 l0_2 l0_3 l0_4 l0_5 t243))) else (impl_ValidChoices.j0 k true a0_0 l0_1 l0_2 l0_3 l0_4 l0_5 t243))) else (impl_ValidChoices.j0 k true a0_0 l0_1 l0_2 l0_3 l0_4 l0_5 t243))) else (impl_ValidChoices.j0 k true a0_0 l0_1 l0_2 l0_3 l0_4 l0_5 t243))) else (impl_ValidChoices.j0 k true a0_0 l0_1 l0_2 l0_3 l0_4 l0_5 t243)))) = some r := h
 clear h
 replace H := Option.bind_eq_some_iff.mp H
 obtain ⟨t243, A20, H⟩ := H
 replace H : ((impl_within.f t243 1 5).bind fun t245 => (if t245 = true then ((impl_within.f a0_0 1 4).bind fun t246 => (if t246 = true then ((impl_isRising.f k l0_1 t243).bind fun t247 => (if t247 = true then ((impl_size_LLimpl_Push.f l0_3).bind fun t248 => (if t248 = t243 then ((impl_size_LLLint64.f l0_4).bind fun t249 => (if t249 = t243 then ((impl_size_LLint64.f l0_5).bind fun t250 => (impl_ValidChoices.j0 k (t250 != t243) a0_0 l0_1 l0_2 l0_3 l0_4 l0_5 t243)) else (impl_ValidChoices.j0 k true a0_0 l0_1 l0_2 l0_3 l0_4 l0_5 t243))) else (impl_ValidChoices.j0 k true a0_0 l0_1 l0_2 l0_3 l0_4 l0_5 t243))) else (impl_ValidChoices.j0 k true a0_0 l0_1 l0_2 l0_3 l0_4 l0_5 t243))) else (impl_ValidChoices.j0 k true a0_0 l0_1 l0_2 l0_3 l0_4 l0_5 t243))) else (impl_ValidChoices.j0 k true a0_0 l0_1 l0_2 l0_3 l0_4 l0_5 t243))) = some r := H
 have A2 := AZ.mk A20
 clear A20
 have HC3 := AZ.mk H
 clear H
 go_enter Try.func7, Try.ntmps7
 go_upto_region 2 with (first | ((with_reducible refine gate_dst (N := 1) rfl ?_); (try (refine gate_guard (by rfl) ?_; dsimp only)); refine box_event ?hg (N := 1) ?hd (cs := #[.int .i64 a0_0, .slice A0_1 l0_1.length c0_1, .slice A0_2 l0_2.length c0_2, .slice A0_3 l0_3.length c0_3, .slice A0_4 l0_4.length c0_4, .slice A0_5 l0_5.length c0_5]) (t := 33) ?hr ?_; (case hd => rfl); (case hg => rfl); (case hr => first | (go_simp; done) | (go_simp; rfl)); intro gb242 hg w4 hbox hb; have n0_ := AZ.mk (pT (by repeat (first | (with_reducible first | exact HB.out | apply pA | apply pN | apply pD) | exact HB.out)) hb); have n1_ := AZ.mk (hbox); have n2_ := AZ.mk ((by rw [hg]; exact (pZ (by repeat (first | (with_reducible first | exact HB.out | apply pA | apply pN | apply pD) | exact HB.out))) : w.heap.size ≤ gb242)); have n3_ := AZ.mk ((by rw [hg]; exact (pZ (by repeat (first | (with_reducible first | exact HB.out | apply pA | apply pN | apply pD) | exact HB.out))) : w.heap.size ≤ gb242)); clear HB; have HB := n0_; have BK242 := n1_; have GW242 := n2_; have GE242 := n3_; clear n0_ n1_ n2_ n3_; clear hb hbox hg; obtain ⟨hcz5_0, hcz5_1, hcz5_2, hcz5_3, hcz5_4, hcz5_5⟩ := c6 BK242.out; obtain ⟨hfz5_0, hfz5_1, hfz5_2, hfz5_3, hfz5_4, hfz5_5⟩ := f6 BK242.out) | ((with_reducible refine gate_callee (f := 20) rfl ?_); refine goesL_ (some 10) rfl rfl Try.func20 (by kernel_rfl) rfl #[.slice A0_2 l0_2.length c0_2] rfl (by (try simp only [List.map_toArray, List.map_cons, List.map_nil]); first | done | rfl | (simp only [List.length_drop, List.length_take]; rfl)) ?_; (with_reducible refine (impl_size_bool.calls _ _ l0_2 t243 _ ?side1 ?side2 A2.out).mono ?_); (case side1 => repeat (first | exact (Kd.C_below HR0_2.out HB.out) | (with_reducible refine Kd.C_alloc ?_ _) | (with_reducible refine Kd.C_drewN ?_ _) | (with_reducible refine Kd.C_drew ?_))); (case side2 => exact HC0_2.out); rintro e w' ⟨rfl, ⟨nd, rfl⟩⟩; refine ⟨_, rfl, ?_⟩; (try (rw [drewN_self w4]; generalize hq_ : World.drewN w4 _ = w4; have n0_ : AZ (w4.heap[gb242]? = some (.cells #[.int .i64 a0_0, .slice A0_1 l0_1.length c0_1, .slice A0_2 l0_2.length c0_2, .slice A0_3 l0_3.length c0_3, .slice A0_4 l0_4.length c0_4, .slice A0_5 l0_5.length c0_5] 33 (0, 0))) := ⟨by rw [← hq_]; exact (by (with_reducible repeat (first | refine bn_ ?_ _ | refine bd_ ?_ | refine ba_ ?_ _)); exact BK242.out)⟩; have n1_ : AZ (Below w.heap.size w w4) := ⟨by rw [← hq_]; exact (by repeat (first | (with_reducible first | exact HB.out | apply pA | apply pN | apply pD | refine pS ?_ GE242.out) | exact HB.out))⟩; clear BK242 HB hq_; have BK242 := n0_; have HB := n1_; clear n0_ n1_))) | ((with_reducible refine gate_dst (N := 3) rfl ?_); (try (refine gate_guard (by rfl) ?_; dsimp only)); refine box_event ?hg (N := 3) ?hd (cs := #[.int .i64 0]) (t := 2) ?hr ?_; (case hd => rfl); (case hg => rfl); (case hr => first | (go_simp; done) | (go_simp; rfl)); intro gb244 hg w6 hbox hb; have n0_ := AZ.mk (bb_ (g := gb242) (o := .cells #[.int .i64 a0_0, .slice A0_1 l0_1.length c0_1, .slice A0_2 l0_2.length c0_2, .slice A0_3 l0_3.length c0_3, .slice A0_4 l0_4.length c0_4, .slice A0_5 l0_5.length c0_5] 33 (0, 0)) (by (with_reducible repeat (first | refine bn_ ?_ _ | refine bd_ ?_ | refine ba_ ?_ _)); exact BK242.out) hb); have n1_ := AZ.mk (pT (by repeat (first | (with_reducible first | exact HB.out | apply pA | apply pN | apply pD | refine pS ?_ GE242.out) | exact HB.out)) hb); have n2_ := AZ.mk (hbox); have n3_ := AZ.mk ((by rw [hg]; exact (pZ (by repeat (first | (with_reducible first | exact HB.out | apply pA | apply pN | apply pD | refine pS ?_ GE242.out) | exact HB.out))) : w.heap.size ≤ gb244)); have n4_ := AZ.mk ((by rw [hg]; exact (pZ (by repeat (first | (with_reducible first | exact HB.out | apply pA | apply pN | apply pD | refine pS ?_ GE242.out) | exact HB.out))) : w.heap.size ≤ gb244)); have n5_ := AZ.mk ((by rw [hg]; exact Nat.ne_of_lt (blk_lt (g := gb242) (o := .cells #[.int .i64 a0_0, .slice A0_1 l0_1.length c0_1, .slice A0_2 l0_2.length c0_2, .slice A0_3 l0_3.length c0_3, .slice A0_4 l0_4.length c0_4, .slice A0_5 l0_5.length c0_5] 33 (0, 0)) (by (with_reducible repeat (first | refine bn_ ?_ _ | refine bd_ ?_ | refine ba_ ?_ _)); exact BK242.out)) : gb242 ≠ gb244)); have n6_ := AZ.mk ((by rw [hg]; exact Nat.ne_of_gt (blk_lt (g := gb242) (o := .cells #[.int .i64 a0_0, .slice A0_1 l0_1.length c0_1, .slice A0_2 l0_2.length c0_2, .slice A0_3 l0_3.length c0_3, .slice A0_4 l0_4.length c0_4, .slice A0_5 l0_5.length c0_5] 33 (0, 0)) (by (with_reducible repeat (first | refine bn_ ?_ _ | refine bd_ ?_ | refine ba_ ?_ _)); exact BK242.out)) : gb244 ≠ gb242)); clear BK242; clear HB; have BK242 := n0_; have HB := n1_; have BK244 := n2_; have GW244 := n3_; have GE244 := n4_; have NB242_244 := n5_; have NB244_242 := n6_; clear n0_ n1_ n2_ n3_ n4_ n5_ n6_; clear hb hbox hg; have hnb7 := NB244_242.out; have hnc7 := NB242_244.out; have hcz8_0 : w6.cell? ⟨gb244, 0, none⟩ = some (.int .i64 0) := (bc BK244.out 0).trans rfl; have hfz8_0 := bf BK244.out 0))
 (try simp only [Act.put, sA, sB, sC])
 go_cut [47] (fun v47 wc => ∃ (kq : Nat) (x47_2 : Bool), v47 = .bool x47_2 ∧ AZ (impl_ValidChoices.j0 kq x47_2 a0_0 l0_1 l0_2 l0_3 l0_4 l0_5 t243 = some r) ∧ AZ (kq ≤ k) ∧ AZ (wc.heap[gb242]? = some (.cells #[.int .i64 a0_0, (.slice A0_1 l0_1.length c0_1), (.slice A0_2 l0_2.length c0_2), (.slice A0_3 l0_3.length c0_3), (.slice A0_4 l0_4.length c0_4), (.slice A0_5 l0_5.length c0_5)] 33 (0, 0))) ∧ AZ (wc.heap[gb244]? = some (.cells #[.int .i64 t243] 2 (0, 0))) ∧ AZ (Below w.heap.size w wc))
 case first =>
  have H := HC3.out
  clear HC3
  replace H := Option.bind_eq_some_iff.mp H
  obtain ⟨t245, A90, H⟩ := H
  replace H : (if t245 = true then ((impl_within.f a0_0 1 4).bind fun t246 => (if t246 = true then ((impl_isRising.f k l0_1 t243).bind fun t247 => (if t247 = true then ((impl_size_LLimpl_Push.f l0_3).bind fun t248 => (if t248 = t243 then ((impl_size_LLLint64.f l0_4).bind fun t249 => (if t249 = t243 then ((impl_size_LLint64.f l0_5).bind fun t250 => (impl_ValidChoices.j0 k (t250 != t243) a0_0 l0_1 l0_2 l0_3 l0_4 l0_5 t243)) else (impl_ValidChoices.j0 k true a0_0 l0_1 l0_2 l0_3 l0_4 l0_5 t243))) else (impl_ValidChoices.j0 k true a0_0 l0_1 l0_2 l0_3 l0_4 l0_5 t243))) else (impl_ValidChoices.j0 k true a0_0 l0_1 l0_2 l0_3 l0_4 l0_5 t243))) else (impl_ValidChoices.j0 k true a0_0 l0_1 l0_2 l0_3 l0_4 l0_5 t243))) else (impl_ValidChoices.j0 k true a0_0 l0_1 l0_2 l0_3 l0_4 l0_5 t243)) = some r := H
  have A9 := AZ.mk A90
  clear A90
  by_cases c10 : t245 = true
  rotate_left
  ·as_aux_lemma =>
   replace c10 := Bool.eq_false_iff.mpr c10
   subst c10
   have H1 : (impl_ValidChoices.j0 k true a0_0 l0_1 l0_2 l0_3 l0_4 l0_5 t243) = some r := by rw [if_neg (show ¬ (false = true) by decide)] at H; exact H
   clear H
   have H := H1
   clear H1
   have H' := AZ.mk H
   clear H
   try go_wp2
   have n0_ : AZ ((w6.setCell ⟨gb244, 0, none⟩ (.int .i64 t243)).heap[gb242]? = some (.cells #[.int .i64 a0_0, .slice A0_1 l0_1.length c0_1, .slice A0_2 l0_2.length c0_2, .slice A0_3 l0_3.length c0_3, .slice A0_4 l0_4.length c0_4, .slice A0_5 l0_5.length c0_5] 33 (0, 0))) := ⟨by (with_reducible repeat (first | refine bn_ ?_ _ | refine bd_ ?_ | refine ba_ ?_ _)); refine blk_far ?_ NB242_244.out _; (with_reducible repeat (first | refine bn_ ?_ _ | refine bd_ ?_ | refine ba_ ?_ _)); exact BK242.out⟩
   have n1_ : AZ ((w6.setCell ⟨gb244, 0, none⟩ (.int .i64 t243)).heap[gb244]? = some (.cells #[.int .i64 t243] 2 (0, 0))) := ⟨by (with_reducible repeat (first | refine bn_ ?_ _ | refine bd_ ?_ | refine ba_ ?_ _)); refine blk_put (cs := #[.int .i64 0]) ?_ 0 _ rfl; (with_reducible repeat (first | refine bn_ ?_ _ | refine bd_ ?_ | refine ba_ ?_ _)); exact BK244.out⟩
   have n2_ : AZ (Below w.heap.size w (w6.setCell ⟨gb244, 0, none⟩ (.int .i64 t243))) := ⟨by repeat (first | (with_reducible first | exact HB.out | apply pA | apply pN | apply pD | refine pS ?_ GE242.out | refine pS ?_ GE244.out) | exact HB.out)⟩
   (try clear BK242)
   (try clear BK244)
   (try clear HB)
   generalize (w6.setCell ⟨gb244, 0, none⟩ (.int .i64 t243)) = w30 at n0_ n1_ n2_ ⊢
   have BK242 := n0_
   have BK244 := n1_
   have HB := n2_
   clear n0_ n1_ n2_
   have n0_ := AZ.mk (bd_ BK242.out)
   have n1_ := AZ.mk (bd_ BK244.out)
   have n2_ := AZ.mk (pD HB.out)
   clear BK242
   clear BK244
   clear HB
   have BK242 := n0_
   have BK244 := n1_
   have HB := n2_
   clear n0_ n1_ n2_
   refine start_ (n := 37) (S := fun w' => w'.cell? ⟨gb244, 0, none⟩ = some (.int .i64 t243)) (ds := []) (bz 37 0) (by kernel_rfl) rfl rfl ((bc BK244.out 0).trans rfl) (fun hHeld => ?_); refine with_tabW impl_ValidChoices.tab2 impl_ValidChoices.bits2 (fun HT_ HW_ => ?_)
   generalize w30.drew = w31 at BK242 BK244 HB hHeld ⊢
   refine take_ (i := 0) (N := some 11) (v := ?_) (a' := ?_) (bz 37 1) rfl rfl (take_ofW HT_.out HW_.out (by kernel_rfl)) (fun _ _ _ h => h) (Or.inl ⟨by rfl, ?_⟩) hHeld ?_ ?_
   rotate_left
   ·intro w' s0
    go_simp
    with_reducible rfl
   rotate_left
   ·simp only [Act.put, sA, sB, sC, i64_w, i32_w]
    rfl
   refine one_ (i := 1) (N := some 12) (bz 37 3) rfl rfl (one_of HT_.out (by kernel_rfl)) (by decide) (fun K hK => ?_)
   refine goes_ Try.func21 (by kernel_rfl) rfl #[.int .i64 t243, .int .i64 1, .int .i64 5] (by rfl) rfl rfl (by (try simp only [List.map_toArray, List.map_cons, List.map_nil]); first | done | rfl | (simp only [List.length_drop, List.length_take]; rfl)) ?_
   with_reducible refine (impl_within.calls t243 1 5 false _ A9.out).mono ?_
   rintro e w' ⟨rfl, ⟨nd, rfl⟩⟩
   refine ⟨_, rfl, ?_⟩
   refine hK.out _ _ ((bc BK244.out 0).trans rfl) (fun hHeld => ?_)
   clear hK K
   refine norm_ (a' := ?_) ?_ ?_
   rotate_left
   ·show Act.put _ (some 12) _ = _
    simp only [Act.put, sA, sB, sC, i64_w, i32_w]
    rfl
   iterate 35 (first | (refine pz_ HT_ impl_ValidChoices.cz10 rfl rfl rfl (v := ?_) (a' := ?_) (by kernel_rfl) (fun _ _ _ h => h) (Or.inl ⟨by rfl, ?_⟩) ?_ ?_; rotate_left; (intro w'; go_simp; with_reducible rfl); rotate_left; (simp only [Act.put, sA, sB, sC, i64_w, i32_w]; rfl)) | (refine uz_ HT_ impl_ValidChoices.cz10 rfl rfl rfl (v := undef) (a' := ?_) (by kernel_rfl) (fun _ _ _ h => h) (Or.inr ⟨by rfl, rfl⟩) ?_ ?_; rotate_left; (simp only [Act.put, sA, sB, sC, i64_w, i32_w]; rfl)))
   refine done_ (done_of HT_.out (by kernel_rfl)) ?_
   try go_wp2
   go_meet
   case rel => exact ⟨_, (true), (by first | rfl | (simp; done) | (simp [*]; done)), H', ⟨by first | omega | exact Nat.le_refl _⟩, ⟨by (with_reducible repeat (first | refine bn_ ?_ _ | refine bd_ ?_ | refine ba_ ?_ _)); exact BK242.out⟩, ⟨by (with_reducible repeat (first | refine bn_ ?_ _ | refine bd_ ?_ | refine ba_ ?_ _)); exact BK244.out⟩, ⟨by repeat (first | (with_reducible first | exact HB.out | apply pA | apply pN | apply pD | refine pS ?_ GE242.out | refine pS ?_ GE244.out) | exact HB.out)⟩⟩
  as_aux_lemma =>
  subst c10
  have H1 : ((impl_within.f a0_0 1 4).bind fun t246 => (if t246 = true then ((impl_isRising.f k l0_1 t243).bind fun t247 => (if t247 = true then ((impl_size_LLimpl_Push.f l0_3).bind fun t248 => (if t248 = t243 then ((impl_size_LLLint64.f l0_4).bind fun t249 => (if t249 = t243 then ((impl_size_LLint64.f l0_5).bind fun t250 => (impl_ValidChoices.j0 k (t250 != t243) a0_0 l0_1 l0_2 l0_3 l0_4 l0_5 t243)) else (impl_ValidChoices.j0 k true a0_0 l0_1 l0_2 l0_3 l0_4 l0_5 t243))) else (impl_ValidChoices.j0 k true a0_0 l0_1 l0_2 l0_3 l0_4 l0_5 t243))) else (impl_ValidChoices.j0 k true a0_0 l0_1 l0_2 l0_3 l0_4 l0_5 t243))) else (impl_ValidChoices.j0 k true a0_0 l0_1 l0_2 l0_3 l0_4 l0_5 t243))) = some r := by rw [if_pos rfl] at H; exact H
  clear H
  have H := H1
  clear H1
  replace H := Option.bind_eq_some_iff.mp H
  obtain ⟨t246, A110, H⟩ := H
  replace H : (if t246 = true then ((impl_isRising.f k l0_1 t243).bind fun t247 => (if t247 = true then ((impl_size_LLimpl_Push.f l0_3).bind fun t248 => (if t248 = t243 then ((impl_size_LLLint64.f l0_4).bind fun t249 => (if t249 = t243 then ((impl_size_LLint64.f l0_5).bind fun t250 => (impl_ValidChoices.j0 k (t250 != t243) a0_0 l0_1 l0_2 l0_3 l0_4 l0_5 t243)) else (impl_ValidChoices.j0 k true a0_0 l0_1 l0_2 l0_3 l0_4 l0_5 t243))) else (impl_ValidChoices.j0 k true a0_0 l0_1 l0_2 l0_3 l0_4 l0_5 t243))) else (impl_ValidChoices.j0 k true a0_0 l0_1 l0_2 l0_3 l0_4 l0_5 t243))) else (impl_ValidChoices.j0 k true a0_0 l0_1 l0_2 l0_3 l0_4 l0_5 t243)) = some r := H
  have A11 := AZ.mk A110
  clear A110
  by_cases c12 : t246 = true
  rotate_left
  ·as_aux_lemma =>
   replace c12 := Bool.eq_false_iff.mpr c12
   subst c12
   have H1 : (impl_ValidChoices.j0 k true a0_0 l0_1 l0_2 l0_3 l0_4 l0_5 t243) = some r := by rw [if_neg (show ¬ (false = true) by decide)] at H; exact H
   clear H
   have H := H1
   clear H1
   have H' := AZ.mk H
   clear H
   try go_wp2
   have n0_ : AZ ((w6.setCell ⟨gb244, 0, none⟩ (.int .i64 t243)).heap[gb242]? = some (.cells #[.int .i64 a0_0, .slice A0_1 l0_1.length c0_1, .slice A0_2 l0_2.length c0_2, .slice A0_3 l0_3.length c0_3, .slice A0_4 l0_4.length c0_4, .slice A0_5 l0_5.length c0_5] 33 (0, 0))) := ⟨by (with_reducible repeat (first | refine bn_ ?_ _ | refine bd_ ?_ | refine ba_ ?_ _)); refine blk_far ?_ NB242_244.out _; (with_reducible repeat (first | refine bn_ ?_ _ | refine bd_ ?_ | refine ba_ ?_ _)); exact BK242.out⟩
   have n1_ : AZ ((w6.setCell ⟨gb244, 0, none⟩ (.int .i64 t243)).heap[gb244]? = some (.cells #[.int .i64 t243] 2 (0, 0))) := ⟨by (with_reducible repeat (first | refine bn_ ?_ _ | refine bd_ ?_ | refine ba_ ?_ _)); refine blk_put (cs := #[.int .i64 0]) ?_ 0 _ rfl; (with_reducible repeat (first | refine bn_ ?_ _ | refine bd_ ?_ | refine ba_ ?_ _)); exact BK244.out⟩
   have n2_ : AZ (Below w.heap.size w (w6.setCell ⟨gb244, 0, none⟩ (.int .i64 t243))) := ⟨by repeat (first | (with_reducible first | exact HB.out | apply pA | apply pN | apply pD | refine pS ?_ GE242.out | refine pS ?_ GE244.out) | exact HB.out)⟩
   (try clear BK242)
   (try clear BK244)
   (try clear HB)
   generalize (w6.setCell ⟨gb244, 0, none⟩ (.int .i64 t243)) = w28 at n0_ n1_ n2_ ⊢
   have BK242 := n0_
   have BK244 := n1_
   have HB := n2_
   clear n0_ n1_ n2_
   have n0_ := AZ.mk (bd_ BK242.out)
   have n1_ := AZ.mk (bd_ BK244.out)
   have n2_ := AZ.mk (pD HB.out)
   clear BK242
   clear BK244
   clear HB
   have BK242 := n0_
   have BK244 := n1_
   have HB := n2_
   clear n0_ n1_ n2_
   refine start_ (n := 37) (S := fun w' => w'.cell? ⟨gb244, 0, none⟩ = some (.int .i64 t243) ∧ w'.cell? ⟨gb242, 0, none⟩ = some (.int .i64 a0_0) ∧ w'.cell? ⟨gb242, 1, none⟩ = some (.slice A0_1 l0_1.length c0_1) ∧ w'.cell? ⟨gb242, 2, none⟩ = some (.slice A0_2 l0_2.length c0_2) ∧ w'.cell? ⟨gb242, 3, none⟩ = some (.slice A0_3 l0_3.length c0_3) ∧ w'.cell? ⟨gb242, 4, none⟩ = some (.slice A0_4 l0_4.length c0_4) ∧ w'.cell? ⟨gb242, 5, none⟩ = some (.slice A0_5 l0_5.length c0_5)) (ds := []) (bz 37 0) (by kernel_rfl) rfl rfl ⟨(bc BK244.out 0).trans rfl, (bc BK242.out 0).trans rfl, (bc BK242.out 1).trans rfl, (bc BK242.out 2).trans rfl, (bc BK242.out 3).trans rfl, (bc BK242.out 4).trans rfl, (bc BK242.out 5).trans rfl⟩ (fun hHeld => ?_); refine with_tabW impl_ValidChoices.tab2 impl_ValidChoices.bits2 (fun HT_ HW_ => ?_)
   generalize w28.drew = w29 at BK242 BK244 HB hHeld ⊢
   refine take_ (i := 0) (N := some 11) (v := ?_) (a' := ?_) (bz 37 1) rfl rfl (take_ofW HT_.out HW_.out (by kernel_rfl)) (fun _ _ _ h => h) (Or.inl ⟨by rfl, ?_⟩) hHeld ?_ ?_
   rotate_left
   ·rintro w' ⟨s0, s1, s2, s3, s4, s5, s6⟩
    go_simp
    with_reducible rfl
   rotate_left
   ·simp only [Act.put, sA, sB, sC, i64_w, i32_w]
    rfl
   refine one_ (i := 1) (N := some 12) (bz 37 3) rfl rfl (one_of HT_.out (by kernel_rfl)) (by decide) (fun K hK => ?_)
   refine goes_ Try.func21 (by kernel_rfl) rfl #[.int .i64 t243, .int .i64 1, .int .i64 5] (by rfl) rfl rfl (by (try simp only [List.map_toArray, List.map_cons, List.map_nil]); first | done | rfl | (simp only [List.length_drop, List.length_take]; rfl)) ?_
   with_reducible refine (impl_within.calls t243 1 5 true _ A9.out).mono ?_
   rintro e w' ⟨rfl, ⟨nd, rfl⟩⟩
   refine ⟨_, rfl, ?_⟩
   refine hK.out _ _ ⟨(bc BK244.out 0).trans rfl, (bc BK242.out 0).trans rfl, (bc BK242.out 1).trans rfl, (bc BK242.out 2).trans rfl, (bc BK242.out 3).trans rfl, (bc BK242.out 4).trans rfl, (bc BK242.out 5).trans rfl⟩ (fun hHeld => ?_)
   clear hK K
   refine norm_ (a' := ?_) ?_ ?_
   rotate_left
   ·show Act.put _ (some 12) _ = _
    simp only [Act.put, sA, sB, sC, i64_w, i32_w]
    rfl
   iterate 4 (first | (refine pz_ HT_ impl_ValidChoices.cz0 rfl rfl rfl (v := ?_) (a' := ?_) (by kernel_rfl) (fun _ _ _ h => h) (Or.inl ⟨by rfl, ?_⟩) ?_ ?_; rotate_left; (intro w'; go_simp; with_reducible rfl); rotate_left; (simp only [Act.put, sA, sB, sC, i64_w, i32_w]; rfl)) | (refine tz_ HT_ HW_ impl_ValidChoices.cz0 rfl rfl rfl (v := ?_) (a' := ?_) (by kernel_rfl) (fun _ _ _ h => h) (Or.inl ⟨by rfl, ?_⟩) hHeld ?_ ?_; rotate_left; (rintro w' ⟨s0, s1, s2, s3, s4, s5, s6⟩; go_simp; with_reducible rfl); rotate_left; (simp only [Act.put, sA, sB, sC, i64_w, i32_w]; rfl)))
   refine one_ (i := 6) (N := some 17) (bz 37 127) rfl rfl (one_of HT_.out (by kernel_rfl)) (by decide) (fun K hK => ?_)
   refine goes_ Try.func21 (by kernel_rfl) rfl #[.int .i64 a0_0, .int .i64 1, .int .i64 4] (by rfl) rfl rfl (by (try simp only [List.map_toArray, List.map_cons, List.map_nil]); first | done | rfl | (simp only [List.length_drop, List.length_take]; rfl)) ?_
   with_reducible refine (impl_within.calls a0_0 1 4 false _ A11.out).mono ?_
   rintro e w' ⟨rfl, ⟨nd, rfl⟩⟩
   refine ⟨_, rfl, ?_⟩
   refine hK.out _ _ ⟨(bc BK244.out 0).trans rfl, (bc BK242.out 0).trans rfl, (bc BK242.out 1).trans rfl, (bc BK242.out 2).trans rfl, (bc BK242.out 3).trans rfl, (bc BK242.out 4).trans rfl, (bc BK242.out 5).trans rfl⟩ (fun hHeld => ?_)
   clear hK K
   refine norm_ (a' := ?_) ?_ ?_
   rotate_left
   ·show Act.put _ (some 17) _ = _
    simp only [Act.put, sA, sB, sC, i64_w, i32_w]
    rfl
   iterate 30 (first | (refine pz_ HT_ impl_ValidChoices.cz9 rfl rfl rfl (v := ?_) (a' := ?_) (by kernel_rfl) (fun _ _ _ h => h) (Or.inl ⟨by rfl, ?_⟩) ?_ ?_; rotate_left; (intro w'; go_simp; with_reducible rfl); rotate_left; (simp only [Act.put, sA, sB, sC, i64_w, i32_w]; rfl)) | (refine uz_ HT_ impl_ValidChoices.cz9 rfl rfl rfl (v := undef) (a' := ?_) (by kernel_rfl) (fun _ _ _ h => h) (Or.inr ⟨by rfl, rfl⟩) ?_ ?_; rotate_left; (simp only [Act.put, sA, sB, sC, i64_w, i32_w]; rfl)))
   refine done_ (done_of HT_.out (by kernel_rfl)) ?_
   try go_wp2
   go_meet
   case rel => exact ⟨_, (true), (by first | rfl | (simp; done) | (simp [*]; done)), H', ⟨by first | omega | exact Nat.le_refl _⟩, ⟨by (with_reducible repeat (first | refine bn_ ?_ _ | refine bd_ ?_ | refine ba_ ?_ _)); exact BK242.out⟩, ⟨by (with_reducible repeat (first | refine bn_ ?_ _ | refine bd_ ?_ | refine ba_ ?_ _)); exact BK244.out⟩, ⟨by repeat (first | (with_reducible first | exact HB.out | apply pA | apply pN | apply pD | refine pS ?_ GE242.out | refine pS ?_ GE244.out) | exact HB.out)⟩⟩
  as_aux_lemma =>
  subst c12
  have H1 : ((impl_isRising.f k l0_1 t243).bind fun t247 => (if t247 = true then ((impl_size_LLimpl_Push.f l0_3).bind fun t248 => (if t248 = t243 then ((impl_size_LLLint64.f l0_4).bind fun t249 => (if t249 = t243 then ((impl_size_LLint64.f l0_5).bind fun t250 => (impl_ValidChoices.j0 k (t250 != t243) a0_0 l0_1 l0_2 l0_3 l0_4 l0_5 t243)) else (impl_ValidChoices.j0 k true a0_0 l0_1 l0_2 l0_3 l0_4 l0_5 t243))) else (impl_ValidChoices.j0 k true a0_0 l0_1 l0_2 l0_3 l0_4 l0_5 t243))) else (impl_ValidChoices.j0 k true a0_0 l0_1 l0_2 l0_3 l0_4 l0_5 t243))) = some r := by rw [if_pos rfl] at H; exact H
  clear H
  have H := H1
  clear H1
  replace H := Option.bind_eq_some_iff.mp H
  obtain ⟨t247, A130, H⟩ := H
  replace H : (if t247 = true then ((impl_size_LLimpl_Push.f l0_3).bind fun t248 => (if t248 = t243 then ((impl_size_LLLint64.f l0_4).bind fun t249 => (if t249 = t243 then ((impl_size_LLint64.f l0_5).bind fun t250 => (impl_ValidChoices.j0 k (t250 != t243) a0_0 l0_1 l0_2 l0_3 l0_4 l0_5 t243)) else (impl_ValidChoices.j0 k true a0_0 l0_1 l0_2 l0_3 l0_4 l0_5 t243))) else (impl_ValidChoices.j0 k true a0_0 l0_1 l0_2 l0_3 l0_4 l0_5 t243))) else (impl_ValidChoices.j0 k true a0_0 l0_1 l0_2 l0_3 l0_4 l0_5 t243)) = some r := H
  have A13 := AZ.mk A130
  clear A130
  by_cases c14 : t247 = true
  rotate_left
  ·as_aux_lemma =>
   replace c14 := Bool.eq_false_iff.mpr c14
   subst c14
   have H1 : (impl_ValidChoices.j0 k true a0_0 l0_1 l0_2 l0_3 l0_4 l0_5 t243) = some r := by rw [if_neg (show ¬ (false = true) by decide)] at H; exact H
   clear H
   have H := H1
   clear H1
   have H' := AZ.mk H
   clear H
   try go_wp2
   have n0_ : AZ ((w6.setCell ⟨gb244, 0, none⟩ (.int .i64 t243)).heap[gb242]? = some (.cells #[.int .i64 a0_0, .slice A0_1 l0_1.length c0_1, .slice A0_2 l0_2.length c0_2, .slice A0_3 l0_3.length c0_3, .slice A0_4 l0_4.length c0_4, .slice A0_5 l0_5.length c0_5] 33 (0, 0))) := ⟨by (with_reducible repeat (first | refine bn_ ?_ _ | refine bd_ ?_ | refine ba_ ?_ _)); refine blk_far ?_ NB242_244.out _; (with_reducible repeat (first | refine bn_ ?_ _ | refine bd_ ?_ | refine ba_ ?_ _)); exact BK242.out⟩
   have n1_ : AZ ((w6.setCell ⟨gb244, 0, none⟩ (.int .i64 t243)).heap[gb244]? = some (.cells #[.int .i64 t243] 2 (0, 0))) := ⟨by (with_reducible repeat (first | refine bn_ ?_ _ | refine bd_ ?_ | refine ba_ ?_ _)); refine blk_put (cs := #[.int .i64 0]) ?_ 0 _ rfl; (with_reducible repeat (first | refine bn_ ?_ _ | refine bd_ ?_ | refine ba_ ?_ _)); exact BK244.out⟩
   have n2_ : AZ (Below w.heap.size w (w6.setCell ⟨gb244, 0, none⟩ (.int .i64 t243))) := ⟨by repeat (first | (with_reducible first | exact HB.out | apply pA | apply pN | apply pD | refine pS ?_ GE242.out | refine pS ?_ GE244.out) | exact HB.out)⟩
   (try clear BK242)
   (try clear BK244)
   (try clear HB)
   generalize (w6.setCell ⟨gb244, 0, none⟩ (.int .i64 t243)) = w26 at n0_ n1_ n2_ ⊢
   have BK242 := n0_
   have BK244 := n1_
   have HB := n2_
   clear n0_ n1_ n2_
   have n0_ := AZ.mk (bd_ BK242.out)
   have n1_ := AZ.mk (bd_ BK244.out)
   have n2_ := AZ.mk (pD HB.out)
   clear BK242
   clear BK244
   clear HB
   have BK242 := n0_
   have BK244 := n1_
   have HB := n2_
   clear n0_ n1_ n2_
   refine start_ (n := 37) (S := fun w' => w'.cell? ⟨gb244, 0, none⟩ = some (.int .i64 t243) ∧ w'.cell? ⟨gb242, 0, none⟩ = some (.int .i64 a0_0) ∧ w'.cell? ⟨gb242, 1, none⟩ = some (.slice A0_1 l0_1.length c0_1) ∧ w'.cell? ⟨gb242, 2, none⟩ = some (.slice A0_2 l0_2.length c0_2) ∧ w'.cell? ⟨gb242, 3, none⟩ = some (.slice A0_3 l0_3.length c0_3) ∧ w'.cell? ⟨gb242, 4, none⟩ = some (.slice A0_4 l0_4.length c0_4) ∧ w'.cell? ⟨gb242, 5, none⟩ = some (.slice A0_5 l0_5.length c0_5)) (ds := []) (bz 37 0) (by kernel_rfl) rfl rfl ⟨(bc BK244.out 0).trans rfl, (bc BK242.out 0).trans rfl, (bc BK242.out 1).trans rfl, (bc BK242.out 2).trans rfl, (bc BK242.out 3).trans rfl, (bc BK242.out 4).trans rfl, (bc BK242.out 5).trans rfl⟩ (fun hHeld => ?_); refine with_tabW impl_ValidChoices.tab2 impl_ValidChoices.bits2 (fun HT_ HW_ => ?_)
   generalize w26.drew = w27 at BK242 BK244 HB hHeld ⊢
   refine take_ (i := 0) (N := some 11) (v := ?_) (a' := ?_) (bz 37 1) rfl rfl (take_ofW HT_.out HW_.out (by kernel_rfl)) (fun _ _ _ h => h) (Or.inl ⟨by rfl, ?_⟩) hHeld ?_ ?_
   rotate_left
   ·rintro w' ⟨s0, s1, s2, s3, s4, s5, s6⟩
    go_simp
    with_reducible rfl
   rotate_left
   ·simp only [Act.put, sA, sB, sC, i64_w, i32_w]
    rfl
   refine one_ (i := 1) (N := some 12) (bz 37 3) rfl rfl (one_of HT_.out (by kernel_rfl)) (by decide) (fun K hK => ?_)
   refine goes_ Try.func21 (by kernel_rfl) rfl #[.int .i64 t243, .int .i64 1, .int .i64 5] (by rfl) rfl rfl (by (try simp only [List.map_toArray, List.map_cons, List.map_nil]); first | done | rfl | (simp only [List.length_drop, List.length_take]; rfl)) ?_
   with_reducible refine (impl_within.calls t243 1 5 true _ A9.out).mono ?_
   rintro e w' ⟨rfl, ⟨nd, rfl⟩⟩
   refine ⟨_, rfl, ?_⟩
   refine hK.out _ _ ⟨(bc BK244.out 0).trans rfl, (bc BK242.out 0).trans rfl, (bc BK242.out 1).trans rfl, (bc BK242.out 2).trans rfl, (bc BK242.out 3).trans rfl, (bc BK242.out 4).trans rfl, (bc BK242.out 5).trans rfl⟩ (fun hHeld => ?_)
   clear hK K
   refine norm_ (a' := ?_) ?_ ?_
   rotate_left
   ·show Act.put _ (some 12) _ = _
    simp only [Act.put, sA, sB, sC, i64_w, i32_w]
    rfl
   iterate 4 (first | (refine pz_ HT_ impl_ValidChoices.cz0 rfl rfl rfl (v := ?_) (a' := ?_) (by kernel_rfl) (fun _ _ _ h => h) (Or.inl ⟨by rfl, ?_⟩) ?_ ?_; rotate_left; (intro w'; go_simp; with_reducible rfl); rotate_left; (simp only [Act.put, sA, sB, sC, i64_w, i32_w]; rfl)) | (refine tz_ HT_ HW_ impl_ValidChoices.cz0 rfl rfl rfl (v := ?_) (a' := ?_) (by kernel_rfl) (fun _ _ _ h => h) (Or.inl ⟨by rfl, ?_⟩) hHeld ?_ ?_; rotate_left; (rintro w' ⟨s0, s1, s2, s3, s4, s5, s6⟩; go_simp; with_reducible rfl); rotate_left; (simp only [Act.put, sA, sB, sC, i64_w, i32_w]; rfl)))
   refine one_ (i := 6) (N := some 17) (bz 37 127) rfl rfl (one_of HT_.out (by kernel_rfl)) (by decide) (fun K hK => ?_)
   refine goes_ Try.func21 (by kernel_rfl) rfl #[.int .i64 a0_0, .int .i64 1, .int .i64 4] (by rfl) rfl rfl (by (try simp only [List.map_toArray, List.map_cons, List.map_nil]); first | done | rfl | (simp only [List.length_drop, List.length_take]; rfl)) ?_
   with_reducible refine (impl_within.calls a0_0 1 4 true _ A11.out).mono ?_
   rintro e w' ⟨rfl, ⟨nd, rfl⟩⟩
   refine ⟨_, rfl, ?_⟩
   refine hK.out _ _ ⟨(bc BK244.out 0).trans rfl, (bc BK242.out 0).trans rfl, (bc BK242.out 1).trans rfl, (bc BK242.out 2).trans rfl, (bc BK242.out 3).trans rfl, (bc BK242.out 4).trans rfl, (bc BK242.out 5).trans rfl⟩ (fun hHeld => ?_)
   clear hK K
   refine norm_ (a' := ?_) ?_ ?_
   rotate_left
   ·show Act.put _ (some 17) _ = _
    simp only [Act.put, sA, sB, sC, i64_w, i32_w]
    rfl
   iterate 6 (first | (refine pz_ HT_ impl_ValidChoices.cz1 rfl rfl rfl (v := ?_) (a' := ?_) (by kernel_rfl) (fun _ _ _ h => h) (Or.inl ⟨by rfl, ?_⟩) ?_ ?_; rotate_left; (intro w'; go_simp; with_reducible rfl); rotate_left; (simp only [Act.put, sA, sB, sC, i64_w, i32_w]; rfl)) | (refine tz_ HT_ HW_ impl_ValidChoices.cz1 rfl rfl rfl (v := ?_) (a' := ?_) (by kernel_rfl) (fun _ _ _ h => h) (Or.inl ⟨by rfl, ?_⟩) hHeld ?_ ?_; rotate_left; (rintro w' ⟨s0, s1, s2, s3, s4, s5, s6⟩; go_simp; with_reducible rfl); rotate_left; (simp only [Act.put, sA, sB, sC, i64_w, i32_w]; rfl)))
   refine one_ (i := 13) (N := some 24) (bz 37 16383) rfl rfl (one_of HT_.out (by kernel_rfl)) (by decide) (fun K hK => ?_)
   refine goes_ Try.func22 (by kernel_rfl) rfl #[.slice A0_1 l0_1.length c0_1, .int .i64 t243] (by rfl) rfl rfl (by (try simp only [List.map_toArray, List.map_cons, List.map_nil]); first | done | rfl | (simp only [List.length_drop, List.length_take]; rfl)) ?_
   with_reducible refine (impl_isRising.calls k _ _ l0_1 t243 false _ ?side1 ?side2 A13.out).mono ?_
   (case side1 => repeat (first | exact (Kd.C_below HR0_1.out (by repeat (first | (with_reducible first | exact HB.out | apply pA | apply pN | apply pD | refine pS ?_ GE242.out | refine pS ?_ GE244.out) | exact HB.out))) | (with_reducible refine Kd.C_alloc ?_ _) | (with_reducible refine Kd.C_drewN ?_ _) | (with_reducible refine Kd.C_drew ?_)))
   (case side2 => exact HC0_1.out)
   rintro e w' ⟨rfl, ⟨nd, rfl⟩⟩
   refine ⟨_, rfl, ?_⟩
   refine hK.out _ _ ⟨(bc BK244.out 0).trans rfl, (bc BK242.out 0).trans rfl, (bc BK242.out 1).trans rfl, (bc BK242.out 2).trans rfl, (bc BK242.out 3).trans rfl, (bc BK242.out 4).trans rfl, (bc BK242.out 5).trans rfl⟩ (fun hHeld => ?_)
   clear hK K
   refine norm_ (a' := ?_) ?_ ?_
   rotate_left
   ·show Act.put _ (some 24) _ = _
    simp only [Act.put, sA, sB, sC, i64_w, i32_w]
    rfl
   iterate 23 (first | (refine pz_ HT_ impl_ValidChoices.cz8 rfl rfl rfl (v := ?_) (a' := ?_) (by kernel_rfl) (fun _ _ _ h => h) (Or.inl ⟨by rfl, ?_⟩) ?_ ?_; rotate_left; (intro w'; go_simp; with_reducible rfl); rotate_left; (simp only [Act.put, sA, sB, sC, i64_w, i32_w]; rfl)) | (refine uz_ HT_ impl_ValidChoices.cz8 rfl rfl rfl (v := undef) (a' := ?_) (by kernel_rfl) (fun _ _ _ h => h) (Or.inr ⟨by rfl, rfl⟩) ?_ ?_; rotate_left; (simp only [Act.put, sA, sB, sC, i64_w, i32_w]; rfl)))
   refine done_ (done_of HT_.out (by kernel_rfl)) ?_
   try go_wp2
   go_meet
   case rel => exact ⟨_, (true), (by first | rfl | (simp; done) | (simp [*]; done)), H', ⟨by first | omega | exact Nat.le_refl _⟩, ⟨by (with_reducible repeat (first | refine bn_ ?_ _ | refine bd_ ?_ | refine ba_ ?_ _)); exact BK242.out⟩, ⟨by (with_reducible repeat (first | refine bn_ ?_ _ | refine bd_ ?_ | refine ba_ ?_ _)); exact BK244.out⟩, ⟨by repeat (first | (with_reducible first | exact HB.out | apply pA | apply pN | apply pD | refine pS ?_ GE242.out | refine pS ?_ GE244.out) | exact HB.out)⟩⟩
  as_aux_lemma =>
  subst c14
  have H1 : ((impl_size_LLimpl_Push.f l0_3).bind fun t248 => (if t248 = t243 then ((impl_size_LLLint64.f l0_4).bind fun t249 => (if t249 = t243 then ((impl_size_LLint64.f l0_5).bind fun t250 => (impl_ValidChoices.j0 k (t250 != t243) a0_0 l0_1 l0_2 l0_3 l0_4 l0_5 t243)) else (impl_ValidChoices.j0 k true a0_0 l0_1 l0_2 l0_3 l0_4 l0_5 t243))) else (impl_ValidChoices.j0 k true a0_0 l0_1 l0_2 l0_3 l0_4 l0_5 t243))) = some r := by rw [if_pos rfl] at H; exact H
  clear H
  have H := H1
  clear H1
  replace H := Option.bind_eq_some_iff.mp H
  obtain ⟨t248, A150, H⟩ := H
  replace H : (if t248 = t243 then ((impl_size_LLLint64.f l0_4).bind fun t249 => (if t249 = t243 then ((impl_size_LLint64.f l0_5).bind fun t250 => (impl_ValidChoices.j0 k (t250 != t243) a0_0 l0_1 l0_2 l0_3 l0_4 l0_5 t243)) else (impl_ValidChoices.j0 k true a0_0 l0_1 l0_2 l0_3 l0_4 l0_5 t243))) else (impl_ValidChoices.j0 k true a0_0 l0_1 l0_2 l0_3 l0_4 l0_5 t243)) = some r := H
  have A15 := AZ.mk A150
  clear A150
  by_cases c16 : t248 = t243
  rotate_left
  ·as_aux_lemma =>
   rw [if_neg c16] at H
   have c16b0 : (t248 == t243) = false := beq_eq_false_iff_ne.mpr c16
   have c16b1 : (t248 != t243) = true := bne_iff_ne.mpr c16
   (first | rw [c16b0] | rw [c16b1] | (simp only [i64_w, i32_w]; rw [c16b0]) | skip)
   have H' := AZ.mk H
   clear H
   try go_wp2
   have n0_ : AZ ((w6.setCell ⟨gb244, 0, none⟩ (.int .i64 t243)).heap[gb242]? = some (.cells #[.int .i64 a0_0, .slice A0_1 l0_1.length c0_1, .slice A0_2 l0_2.length c0_2, .slice A0_3 l0_3.length c0_3, .slice A0_4 l0_4.length c0_4, .slice A0_5 l0_5.length c0_5] 33 (0, 0))) := ⟨by (with_reducible repeat (first | refine bn_ ?_ _ | refine bd_ ?_ | refine ba_ ?_ _)); refine blk_far ?_ NB242_244.out _; (with_reducible repeat (first | refine bn_ ?_ _ | refine bd_ ?_ | refine ba_ ?_ _)); exact BK242.out⟩
   have n1_ : AZ ((w6.setCell ⟨gb244, 0, none⟩ (.int .i64 t243)).heap[gb244]? = some (.cells #[.int .i64 t243] 2 (0, 0))) := ⟨by (with_reducible repeat (first | refine bn_ ?_ _ | refine bd_ ?_ | refine ba_ ?_ _)); refine blk_put (cs := #[.int .i64 0]) ?_ 0 _ rfl; (with_reducible repeat (first | refine bn_ ?_ _ | refine bd_ ?_ | refine ba_ ?_ _)); exact BK244.out⟩
   have n2_ : AZ (Below w.heap.size w (w6.setCell ⟨gb244, 0, none⟩ (.int .i64 t243))) := ⟨by repeat (first | (with_reducible first | exact HB.out | apply pA | apply pN | apply pD | refine pS ?_ GE242.out | refine pS ?_ GE244.out) | exact HB.out)⟩
   (try clear BK242)
   (try clear BK244)
   (try clear HB)
   generalize (w6.setCell ⟨gb244, 0, none⟩ (.int .i64 t243)) = w24 at n0_ n1_ n2_ ⊢
   have BK242 := n0_
   have BK244 := n1_
   have HB := n2_
   clear n0_ n1_ n2_
   have n0_ := AZ.mk (bd_ BK242.out)
   have n1_ := AZ.mk (bd_ BK244.out)
   have n2_ := AZ.mk (pD HB.out)
   clear BK242
   clear BK244
   clear HB
   have BK242 := n0_
   have BK244 := n1_
   have HB := n2_
   clear n0_ n1_ n2_
   refine start_ (n := 37) (S := fun w' => w'.cell? ⟨gb244, 0, none⟩ = some (.int .i64 t243) ∧ w'.cell? ⟨gb242, 0, none⟩ = some (.int .i64 a0_0) ∧ w'.cell? ⟨gb242, 1, none⟩ = some (.slice A0_1 l0_1.length c0_1) ∧ w'.cell? ⟨gb242, 2, none⟩ = some (.slice A0_2 l0_2.length c0_2) ∧ w'.cell? ⟨gb242, 3, none⟩ = some (.slice A0_3 l0_3.length c0_3) ∧ w'.cell? ⟨gb242, 4, none⟩ = some (.slice A0_4 l0_4.length c0_4) ∧ w'.cell? ⟨gb242, 5, none⟩ = some (.slice A0_5 l0_5.length c0_5)) (ds := []) (bz 37 0) (by kernel_rfl) rfl rfl ⟨(bc BK244.out 0).trans rfl, (bc BK242.out 0).trans rfl, (bc BK242.out 1).trans rfl, (bc BK242.out 2).trans rfl, (bc BK242.out 3).trans rfl, (bc BK242.out 4).trans rfl, (bc BK242.out 5).trans rfl⟩ (fun hHeld => ?_); refine with_tabW impl_ValidChoices.tab2 impl_ValidChoices.bits2 (fun HT_ HW_ => ?_)
   generalize w24.drew = w25 at BK242 BK244 HB hHeld ⊢
   refine take_ (i := 0) (N := some 11) (v := ?_) (a' := ?_) (bz 37 1) rfl rfl (take_ofW HT_.out HW_.out (by kernel_rfl)) (fun _ _ _ h => h) (Or.inl ⟨by rfl, ?_⟩) hHeld ?_ ?_
   rotate_left
   ·rintro w' ⟨s0, s1, s2, s3, s4, s5, s6⟩
    go_simp
    with_reducible rfl
   rotate_left
   ·simp only [Act.put, sA, sB, sC, i64_w, i32_w]
    rfl
   refine one_ (i := 1) (N := some 12) (bz 37 3) rfl rfl (one_of HT_.out (by kernel_rfl)) (by decide) (fun K hK => ?_)
   refine goes_ Try.func21 (by kernel_rfl) rfl #[.int .i64 t243, .int .i64 1, .int .i64 5] (by rfl) rfl rfl (by (try simp only [List.map_toArray, List.map_cons, List.map_nil]); first | done | rfl | (simp only [List.length_drop, List.length_take]; rfl)) ?_
   with_reducible refine (impl_within.calls t243 1 5 true _ A9.out).mono ?_
   rintro e w' ⟨rfl, ⟨nd, rfl⟩⟩
   refine ⟨_, rfl, ?_⟩
   refine hK.out _ _ ⟨(bc BK244.out 0).trans rfl, (bc BK242.out 0).trans rfl, (bc BK242.out 1).trans rfl, (bc BK242.out 2).trans rfl, (bc BK242.out 3).trans rfl, (bc BK242.out 4).trans rfl, (bc BK242.out 5).trans rfl⟩ (fun hHeld => ?_)
   clear hK K
   refine norm_ (a' := ?_) ?_ ?_
   rotate_left
   ·show Act.put _ (some 12) _ = _
    simp only [Act.put, sA, sB, sC, i64_w, i32_w]
    rfl
   iterate 4 (first | (refine pz_ HT_ impl_ValidChoices.cz0 rfl rfl rfl (v := ?_) (a' := ?_) (by kernel_rfl) (fun _ _ _ h => h) (Or.inl ⟨by rfl, ?_⟩) ?_ ?_; rotate_left; (intro w'; go_simp; with_reducible rfl); rotate_left; (simp only [Act.put, sA, sB, sC, i64_w, i32_w]; rfl)) | (refine tz_ HT_ HW_ impl_ValidChoices.cz0 rfl rfl rfl (v := ?_) (a' := ?_) (by kernel_rfl) (fun _ _ _ h => h) (Or.inl ⟨by rfl, ?_⟩) hHeld ?_ ?_; rotate_left; (rintro w' ⟨s0, s1, s2, s3, s4, s5, s6⟩; go_simp; with_reducible rfl); rotate_left; (simp only [Act.put, sA, sB, sC, i64_w, i32_w]; rfl)))
   refine one_ (i := 6) (N := some 17) (bz 37 127) rfl rfl (one_of HT_.out (by kernel_rfl)) (by decide) (fun K hK => ?_)
   refine goes_ Try.func21 (by kernel_rfl) rfl #[.int .i64 a0_0, .int .i64 1, .int .i64 4] (by rfl) rfl rfl (by (try simp only [List.map_toArray, List.map_cons, List.map_nil]); first | done | rfl | (simp only [List.length_drop, List.length_take]; rfl)) ?_
   with_reducible refine (impl_within.calls a0_0 1 4 true _ A11.out).mono ?_
   rintro e w' ⟨rfl, ⟨nd, rfl⟩⟩
   refine ⟨_, rfl, ?_⟩
   refine hK.out _ _ ⟨(bc BK244.out 0).trans rfl, (bc BK242.out 0).trans rfl, (bc BK242.out 1).trans rfl, (bc BK242.out 2).trans rfl, (bc BK242.out 3).trans rfl, (bc BK242.out 4).trans rfl, (bc BK242.out 5).trans rfl⟩ (fun hHeld => ?_)
   clear hK K
   refine norm_ (a' := ?_) ?_ ?_
   rotate_left
   ·show Act.put _ (some 17) _ = _
    simp only [Act.put, sA, sB, sC, i64_w, i32_w]
    rfl
   iterate 6 (first | (refine pz_ HT_ impl_ValidChoices.cz1 rfl rfl rfl (v := ?_) (a' := ?_) (by kernel_rfl) (fun _ _ _ h => h) (Or.inl ⟨by rfl, ?_⟩) ?_ ?_; rotate_left; (intro w'; go_simp; with_reducible rfl); rotate_left; (simp only [Act.put, sA, sB, sC, i64_w, i32_w]; rfl)) | (refine tz_ HT_ HW_ impl_ValidChoices.cz1 rfl rfl rfl (v := ?_) (a' := ?_) (by kernel_rfl) (fun _ _ _ h => h) (Or.inl ⟨by rfl, ?_⟩) hHeld ?_ ?_; rotate_left; (rintro w' ⟨s0, s1, s2, s3, s4, s5, s6⟩; go_simp; with_reducible rfl); rotate_left; (simp only [Act.put, sA, sB, sC, i64_w, i32_w]; rfl)))
   refine one_ (i := 13) (N := some 24) (bz 37 16383) rfl rfl (one_of HT_.out (by kernel_rfl)) (by decide) (fun K hK => ?_)
   refine goes_ Try.func22 (by kernel_rfl) rfl #[.slice A0_1 l0_1.length c0_1, .int .i64 t243] (by rfl) rfl rfl (by (try simp only [List.map_toArray, List.map_cons, List.map_nil]); first | done | rfl | (simp only [List.length_drop, List.length_take]; rfl)) ?_
   with_reducible refine (impl_isRising.calls k _ _ l0_1 t243 true _ ?side1 ?side2 A13.out).mono ?_
   (case side1 => repeat (first | exact (Kd.C_below HR0_1.out (by repeat (first | (with_reducible first | exact HB.out | apply pA | apply pN | apply pD | refine pS ?_ GE242.out | refine pS ?_ GE244.out) | exact HB.out))) | (with_reducible refine Kd.C_alloc ?_ _) | (with_reducible refine Kd.C_drewN ?_ _) | (with_reducible refine Kd.C_drew ?_)))
   (case side2 => exact HC0_1.out)
   rintro e w' ⟨rfl, ⟨nd, rfl⟩⟩
   refine ⟨_, rfl, ?_⟩
   refine hK.out _ _ ⟨(bc BK244.out 0).trans rfl, (bc BK242.out 0).trans rfl, (bc BK242.out 1).trans rfl, (bc BK242.out 2).trans rfl, (bc BK242.out 3).trans rfl, (bc BK242.out 4).trans rfl, (bc BK242.out 5).trans rfl⟩ (fun hHeld => ?_)
   clear hK K
   refine norm_ (a' := ?_) ?_ ?_
   rotate_left
   ·show Act.put _ (some 24) _ = _
    simp only [Act.put, sA, sB, sC, i64_w, i32_w]
    rfl
   iterate 6 (first | (refine pz_ HT_ impl_ValidChoices.cz2 rfl rfl rfl (v := ?_) (a' := ?_) (by kernel_rfl) (fun _ _ _ h => h) (Or.inl ⟨by rfl, ?_⟩) ?_ ?_; rotate_left; (intro w'; go_simp; with_reducible rfl); rotate_left; (simp only [Act.put, sA, sB, sC, i64_w, i32_w]; rfl)) | (refine tz_ HT_ HW_ impl_ValidChoices.cz2 rfl rfl rfl (v := ?_) (a' := ?_) (by kernel_rfl) (fun _ _ _ h => h) (Or.inl ⟨by rfl, ?_⟩) hHeld ?_ ?_; rotate_left; (rintro w' ⟨s0, s1, s2, s3, s4, s5, s6⟩; go_simp; with_reducible rfl); rotate_left; (simp only [Act.put, sA, sB, sC, i64_w, i32_w]; rfl)))
   refine one_ (i := 19) (N := some 30) (bz 37 2097151) rfl rfl (one_of HT_.out (by kernel_rfl)) (by decide) (fun K hK => ?_)
   refine goes_ Try.func23 (by kernel_rfl) rfl #[.slice A0_3 l0_3.length c0_3] (by rfl) rfl rfl (by (try simp only [List.map_toArray, List.map_cons, List.map_nil]); first | done | rfl | (simp only [List.length_drop, List.length_take]; rfl)) ?_
   with_reducible refine (impl_size_LLimpl_Push.calls _ _ l0_3 t248 _ ?side1 ?side2 A15.out).mono ?_
   (case side1 => repeat (first | exact (Kd.C_below HR0_3.out (by repeat (first | (with_reducible first | exact HB.out | apply pA | apply pN | apply pD | refine pS ?_ GE242.out | refine pS ?_ GE244.out) | exact HB.out))) | (with_reducible refine Kd.C_alloc ?_ _) | (with_reducible refine Kd.C_drewN ?_ _) | (with_reducible refine Kd.C_drew ?_)))
   (case side2 => exact HC0_3.out)
   rintro e w' ⟨rfl, ⟨nd, rfl⟩⟩
   refine ⟨_, rfl, ?_⟩
   refine hK.out _ _ ⟨(bc BK244.out 0).trans rfl, (bc BK242.out 0).trans rfl, (bc BK242.out 1).trans rfl, (bc BK242.out 2).trans rfl, (bc BK242.out 3).trans rfl, (bc BK242.out 4).trans rfl, (bc BK242.out 5).trans rfl⟩ (fun hHeld => ?_)
   clear hK K
   refine norm_ (a' := ?_) ?_ ?_
   rotate_left
   ·show Act.put _ (some 30) _ = _
    simp only [Act.put, sA, sB, sC, i64_w, i32_w]
    rfl
   iterate 16 (first | (refine pz_ HT_ impl_ValidChoices.cz7 rfl rfl rfl (v := ?_) (a' := ?_) (by kernel_rfl) (fun _ _ _ h => h) (Or.inl ⟨by rfl, ?_⟩) ?_ ?_; rotate_left; (intro w'; go_simp; with_reducible rfl); rotate_left; (simp only [Act.put, sA, sB, sC, i64_w, i32_w]; rfl)) | (refine uz_ HT_ impl_ValidChoices.cz7 rfl rfl rfl (v := undef) (a' := ?_) (by kernel_rfl) (fun _ _ _ h => h) (Or.inr ⟨by rfl, rfl⟩) ?_ ?_; rotate_left; (simp only [Act.put, sA, sB, sC, i64_w, i32_w]; rfl)))
   refine done_ (done_of HT_.out (by kernel_rfl)) ?_
   try go_wp2
   go_meet
   case rel => exact ⟨_, (true), (by first | rfl | (simp; done) | (simp [*]; done)), H', ⟨by first | omega | exact Nat.le_refl _⟩, ⟨by (with_reducible repeat (first | refine bn_ ?_ _ | refine bd_ ?_ | refine ba_ ?_ _)); exact BK242.out⟩, ⟨by (with_reducible repeat (first | refine bn_ ?_ _ | refine bd_ ?_ | refine ba_ ?_ _)); exact BK244.out⟩, ⟨by repeat (first | (with_reducible first | exact HB.out | apply pA | apply pN | apply pD | refine pS ?_ GE242.out | refine pS ?_ GE244.out) | exact HB.out)⟩⟩
  as_aux_lemma =>
  rw [if_pos c16] at H
  have c16b0 : (t248 == t243) = true := beq_iff_eq.mpr c16
  have c16b1 : (t248 != t243) = false := bne_eq_false_iff_eq.mpr c16
  clear c16
  (first | rw [c16b0] | rw [c16b1] | (simp only [i64_w, i32_w]; rw [c16b0]) | skip)
  replace H := Option.bind_eq_some_iff.mp H
  obtain ⟨t249, A170, H⟩ := H
  replace H : (if t249 = t243 then ((impl_size_LLint64.f l0_5).bind fun t250 => (impl_ValidChoices.j0 k (t250 != t243) a0_0 l0_1 l0_2 l0_3 l0_4 l0_5 t243)) else (impl_ValidChoices.j0 k true a0_0 l0_1 l0_2 l0_3 l0_4 l0_5 t243)) = some r := H
  have A17 := AZ.mk A170
  clear A170
  by_cases c18 : t249 = t243
  rotate_left
  ·as_aux_lemma =>
   rw [if_neg c18] at H
   have c18b0 : (t249 == t243) = false := beq_eq_false_iff_ne.mpr c18
   have c18b1 : (t249 != t243) = true := bne_iff_ne.mpr c18
   have H' := AZ.mk H
   clear H
   try go_wp2
   have n0_ : AZ ((w6.setCell ⟨gb244, 0, none⟩ (.int .i64 t243)).heap[gb242]? = some (.cells #[.int .i64 a0_0, .slice A0_1 l0_1.length c0_1, .slice A0_2 l0_2.length c0_2, .slice A0_3 l0_3.length c0_3, .slice A0_4 l0_4.length c0_4, .slice A0_5 l0_5.length c0_5] 33 (0, 0))) := ⟨by (with_reducible repeat (first | refine bn_ ?_ _ | refine bd_ ?_ | refine ba_ ?_ _)); refine blk_far ?_ NB242_244.out _; (with_reducible repeat (first | refine bn_ ?_ _ | refine bd_ ?_ | refine ba_ ?_ _)); exact BK242.out⟩
   have n1_ : AZ ((w6.setCell ⟨gb244, 0, none⟩ (.int .i64 t243)).heap[gb244]? = some (.cells #[.int .i64 t243] 2 (0, 0))) := ⟨by (with_reducible repeat (first | refine bn_ ?_ _ | refine bd_ ?_ | refine ba_ ?_ _)); refine blk_put (cs := #[.int .i64 0]) ?_ 0 _ rfl; (with_reducible repeat (first | refine bn_ ?_ _ | refine bd_ ?_ | refine ba_ ?_ _)); exact BK244.out⟩
   have n2_ : AZ (Below w.heap.size w (w6.setCell ⟨gb244, 0, none⟩ (.int .i64 t243))) := ⟨by repeat (first | (with_reducible first | exact HB.out | apply pA | apply pN | apply pD | refine pS ?_ GE242.out | refine pS ?_ GE244.out) | exact HB.out)⟩
   (try clear BK242)
   (try clear BK244)
   (try clear HB)
   generalize (w6.setCell ⟨gb244, 0, none⟩ (.int .i64 t243)) = w22 at n0_ n1_ n2_ ⊢
   have BK242 := n0_
   have BK244 := n1_
   have HB := n2_
   clear n0_ n1_ n2_
   have n0_ := AZ.mk (bd_ BK242.out)
   have n1_ := AZ.mk (bd_ BK244.out)
   have n2_ := AZ.mk (pD HB.out)
   clear BK242
   clear BK244
   clear HB
   have BK242 := n0_
   have BK244 := n1_
   have HB := n2_
   clear n0_ n1_ n2_
   refine start_ (n := 37) (S := fun w' => w'.cell? ⟨gb244, 0, none⟩ = some (.int .i64 t243) ∧ w'.cell? ⟨gb242, 0, none⟩ = some (.int .i64 a0_0) ∧ w'.cell? ⟨gb242, 1, none⟩ = some (.slice A0_1 l0_1.length c0_1) ∧ w'.cell? ⟨gb242, 2, none⟩ = some (.slice A0_2 l0_2.length c0_2) ∧ w'.cell? ⟨gb242, 3, none⟩ = some (.slice A0_3 l0_3.length c0_3) ∧ w'.cell? ⟨gb242, 4, none⟩ = some (.slice A0_4 l0_4.length c0_4) ∧ w'.cell? ⟨gb242, 5, none⟩ = some (.slice A0_5 l0_5.length c0_5)) (ds := []) (bz 37 0) (by kernel_rfl) rfl rfl ⟨(bc BK244.out 0).trans rfl, (bc BK242.out 0).trans rfl, (bc BK242.out 1).trans rfl, (bc BK242.out 2).trans rfl, (bc BK242.out 3).trans rfl, (bc BK242.out 4).trans rfl, (bc BK242.out 5).trans rfl⟩ (fun hHeld => ?_); refine with_tabW impl_ValidChoices.tab2 impl_ValidChoices.bits2 (fun HT_ HW_ => ?_)
   generalize w22.drew = w23 at BK242 BK244 HB hHeld ⊢
   refine take_ (i := 0) (N := some 11) (v := ?_) (a' := ?_) (bz 37 1) rfl rfl (take_ofW HT_.out HW_.out (by kernel_rfl)) (fun _ _ _ h => h) (Or.inl ⟨by rfl, ?_⟩) hHeld ?_ ?_
   rotate_left
   ·rintro w' ⟨s0, s1, s2, s3, s4, s5, s6⟩
    go_simp
    with_reducible rfl
   rotate_left
   ·simp only [Act.put, sA, sB, sC, i64_w, i32_w]
    rfl
   refine one_ (i := 1) (N := some 12) (bz 37 3) rfl rfl (one_of HT_.out (by kernel_rfl)) (by decide) (fun K hK => ?_)
   refine goes_ Try.func21 (by kernel_rfl) rfl #[.int .i64 t243, .int .i64 1, .int .i64 5] (by rfl) rfl rfl (by (try simp only [List.map_toArray, List.map_cons, List.map_nil]); first | done | rfl | (simp only [List.length_drop, List.length_take]; rfl)) ?_
   with_reducible refine (impl_within.calls t243 1 5 true _ A9.out).mono ?_
   rintro e w' ⟨rfl, ⟨nd, rfl⟩⟩
   refine ⟨_, rfl, ?_⟩
   refine hK.out _ _ ⟨(bc BK244.out 0).trans rfl, (bc BK242.out 0).trans rfl, (bc BK242.out 1).trans rfl, (bc BK242.out 2).trans rfl, (bc BK242.out 3).trans rfl, (bc BK242.out 4).trans rfl, (bc BK242.out 5).trans rfl⟩ (fun hHeld => ?_)
   clear hK K
   refine norm_ (a' := ?_) ?_ ?_
   rotate_left
   ·show Act.put _ (some 12) _ = _
    simp only [Act.put, sA, sB, sC, i64_w, i32_w]
    rfl
   iterate 4 (first | (refine pz_ HT_ impl_ValidChoices.cz0 rfl rfl rfl (v := ?_) (a' := ?_) (by kernel_rfl) (fun _ _ _ h => h) (Or.inl ⟨by rfl, ?_⟩) ?_ ?_; rotate_left; (intro w'; go_simp; with_reducible rfl); rotate_left; (simp only [Act.put, sA, sB, sC, i64_w, i32_w]; rfl)) | (refine tz_ HT_ HW_ impl_ValidChoices.cz0 rfl rfl rfl (v := ?_) (a' := ?_) (by kernel_rfl) (fun _ _ _ h => h) (Or.inl ⟨by rfl, ?_⟩) hHeld ?_ ?_; rotate_left; (rintro w' ⟨s0, s1, s2, s3, s4, s5, s6⟩; go_simp; with_reducible rfl); rotate_left; (simp only [Act.put, sA, sB, sC, i64_w, i32_w]; rfl)))
   refine one_ (i := 6) (N := some 17) (bz 37 127) rfl rfl (one_of HT_.out (by kernel_rfl)) (by decide) (fun K hK => ?_)
   refine goes_ Try.func21 (by kernel_rfl) rfl #[.int .i64 a0_0, .int .i64 1, .int .i64 4] (by rfl) rfl rfl (by (try simp only [List.map_toArray, List.map_cons, List.map_nil]); first | done | rfl | (simp only [List.length_drop, List.length_take]; rfl)) ?_
   with_reducible refine (impl_within.calls a0_0 1 4 true _ A11.out).mono ?_
   rintro e w' ⟨rfl, ⟨nd, rfl⟩⟩
   refine ⟨_, rfl, ?_⟩
   refine hK.out _ _ ⟨(bc BK244.out 0).trans rfl, (bc BK242.out 0).trans rfl, (bc BK242.out 1).trans rfl, (bc BK242.out 2).trans rfl, (bc BK242.out 3).trans rfl, (bc BK242.out 4).trans rfl, (bc BK242.out 5).trans rfl⟩ (fun hHeld => ?_)
   clear hK K
   refine norm_ (a' := ?_) ?_ ?_
   rotate_left
   ·show Act.put _ (some 17) _ = _
    simp only [Act.put, sA, sB, sC, i64_w, i32_w]
    rfl
   iterate 6 (first | (refine pz_ HT_ impl_ValidChoices.cz1 rfl rfl rfl (v := ?_) (a' := ?_) (by kernel_rfl) (fun _ _ _ h => h) (Or.inl ⟨by rfl, ?_⟩) ?_ ?_; rotate_left; (intro w'; go_simp; with_reducible rfl); rotate_left; (simp only [Act.put, sA, sB, sC, i64_w, i32_w]; rfl)) | (refine tz_ HT_ HW_ impl_ValidChoices.cz1 rfl rfl rfl (v := ?_) (a' := ?_) (by kernel_rfl) (fun _ _ _ h => h) (Or.inl ⟨by rfl, ?_⟩) hHeld ?_ ?_; rotate_left; (rintro w' ⟨s0, s1, s2, s3, s4, s5, s6⟩; go_simp; with_reducible rfl); rotate_left; (simp only [Act.put, sA, sB, sC, i64_w, i32_w]; rfl)))
   refine one_ (i := 13) (N := some 24) (bz 37 16383) rfl rfl (one_of HT_.out (by kernel_rfl)) (by decide) (fun K hK => ?_)
   refine goes_ Try.func22 (by kernel_rfl) rfl #[.slice A0_1 l0_1.length c0_1, .int .i64 t243] (by rfl) rfl rfl (by (try simp only [List.map_toArray, List.map_cons, List.map_nil]); first | done | rfl | (simp only [List.length_drop, List.length_take]; rfl)) ?_
   with_reducible refine (impl_isRising.calls k _ _ l0_1 t243 true _ ?side1 ?side2 A13.out).mono ?_
   (case side1 => repeat (first | exact (Kd.C_below HR0_1.out (by repeat (first | (with_reducible first | exact HB.out | apply pA | apply pN | apply pD | refine pS ?_ GE242.out | refine pS ?_ GE244.out) | exact HB.out))) | (with_reducible refine Kd.C_alloc ?_ _) | (with_reducible refine Kd.C_drewN ?_ _) | (with_reducible refine Kd.C_drew ?_)))
   (case side2 => exact HC0_1.out)
   rintro e w' ⟨rfl, ⟨nd, rfl⟩⟩
   refine ⟨_, rfl, ?_⟩
   refine hK.out _ _ ⟨(bc BK244.out 0).trans rfl, (bc BK242.out 0).trans rfl, (bc BK242.out 1).trans rfl, (bc BK242.out 2).trans rfl, (bc BK242.out 3).trans rfl, (bc BK242.out 4).trans rfl, (bc BK242.out 5).trans rfl⟩ (fun hHeld => ?_)
   clear hK K
   refine norm_ (a' := ?_) ?_ ?_
   rotate_left
   ·show Act.put _ (some 24) _ = _
    simp only [Act.put, sA, sB, sC, i64_w, i32_w]
    rfl
   iterate 6 (first | (refine pz_ HT_ impl_ValidChoices.cz2 rfl rfl rfl (v := ?_) (a' := ?_) (by kernel_rfl) (fun _ _ _ h => h) (Or.inl ⟨by rfl, ?_⟩) ?_ ?_; rotate_left; (intro w'; go_simp; with_reducible rfl); rotate_left; (simp only [Act.put, sA, sB, sC, i64_w, i32_w]; rfl)) | (refine tz_ HT_ HW_ impl_ValidChoices.cz2 rfl rfl rfl (v := ?_) (a' := ?_) (by kernel_rfl) (fun _ _ _ h => h) (Or.inl ⟨by rfl, ?_⟩) hHeld ?_ ?_; rotate_left; (rintro w' ⟨s0, s1, s2, s3, s4, s5, s6⟩; go_simp; with_reducible rfl); rotate_left; (simp only [Act.put, sA, sB, sC, i64_w, i32_w]; rfl)))
   refine one_ (i := 19) (N := some 30) (bz 37 2097151) rfl rfl (one_of HT_.out (by kernel_rfl)) (by decide) (fun K hK => ?_)
   refine goes_ Try.func23 (by kernel_rfl) rfl #[.slice A0_3 l0_3.length c0_3] (by rfl) rfl rfl (by (try simp only [List.map_toArray, List.map_cons, List.map_nil]); first | done | rfl | (simp only [List.length_drop, List.length_take]; rfl)) ?_
   with_reducible refine (impl_size_LLimpl_Push.calls _ _ l0_3 t248 _ ?side1 ?side2 A15.out).mono ?_
   (case side1 => repeat (first | exact (Kd.C_below HR0_3.out (by repeat (first | (with_reducible first | exact HB.out | apply pA | apply pN | apply pD | refine pS ?_ GE242.out | refine pS ?_ GE244.out) | exact HB.out))) | (with_reducible refine Kd.C_alloc ?_ _) | (with_reducible refine Kd.C_drewN ?_ _) | (with_reducible refine Kd.C_drew ?_)))
   (case side2 => exact HC0_3.out)
   rintro e w' ⟨rfl, ⟨nd, rfl⟩⟩
   refine ⟨_, rfl, ?_⟩
   refine hK.out _ _ ⟨(bc BK244.out 0).trans rfl, (bc BK242.out 0).trans rfl, (bc BK242.out 1).trans rfl, (bc BK242.out 2).trans rfl, (bc BK242.out 3).trans rfl, (bc BK242.out 4).trans rfl, (bc BK242.out 5).trans rfl⟩ (fun hHeld => ?_)
   clear hK K
   refine norm_ (a' := ?_) ?_ ?_
   rotate_left
   ·show Act.put _ (some 30) _ = _
    simp only [Act.put, sA, sB, sC, i64_w, i32_w]
    rfl
   iterate 6 (first | (refine pz_ HT_ impl_ValidChoices.cz3 rfl rfl rfl (v := ?_) (a' := ?_) (by kernel_rfl) (fun _ _ _ h => h) (Or.inl ⟨by rfl, ?_⟩) ?_ ?_; rotate_left; (intro w'; go_simp; with_reducible rfl); rotate_left; (simp only [Act.put, sA, sB, sC, i64_w, i32_w]; rfl)) | (refine tz_ HT_ HW_ impl_ValidChoices.cz3 rfl rfl rfl (v := ?_) (a' := ?_) (by kernel_rfl) (fun _ _ _ h => h) (Or.inl ⟨by rfl, ?_⟩) hHeld ?_ ?_; rotate_left; (rintro w' ⟨s0, s1, s2, s3, s4, s5, s6⟩; go_simp; with_reducible rfl); rotate_left; (simp only [Act.put, sA, sB, sC, i64_w, i32_w]; rfl)))
   refine one_ (i := 26) (N := some 37) (bz 37 268435455) rfl rfl (one_of HT_.out (by kernel_rfl)) (by decide) (fun K hK => ?_)
   refine goes_ Try.func24 (by kernel_rfl) rfl #[.slice A0_4 l0_4.length c0_4] (by rfl) rfl rfl (by (try simp only [List.map_toArray, List.map_cons, List.map_nil]); first | done | rfl | (simp only [List.length_drop, List.length_take]; rfl)) ?_
   with_reducible refine (impl_size_LLLint64.calls _ _ l0_4 t249 _ ?side1 ?side2 A17.out).mono ?_
   (case side1 => repeat (first | exact (Kd.C_below HR0_4.out (by repeat (first | (with_reducible first | exact HB.out | apply pA | apply pN | apply pD | refine pS ?_ GE242.out | refine pS ?_ GE244.out) | exact HB.out))) | (with_reducible refine Kd.C_alloc ?_ _) | (with_reducible refine Kd.C_drewN ?_ _) | (with_reducible refine Kd.C_drew ?_)))
   (case side2 => exact HC0_4.out)
   rintro e w' ⟨rfl, ⟨nd, rfl⟩⟩
   refine ⟨_, rfl, ?_⟩
   refine hK.out _ _ ⟨(bc BK244.out 0).trans rfl, (bc BK242.out 0).trans rfl, (bc BK242.out 1).trans rfl, (bc BK242.out 2).trans rfl, (bc BK242.out 3).trans rfl, (bc BK242.out 4).trans rfl, (bc BK242.out 5).trans rfl⟩ (fun hHeld => ?_)
   clear hK K
   refine norm_ (a' := ?_) ?_ ?_
   rotate_left
   ·show Act.put _ (some 37) _ = _
    simp only [Act.put, sA, sB, sC, i64_w, i32_w]
    rfl
   iterate 9 (first | (refine pz_ HT_ impl_ValidChoices.cz6 rfl rfl rfl (v := ?_) (a' := ?_) (by kernel_rfl) (fun _ _ _ h => h) (Or.inl ⟨by rfl, ?_⟩) ?_ ?_; rotate_left; (intro w'; go_simp; with_reducible rfl); rotate_left; (simp only [Act.put, sA, sB, sC, i64_w, i32_w]; rfl)) | (refine uz_ HT_ impl_ValidChoices.cz6 rfl rfl rfl (v := undef) (a' := ?_) (by kernel_rfl) (fun _ _ _ h => h) (Or.inr ⟨by rfl, rfl⟩) ?_ ?_; rotate_left; (simp only [Act.put, sA, sB, sC, i64_w, i32_w]; rfl)))
   refine done_ (done_of HT_.out (by kernel_rfl)) ?_
   try go_wp2
   go_meet
   case rel => exact ⟨_, (true), (by first | rfl | (simp; done) | (simp [*]; done)), H', ⟨by first | omega | exact Nat.le_refl _⟩, ⟨by (with_reducible repeat (first | refine bn_ ?_ _ | refine bd_ ?_ | refine ba_ ?_ _)); exact BK242.out⟩, ⟨by (with_reducible repeat (first | refine bn_ ?_ _ | refine bd_ ?_ | refine ba_ ?_ _)); exact BK244.out⟩, ⟨by repeat (first | (with_reducible first | exact HB.out | apply pA | apply pN | apply pD | refine pS ?_ GE242.out | refine pS ?_ GE244.out) | exact HB.out)⟩⟩
  as_aux_lemma =>
  rw [if_pos c18] at H
  have c18b0 : (t249 == t243) = true := beq_iff_eq.mpr c18
  have c18b1 : (t249 != t243) = false := bne_eq_false_iff_eq.mpr c18
  clear c18
  replace H := Option.bind_eq_some_iff.mp H
  obtain ⟨t250, A190, H⟩ := H
  replace H : (impl_ValidChoices.j0 k (t250 != t243) a0_0 l0_1 l0_2 l0_3 l0_4 l0_5 t243) = some r := H
  have A19 := AZ.mk A190
  clear A190
  have H' := AZ.mk H
  clear H
  try go_wp2
  have n0_ : AZ ((w6.setCell ⟨gb244, 0, none⟩ (.int .i64 t243)).heap[gb242]? = some (.cells #[.int .i64 a0_0, .slice A0_1 l0_1.length c0_1, .slice A0_2 l0_2.length c0_2, .slice A0_3 l0_3.length c0_3, .slice A0_4 l0_4.length c0_4, .slice A0_5 l0_5.length c0_5] 33 (0, 0))) := ⟨by (with_reducible repeat (first | refine bn_ ?_ _ | refine bd_ ?_ | refine ba_ ?_ _)); refine blk_far ?_ NB242_244.out _; (with_reducible repeat (first | refine bn_ ?_ _ | refine bd_ ?_ | refine ba_ ?_ _)); exact BK242.out⟩
  have n1_ : AZ ((w6.setCell ⟨gb244, 0, none⟩ (.int .i64 t243)).heap[gb244]? = some (.cells #[.int .i64 t243] 2 (0, 0))) := ⟨by (with_reducible repeat (first | refine bn_ ?_ _ | refine bd_ ?_ | refine ba_ ?_ _)); refine blk_put (cs := #[.int .i64 0]) ?_ 0 _ rfl; (with_reducible repeat (first | refine bn_ ?_ _ | refine bd_ ?_ | refine ba_ ?_ _)); exact BK244.out⟩
  have n2_ : AZ (Below w.heap.size w (w6.setCell ⟨gb244, 0, none⟩ (.int .i64 t243))) := ⟨by repeat (first | (with_reducible first | exact HB.out | apply pA | apply pN | apply pD | refine pS ?_ GE242.out | refine pS ?_ GE244.out) | exact HB.out)⟩
  (try clear BK242)
  (try clear BK244)
  (try clear HB)
  generalize (w6.setCell ⟨gb244, 0, none⟩ (.int .i64 t243)) = w20 at n0_ n1_ n2_ ⊢
  have BK242 := n0_
  have BK244 := n1_
  have HB := n2_
  clear n0_ n1_ n2_
  have n0_ := AZ.mk (bd_ BK242.out)
  have n1_ := AZ.mk (bd_ BK244.out)
  have n2_ := AZ.mk (pD HB.out)
  clear BK242
  clear BK244
  clear HB
  have BK242 := n0_
  have BK244 := n1_
  have HB := n2_
  clear n0_ n1_ n2_
  refine start_ (n := 37) (S := fun w' => w'.cell? ⟨gb244, 0, none⟩ = some (.int .i64 t243) ∧ w'.cell? ⟨gb242, 0, none⟩ = some (.int .i64 a0_0) ∧ w'.cell? ⟨gb242, 1, none⟩ = some (.slice A0_1 l0_1.length c0_1) ∧ w'.cell? ⟨gb242, 2, none⟩ = some (.slice A0_2 l0_2.length c0_2) ∧ w'.cell? ⟨gb242, 3, none⟩ = some (.slice A0_3 l0_3.length c0_3) ∧ w'.cell? ⟨gb242, 4, none⟩ = some (.slice A0_4 l0_4.length c0_4) ∧ w'.cell? ⟨gb242, 5, none⟩ = some (.slice A0_5 l0_5.length c0_5)) (ds := []) (bz 37 0) (by kernel_rfl) rfl rfl ⟨(bc BK244.out 0).trans rfl, (bc BK242.out 0).trans rfl, (bc BK242.out 1).trans rfl, (bc BK242.out 2).trans rfl, (bc BK242.out 3).trans rfl, (bc BK242.out 4).trans rfl, (bc BK242.out 5).trans rfl⟩ (fun hHeld => ?_); refine with_tabW impl_ValidChoices.tab2 impl_ValidChoices.bits2 (fun HT_ HW_ => ?_)
  generalize w20.drew = w21 at BK242 BK244 HB hHeld ⊢
  refine take_ (i := 0) (N := some 11) (v := ?_) (a' := ?_) (bz 37 1) rfl rfl (take_ofW HT_.out HW_.out (by kernel_rfl)) (fun _ _ _ h => h) (Or.inl ⟨by rfl, ?_⟩) hHeld ?_ ?_
  rotate_left
  ·rintro w' ⟨s0, s1, s2, s3, s4, s5, s6⟩
   go_simp
   with_reducible rfl
  rotate_left
  ·simp only [Act.put, sA, sB, sC, i64_w, i32_w]
   rfl
  refine one_ (i := 1) (N := some 12) (bz 37 3) rfl rfl (one_of HT_.out (by kernel_rfl)) (by decide) (fun K hK => ?_)
  refine goes_ Try.func21 (by kernel_rfl) rfl #[.int .i64 t243, .int .i64 1, .int .i64 5] (by rfl) rfl rfl (by (try simp only [List.map_toArray, List.map_cons, List.map_nil]); first | done | rfl | (simp only [List.length_drop, List.length_take]; rfl)) ?_
  with_reducible refine (impl_within.calls t243 1 5 true _ A9.out).mono ?_
  rintro e w' ⟨rfl, ⟨nd, rfl⟩⟩
  refine ⟨_, rfl, ?_⟩
  refine hK.out _ _ ⟨(bc BK244.out 0).trans rfl, (bc BK242.out 0).trans rfl, (bc BK242.out 1).trans rfl, (bc BK242.out 2).trans rfl, (bc BK242.out 3).trans rfl, (bc BK242.out 4).trans rfl, (bc BK242.out 5).trans rfl⟩ (fun hHeld => ?_)
  clear hK K
  refine norm_ (a' := ?_) ?_ ?_
  rotate_left
  ·show Act.put _ (some 12) _ = _
   simp only [Act.put, sA, sB, sC, i64_w, i32_w]
   rfl
  iterate 4 (first | (refine pz_ HT_ impl_ValidChoices.cz0 rfl rfl rfl (v := ?_) (a' := ?_) (by kernel_rfl) (fun _ _ _ h => h) (Or.inl ⟨by rfl, ?_⟩) ?_ ?_; rotate_left; (intro w'; go_simp; with_reducible rfl); rotate_left; (simp only [Act.put, sA, sB, sC, i64_w, i32_w]; rfl)) | (refine tz_ HT_ HW_ impl_ValidChoices.cz0 rfl rfl rfl (v := ?_) (a' := ?_) (by kernel_rfl) (fun _ _ _ h => h) (Or.inl ⟨by rfl, ?_⟩) hHeld ?_ ?_; rotate_left; (rintro w' ⟨s0, s1, s2, s3, s4, s5, s6⟩; go_simp; with_reducible rfl); rotate_left; (simp only [Act.put, sA, sB, sC, i64_w, i32_w]; rfl)))
  refine one_ (i := 6) (N := some 17) (bz 37 127) rfl rfl (one_of HT_.out (by kernel_rfl)) (by decide) (fun K hK => ?_)
  refine goes_ Try.func21 (by kernel_rfl) rfl #[.int .i64 a0_0, .int .i64 1, .int .i64 4] (by rfl) rfl rfl (by (try simp only [List.map_toArray, List.map_cons, List.map_nil]); first | done | rfl | (simp only [List.length_drop, List.length_take]; rfl)) ?_
  with_reducible refine (impl_within.calls a0_0 1 4 true _ A11.out).mono ?_
  rintro e w' ⟨rfl, ⟨nd, rfl⟩⟩
  refine ⟨_, rfl, ?_⟩
  refine hK.out _ _ ⟨(bc BK244.out 0).trans rfl, (bc BK242.out 0).trans rfl, (bc BK242.out 1).trans rfl, (bc BK242.out 2).trans rfl, (bc BK242.out 3).trans rfl, (bc BK242.out 4).trans rfl, (bc BK242.out 5).trans rfl⟩ (fun hHeld => ?_)
  clear hK K
  refine norm_ (a' := ?_) ?_ ?_
  rotate_left
  ·show Act.put _ (some 17) _ = _
   simp only [Act.put, sA, sB, sC, i64_w, i32_w]
   rfl
  iterate 6 (first | (refine pz_ HT_ impl_ValidChoices.cz1 rfl rfl rfl (v := ?_) (a' := ?_) (by kernel_rfl) (fun _ _ _ h => h) (Or.inl ⟨by rfl, ?_⟩) ?_ ?_; rotate_left; (intro w'; go_simp; with_reducible rfl); rotate_left; (simp only [Act.put, sA, sB, sC, i64_w, i32_w]; rfl)) | (refine tz_ HT_ HW_ impl_ValidChoices.cz1 rfl rfl rfl (v := ?_) (a' := ?_) (by kernel_rfl) (fun _ _ _ h => h) (Or.inl ⟨by rfl, ?_⟩) hHeld ?_ ?_; rotate_left; (rintro w' ⟨s0, s1, s2, s3, s4, s5, s6⟩; go_simp; with_reducible rfl); rotate_left; (simp only [Act.put, sA, sB, sC, i64_w, i32_w]; rfl)))
  refine one_ (i := 13) (N := some 24) (bz 37 16383) rfl rfl (one_of HT_.out (by kernel_rfl)) (by decide) (fun K hK => ?_)
  refine goes_ Try.func22 (by kernel_rfl) rfl #[.slice A0_1 l0_1.length c0_1, .int .i64 t243] (by rfl) rfl rfl (by (try simp only [List.map_toArray, List.map_cons, List.map_nil]); first | done | rfl | (simp only [List.length_drop, List.length_take]; rfl)) ?_
  with_reducible refine (impl_isRising.calls k _ _ l0_1 t243 true _ ?side1 ?side2 A13.out).mono ?_
  (case side1 => repeat (first | exact (Kd.C_below HR0_1.out (by repeat (first | (with_reducible first | exact HB.out | apply pA | apply pN | apply pD | refine pS ?_ GE242.out | refine pS ?_ GE244.out) | exact HB.out))) | (with_reducible refine Kd.C_alloc ?_ _) | (with_reducible refine Kd.C_drewN ?_ _) | (with_reducible refine Kd.C_drew ?_)))
  (case side2 => exact HC0_1.out)
  rintro e w' ⟨rfl, ⟨nd, rfl⟩⟩
  refine ⟨_, rfl, ?_⟩
  refine hK.out _ _ ⟨(bc BK244.out 0).trans rfl, (bc BK242.out 0).trans rfl, (bc BK242.out 1).trans rfl, (bc BK242.out 2).trans rfl, (bc BK242.out 3).trans rfl, (bc BK242.out 4).trans rfl, (bc BK242.out 5).trans rfl⟩ (fun hHeld => ?_)
  clear hK K
  refine norm_ (a' := ?_) ?_ ?_
  rotate_left
  ·show Act.put _ (some 24) _ = _
   simp only [Act.put, sA, sB, sC, i64_w, i32_w]
   rfl
  iterate 6 (first | (refine pz_ HT_ impl_ValidChoices.cz2 rfl rfl rfl (v := ?_) (a' := ?_) (by kernel_rfl) (fun _ _ _ h => h) (Or.inl ⟨by rfl, ?_⟩) ?_ ?_; rotate_left; (intro w'; go_simp; with_reducible rfl); rotate_left; (simp only [Act.put, sA, sB, sC, i64_w, i32_w]; rfl)) | (refine tz_ HT_ HW_ impl_ValidChoices.cz2 rfl rfl rfl (v := ?_) (a' := ?_) (by kernel_rfl) (fun _ _ _ h => h) (Or.inl ⟨by rfl, ?_⟩) hHeld ?_ ?_; rotate_left; (rintro w' ⟨s0, s1, s2, s3, s4, s5, s6⟩; go_simp; with_reducible rfl); rotate_left; (simp only [Act.put, sA, sB, sC, i64_w, i32_w]; rfl)))
  refine one_ (i := 19) (N := some 30) (bz 37 2097151) rfl rfl (one_of HT_.out (by kernel_rfl)) (by decide) (fun K hK => ?_)
  refine goes_ Try.func23 (by kernel_rfl) rfl #[.slice A0_3 l0_3.length c0_3] (by rfl) rfl rfl (by (try simp only [List.map_toArray, List.map_cons, List.map_nil]); first | done | rfl | (simp only [List.length_drop, List.length_take]; rfl)) ?_
  with_reducible refine (impl_size_LLimpl_Push.calls _ _ l0_3 t248 _ ?side1 ?side2 A15.out).mono ?_
  (case side1 => repeat (first | exact (Kd.C_below HR0_3.out (by repeat (first | (with_reducible first | exact HB.out | apply pA | apply pN | apply pD | refine pS ?_ GE242.out | refine pS ?_ GE244.out) | exact HB.out))) | (with_reducible refine Kd.C_alloc ?_ _) | (with_reducible refine Kd.C_drewN ?_ _) | (with_reducible refine Kd.C_drew ?_)))
  (case side2 => exact HC0_3.out)
  rintro e w' ⟨rfl, ⟨nd, rfl⟩⟩
  refine ⟨_, rfl, ?_⟩
  refine hK.out _ _ ⟨(bc BK244.out 0).trans rfl, (bc BK242.out 0).trans rfl, (bc BK242.out 1).trans rfl, (bc BK242.out 2).trans rfl, (bc BK242.out 3).trans rfl, (bc BK242.out 4).trans rfl, (bc BK242.out 5).trans rfl⟩ (fun hHeld => ?_)
  clear hK K
  refine norm_ (a' := ?_) ?_ ?_
  rotate_left
  ·show Act.put _ (some 30) _ = _
   simp only [Act.put, sA, sB, sC, i64_w, i32_w]
   rfl
  iterate 6 (first | (refine pz_ HT_ impl_ValidChoices.cz3 rfl rfl rfl (v := ?_) (a' := ?_) (by kernel_rfl) (fun _ _ _ h => h) (Or.inl ⟨by rfl, ?_⟩) ?_ ?_; rotate_left; (intro w'; go_simp; with_reducible rfl); rotate_left; (simp only [Act.put, sA, sB, sC, i64_w, i32_w]; rfl)) | (refine tz_ HT_ HW_ impl_ValidChoices.cz3 rfl rfl rfl (v := ?_) (a' := ?_) (by kernel_rfl) (fun _ _ _ h => h) (Or.inl ⟨by rfl, ?_⟩) hHeld ?_ ?_; rotate_left; (rintro w' ⟨s0, s1, s2, s3, s4, s5, s6⟩; go_simp; with_reducible rfl); rotate_left; (simp only [Act.put, sA, sB, sC, i64_w, i32_w]; rfl)))
  refine one_ (i := 26) (N := some 37) (bz 37 268435455) rfl rfl (one_of HT_.out (by kernel_rfl)) (by decide) (fun K hK => ?_)
  refine goes_ Try.func24 (by kernel_rfl) rfl #[.slice A0_4 l0_4.length c0_4] (by rfl) rfl rfl (by (try simp only [List.map_toArray, List.map_cons, List.map_nil]); first | done | rfl | (simp only [List.length_drop, List.length_take]; rfl)) ?_
  with_reducible refine (impl_size_LLLint64.calls _ _ l0_4 t249 _ ?side1 ?side2 A17.out).mono ?_
  (case side1 => repeat (first | exact (Kd.C_below HR0_4.out (by repeat (first | (with_reducible first | exact HB.out | apply pA | apply pN | apply pD | refine pS ?_ GE242.out | refine pS ?_ GE244.out) | exact HB.out))) | (with_reducible refine Kd.C_alloc ?_ _) | (with_reducible refine Kd.C_drewN ?_ _) | (with_reducible refine Kd.C_drew ?_)))
  (case side2 => exact HC0_4.out)
  rintro e w' ⟨rfl, ⟨nd, rfl⟩⟩
  refine ⟨_, rfl, ?_⟩
  refine hK.out _ _ ⟨(bc BK244.out 0).trans rfl, (bc BK242.out 0).trans rfl, (bc BK242.out 1).trans rfl, (bc BK242.out 2).trans rfl, (bc BK242.out 3).trans rfl, (bc BK242.out 4).trans rfl, (bc BK242.out 5).trans rfl⟩ (fun hHeld => ?_)
  clear hK K
  refine norm_ (a' := ?_) ?_ ?_
  rotate_left
  ·show Act.put _ (some 37) _ = _
   simp only [Act.put, sA, sB, sC, i64_w, i32_w]
   rfl
  iterate 6 (first | (refine pz_ HT_ impl_ValidChoices.cz4 rfl rfl rfl (v := ?_) (a' := ?_) (by kernel_rfl) (fun _ _ _ h => h) (Or.inl ⟨by rfl, ?_⟩) ?_ ?_; rotate_left; (intro w'; go_simp; with_reducible rfl); rotate_left; (simp only [Act.put, sA, sB, sC, i64_w, i32_w]; rfl)) | (refine tz_ HT_ HW_ impl_ValidChoices.cz4 rfl rfl rfl (v := ?_) (a' := ?_) (by kernel_rfl) (fun _ _ _ h => h) (Or.inl ⟨by rfl, ?_⟩) hHeld ?_ ?_; rotate_left; (rintro w' ⟨s0, s1, s2, s3, s4, s5, s6⟩; go_simp; with_reducible rfl); rotate_left; (simp only [Act.put, sA, sB, sC, i64_w, i32_w]; rfl)))
  refine one_ (i := 33) (N := some 44) (bz 37 34359738367) rfl rfl (one_of HT_.out (by kernel_rfl)) (by decide) (fun K hK => ?_)
  refine goes_ Try.func25 (by kernel_rfl) rfl #[.slice A0_5 l0_5.length c0_5] (by rfl) rfl rfl (by (try simp only [List.map_toArray, List.map_cons, List.map_nil]); first | done | rfl | (simp only [List.length_drop, List.length_take]; rfl)) ?_
  with_reducible refine (impl_size_LLint64.calls _ _ l0_5 t250 _ ?side1 ?side2 A19.out).mono ?_
  (case side1 => repeat (first | exact (Kd.C_below HR0_5.out (by repeat (first | (with_reducible first | exact HB.out | apply pA | apply pN | apply pD | refine pS ?_ GE242.out | refine pS ?_ GE244.out) | exact HB.out))) | (with_reducible refine Kd.C_alloc ?_ _) | (with_reducible refine Kd.C_drewN ?_ _) | (with_reducible refine Kd.C_drew ?_)))
  (case side2 => exact HC0_5.out)
  rintro e w' ⟨rfl, ⟨nd, rfl⟩⟩
  refine ⟨_, rfl, ?_⟩
  refine hK.out _ _ ⟨(bc BK244.out 0).trans rfl, (bc BK242.out 0).trans rfl, (bc BK242.out 1).trans rfl, (bc BK242.out 2).trans rfl, (bc BK242.out 3).trans rfl, (bc BK242.out 4).trans rfl, (bc BK242.out 5).trans rfl⟩ (fun hHeld => ?_)
  clear hK K
  refine norm_ (a' := ?_) ?_ ?_
  rotate_left
  ·show Act.put _ (some 44) _ = _
   simp only [Act.put, sA, sB, sC, i64_w, i32_w]
   rfl
  iterate 2 (first | (refine pz_ HT_ impl_ValidChoices.cz5 rfl rfl rfl (v := ?_) (a' := ?_) (by kernel_rfl) (fun _ _ _ h => h) (Or.inl ⟨by rfl, ?_⟩) ?_ ?_; rotate_left; (intro w'; go_simp; with_reducible rfl); rotate_left; (simp only [Act.put, sA, sB, sC, i64_w, i32_w]; rfl)))
  refine done_ (done_of HT_.out (by kernel_rfl)) ?_
  try go_wp2
  go_meet
  case rel => exact ⟨_, ((t250 != t243)), (by first | rfl | (simp; done) | (simp [*]; done)), H', ⟨by first | omega | exact Nat.le_refl _⟩, ⟨by (with_reducible repeat (first | refine bn_ ?_ _ | refine bd_ ?_ | refine ba_ ?_ _)); exact BK242.out⟩, ⟨by (with_reducible repeat (first | refine bn_ ?_ _ | refine bd_ ?_ | refine ba_ ?_ _)); exact BK244.out⟩, ⟨by repeat (first | (with_reducible first | exact HB.out | apply pA | apply pN | apply pD | refine pS ?_ GE242.out | refine pS ?_ GE244.out) | exact HB.out)⟩⟩
 case rest =>
  clear HC3
  try clear c1
  try clear c2
  try clear p2
  try clear c10
  try clear c12
  try clear c21
  obtain ⟨kq, x47_2, rfl, HA, HJ2, BK242, BK244, HB⟩ := hcut
  cases kq with
  | zero => exact absurd HA.out (by simp [impl_ValidChoices.j0])
  | succ kj2 =>
   have H := HA.out
   clear HA
   simp only [impl_ValidChoices.j0] at H
   by_cases c32 : x47_2 = true
   ·subst c32
    have H1 : (some false) = some r := by rw [if_pos rfl] at H; exact H
    clear H
    have H := H1
    clear H1
    obtain rfl := Option.some.inj H
    go_wp2
    go_ret
    exact ⟨by first | rfl | (simp [errW_none, errW_some] <;> rfl) | (simp [*, errW_none, errW_some] <;> rfl), by repeat (first | (with_reducible first | exact HB.out | apply pA | apply pN | apply pD | refine pS ?_ GE242.out | refine pS ?_ GE244.out) | exact HB.out)⟩
   as_aux_lemma =>
   replace c32 := Bool.eq_false_iff.mpr c32
   subst c32
   have H1 : (impl_ValidChoices.l0 kj2 t243 0 a0_0 l0_1 l0_2 l0_3 l0_4 l0_5 t243) = some r := by rw [if_neg (show ¬ (false = true) by decide)] at H; exact H
   clear H
   have H := H1
   clear H1
   have H' := AZ.mk H
   clear H
   have hnb33 := NB244_242.out
   have hnc33 := NB242_244.out
   have hcz34_0 : wc.cell? ⟨gb244, 0, none⟩ = some (.int .i64 t243) := (bc BK244.out 0).trans rfl
   have hfz34_0 := bf BK244.out 0
   go_wp2
   go_loopg [49] kj2 (fun kq v49 w' => ∃ (x49_2 : Int), v49 = .int .i64 x49_2 ∧ AZ (impl_ValidChoices.l0 kq t243 x49_2 a0_0 l0_1 l0_2 l0_3 l0_4 l0_5 t243 = some r) ∧ AZ (kq ≤ kj2) ∧ AZ (w'.heap[gb242]? = some (.cells #[.int .i64 a0_0, (.slice A0_1 l0_1.length c0_1), (.slice A0_2 l0_2.length c0_2), (.slice A0_3 l0_3.length c0_3), (.slice A0_4 l0_4.length c0_4), (.slice A0_5 l0_5.length c0_5)] 33 (0, 0))) ∧ AZ (w'.heap[gb244]? = some (.cells #[.int .i64 t243] 2 (0, 0))) ∧ AZ (Below w.heap.size w w'))
   case atStart => exact ⟨(0), (by first | rfl | (simp; done) | (simp [*]; done)), H', ⟨Nat.le_refl _⟩, ⟨by (with_reducible repeat (first | refine bn_ ?_ _ | refine bd_ ?_ | refine ba_ ?_ _)); exact BK242.out⟩, ⟨by (with_reducible repeat (first | refine bn_ ?_ _ | refine bd_ ?_ | refine ba_ ?_ _)); exact BK244.out⟩, ⟨by repeat (first | (with_reducible first | exact HB.out | apply pA | apply pN | apply pD | refine pS ?_ GE242.out | refine pS ?_ GE244.out) | exact HB.out)⟩⟩
   case round =>
    clear H'
    try clear c1
    try clear c2
    try clear p2
    try clear c3
    try clear c10
    try clear c12
    try clear c21
    try clear c32
    try clear c33
    try clear hcz34_0
    try clear hfz34_0
    try clear p2
    obtain ⟨x49_2, rfl, HA, HK2, BK242, BK244, HB⟩ := hrel
    cases gk with
    | zero => exact absurd HA.out (by simp [impl_ValidChoices.l0])
    | succ k2 =>
     have H := HA.out
     clear HA
     simp only [impl_ValidChoices.l0] at H
     by_cases c35 : x49_2 < t243
     rotate_left
     ·rw [if_neg c35] at H
      have c35b0 : decide (x49_2 < t243) = false := decide_eq_false c35
      clear c35
      obtain rfl := Option.some.inj H
      go_wp2
      go_ret
      exact ⟨by first | rfl | (simp [errW_none, errW_some] <;> rfl) | (simp [*, errW_none, errW_some] <;> rfl), by repeat (first | (with_reducible first | exact HB.out | apply pA | apply pN | apply pD | refine pS ?_ GE242.out | refine pS ?_ GE244.out) | exact HB.out)⟩
     as_aux_lemma =>
     rw [if_pos c35] at H
     have c35b0 : decide (x49_2 < t243) = true := decide_eq_true c35
     clear c35
     have HC36 := AZ.mk H
     clear H
     go_upto_region 7 with (fail)
     go_cut [76] (fun v76 wc => ∃ (kq : Nat) (x76_35 : Bool), v76 = .bool x76_35 ∧ AZ (impl_ValidChoices.j2 kq x49_2 t243 x49_2 x76_35 a0_0 l0_1 l0_2 l0_3 l0_4 l0_5 t243 = some r) ∧ AZ (kq ≤ k2) ∧ AZ (wc.heap[gb242]? = some (.cells #[.int .i64 a0_0, (.slice A0_1 l0_1.length c0_1), (.slice A0_2 l0_2.length c0_2), (.slice A0_3 l0_3.length c0_3), (.slice A0_4 l0_4.length c0_4), (.slice A0_5 l0_5.length c0_5)] 33 (0, 0))) ∧ AZ (wc.heap[gb244]? = some (.cells #[.int .i64 t243] 2 (0, 0))) ∧ AZ (Below w.heap.size w wc))
     case first =>
      have H := HC36.out
      clear HC36
      by_cases c37 : 0 ≤ x49_2
      rotate_left
      ·rw [if_neg c37] at H
       exact absurd H (by simp)
      as_aux_lemma =>
      rw [if_pos c37] at H
      have c37b0 : decide (0 ≤ x49_2) = true := decide_eq_true c37
      clear c37
      (first | rw [c37b0] | rw [c37b1] | (simp only [i64_w, i32_w]; rw [c37b0]) | skip)
      by_cases c38 : x49_2 < (l0_3.length : Int)
      rotate_left
      ·rw [if_neg c38] at H
       exact absurd H (by simp)
      rw [if_pos c38] at H
      have c38b0 : decide (x49_2 < (l0_3.length : Int)) = true := decide_eq_true c38
      clear c38
      by_cases c39 : ((rd_L10 l0_3 x49_2).length : Int) = 2
      rotate_left
      ·rw [if_neg c39] at H
       have c39b0 : (((rd_L10 l0_3 x49_2).length : Int) == 2) = false := beq_eq_false_iff_ne.mpr c39
       have c39b1 : (((rd_L10 l0_3 x49_2).length : Int) != 2) = true := bne_iff_ne.mpr c39
       have H' := AZ.mk H
       clear H
       have hnb47 := NB242_244.out
       have hnc47 := NB244_242.out
       obtain ⟨hcz48_0, hcz48_1, hcz48_2, hcz48_3, hcz48_4, hcz48_5⟩ := c6 BK242.out
       obtain ⟨hfz48_0, hfz48_1, hfz48_2, hfz48_3, hfz48_4, hfz48_5⟩ := f6 BK242.out
       have p251 : 0 ≤ (x49_2 : Int) := oT (by first | (with_reducible assumption) | assumption)
       have q251 : x49_2 < (l0_3.length : Int) := oT (by first | (with_reducible assumption) | assumption)
       obtain ⟨ad251, A251_0, c251_0, e251, hx251_0, hl251_0, hi251_0⟩ := at_L10 HR0_3.out x49_2 p251 q251
       cases e251
       replace hx251_0 := (HB.out.cell (World.block_lt_of_cell? w _ hx251_0)).trans hx251_0
       have HR251_0 := AZ.mk hi251_0
       have HC251_0 := AZ.mk hl251_0
       clear hi251_0 hl251_0
       replace p251 := eq_true p251
       replace q251 := eq_true q251
       go_wp2
       go_meet
       case rel => exact ⟨_, (true), (by first | rfl | (simp; done) | (simp [*]; done)), H', ⟨by have := HJ2.out; have := HK2.out; first | omega | exact Nat.le_refl _⟩, ⟨by (with_reducible repeat (first | refine bn_ ?_ _ | refine bd_ ?_ | refine ba_ ?_ _)); exact BK242.out⟩, ⟨by (with_reducible repeat (first | refine bn_ ?_ _ | refine bd_ ?_ | refine ba_ ?_ _)); exact BK244.out⟩, ⟨by repeat (first | (with_reducible first | exact HB.out | apply pA | apply pN | apply pD | refine pS ?_ GE242.out | refine pS ?_ GE244.out) | exact HB.out)⟩⟩
      rw [if_pos c39] at H
      have c39b0 : (((rd_L10 l0_3 x49_2).length : Int) == 2) = true := beq_iff_eq.mpr c39
      have c39b1 : (((rd_L10 l0_3 x49_2).length : Int) != 2) = false := bne_eq_false_iff_eq.mpr c39
      clear c39
      by_cases c40 : x49_2 < (l0_4.length : Int)
      rotate_left
      ·rw [if_neg c40] at H
       exact absurd H (by simp)
      rw [if_pos c40] at H
      have c40b0 : decide (x49_2 < (l0_4.length : Int)) = true := decide_eq_true c40
      clear c40
      by_cases c41 : ((rd_L7 l0_4 x49_2).length : Int) = 2
      rotate_left
      ·rw [if_neg c41] at H
       have c41b0 : (((rd_L7 l0_4 x49_2).length : Int) == 2) = false := beq_eq_false_iff_ne.mpr c41
       have c41b1 : (((rd_L7 l0_4 x49_2).length : Int) != 2) = true := bne_iff_ne.mpr c41
       have H' := AZ.mk H
       clear H
       have hnb45 := NB242_244.out
       have hnc45 := NB244_242.out
       obtain ⟨hcz46_0, hcz46_1, hcz46_2, hcz46_3, hcz46_4, hcz46_5⟩ := c6 BK242.out
       obtain ⟨hfz46_0, hfz46_1, hfz46_2, hfz46_3, hfz46_4, hfz46_5⟩ := f6 BK242.out
       have p251 : 0 ≤ (x49_2 : Int) := oT (by first | (with_reducible assumption) | assumption)
       have q251 : x49_2 < (l0_3.length : Int) := oT (by first | (with_reducible assumption) | assumption)
       obtain ⟨ad251, A251_0, c251_0, e251, hx251_0, hl251_0, hi251_0⟩ := at_L10 HR0_3.out x49_2 p251 q251
       cases e251
       replace hx251_0 := (HB.out.cell (World.block_lt_of_cell? w _ hx251_0)).trans hx251_0
       have HR251_0 := AZ.mk hi251_0
       have HC251_0 := AZ.mk hl251_0
       clear hi251_0 hl251_0
       replace p251 := eq_true p251
       replace q251 := eq_true q251
       have p252 : 0 ≤ (x49_2 : Int) := oT (by first | (with_reducible assumption) | assumption)
       have q252 : x49_2 < (l0_4.length : Int) := oT (by first | (with_reducible assumption) | assumption)
       obtain ⟨ad252, A252_0, c252_0, e252, hx252_0, hl252_0, hi252_0⟩ := at_L7 HR0_4.out x49_2 p252 q252
       cases e252
       replace hx252_0 := (HB.out.cell (World.block_lt_of_cell? w _ hx252_0)).trans hx252_0
       have HR252_0 := AZ.mk hi252_0
       have HC252_0 := AZ.mk hl252_0
       clear hi252_0 hl252_0
       replace p252 := eq_true p252
       replace q252 := eq_true q252
       go_wp2
       go_meet
       case rel => exact ⟨_, (true), (by first | rfl | (simp; done) | (simp [*]; done)), H', ⟨by have := HJ2.out; have := HK2.out; first | omega | exact Nat.le_refl _⟩, ⟨by (with_reducible repeat (first | refine bn_ ?_ _ | refine bd_ ?_ | refine ba_ ?_ _)); exact BK242.out⟩, ⟨by (with_reducible repeat (first | refine bn_ ?_ _ | refine bd_ ?_ | refine ba_ ?_ _)); exact BK244.out⟩, ⟨by repeat (first | (with_reducible first | exact HB.out | apply pA | apply pN | apply pD | refine pS ?_ GE242.out | refine pS ?_ GE244.out) | exact HB.out)⟩⟩
      rw [if_pos c41] at H
      have c41b0 : (((rd_L7 l0_4 x49_2).length : Int) == 2) = true := beq_iff_eq.mpr c41
      have c41b1 : (((rd_L7 l0_4 x49_2).length : Int) != 2) = false := bne_eq_false_iff_eq.mpr c41
      clear c41
      by_cases c42 : x49_2 < (l0_5.length : Int)
      rotate_left
      ·rw [if_neg c42] at H
       exact absurd H (by simp)
      rw [if_pos c42] at H
      have c42b0 : decide (x49_2 < (l0_5.length : Int)) = true := decide_eq_true c42
      clear c42
      have H' := AZ.mk H
      clear H
      have hnb43 := NB242_244.out
      have hnc43 := NB244_242.out
      obtain ⟨hcz44_0, hcz44_1, hcz44_2, hcz44_3, hcz44_4, hcz44_5⟩ := c6 BK242.out
      obtain ⟨hfz44_0, hfz44_1, hfz44_2, hfz44_3, hfz44_4, hfz44_5⟩ := f6 BK242.out
      have p251 : 0 ≤ (x49_2 : Int) := oT (by first | (with_reducible assumption) | assumption)
      have q251 : x49_2 < (l0_3.length : Int) := oT (by first | (with_reducible assumption) | assumption)
      obtain ⟨ad251, A251_0, c251_0, e251, hx251_0, hl251_0, hi251_0⟩ := at_L10 HR0_3.out x49_2 p251 q251
      cases e251
      replace hx251_0 := (HB.out.cell (World.block_lt_of_cell? w _ hx251_0)).trans hx251_0
      have HR251_0 := AZ.mk hi251_0
      have HC251_0 := AZ.mk hl251_0
      clear hi251_0 hl251_0
      replace p251 := eq_true p251
      replace q251 := eq_true q251
      have p252 : 0 ≤ (x49_2 : Int) := oT (by first | (with_reducible assumption) | assumption)
      have q252 : x49_2 < (l0_4.length : Int) := oT (by first | (with_reducible assumption) | assumption)
      obtain ⟨ad252, A252_0, c252_0, e252, hx252_0, hl252_0, hi252_0⟩ := at_L7 HR0_4.out x49_2 p252 q252
      cases e252
      replace hx252_0 := (HB.out.cell (World.block_lt_of_cell? w _ hx252_0)).trans hx252_0
      have HR252_0 := AZ.mk hi252_0
      have HC252_0 := AZ.mk hl252_0
      clear hi252_0 hl252_0
      replace p252 := eq_true p252
      replace q252 := eq_true q252
      have p253 : 0 ≤ (x49_2 : Int) := oT (by first | (with_reducible assumption) | assumption)
      have q253 : x49_2 < (l0_5.length : Int) := oT (by first | (with_reducible assumption) | assumption)
      obtain ⟨ad253, A253_0, c253_0, e253, hx253_0, hl253_0, hi253_0⟩ := at_L6 HR0_5.out x49_2 p253 q253
      cases e253
      replace hx253_0 := (HB.out.cell (World.block_lt_of_cell? w _ hx253_0)).trans hx253_0
      have HR253_0 := AZ.mk hi253_0
      have HC253_0 := AZ.mk hl253_0
      clear hi253_0 hl253_0
      replace p253 := eq_true p253
      replace q253 := eq_true q253
      go_wp2
      go_meet
      case rel => exact ⟨_, ((((rd_L6 l0_5 x49_2).length : Int) != 2)), (by first | rfl | (simp; done) | (simp [*]; done)), H', ⟨by have := HJ2.out; have := HK2.out; first | omega | exact Nat.le_refl _⟩, ⟨by (with_reducible repeat (first | refine bn_ ?_ _ | refine bd_ ?_ | refine ba_ ?_ _)); exact BK242.out⟩, ⟨by (with_reducible repeat (first | refine bn_ ?_ _ | refine bd_ ?_ | refine ba_ ?_ _)); exact BK244.out⟩, ⟨by repeat (first | (with_reducible first | exact HB.out | apply pA | apply pN | apply pD | refine pS ?_ GE242.out | refine pS ?_ GE244.out) | exact HB.out)⟩⟩
     case rest =>
      clear HC36
      try clear c1
      try clear c2
      try clear p2
      try clear q2
      try clear hx2
      try clear c3
      try clear c4
      try clear c10
      try clear c12
      try clear c21
      try clear c25
      try clear p25
      try clear q25
      try clear hx25
      try clear c32
      try clear c33
      try clear c35
      try clear c35b0
      try clear c37
      try clear c37b0
      try clear c37b1
      try clear c38
      try clear c38b0
      try clear c39
      try clear c39b0
      try clear c39b1
      try clear c40
      try clear c40b0
      try clear c41
      try clear c41b0
      try clear c41b1
      try clear c42
      try clear c42b0
      try clear c43
      try clear c45
      try clear c47
      try clear hcz34_0
      try clear hcz44_0
      try clear hcz44_1
      try clear hcz44_2
      try clear hcz44_3
      try clear hcz44_4
      try clear hcz44_5
      try clear hcz46_0
      try clear hcz46_1
      try clear hcz46_2
      try clear hcz46_3
      try clear hcz46_4
      try clear hcz46_5
      try clear hcz48_0
      try clear hcz48_1
      try clear hcz48_2
      try clear hcz48_3
      try clear hcz48_4
      try clear hcz48_5
      try clear hfz34_0
      try clear hfz44_0
      try clear hfz44_1
      try clear hfz44_2
      try clear hfz44_3
      try clear hfz44_4
      try clear hfz44_5
      try clear hfz46_0
      try clear hfz46_1
      try clear hfz46_2
      try clear hfz46_3
      try clear hfz46_4
      try clear hfz46_5
      try clear hfz48_0
      try clear hfz48_1
      try clear hfz48_2
      try clear hfz48_3
      try clear hfz48_4
      try clear hfz48_5
      try clear hx251_0
      try clear hx252_0
      try clear hx253_0
      try clear p2
      try clear p251
      try clear p252
      try clear p253
      try clear q251
      try clear q252
      try clear q253
      obtain ⟨kq, x76_35, rfl, HA, HJ35, BK242, BK244, HB⟩ := hcut
      cases kq with
      | zero => exact absurd HA.out (by simp [impl_ValidChoices.j2])
      | succ kj35 =>
       have H := HA.out
       clear HA
       simp only [impl_ValidChoices.j2] at H
       by_cases c49 : x76_35 = true
       ·subst c49
        have H1 : (some false) = some r := by rw [if_pos rfl] at H; exact H
        clear H
        have H := H1
        clear H1
        obtain rfl := Option.some.inj H
        go_wp2
        go_ret
        exact ⟨by first | rfl | (simp [errW_none, errW_some] <;> rfl) | (simp [*, errW_none, errW_some] <;> rfl), by repeat (first | (with_reducible first | exact HB.out | apply pA | apply pN | apply pD | refine pS ?_ GE242.out | refine pS ?_ GE244.out) | exact HB.out)⟩
       as_aux_lemma =>
       replace c49 := Bool.eq_false_iff.mpr c49
       subst c49
       have H1 : (impl_ValidChoices.l1 kj35 x49_2 t243 x49_2 0 a0_0 l0_1 l0_2 l0_3 l0_4 l0_5 t243) = some r := by rw [if_neg (show ¬ (false = true) by decide)] at H; exact H
       clear H
       have H := H1
       clear H1
       have H' := AZ.mk H
       clear H
       go_wp2
       go_loopg [77] kj35 (fun kq v77 w' => ∃ (x77_4 : Int), v77 = .int .i64 x77_4 ∧ AZ (impl_ValidChoices.l1 kq x49_2 t243 x49_2 x77_4 a0_0 l0_1 l0_2 l0_3 l0_4 l0_5 t243 = some r) ∧ AZ (kq ≤ kj35) ∧ AZ (w'.heap[gb242]? = some (.cells #[.int .i64 a0_0, (.slice A0_1 l0_1.length c0_1), (.slice A0_2 l0_2.length c0_2), (.slice A0_3 l0_3.length c0_3), (.slice A0_4 l0_4.length c0_4), (.slice A0_5 l0_5.length c0_5)] 33 (0, 0))) ∧ AZ (w'.heap[gb244]? = some (.cells #[.int .i64 t243] 2 (0, 0))) ∧ AZ (Below w.heap.size w w'))
       case atStart => exact ⟨(0), (by first | rfl | (simp; done) | (simp [*]; done)), H', ⟨Nat.le_refl _⟩, ⟨by (with_reducible repeat (first | refine bn_ ?_ _ | refine bd_ ?_ | refine ba_ ?_ _)); exact BK242.out⟩, ⟨by (with_reducible repeat (first | refine bn_ ?_ _ | refine bd_ ?_ | refine ba_ ?_ _)); exact BK244.out⟩, ⟨by repeat (first | (with_reducible first | exact HB.out | apply pA | apply pN | apply pD | refine pS ?_ GE242.out | refine pS ?_ GE244.out) | exact HB.out)⟩⟩
       case round =>
        clear H'
        try clear c1
        try clear c2
        try clear p2
        try clear q2
        try clear hx2
        try clear c3
        try clear c4
        try clear c10
        try clear c12
        try clear c21
        try clear c25
        try clear p25
        try clear q25
        try clear hx25
        try clear c32
        try clear c33
        try clear c35
        try clear c35b0
        try clear c37
        try clear c37b0
        try clear c37b1
        try clear c38
        try clear c38b0
        try clear c39
        try clear c39b0
        try clear c39b1
        try clear c40
        try clear c40b0
        try clear c41
        try clear c41b0
        try clear c41b1
        try clear c42
        try clear c42b0
        try clear c43
        try clear c45
        try clear c47
        try clear c49
        try clear hcz34_0
        try clear hcz44_0
        try clear hcz44_1
        try clear hcz44_2
        try clear hcz44_3
        try clear hcz44_4
        try clear hcz44_5
        try clear hcz46_0
        try clear hcz46_1
        try clear hcz46_2
        try clear hcz46_3
        try clear hcz46_4
        try clear hcz46_5
        try clear hcz48_0
        try clear hcz48_1
        try clear hcz48_2
        try clear hcz48_3
        try clear hcz48_4
        try clear hcz48_5
        try clear hfz34_0
        try clear hfz44_0
        try clear hfz44_1
        try clear hfz44_2
        try clear hfz44_3
        try clear hfz44_4
        try clear hfz44_5
        try clear hfz46_0
        try clear hfz46_1
        try clear hfz46_2
        try clear hfz46_3
        try clear hfz46_4
        try clear hfz46_5
        try clear hfz48_0
        try clear hfz48_1
        try clear hfz48_2
        try clear hfz48_3
        try clear hfz48_4
        try clear hfz48_5
        try clear hx251_0
        try clear hx252_0
        try clear hx253_0
        try clear p2
        try clear p25
        try clear p251
        try clear p252
        try clear p253
        try clear q2
        try clear q25
        try clear q251
        try clear q252
        try clear q253
        obtain ⟨x77_4, rfl, HA, HK4, BK242, BK244, HB⟩ := hrel
        cases gk with
        | zero => exact absurd HA.out (by simp [impl_ValidChoices.l1])
        | succ k4 =>
         have H := HA.out
         clear HA
         simp only [impl_ValidChoices.l1] at H
         by_cases c50 : x77_4 < 2
         rotate_left
         ·rw [if_neg c50] at H
          have c50b0 : decide (x77_4 < 2) = false := decide_eq_false c50
          clear c50
          have H' := AZ.mk H
          clear H
          go_wp2
          go_roundg k4
          case measure => have := HJ2.out; have := HK2.out; have := HJ35.out; have := HK4.out; omega
          case rel => exact ⟨(wrap64 (x49_2 + 1)), (by first | rfl | (simp; done) | (simp [*]; done)), H', ⟨by have := HJ2.out; have := HK2.out; have := HJ35.out; have := HK4.out; omega⟩, ⟨by (with_reducible repeat (first | refine bn_ ?_ _ | refine bd_ ?_ | refine ba_ ?_ _)); exact BK242.out⟩, ⟨by (with_reducible repeat (first | refine bn_ ?_ _ | refine bd_ ?_ | refine ba_ ?_ _)); exact BK244.out⟩, ⟨by repeat (first | (with_reducible first | exact HB.out | apply pA | apply pN | apply pD | refine pS ?_ GE242.out | refine pS ?_ GE244.out) | exact HB.out)⟩⟩
         as_aux_lemma =>
         rw [if_pos c50] at H
         have c50b0 : decide (x77_4 < 2) = true := decide_eq_true c50
         clear c50
         by_cases c51 : 0 ≤ x49_2
         rotate_left
         ·rw [if_neg c51] at H
          exact absurd H (by simp)
         as_aux_lemma =>
         rw [if_pos c51] at H
         have c51b0 : decide (0 ≤ x49_2) = true := decide_eq_true c51
         clear c51
         by_cases c52 : x49_2 < (l0_3.length : Int)
         rotate_left
         ·rw [if_neg c52] at H
          exact absurd H (by simp)
         as_aux_lemma =>
         rw [if_pos c52] at H
         have c52b0 : decide (x49_2 < (l0_3.length : Int)) = true := decide_eq_true c52
         clear c52
         by_cases c53 : 0 ≤ x77_4
         rotate_left
         ·rw [if_neg c53] at H
          exact absurd H (by simp)
         as_aux_lemma =>
         rw [if_pos c53] at H
         have c53b0 : decide (0 ≤ x77_4) = true := decide_eq_true c53
         clear c53
         by_cases c54 : x77_4 < ((rd_L10 l0_3 x49_2).length : Int)
         rotate_left
         ·rw [if_neg c54] at H
          exact absurd H (by simp)
         as_aux_lemma =>
         rw [if_pos c54] at H
         have c54b0 : decide (x77_4 < ((rd_L10 l0_3 x49_2).length : Int)) = true := decide_eq_true c54
         clear c54
         have H' := AZ.mk H
         clear H
         have hnb55 := NB242_244.out
         have hnc55 := NB244_242.out
         obtain ⟨hcz56_0, hcz56_1, hcz56_2, hcz56_3, hcz56_4, hcz56_5⟩ := c6 BK242.out
         obtain ⟨hfz56_0, hfz56_1, hfz56_2, hfz56_3, hfz56_4, hfz56_5⟩ := f6 BK242.out
         have p254 : 0 ≤ (x49_2 : Int) := oT (by first | (with_reducible assumption) | assumption)
         have q254 : x49_2 < (l0_3.length : Int) := oT (by first | (with_reducible assumption) | assumption)
         obtain ⟨ad254, A254_0, c254_0, e254, hx254_0, hl254_0, hi254_0⟩ := at_L10 HR0_3.out x49_2 p254 q254
         cases e254
         replace hx254_0 := (HB.out.cell (World.block_lt_of_cell? w _ hx254_0)).trans hx254_0
         have HR254_0 := AZ.mk hi254_0
         have HC254_0 := AZ.mk hl254_0
         clear hi254_0 hl254_0
         replace p254 := eq_true p254
         replace q254 := eq_true q254
         have p255 : 0 ≤ (x77_4 : Int) := oT (by first | (with_reducible assumption) | assumption)
         have q255 : x77_4 < ((rd_L10 l0_3 x49_2).length : Int) := oT (by first | (with_reducible assumption) | assumption)
         obtain ⟨ad255, A255_0, c255_0, e255, hx255_0, hl255_0, hi255_0⟩ := at_L9 HR254_0.out x77_4 p255 q255
         cases e255
         replace hx255_0 := (HB.out.cell (World.block_lt_of_cell? w _ hx255_0)).trans hx255_0
         have HR255_0 := AZ.mk hi255_0
         have HC255_0 := AZ.mk hl255_0
         clear hi255_0 hl255_0
         replace p255 := eq_true p255
         replace q255 := eq_true q255
         go_wp2
         go_loopg [89] k4 (fun kq v89 w' => ∃ (x89_5 : Int), v89 = .int .i64 x89_5 ∧ AZ (impl_ValidChoices.l2 kq x49_2 x77_4 t243 x49_2 x77_4 (rd_L9 (rd_L10 l0_3 x49_2) x77_4) ((rd_L9 (rd_L10 l0_3 x49_2) x77_4).length : Int) x89_5 a0_0 l0_1 l0_2 l0_3 l0_4 l0_5 t243 = some r) ∧ AZ (kq ≤ k4) ∧ AZ (w'.heap[gb242]? = some (.cells #[.int .i64 a0_0, (.slice A0_1 l0_1.length c0_1), (.slice A0_2 l0_2.length c0_2), (.slice (some ad254) l0_3.length c0_3), (.slice A0_4 l0_4.length c0_4), (.slice A0_5 l0_5.length c0_5)] 33 (0, 0))) ∧ AZ (w'.heap[gb244]? = some (.cells #[.int .i64 t243] 2 (0, 0))) ∧ AZ (Below w.heap.size w w'))
         case atStart => exact ⟨(0), (by first | rfl | (simp; done) | (simp [*]; done)), H', ⟨Nat.le_refl _⟩, ⟨by (with_reducible repeat (first | refine bn_ ?_ _ | refine bd_ ?_ | refine ba_ ?_ _)); exact BK242.out⟩, ⟨by (with_reducible repeat (first | refine bn_ ?_ _ | refine bd_ ?_ | refine ba_ ?_ _)); exact BK244.out⟩, ⟨by repeat (first | (with_reducible first | exact HB.out | apply pA | apply pN | apply pD | refine pS ?_ GE242.out | refine pS ?_ GE244.out) | exact HB.out)⟩⟩
         case round =>
          clear H'
          try clear c1
          try clear c2
          try clear p2
          try clear q2
          try clear hx2
          try clear c3
          try clear c4
          try clear c5
          try clear c10
          try clear c12
          try clear c21
          try clear c25
          try clear p25
          try clear q25
          try clear hx25
          try clear c32
          try clear c33
          try clear c35
          try clear c35b0
          try clear c37
          try clear c37b0
          try clear c37b1
          try clear c38
          try clear c38b0
          try clear c39
          try clear c39b0
          try clear c39b1
          try clear c40
          try clear c40b0
          try clear c41
          try clear c41b0
          try clear c41b1
          try clear c42
          try clear c42b0
          try clear c43
          try clear c45
          try clear c47
          try clear c49
          try clear c50
          try clear c50b0
          try clear c51
          try clear c51b0
          try clear c52
          try clear c52b0
          try clear c53
          try clear c53b0
          try clear c54
          try clear c54b0
          try clear c55
          try clear hcz34_0
          try clear hcz44_0
          try clear hcz44_1
          try clear hcz44_2
          try clear hcz44_3
          try clear hcz44_4
          try clear hcz44_5
          try clear hcz46_0
          try clear hcz46_1
          try clear hcz46_2
          try clear hcz46_3
          try clear hcz46_4
          try clear hcz46_5
          try clear hcz48_0
          try clear hcz48_1
          try clear hcz48_2
          try clear hcz48_3
          try clear hcz48_4
          try clear hcz48_5
          try clear hcz56_0
          try clear hcz56_1
          try clear hcz56_2
          try clear hcz56_3
          try clear hcz56_4
          try clear hcz56_5
          try clear hfz34_0
          try clear hfz44_0
          try clear hfz44_1
          try clear hfz44_2
          try clear hfz44_3
          try clear hfz44_4
          try clear hfz44_5
          try clear hfz46_0
          try clear hfz46_1
          try clear hfz46_2
          try clear hfz46_3
          try clear hfz46_4
          try clear hfz46_5
          try clear hfz48_0
          try clear hfz48_1
          try clear hfz48_2
          try clear hfz48_3
          try clear hfz48_4
          try clear hfz48_5
          try clear hfz56_0
          try clear hfz56_1
          try clear hfz56_2
          try clear hfz56_3
          try clear hfz56_4
          try clear hfz56_5
          try clear hx251_0
          try clear hx252_0
          try clear hx253_0
          try clear hx254_0
          try clear hx255_0
          try clear p2
          try clear p25
          try clear p251
          try clear p252
          try clear p253
          try clear p254
          try clear p255
          try clear q2
          try clear q25
          try clear q251
          try clear q252
          try clear q253
          try clear q254
          try clear q255
          obtain ⟨x89_5, rfl, HA, HK5, BK242, BK244, HB⟩ := hrel
          cases gk with
          | zero => exact absurd HA.out (by simp [impl_ValidChoices.l2])
          | succ k5 =>
           have H := HA.out
           clear HA
           simp only [impl_ValidChoices.l2] at H
           by_cases c57 : x89_5 < ((rd_L9 (rd_L10 l0_3 x49_2) x77_4).length : Int)
           rotate_left
           ·as_aux_lemma =>
            rw [if_neg c57] at H
            have c57b0 : decide (x89_5 < ((rd_L9 (rd_L10 l0_3 x49_2) x77_4).length : Int)) = false := decide_eq_false c57
            clear c57
            have HC88 := AZ.mk H
            clear H
            go_upto_region 18 with (fail)
            go_cut [168] (fun v168 wc => ∃ (kq : Nat) (x168_87 : Bool), v168 = .bool x168_87 ∧ AZ (impl_ValidChoices.j6 kq x49_2 t243 x49_2 x77_4 x168_87 a0_0 l0_1 l0_2 l0_3 l0_4 l0_5 t243 = some r) ∧ AZ (kq ≤ k5) ∧ AZ (wc.heap[gb242]? = some (.cells #[.int .i64 a0_0, (.slice A0_1 l0_1.length c0_1), (.slice A0_2 l0_2.length c0_2), (.slice (some ad254) l0_3.length c0_3), (.slice A0_4 l0_4.length c0_4), (.slice A0_5 l0_5.length c0_5)] 33 (0, 0))) ∧ AZ (wc.heap[gb244]? = some (.cells #[.int .i64 t243] 2 (0, 0))) ∧ AZ (Below w.heap.size w wc))
            case first =>
             have H := HC88.out
             clear HC88
             by_cases c89 : 0 ≤ x49_2
             rotate_left
             ·rw [if_neg c89] at H
              exact absurd H (by simp)
             as_aux_lemma =>
             rw [if_pos c89] at H
             have c89b0 : decide (0 ≤ x49_2) = true := decide_eq_true c89
             clear c89
             (first | rw [c89b0] | rw [c89b1] | (simp only [i64_w, i32_w]; rw [c89b0]) | skip)
             by_cases c90 : x49_2 < (l0_5.length : Int)
             rotate_left
             ·rw [if_neg c90] at H
              exact absurd H (by simp)
             as_aux_lemma =>
             rw [if_pos c90] at H
             have c90b0 : decide (x49_2 < (l0_5.length : Int)) = true := decide_eq_true c90
             clear c90
             by_cases c91 : 0 ≤ x77_4
             rotate_left
             ·rw [if_neg c91] at H
              exact absurd H (by simp)
             as_aux_lemma =>
             rw [if_pos c91] at H
             have c91b0 : decide (0 ≤ x77_4) = true := decide_eq_true c91
             clear c91
             by_cases c92 : x77_4 < ((rd_L6 l0_5 x49_2).length : Int)
             rotate_left
             ·rw [if_neg c92] at H
              exact absurd H (by simp)
             as_aux_lemma =>
             rw [if_pos c92] at H
             have c92b0 : decide (x77_4 < ((rd_L6 l0_5 x49_2).length : Int)) = true := decide_eq_true c92
             clear c92
             replace H := Option.bind_eq_some_iff.mp H
             obtain ⟨t266, A930, H⟩ := H
             replace H : (if t266 = true then (if x49_2 < (l0_4.length : Int) then (if x77_4 < ((rd_L7 l0_4 x49_2).length : Int) then ((impl_size_Lint64.f (rd_L6 (rd_L7 l0_4 x49_2) x77_4)).bind fun t269 => (if t269 = (wrap64 (a0_0 + 1)) then ((slices_ContainsFunc_LLint64_Lint64_at_impl_ValidChoices_1.f k5 (rd_L6 (rd_L7 l0_4 x49_2) x77_4) t243).bind fun t272 => (impl_ValidChoices.j6 k5 x49_2 t243 x49_2 x77_4 t272 a0_0 l0_1 l0_2 l0_3 l0_4 l0_5 t243)) else (impl_ValidChoices.j6 k5 x49_2 t243 x49_2 x77_4 true a0_0 l0_1 l0_2 l0_3 l0_4 l0_5 t243))) else (none)) else (none)) else (impl_ValidChoices.j6 k5 x49_2 t243 x49_2 x77_4 true a0_0 l0_1 l0_2 l0_3 l0_4 l0_5 t243)) = some r := H
             have A93 := AZ.mk A930
             clear A930
             by_cases c94 : t266 = true
             rotate_left
             ·as_aux_lemma =>
              replace c94 := Bool.eq_false_iff.mpr c94
              subst c94
              have H1 : (impl_ValidChoices.j6 k5 x49_2 t243 x49_2 x77_4 true a0_0 l0_1 l0_2 l0_3 l0_4 l0_5 t243) = some r := by rw [if_neg (show ¬ (false = true) by decide)] at H; exact H
              clear H
              have H := H1
              clear H1
              have H' := AZ.mk H
              clear H
              try go_wp2
              have n0_ := AZ.mk (bd_ BK242.out)
              have n1_ := AZ.mk (bd_ BK244.out)
              have n2_ := AZ.mk (pD HB.out)
              clear BK242
              clear BK244
              clear HB
              have BK242 := n0_
              have BK244 := n1_
              have HB := n2_
              clear n0_ n1_ n2_
              have p264 : 0 ≤ (x49_2 : Int) := oT (by first | (with_reducible assumption) | assumption)
              have q264 : x49_2 < (l0_5.length : Int) := oT (by first | (with_reducible assumption) | assumption)
              obtain ⟨ad264, A264_0, c264_0, e264, hx264_0, hl264_0, hi264_0⟩ := at_L6 HR0_5.out x49_2 p264 q264
              have hw264_0 := hx264_0
              cases e264
              replace hx264_0 := (HB.out.cell (World.block_lt_of_cell? w _ hx264_0)).trans hx264_0
              have HR264_0 := AZ.mk hi264_0
              have HC264_0 := AZ.mk hl264_0
              clear hi264_0 hl264_0
              replace p264 := eq_true p264
              replace q264 := eq_true q264
              have p265 : 0 ≤ (x77_4 : Int) := oT (by first | (with_reducible assumption) | assumption)
              have q265 : x77_4 < ((rd_L6 l0_5 x49_2).length : Int) := oT (by first | (with_reducible assumption) | assumption)
              obtain ⟨ad265, A265_0, c265_0, e265, hx265_0, hl265_0, hi265_0⟩ := at_L5 HR264_0.out x77_4 p265 q265
              have hw265_0 := hx265_0
              cases e265
              replace hx265_0 := (HB.out.cell (World.block_lt_of_cell? w _ hx265_0)).trans hx265_0
              have HR265_0 := AZ.mk hi265_0
              have HC265_0 := AZ.mk hl265_0
              clear hi265_0 hl265_0
              replace p265 := eq_true p265
              replace q265 := eq_true q265
              refine start_ (n := 38) (S := fun w' => w'.cell? ⟨gb242, 0, none⟩ = some (.int .i64 a0_0) ∧ w'.cell? ⟨gb242, 1, none⟩ = some (.slice A0_1 l0_1.length c0_1) ∧ w'.cell? ⟨gb242, 2, none⟩ = some (.slice A0_2 l0_2.length c0_2) ∧ w'.cell? ⟨gb242, 3, none⟩ = some (.slice (some ad254) l0_3.length c0_3) ∧ w'.cell? ⟨gb242, 4, none⟩ = some (.slice A0_4 l0_4.length c0_4) ∧ w'.cell? ⟨gb242, 5, none⟩ = some (.slice (some ad264) l0_5.length c0_5) ∧ w'.cell? ⟨gb244, 0, none⟩ = some (.int .i64 t243) ∧ w'.cell? (ad264.add (x49_2).toNat) = some (.slice (some ad265) (rd_L6 l0_5 x49_2).length c264_0) ∧ w'.cell? (ad265.add (x77_4).toNat) = some (.slice A265_0 (rd_L5 (rd_L6 l0_5 x49_2) x77_4).length c265_0)) (ds := []) (bz 38 0) (by kernel_rfl) rfl rfl ⟨(bc BK242.out 0).trans rfl, (bc BK242.out 1).trans rfl, (bc BK242.out 2).trans rfl, (bc BK242.out 3).trans rfl, (bc BK242.out 4).trans rfl, (bc BK242.out 5).trans rfl, (bc BK244.out 0).trans rfl, ((HB.out.cell (World.block_lt_of_cell? w _ hw264_0)).trans hw264_0), ((HB.out.cell (World.block_lt_of_cell? w _ hw265_0)).trans hw265_0)⟩ (fun hHeld => ?_); refine with_tabW impl_ValidChoices.tab18 impl_ValidChoices.bits18 (fun HT_ HW_ => ?_)
              generalize wr.drew = w103 at BK242 BK244 HB HR264_0 HR265_0 hx264_0 hx265_0 hHeld ⊢
              iterate 9 (first | (refine pz_ HT_ impl_ValidChoices.cz18 rfl rfl rfl (v := ?_) (a' := ?_) (by kernel_rfl) (fun _ _ _ h => h) (Or.inl ⟨by rfl, ?_⟩) ?_ ?_; rotate_left; (intro w'; go_simp; with_reducible rfl); rotate_left; (simp only [Act.put, sA, sB, sC, i64_w, i32_w]; rfl)) | (refine tz_ HT_ HW_ impl_ValidChoices.cz18 rfl rfl rfl (v := ?_) (a' := ?_) (by kernel_rfl) (fun _ _ _ h => h) (Or.inl ⟨by rfl, ?_⟩) hHeld ?_ ?_; rotate_left; (rintro w' ⟨s0, s1, s2, s3, s4, s5, s6, s7, s8⟩; go_simp; with_reducible rfl); rotate_left; (simp only [Act.put, sA, sB, sC, i64_w, i32_w]; rfl)))
              refine one_ (i := 9) (N := some 140) (bz 38 1023) rfl rfl (one_of HT_.out (by kernel_rfl)) (by decide) (fun K hK => ?_)
              refine goes_ Try.func22 (by kernel_rfl) rfl #[.slice A265_0 (rd_L5 (rd_L6 l0_5 x49_2) x77_4).length c265_0, .int .i64 t243] (by rfl) rfl rfl (by (try simp only [List.map_toArray, List.map_cons, List.map_nil]); first | done | rfl | (simp only [List.length_drop, List.length_take]; rfl)) ?_
              with_reducible refine (impl_isRising.calls k5 _ _ (rd_L5 (rd_L6 l0_5 x49_2) x77_4) t243 false _ ?side1 ?side2 A93.out).mono ?_
              (case side1 => repeat (first | exact (Kd.C_below HR265_0.out HB.out) | (with_reducible refine Kd.C_alloc ?_ _) | (with_reducible refine Kd.C_drewN ?_ _) | (with_reducible refine Kd.C_drew ?_)))
              (case side2 => exact HC265_0.out)
              rintro e w' ⟨rfl, ⟨nd, rfl⟩⟩
              refine ⟨_, rfl, ?_⟩
              refine hK.out _ _ ⟨(bc BK242.out 0).trans rfl, (bc BK242.out 1).trans rfl, (bc BK242.out 2).trans rfl, (bc BK242.out 3).trans rfl, (bc BK242.out 4).trans rfl, (bc BK242.out 5).trans rfl, (bc BK244.out 0).trans rfl, ((HB.out.cell (World.block_lt_of_cell? w _ hw264_0)).trans hw264_0), ((HB.out.cell (World.block_lt_of_cell? w _ hw265_0)).trans hw265_0)⟩ (fun hHeld => ?_)
              clear hK K
              refine norm_ (a' := ?_) ?_ ?_
              rotate_left
              ·show Act.put _ (some 140) _ = _
               simp only [Act.put, sA, sB, sC, i64_w, i32_w]
               rfl
              iterate 28 (first | (refine pz_ HT_ impl_ValidChoices.cz22 rfl rfl rfl (v := ?_) (a' := ?_) (by kernel_rfl) (fun _ _ _ h => h) (Or.inl ⟨by rfl, ?_⟩) ?_ ?_; rotate_left; (intro w'; go_simp; with_reducible rfl); rotate_left; (simp only [Act.put, sA, sB, sC, i64_w, i32_w]; rfl)) | (refine uz_ HT_ impl_ValidChoices.cz22 rfl rfl rfl (v := undef) (a' := ?_) (by kernel_rfl) (fun _ _ _ h => h) (Or.inr ⟨by rfl, rfl⟩) ?_ ?_; rotate_left; (simp only [Act.put, sA, sB, sC, i64_w, i32_w]; rfl)))
              refine done_ (done_of HT_.out (by kernel_rfl)) ?_
              try go_wp2
              go_meet
              case rel => exact ⟨_, (true), (by first | rfl | (simp; done) | (simp [*]; done)), H', ⟨by have := HJ2.out; have := HK2.out; have := HJ35.out; have := HK4.out; have := HK5.out; first | omega | exact Nat.le_refl _⟩, ⟨by (with_reducible repeat (first | refine bn_ ?_ _ | refine bd_ ?_ | refine ba_ ?_ _)); exact BK242.out⟩, ⟨by (with_reducible repeat (first | refine bn_ ?_ _ | refine bd_ ?_ | refine ba_ ?_ _)); exact BK244.out⟩, ⟨by repeat (first | (with_reducible first | exact HB.out | apply pA | apply pN | apply pD | refine pS ?_ GE242.out | refine pS ?_ GE244.out) | exact HB.out)⟩⟩
             as_aux_lemma =>
             subst c94
             have H1 : (if x49_2 < (l0_4.length : Int) then (if x77_4 < ((rd_L7 l0_4 x49_2).length : Int) then ((impl_size_Lint64.f (rd_L6 (rd_L7 l0_4 x49_2) x77_4)).bind fun t269 => (if t269 = (wrap64 (a0_0 + 1)) then ((slices_ContainsFunc_LLint64_Lint64_at_impl_ValidChoices_1.f k5 (rd_L6 (rd_L7 l0_4 x49_2) x77_4) t243).bind fun t272 => (impl_ValidChoices.j6 k5 x49_2 t243 x49_2 x77_4 t272 a0_0 l0_1 l0_2 l0_3 l0_4 l0_5 t243)) else (impl_ValidChoices.j6 k5 x49_2 t243 x49_2 x77_4 true a0_0 l0_1 l0_2 l0_3 l0_4 l0_5 t243))) else (none)) else (none)) = some r := by rw [if_pos rfl] at H; exact H
             clear H
             have H := H1
             clear H1
             by_cases c95 : x49_2 < (l0_4.length : Int)
             rotate_left
             ·rw [if_neg c95] at H
              exact absurd H (by simp)
             as_aux_lemma =>
             rw [if_pos c95] at H
             have c95b0 : decide (x49_2 < (l0_4.length : Int)) = true := decide_eq_true c95
             clear c95
             by_cases c96 : x77_4 < ((rd_L7 l0_4 x49_2).length : Int)
             rotate_left
             ·rw [if_neg c96] at H
              exact absurd H (by simp)
             as_aux_lemma =>
             rw [if_pos c96] at H
             have c96b0 : decide (x77_4 < ((rd_L7 l0_4 x49_2).length : Int)) = true := decide_eq_true c96
             clear c96
             replace H := Option.bind_eq_some_iff.mp H
             obtain ⟨t269, A970, H⟩ := H
             replace H : (if t269 = (wrap64 (a0_0 + 1)) then ((slices_ContainsFunc_LLint64_Lint64_at_impl_ValidChoices_1.f k5 (rd_L6 (rd_L7 l0_4 x49_2) x77_4) t243).bind fun t272 => (impl_ValidChoices.j6 k5 x49_2 t243 x49_2 x77_4 t272 a0_0 l0_1 l0_2 l0_3 l0_4 l0_5 t243)) else (impl_ValidChoices.j6 k5 x49_2 t243 x49_2 x77_4 true a0_0 l0_1 l0_2 l0_3 l0_4 l0_5 t243)) = some r := H
             have A97 := AZ.mk A970
             clear A970
             by_cases c98 : t269 = (wrap64 (a0_0 + 1))
             rotate_left
             ·as_aux_lemma =>
              rw [if_neg c98] at H
              have c98b0 : (t269 == (wrap64 (a0_0 + 1))) = false := beq_eq_false_iff_ne.mpr c98
              have c98b1 : (t269 != (wrap64 (a0_0 + 1))) = true := bne_iff_ne.mpr c98
              have H' := AZ.mk H
              clear H
              try go_wp2
              have n0_ := AZ.mk (bd_ BK242.out)
              have n1_ := AZ.mk (bd_ BK244.out)
              have n2_ := AZ.mk (pD HB.out)
              clear BK242
              clear BK244
              clear HB
              have BK242 := n0_
              have BK244 := n1_
              have HB := n2_
              clear n0_ n1_ n2_
              have p264 : 0 ≤ (x49_2 : Int) := oT (by first | (with_reducible assumption) | assumption)
              have q264 : x49_2 < (l0_5.length : Int) := oT (by first | (with_reducible assumption) | assumption)
              obtain ⟨ad264, A264_0, c264_0, e264, hx264_0, hl264_0, hi264_0⟩ := at_L6 HR0_5.out x49_2 p264 q264
              have hw264_0 := hx264_0
              cases e264
              replace hx264_0 := (HB.out.cell (World.block_lt_of_cell? w _ hx264_0)).trans hx264_0
              have HR264_0 := AZ.mk hi264_0
              have HC264_0 := AZ.mk hl264_0
              clear hi264_0 hl264_0
              replace p264 := eq_true p264
              replace q264 := eq_true q264
              have p265 : 0 ≤ (x77_4 : Int) := oT (by first | (with_reducible assumption) | assumption)
              have q265 : x77_4 < ((rd_L6 l0_5 x49_2).length : Int) := oT (by first | (with_reducible assumption) | assumption)
              obtain ⟨ad265, A265_0, c265_0, e265, hx265_0, hl265_0, hi265_0⟩ := at_L5 HR264_0.out x77_4 p265 q265
              have hw265_0 := hx265_0
              cases e265
              replace hx265_0 := (HB.out.cell (World.block_lt_of_cell? w _ hx265_0)).trans hx265_0
              have HR265_0 := AZ.mk hi265_0
              have HC265_0 := AZ.mk hl265_0
              clear hi265_0 hl265_0
              replace p265 := eq_true p265
              replace q265 := eq_true q265
              have p267 : 0 ≤ (x49_2 : Int) := oT (by first | (with_reducible assumption) | assumption)
              have q267 : x49_2 < (l0_4.length : Int) := oT (by first | (with_reducible assumption) | assumption)
              obtain ⟨ad267, A267_0, c267_0, e267, hx267_0, hl267_0, hi267_0⟩ := at_L7 HR0_4.out x49_2 p267 q267
              have hw267_0 := hx267_0
              cases e267
              replace hx267_0 := (HB.out.cell (World.block_lt_of_cell? w _ hx267_0)).trans hx267_0
              have HR267_0 := AZ.mk hi267_0
              have HC267_0 := AZ.mk hl267_0
              clear hi267_0 hl267_0
              replace p267 := eq_true p267
              replace q267 := eq_true q267
              have p268 : 0 ≤ (x77_4 : Int) := oT (by first | (with_reducible assumption) | assumption)
              have q268 : x77_4 < ((rd_L7 l0_4 x49_2).length : Int) := oT (by first | (with_reducible assumption) | assumption)
              obtain ⟨ad268, A268_0, c268_0, e268, hx268_0, hl268_0, hi268_0⟩ := at_L6 HR267_0.out x77_4 p268 q268
              have hw268_0 := hx268_0
              cases e268
              replace hx268_0 := (HB.out.cell (World.block_lt_of_cell? w _ hx268_0)).trans hx268_0
              have HR268_0 := AZ.mk hi268_0
              have HC268_0 := AZ.mk hl268_0
              clear hi268_0 hl268_0
              replace p268 := eq_true p268
              replace q268 := eq_true q268
              refine start_ (n := 38) (S := fun w' => w'.cell? ⟨gb242, 0, none⟩ = some (.int .i64 a0_0) ∧ w'.cell? ⟨gb242, 1, none⟩ = some (.slice A0_1 l0_1.length c0_1) ∧ w'.cell? ⟨gb242, 2, none⟩ = some (.slice A0_2 l0_2.length c0_2) ∧ w'.cell? ⟨gb242, 3, none⟩ = some (.slice (some ad254) l0_3.length c0_3) ∧ w'.cell? ⟨gb242, 4, none⟩ = some (.slice (some ad267) l0_4.length c0_4) ∧ w'.cell? ⟨gb242, 5, none⟩ = some (.slice (some ad264) l0_5.length c0_5) ∧ w'.cell? ⟨gb244, 0, none⟩ = some (.int .i64 t243) ∧ w'.cell? (ad264.add (x49_2).toNat) = some (.slice (some ad265) (rd_L6 l0_5 x49_2).length c264_0) ∧ w'.cell? (ad265.add (x77_4).toNat) = some (.slice A265_0 (rd_L5 (rd_L6 l0_5 x49_2) x77_4).length c265_0) ∧ w'.cell? (ad267.add (x49_2).toNat) = some (.slice (some ad268) (rd_L7 l0_4 x49_2).length c267_0) ∧ w'.cell? (ad268.add (x77_4).toNat) = some (.slice A268_0 (rd_L6 (rd_L7 l0_4 x49_2) x77_4).length c268_0)) (ds := []) (bz 38 0) (by kernel_rfl) rfl rfl ⟨(bc BK242.out 0).trans rfl, (bc BK242.out 1).trans rfl, (bc BK242.out 2).trans rfl, (bc BK242.out 3).trans rfl, (bc BK242.out 4).trans rfl, (bc BK242.out 5).trans rfl, (bc BK244.out 0).trans rfl, ((HB.out.cell (World.block_lt_of_cell? w _ hw264_0)).trans hw264_0), ((HB.out.cell (World.block_lt_of_cell? w _ hw265_0)).trans hw265_0), ((HB.out.cell (World.block_lt_of_cell? w _ hw267_0)).trans hw267_0), ((HB.out.cell (World.block_lt_of_cell? w _ hw268_0)).trans hw268_0)⟩ (fun hHeld => ?_); refine with_tabW impl_ValidChoices.tab18 impl_ValidChoices.bits18 (fun HT_ HW_ => ?_)
              generalize wr.drew = w102 at BK242 BK244 HB HR264_0 HR265_0 HR267_0 HR268_0 hx264_0 hx265_0 hx267_0 hx268_0 hHeld ⊢
              iterate 9 (first | (refine pz_ HT_ impl_ValidChoices.cz18 rfl rfl rfl (v := ?_) (a' := ?_) (by kernel_rfl) (fun _ _ _ h => h) (Or.inl ⟨by rfl, ?_⟩) ?_ ?_; rotate_left; (intro w'; go_simp; with_reducible rfl); rotate_left; (simp only [Act.put, sA, sB, sC, i64_w, i32_w]; rfl)) | (refine tz_ HT_ HW_ impl_ValidChoices.cz18 rfl rfl rfl (v := ?_) (a' := ?_) (by kernel_rfl) (fun _ _ _ h => h) (Or.inl ⟨by rfl, ?_⟩) hHeld ?_ ?_; rotate_left; (rintro w' ⟨s0, s1, s2, s3, s4, s5, s6, s7, s8, s9, s10⟩; go_simp; with_reducible rfl); rotate_left; (simp only [Act.put, sA, sB, sC, i64_w, i32_w]; rfl)))
              refine one_ (i := 9) (N := some 140) (bz 38 1023) rfl rfl (one_of HT_.out (by kernel_rfl)) (by decide) (fun K hK => ?_)
              refine goes_ Try.func22 (by kernel_rfl) rfl #[.slice A265_0 (rd_L5 (rd_L6 l0_5 x49_2) x77_4).length c265_0, .int .i64 t243] (by rfl) rfl rfl (by (try simp only [List.map_toArray, List.map_cons, List.map_nil]); first | done | rfl | (simp only [List.length_drop, List.length_take]; rfl)) ?_
              with_reducible refine (impl_isRising.calls k5 _ _ (rd_L5 (rd_L6 l0_5 x49_2) x77_4) t243 true _ ?side1 ?side2 A93.out).mono ?_
              (case side1 => repeat (first | exact (Kd.C_below HR265_0.out HB.out) | (with_reducible refine Kd.C_alloc ?_ _) | (with_reducible refine Kd.C_drewN ?_ _) | (with_reducible refine Kd.C_drew ?_)))
              (case side2 => exact HC265_0.out)
              rintro e w' ⟨rfl, ⟨nd, rfl⟩⟩
              refine ⟨_, rfl, ?_⟩
              refine hK.out _ _ ⟨(bc BK242.out 0).trans rfl, (bc BK242.out 1).trans rfl, (bc BK242.out 2).trans rfl, (bc BK242.out 3).trans rfl, (bc BK242.out 4).trans rfl, (bc BK242.out 5).trans rfl, (bc BK244.out 0).trans rfl, ((HB.out.cell (World.block_lt_of_cell? w _ hw264_0)).trans hw264_0), ((HB.out.cell (World.block_lt_of_cell? w _ hw265_0)).trans hw265_0), ((HB.out.cell (World.block_lt_of_cell? w _ hw267_0)).trans hw267_0), ((HB.out.cell (World.block_lt_of_cell? w _ hw268_0)).trans hw268_0)⟩ (fun hHeld => ?_)
              clear hK K
              refine norm_ (a' := ?_) ?_ ?_
              rotate_left
              ·show Act.put _ (some 140) _ = _
               simp only [Act.put, sA, sB, sC, i64_w, i32_w]
               rfl
              iterate 13 (first | (refine pz_ HT_ impl_ValidChoices.cz19 rfl rfl rfl (v := ?_) (a' := ?_) (by kernel_rfl) (fun _ _ _ h => h) (Or.inl ⟨by rfl, ?_⟩) ?_ ?_; rotate_left; (intro w'; go_simp; with_reducible rfl); rotate_left; (simp only [Act.put, sA, sB, sC, i64_w, i32_w]; rfl)) | (refine tz_ HT_ HW_ impl_ValidChoices.cz19 rfl rfl rfl (v := ?_) (a' := ?_) (by kernel_rfl) (fun _ _ _ h => h) (Or.inl ⟨by rfl, ?_⟩) hHeld ?_ ?_; rotate_left; (rintro w' ⟨s0, s1, s2, s3, s4, s5, s6, s7, s8, s9, s10⟩; go_simp; with_reducible rfl); rotate_left; (simp only [Act.put, sA, sB, sC, i64_w, i32_w]; rfl)))
              refine one_ (i := 20) (N := some 151) (bz 38 16777215) rfl rfl (one_of HT_.out (by kernel_rfl)) (by decide) (fun K hK => ?_)
              refine goes_ Try.func27 (by kernel_rfl) rfl #[.slice A268_0 (rd_L6 (rd_L7 l0_4 x49_2) x77_4).length c268_0] (by rfl) rfl rfl (by (try simp only [List.map_toArray, List.map_cons, List.map_nil]); first | done | rfl | (simp only [List.length_drop, List.length_take]; rfl)) ?_
              with_reducible refine (impl_size_Lint64.calls _ _ (rd_L6 (rd_L7 l0_4 x49_2) x77_4) t269 _ ?side1 ?side2 A97.out).mono ?_
              (case side1 => repeat (first | exact (Kd.C_below HR268_0.out (by repeat (first | (with_reducible first | exact HB.out | apply pA | apply pN | apply pD | refine pS ?_ GE242.out | refine pS ?_ GE244.out) | exact HB.out))) | (with_reducible refine Kd.C_alloc ?_ _) | (with_reducible refine Kd.C_drewN ?_ _) | (with_reducible refine Kd.C_drew ?_)))
              (case side2 => exact HC268_0.out)
              rintro e w' ⟨rfl, ⟨nd, rfl⟩⟩
              refine ⟨_, rfl, ?_⟩
              refine hK.out _ _ ⟨(bc BK242.out 0).trans rfl, (bc BK242.out 1).trans rfl, (bc BK242.out 2).trans rfl, (bc BK242.out 3).trans rfl, (bc BK242.out 4).trans rfl, (bc BK242.out 5).trans rfl, (bc BK244.out 0).trans rfl, ((HB.out.cell (World.block_lt_of_cell? w _ hw264_0)).trans hw264_0), ((HB.out.cell (World.block_lt_of_cell? w _ hw265_0)).trans hw265_0), ((HB.out.cell (World.block_lt_of_cell? w _ hw267_0)).trans hw267_0), ((HB.out.cell (World.block_lt_of_cell? w _ hw268_0)).trans hw268_0)⟩ (fun hHeld => ?_)
              clear hK K
              refine norm_ (a' := ?_) ?_ ?_
              rotate_left
              ·show Act.put _ (some 151) _ = _
               simp only [Act.put, sA, sB, sC, i64_w, i32_w]
               rfl
              iterate 14 (first | (refine pz_ HT_ impl_ValidChoices.cz21 rfl rfl rfl (v := ?_) (a' := ?_) (by kernel_rfl) (fun _ _ _ h => h) (Or.inl ⟨by rfl, ?_⟩) ?_ ?_; rotate_left; (intro w'; go_simp; with_reducible rfl); rotate_left; (simp only [Act.put, sA, sB, sC, i64_w, i32_w]; rfl)) | (refine uz_ HT_ impl_ValidChoices.cz21 rfl rfl rfl (v := undef) (a' := ?_) (by kernel_rfl) (fun _ _ _ h => h) (Or.inr ⟨by rfl, rfl⟩) ?_ ?_; rotate_left; (simp only [Act.put, sA, sB, sC, i64_w, i32_w]; rfl)))
              refine done_ (done_of HT_.out (by kernel_rfl)) ?_
              try go_wp2
              go_meet
              case rel => exact ⟨_, (true), (by first | rfl | (simp; done) | (simp [*]; done)), H', ⟨by have := HJ2.out; have := HK2.out; have := HJ35.out; have := HK4.out; have := HK5.out; first | omega | exact Nat.le_refl _⟩, ⟨by (with_reducible repeat (first | refine bn_ ?_ _ | refine bd_ ?_ | refine ba_ ?_ _)); exact BK242.out⟩, ⟨by (with_reducible repeat (first | refine bn_ ?_ _ | refine bd_ ?_ | refine ba_ ?_ _)); exact BK244.out⟩, ⟨by repeat (first | (with_reducible first | exact HB.out | apply pA | apply pN | apply pD | refine pS ?_ GE242.out | refine pS ?_ GE244.out) | exact HB.out)⟩⟩
             as_aux_lemma =>
             rw [if_pos c98] at H
             have c98b0 : (t269 == (wrap64 (a0_0 + 1))) = true := beq_iff_eq.mpr c98
             have c98b1 : (t269 != (wrap64 (a0_0 + 1))) = false := bne_eq_false_iff_eq.mpr c98
             clear c98
             replace H := Option.bind_eq_some_iff.mp H
             obtain ⟨t272, A990, H⟩ := H
             replace H : (impl_ValidChoices.j6 k5 x49_2 t243 x49_2 x77_4 t272 a0_0 l0_1 l0_2 l0_3 l0_4 l0_5 t243) = some r := H
             have A99 := AZ.mk A990
             clear A990
             have H' := AZ.mk H
             clear H
             try go_wp2
             have n0_ := AZ.mk (bd_ BK242.out)
             have n1_ := AZ.mk (bd_ BK244.out)
             have n2_ := AZ.mk (pD HB.out)
             clear BK242
             clear BK244
             clear HB
             have BK242 := n0_
             have BK244 := n1_
             have HB := n2_
             clear n0_ n1_ n2_
             have p264 : 0 ≤ (x49_2 : Int) := oT (by first | (with_reducible assumption) | assumption)
             have q264 : x49_2 < (l0_5.length : Int) := oT (by first | (with_reducible assumption) | assumption)
             obtain ⟨ad264, A264_0, c264_0, e264, hx264_0, hl264_0, hi264_0⟩ := at_L6 HR0_5.out x49_2 p264 q264
             have hw264_0 := hx264_0
             cases e264
             replace hx264_0 := (HB.out.cell (World.block_lt_of_cell? w _ hx264_0)).trans hx264_0
             have HR264_0 := AZ.mk hi264_0
             have HC264_0 := AZ.mk hl264_0
             clear hi264_0 hl264_0
             replace p264 := eq_true p264
             replace q264 := eq_true q264
             have p265 : 0 ≤ (x77_4 : Int) := oT (by first | (with_reducible assumption) | assumption)
             have q265 : x77_4 < ((rd_L6 l0_5 x49_2).length : Int) := oT (by first | (with_reducible assumption) | assumption)
             obtain ⟨ad265, A265_0, c265_0, e265, hx265_0, hl265_0, hi265_0⟩ := at_L5 HR264_0.out x77_4 p265 q265
             have hw265_0 := hx265_0
             cases e265
             replace hx265_0 := (HB.out.cell (World.block_lt_of_cell? w _ hx265_0)).trans hx265_0
             have HR265_0 := AZ.mk hi265_0
             have HC265_0 := AZ.mk hl265_0
             clear hi265_0 hl265_0
             replace p265 := eq_true p265
             replace q265 := eq_true q265
             have p267 : 0 ≤ (x49_2 : Int) := oT (by first | (with_reducible assumption) | assumption)
             have q267 : x49_2 < (l0_4.length : Int) := oT (by first | (with_reducible assumption) | assumption)
             obtain ⟨ad267, A267_0, c267_0, e267, hx267_0, hl267_0, hi267_0⟩ := at_L7 HR0_4.out x49_2 p267 q267
             have hw267_0 := hx267_0
             cases e267
             replace hx267_0 := (HB.out.cell (World.block_lt_of_cell? w _ hx267_0)).trans hx267_0
             have HR267_0 := AZ.mk hi267_0
             have HC267_0 := AZ.mk hl267_0
             clear hi267_0 hl267_0
             replace p267 := eq_true p267
             replace q267 := eq_true q267
             have p268 : 0 ≤ (x77_4 : Int) := oT (by first | (with_reducible assumption) | assumption)
             have q268 : x77_4 < ((rd_L7 l0_4 x49_2).length : Int) := oT (by first | (with_reducible assumption) | assumption)
             obtain ⟨ad268, A268_0, c268_0, e268, hx268_0, hl268_0, hi268_0⟩ := at_L6 HR267_0.out x77_4 p268 q268
             have hw268_0 := hx268_0
             cases e268
             replace hx268_0 := (HB.out.cell (World.block_lt_of_cell? w _ hx268_0)).trans hx268_0
             have HR268_0 := AZ.mk hi268_0
             have HC268_0 := AZ.mk hl268_0
             clear hi268_0 hl268_0
             replace p268 := eq_true p268
             replace q268 := eq_true q268
             have p270 : 0 ≤ (x49_2 : Int) := oT (by first | (with_reducible assumption) | assumption)
             have q270 : x49_2 < (l0_4.length : Int) := oT (by first | (with_reducible assumption) | assumption)
             obtain ⟨ad270, A270_0, c270_0, e270, hx270_0, hl270_0, hi270_0⟩ := at_L7 HR0_4.out x49_2 p270 q270
             have hw270_0 := hx270_0
             obtain rfl : ad267 = ad270 := (by injection e270)
             replace hx270_0 := (HB.out.cell (World.block_lt_of_cell? w _ hx270_0)).trans hx270_0
             have HR270_0 := AZ.mk hi270_0
             have HC270_0 := AZ.mk hl270_0
             clear hi270_0 hl270_0
             replace p270 := eq_true p270
             replace q270 := eq_true q270
             have ea_ := Option.some.inj (hx267_0.symm.trans hx270_0)
             injection ea_ with ea_ en_ ec_
             subst ea_
             subst ec_
             clear en_
             have p271 : 0 ≤ (x77_4 : Int) := oT (by first | (with_reducible assumption) | assumption)
             have q271 : x77_4 < ((rd_L7 l0_4 x49_2).length : Int) := oT (by first | (with_reducible assumption) | assumption)
             obtain ⟨ad271, A271_0, c271_0, e271, hx271_0, hl271_0, hi271_0⟩ := at_L6 HR270_0.out x77_4 p271 q271
             have hw271_0 := hx271_0
             obtain rfl : ad268 = ad271 := (by injection e271)
             replace hx271_0 := (HB.out.cell (World.block_lt_of_cell? w _ hx271_0)).trans hx271_0
             have HR271_0 := AZ.mk hi271_0
             have HC271_0 := AZ.mk hl271_0
             clear hi271_0 hl271_0
             replace p271 := eq_true p271
             replace q271 := eq_true q271
             have ea_ := Option.some.inj (hx268_0.symm.trans hx271_0)
             injection ea_ with ea_ en_ ec_
             subst ea_
             subst ec_
             clear en_
             refine start_ (n := 38) (S := fun w' => w'.cell? ⟨gb242, 0, none⟩ = some (.int .i64 a0_0) ∧ w'.cell? ⟨gb242, 1, none⟩ = some (.slice A0_1 l0_1.length c0_1) ∧ w'.cell? ⟨gb242, 2, none⟩ = some (.slice A0_2 l0_2.length c0_2) ∧ w'.cell? ⟨gb242, 3, none⟩ = some (.slice (some ad254) l0_3.length c0_3) ∧ w'.cell? ⟨gb242, 4, none⟩ = some (.slice (some ad267) l0_4.length c0_4) ∧ w'.cell? ⟨gb242, 5, none⟩ = some (.slice (some ad264) l0_5.length c0_5) ∧ w'.cell? ⟨gb244, 0, none⟩ = some (.int .i64 t243) ∧ w'.cell? (ad264.add (x49_2).toNat) = some (.slice (some ad265) (rd_L6 l0_5 x49_2).length c264_0) ∧ w'.cell? (ad265.add (x77_4).toNat) = some (.slice A265_0 (rd_L5 (rd_L6 l0_5 x49_2) x77_4).length c265_0) ∧ w'.cell? (ad267.add (x49_2).toNat) = some (.slice (some ad268) (rd_L7 l0_4 x49_2).length c267_0) ∧ w'.cell? (ad268.add (x77_4).toNat) = some (.slice A268_0 (rd_L6 (rd_L7 l0_4 x49_2) x77_4).length c268_0) ∧ w'.cell? (ad267.add (x49_2).toNat) = some (.slice (some ad268) (rd_L7 l0_4 x49_2).length c267_0) ∧ w'.cell? (ad268.add (x77_4).toNat) = some (.slice A268_0 (rd_L6 (rd_L7 l0_4 x49_2) x77_4).length c268_0)) (ds := []) (bz 38 0) (by kernel_rfl) rfl rfl ⟨(bc BK242.out 0).trans rfl, (bc BK242.out 1).trans rfl, (bc BK242.out 2).trans rfl, (bc BK242.out 3).trans rfl, (bc BK242.out 4).trans rfl, (bc BK242.out 5).trans rfl, (bc BK244.out 0).trans rfl, ((HB.out.cell (World.block_lt_of_cell? w _ hw264_0)).trans hw264_0), ((HB.out.cell (World.block_lt_of_cell? w _ hw265_0)).trans hw265_0), ((HB.out.cell (World.block_lt_of_cell? w _ hw267_0)).trans hw267_0), ((HB.out.cell (World.block_lt_of_cell? w _ hw268_0)).trans hw268_0), ((HB.out.cell (World.block_lt_of_cell? w _ hw270_0)).trans hw270_0), ((HB.out.cell (World.block_lt_of_cell? w _ hw271_0)).trans hw271_0)⟩ (fun hHeld => ?_); refine with_tabW impl_ValidChoices.tab18 impl_ValidChoices.bits18 (fun HT_ HW_ => ?_)
             generalize wr.drew = w100 at BK242 BK244 HB HR264_0 HR265_0 HR267_0 HR268_0 HR270_0 HR271_0 hx264_0 hx265_0 hx267_0 hx268_0 hx270_0 hx271_0 hHeld ⊢
             iterate 9 (first | (refine pz_ HT_ impl_ValidChoices.cz18 rfl rfl rfl (v := ?_) (a' := ?_) (by kernel_rfl) (fun _ _ _ h => h) (Or.inl ⟨by rfl, ?_⟩) ?_ ?_; rotate_left; (intro w'; go_simp; with_reducible rfl); rotate_left; (simp only [Act.put, sA, sB, sC, i64_w, i32_w]; rfl)) | (refine tz_ HT_ HW_ impl_ValidChoices.cz18 rfl rfl rfl (v := ?_) (a' := ?_) (by kernel_rfl) (fun _ _ _ h => h) (Or.inl ⟨by rfl, ?_⟩) hHeld ?_ ?_; rotate_left; (rintro w' ⟨s0, s1, s2, s3, s4, s5, s6, s7, s8, s9, s10, s11, s12⟩; go_simp; with_reducible rfl); rotate_left; (simp only [Act.put, sA, sB, sC, i64_w, i32_w]; rfl)))
             refine one_ (i := 9) (N := some 140) (bz 38 1023) rfl rfl (one_of HT_.out (by kernel_rfl)) (by decide) (fun K hK => ?_)
             refine goes_ Try.func22 (by kernel_rfl) rfl #[.slice A265_0 (rd_L5 (rd_L6 l0_5 x49_2) x77_4).length c265_0, .int .i64 t243] (by rfl) rfl rfl (by (try simp only [List.map_toArray, List.map_cons, List.map_nil]); first | done | rfl | (simp only [List.length_drop, List.length_take]; rfl)) ?_
             with_reducible refine (impl_isRising.calls k5 _ _ (rd_L5 (rd_L6 l0_5 x49_2) x77_4) t243 true _ ?side1 ?side2 A93.out).mono ?_
             (case side1 => repeat (first | exact (Kd.C_below HR265_0.out HB.out) | (with_reducible refine Kd.C_alloc ?_ _) | (with_reducible refine Kd.C_drewN ?_ _) | (with_reducible refine Kd.C_drew ?_)))
             (case side2 => exact HC265_0.out)
             rintro e w' ⟨rfl, ⟨nd, rfl⟩⟩
             refine ⟨_, rfl, ?_⟩
             refine hK.out _ _ ⟨(bc BK242.out 0).trans rfl, (bc BK242.out 1).trans rfl, (bc BK242.out 2).trans rfl, (bc BK242.out 3).trans rfl, (bc BK242.out 4).trans rfl, (bc BK242.out 5).trans rfl, (bc BK244.out 0).trans rfl, ((HB.out.cell (World.block_lt_of_cell? w _ hw264_0)).trans hw264_0), ((HB.out.cell (World.block_lt_of_cell? w _ hw265_0)).trans hw265_0), ((HB.out.cell (World.block_lt_of_cell? w _ hw267_0)).trans hw267_0), ((HB.out.cell (World.block_lt_of_cell? w _ hw268_0)).trans hw268_0), ((HB.out.cell (World.block_lt_of_cell? w _ hw270_0)).trans hw270_0), ((HB.out.cell (World.block_lt_of_cell? w _ hw271_0)).trans hw271_0)⟩ (fun hHeld => ?_)
             clear hK K
             refine norm_ (a' := ?_) ?_ ?_
             rotate_left
             ·show Act.put _ (some 140) _ = _
              simp only [Act.put, sA, sB, sC, i64_w, i32_w]
              rfl
             iterate 13 (first | (refine pz_ HT_ impl_ValidChoices.cz19 rfl rfl rfl (v := ?_) (a' := ?_) (by kernel_rfl) (fun _ _ _ h => h) (Or.inl ⟨by rfl, ?_⟩) ?_ ?_; rotate_left; (intro w'; go_simp; with_reducible rfl); rotate_left; (simp only [Act.put, sA, sB, sC, i64_w, i32_w]; rfl)) | (refine tz_ HT_ HW_ impl_ValidChoices.cz19 rfl rfl rfl (v := ?_) (a' := ?_) (by kernel_rfl) (fun _ _ _ h => h) (Or.inl ⟨by rfl, ?_⟩) hHeld ?_ ?_; rotate_left; (rintro w' ⟨s0, s1, s2, s3, s4, s5, s6, s7, s8, s9, s10, s11, s12⟩; go_simp; with_reducible rfl); rotate_left; (simp only [Act.put, sA, sB, sC, i64_w, i32_w]; rfl)))
             refine one_ (i := 20) (N := some 151) (bz 38 16777215) rfl rfl (one_of HT_.out (by kernel_rfl)) (by decide) (fun K hK => ?_)
             refine goes_ Try.func27 (by kernel_rfl) rfl #[.slice A268_0 (rd_L6 (rd_L7 l0_4 x49_2) x77_4).length c268_0] (by rfl) rfl rfl (by (try simp only [List.map_toArray, List.map_cons, List.map_nil]); first | done | rfl | (simp only [List.length_drop, List.length_take]; rfl)) ?_
             with_reducible refine (impl_size_Lint64.calls _ _ (rd_L6 (rd_L7 l0_4 x49_2) x77_4) t269 _ ?side1 ?side2 A97.out).mono ?_
             (case side1 => repeat (first | exact (Kd.C_below HR268_0.out (by repeat (first | (with_reducible first | exact HB.out | apply pA | apply pN | apply pD | refine pS ?_ GE242.out | refine pS ?_ GE244.out) | exact HB.out))) | (with_reducible refine Kd.C_alloc ?_ _) | (with_reducible refine Kd.C_drewN ?_ _) | (with_reducible refine Kd.C_drew ?_)))
             (case side2 => exact HC268_0.out)
             rintro e w' ⟨rfl, ⟨nd, rfl⟩⟩
             refine ⟨_, rfl, ?_⟩
             refine hK.out _ _ ⟨(bc BK242.out 0).trans rfl, (bc BK242.out 1).trans rfl, (bc BK242.out 2).trans rfl, (bc BK242.out 3).trans rfl, (bc BK242.out 4).trans rfl, (bc BK242.out 5).trans rfl, (bc BK244.out 0).trans rfl, ((HB.out.cell (World.block_lt_of_cell? w _ hw264_0)).trans hw264_0), ((HB.out.cell (World.block_lt_of_cell? w _ hw265_0)).trans hw265_0), ((HB.out.cell (World.block_lt_of_cell? w _ hw267_0)).trans hw267_0), ((HB.out.cell (World.block_lt_of_cell? w _ hw268_0)).trans hw268_0), ((HB.out.cell (World.block_lt_of_cell? w _ hw270_0)).trans hw270_0), ((HB.out.cell (World.block_lt_of_cell? w _ hw271_0)).trans hw271_0)⟩ (fun hHeld => ?_)
             clear hK K
             refine norm_ (a' := ?_) ?_ ?_
             rotate_left
             ·show Act.put _ (some 151) _ = _
              simp only [Act.put, sA, sB, sC, i64_w, i32_w]
              rfl
             iterate 12 (first | (refine pz_ HT_ impl_ValidChoices.cz20 rfl rfl rfl (v := ?_) (a' := ?_) (by kernel_rfl) (fun _ _ _ h => h) (Or.inl ⟨by rfl, ?_⟩) ?_ ?_; rotate_left; (intro w'; go_simp; with_reducible rfl); rotate_left; (simp only [Act.put, sA, sB, sC, i64_w, i32_w]; rfl)) | (refine tz_ HT_ HW_ impl_ValidChoices.cz20 rfl rfl rfl (v := ?_) (a' := ?_) (by kernel_rfl) (fun _ _ _ h => h) (Or.inl ⟨by rfl, ?_⟩) hHeld ?_ ?_; rotate_left; (rintro w' ⟨s0, s1, s2, s3, s4, s5, s6, s7, s8, s9, s10, s11, s12⟩; go_simp; with_reducible rfl); rotate_left; (simp only [Act.put, sA, sB, sC, i64_w, i32_w]; rfl)))
             refine one_ (i := 36) (N := some 167) (bz 38 137438953471) rfl rfl (one_of HT_.out (by kernel_rfl)) (by decide) (fun K hK => ?_)
             refine goes_ Try.func28 (by kernel_rfl) rfl #[.slice A268_0 (rd_L6 (rd_L7 l0_4 x49_2) x77_4).length c268_0, .func (.func 29) #[] #[.pointer (some ⟨gb244, 0, none⟩)]] (by rfl) rfl rfl (by (try simp only [List.map_toArray, List.map_cons, List.map_nil]); first | done | rfl | (simp only [List.length_drop, List.length_take]; rfl)) ?_
             with_reducible refine (slices_ContainsFunc_LLint64_Lint64_at_impl_ValidChoices_1.calls k5 _ _ (rd_L6 (rd_L7 l0_4 x49_2) x77_4) gb244 t243 t272 _ ?side1 ?side2 ?side3 A99.out).mono ?_
             (case side1 => repeat (first | exact (Kd.C_below HR271_0.out (by repeat (first | (with_reducible first | exact HB.out | apply pA | apply pN | apply pD | refine pS ?_ GE242.out | refine pS ?_ GE244.out) | exact HB.out))) | (with_reducible refine Kd.C_alloc ?_ _) | (with_reducible refine Kd.C_drewN ?_ _) | (with_reducible refine Kd.C_drew ?_)))
             (case side2 => exact HC271_0.out)
             (case side3 => exact (by (with_reducible repeat (first | refine bn_ ?_ _ | refine bd_ ?_ | refine ba_ ?_ _)); exact BK244.out))
             rintro e w101 ⟨rfl, hb⟩
             refine ⟨_, rfl, ?_⟩
             have n0_ := AZ.mk (bb_ (g := gb242) (o := .cells #[.int .i64 a0_0, .slice A0_1 l0_1.length c0_1, .slice A0_2 l0_2.length c0_2, .slice (some ad254) l0_3.length c0_3, .slice (some ad267) l0_4.length c0_4, .slice (some ad264) l0_5.length c0_5] 33 (0, 0)) (by (with_reducible repeat (first | refine bn_ ?_ _ | refine bd_ ?_ | refine ba_ ?_ _)); exact BK242.out) hb)
             have n1_ := AZ.mk (bb_ (g := gb244) (o := .cells #[.int .i64 t243] 2 (0, 0)) (by (with_reducible repeat (first | refine bn_ ?_ _ | refine bd_ ?_ | refine ba_ ?_ _)); exact BK244.out) hb)
             have n2_ := AZ.mk (pT (by repeat (first | (with_reducible first | exact HB.out | apply pA | apply pN | apply pD | refine pS ?_ GE242.out | refine pS ?_ GE244.out) | exact HB.out)) hb)
             clear BK242
             clear BK244
             clear HB
             have BK242 := n0_
             have BK244 := n1_
             have HB := n2_
             clear n0_ n1_ n2_
             (try clear hb)
             (try clear hb2)
             (try clear hk)
             (try clear hi)
             refine hK.out _ _ ⟨(bc BK242.out 0).trans rfl, (bc BK242.out 1).trans rfl, (bc BK242.out 2).trans rfl, (bc BK242.out 3).trans rfl, (bc BK242.out 4).trans rfl, (bc BK242.out 5).trans rfl, (bc BK244.out 0).trans rfl, ((HB.out.cell (World.block_lt_of_cell? w _ hw264_0)).trans hw264_0), ((HB.out.cell (World.block_lt_of_cell? w _ hw265_0)).trans hw265_0), ((HB.out.cell (World.block_lt_of_cell? w _ hw267_0)).trans hw267_0), ((HB.out.cell (World.block_lt_of_cell? w _ hw268_0)).trans hw268_0), ((HB.out.cell (World.block_lt_of_cell? w _ hw270_0)).trans hw270_0), ((HB.out.cell (World.block_lt_of_cell? w _ hw271_0)).trans hw271_0)⟩ (fun hHeld => ?_)
             clear hK K
             refine norm_ (a' := ?_) ?_ ?_
             rotate_left
             ·show Act.put _ (some 167) _ = _
              simp only [Act.put, sA, sB, sC, i64_w, i32_w]
              rfl
             refine pure_ (i := 37) (N := some 168) (v := ?_) (a' := ?_) (bz 38 274877906943) rfl rfl (any_of HT_.out (by kernel_rfl)) (fun _ _ _ h => h) (Or.inl ⟨by rfl, ?_⟩) ?_ ?_
             rotate_left
             ·intro w'
              go_simp
              with_reducible rfl
             rotate_left
             ·simp only [Act.put, sA, sB, sC, i64_w, i32_w]
              rfl
             refine done_ (done_of HT_.out (by kernel_rfl)) ?_
             try go_wp2
             go_meet
             case rel => exact ⟨_, (t272), (by first | rfl | (simp; done) | (simp [*]; done)), H', ⟨by have := HJ2.out; have := HK2.out; have := HJ35.out; have := HK4.out; have := HK5.out; first | omega | exact Nat.le_refl _⟩, ⟨by (with_reducible repeat (first | refine bn_ ?_ _ | refine bd_ ?_ | refine ba_ ?_ _)); exact BK242.out⟩, ⟨by (with_reducible repeat (first | refine bn_ ?_ _ | refine bd_ ?_ | refine ba_ ?_ _)); exact BK244.out⟩, ⟨by repeat (first | (with_reducible first | exact HB.out | apply pA | apply pN | apply pD | refine pS ?_ GE242.out | refine pS ?_ GE244.out) | exact HB.out)⟩⟩
            case rest =>
             clear HC88
             try clear c2
             try clear p2
             try clear q2
             try clear hx2
             try clear c8
             try clear c9
             try clear c22
             try clear c26
             try clear p26
             try clear q26
             try clear hx26
             try clear c27
             try clear c89
             try clear c90
             try clear c91
             try clear c92
             try clear c94
             try clear c95
             try clear c96
             try clear hx264_0
             try clear hx265_0
             try clear hx267_0
             try clear hx268_0
             try clear p264
             try clear p265
             try clear p267
             try clear p268
             try clear q264
             try clear q265
             try clear q267
             try clear q268
             obtain ⟨kq, x168_87, rfl, HA, HJ87, BK242, BK244, HB⟩ := hcut
             cases kq with
             | zero => exact absurd HA.out (by simp [impl_ValidChoices.j6])
             | succ kj87 =>
              have H := HA.out
              clear HA
              simp only [impl_ValidChoices.j6] at H
              by_cases c104 : x168_87 = true
              ·subst c104
               have H1 : (some false) = some r := by rw [if_pos rfl] at H; exact H
               clear H
               have H := H1
               clear H1
               obtain rfl := Option.some.inj H
               go_wp2
               go_ret
               exact ⟨by first | rfl | (simp [errW_none, errW_some] <;> rfl) | (simp [*, errW_none, errW_some] <;> rfl), by repeat (first | (with_reducible first | exact HB.out | apply pA | apply pN | apply pD | refine pS ?_ GE242.out | refine pS ?_ GE244.out) | exact HB.out)⟩
              replace c104 := Bool.eq_false_iff.mpr c104
              subst c104
              have H1 : (impl_ValidChoices.l1 kj87 x49_2 t243 x49_2 (wrap64 (x77_4 + 1)) a0_0 l0_1 l0_2 l0_3 l0_4 l0_5 t243) = some r := by rw [if_neg (show ¬ (false = true) by decide)] at H; exact H
              clear H
              have H := H1
              clear H1
              have H' := AZ.mk H
              clear H
              go_wp2
              go_roundg kj87
              case measure => have := HJ2.out; have := HK2.out; have := HJ35.out; have := HK4.out; have := HK5.out; have := HJ87.out; omega
              case rel => exact ⟨(wrap64 (x77_4 + 1)), (by first | rfl | (simp; done) | (simp [*]; done)), H', ⟨by have := HJ2.out; have := HK2.out; have := HJ35.out; have := HK4.out; have := HK5.out; have := HJ87.out; omega⟩, ⟨by (with_reducible repeat (first | refine bn_ ?_ _ | refine bd_ ?_ | refine ba_ ?_ _)); exact BK242.out⟩, ⟨by (with_reducible repeat (first | refine bn_ ?_ _ | refine bd_ ?_ | refine ba_ ?_ _)); exact BK244.out⟩, ⟨by repeat (first | (with_reducible first | exact HB.out | apply pA | apply pN | apply pD | refine pS ?_ GE242.out | refine pS ?_ GE244.out) | exact HB.out)⟩⟩
           as_aux_lemma =>
           rw [if_pos c57] at H
           have c57b0 : decide (x89_5 < ((rd_L9 (rd_L10 l0_3 x49_2) x77_4).length : Int)) = true := decide_eq_true c57
           clear c57
           by_cases c58 : 0 ≤ x89_5
           rotate_left
           ·rw [if_neg c58] at H
            exact absurd H (by simp)
           as_aux_lemma =>
           rw [if_pos c58] at H
           have c58b0 : decide (0 ≤ x89_5) = true := decide_eq_true c58
           clear c58
           by_cases c59 : x89_5 < ((rd_L9 (rd_L10 l0_3 x49_2) x77_4).length : Int)
           rotate_left
           ·rw [if_neg c59] at H
            exact absurd H (by simp)
           as_aux_lemma =>
           rw [if_pos c59] at H
           have c59b0 : decide (x89_5 < ((rd_L9 (rd_L10 l0_3 x49_2) x77_4).length : Int)) = true := decide_eq_true c59
           clear c59
           have HC60 := AZ.mk H
           clear H
           have p256 : 0 ≤ (x89_5 : Int) := oT (by first | (with_reducible assumption) | assumption)
           have q256 : x89_5 < ((rd_L9 (rd_L10 l0_3 x49_2) x77_4).length : Int) := oT (by first | (with_reducible assumption) | assumption)
           obtain ⟨ad256, e256, hx256_0, hx256_1⟩ := at_T59 HR255_0.out x89_5 p256 q256
           cases e256
           replace hx256_0 := (HB.out.cell (World.block_lt_of_cell? w _ hx256_0)).trans hx256_0
           replace hx256_1 := (HB.out.cell (World.block_lt_of_cell? w _ hx256_1)).trans hx256_1
           replace p256 := eq_true p256
           replace q256 := eq_true q256
           go_upto_region 15 with (first | ((with_reducible refine gate_dst (N := 7) rfl ?_); (try (refine gate_guard (by rfl) ?_; dsimp only)); refine box_event ?hg (N := 7) ?hd (cs := #[.int .i64 0, .int .i64 0]) (t := 59) ?hr ?_; (case hd => rfl); (case hg => rfl); (case hr => first | (go_simp; done) | (go_simp; rfl)); intro gb257 hg w61 hbox hb; have n0_ := AZ.mk (bb_ (g := gb242) (o := .cells #[.int .i64 a0_0, .slice A0_1 l0_1.length c0_1, .slice A0_2 l0_2.length c0_2, .slice (some ad254) l0_3.length c0_3, .slice A0_4 l0_4.length c0_4, .slice A0_5 l0_5.length c0_5] 33 (0, 0)) (by (with_reducible repeat (first | refine bn_ ?_ _ | refine bd_ ?_ | refine ba_ ?_ _)); exact BK242.out) hb); have n1_ := AZ.mk (bb_ (g := gb244) (o := .cells #[.int .i64 t243] 2 (0, 0)) (by (with_reducible repeat (first | refine bn_ ?_ _ | refine bd_ ?_ | refine ba_ ?_ _)); exact BK244.out) hb); have n2_ := AZ.mk (pT (by repeat (first | (with_reducible first | exact HB.out | apply pA | apply pN | apply pD | refine pS ?_ GE242.out | refine pS ?_ GE244.out) | exact HB.out)) hb); have n3_ := AZ.mk (hbox); have n4_ := AZ.mk ((by rw [hg]; exact (pZ (by repeat (first | (with_reducible first | exact HB.out | apply pA | apply pN | apply pD | refine pS ?_ GE242.out | refine pS ?_ GE244.out) | exact HB.out))) : w.heap.size ≤ gb257)); have n5_ := AZ.mk ((by rw [hg]; exact (pZ (by repeat (first | (with_reducible first | exact HB.out | apply pA | apply pN | apply pD | refine pS ?_ GE242.out | refine pS ?_ GE244.out) | exact HB.out))) : w.heap.size ≤ gb257)); have n6_ := AZ.mk ((by rw [hg]; exact Nat.ne_of_lt (blk_lt (g := gb242) (o := .cells #[.int .i64 a0_0, .slice A0_1 l0_1.length c0_1, .slice A0_2 l0_2.length c0_2, .slice (some ad254) l0_3.length c0_3, .slice A0_4 l0_4.length c0_4, .slice A0_5 l0_5.length c0_5] 33 (0, 0)) (by (with_reducible repeat (first | refine bn_ ?_ _ | refine bd_ ?_ | refine ba_ ?_ _)); exact BK242.out)) : gb242 ≠ gb257)); have n7_ := AZ.mk ((by rw [hg]; exact Nat.ne_of_gt (blk_lt (g := gb242) (o := .cells #[.int .i64 a0_0, .slice A0_1 l0_1.length c0_1, .slice A0_2 l0_2.length c0_2, .slice (some ad254) l0_3.length c0_3, .slice A0_4 l0_4.length c0_4, .slice A0_5 l0_5.length c0_5] 33 (0, 0)) (by (with_reducible repeat (first | refine bn_ ?_ _ | refine bd_ ?_ | refine ba_ ?_ _)); exact BK242.out)) : gb257 ≠ gb242)); have n8_ := AZ.mk ((by rw [hg]; exact Nat.ne_of_lt (blk_lt (g := gb244) (o := .cells #[.int .i64 t243] 2 (0, 0)) (by (with_reducible repeat (first | refine bn_ ?_ _ | refine bd_ ?_ | refine ba_ ?_ _)); exact BK244.out)) : gb244 ≠ gb257)); have n9_ := AZ.mk ((by rw [hg]; exact Nat.ne_of_gt (blk_lt (g := gb244) (o := .cells #[.int .i64 t243] 2 (0, 0)) (by (with_reducible repeat (first | refine bn_ ?_ _ | refine bd_ ?_ | refine ba_ ?_ _)); exact BK244.out)) : gb257 ≠ gb244)); clear BK242; clear BK244; clear HB; have BK242 := n0_; have BK244 := n1_; have HB := n2_; have BK257 := n3_; have GW257 := n4_; have GE257 := n5_; have NB242_257 := n6_; have NB257_242 := n7_; have NB244_257 := n8_; have NB257_244 := n9_; clear n0_ n1_ n2_ n3_ n4_ n5_ n6_ n7_ n8_ n9_; clear hb hbox hg; have hnb62 := NB257_242.out; have hnc62 := NB242_257.out; have hnb63 := NB257_244.out; have hnc63 := NB244_257.out; have hcz64_0 : w61.cell? ⟨gb257, 0, none⟩ = some (.int .i64 0) := (bc BK257.out 0).trans rfl; have hcz64_1 : w61.cell? ⟨gb257, 1, none⟩ = some (.int .i64 0) := (bc BK257.out 1).trans rfl; have hfz64_0 := bf BK257.out 0; have hfz64_1 := bf BK257.out 1))
           (try simp only [Act.put, sA, sB, sC])
           go_cut [129] (fun v129 wc => ∃ (kq : Nat) (x129_59 : Bool), v129 = .bool x129_59 ∧ AZ (impl_ValidChoices.j5 kq x49_2 x77_4 t243 x49_2 x77_4 (rd_L9 (rd_L10 l0_3 x49_2) x77_4) ((rd_L9 (rd_L10 l0_3 x49_2) x77_4).length : Int) x89_5 x129_59 a0_0 l0_1 l0_2 l0_3 l0_4 l0_5 t243 = some r) ∧ AZ (kq ≤ k5) ∧ AZ (wc.heap[gb242]? = some (.cells #[.int .i64 a0_0, (.slice A0_1 l0_1.length c0_1), (.slice A0_2 l0_2.length c0_2), (.slice (some ad254) l0_3.length c0_3), (.slice A0_4 l0_4.length c0_4), (.slice A0_5 l0_5.length c0_5)] 33 (0, 0))) ∧ AZ (wc.heap[gb244]? = some (.cells #[.int .i64 t243] 2 (0, 0))) ∧ AZ (wc.heap[gb257]? = some (.cells #[.int .i64 ((rd_T59 (rd_L9 (rd_L10 l0_3 x49_2) x77_4) x89_5).f0), .int .i64 ((rd_T59 (rd_L9 (rd_L10 l0_3 x49_2) x77_4) x89_5).f1)] 59 (0, 0))) ∧ AZ (Below w.heap.size w wc))
           case first =>
            have H := HC60.out
            clear HC60
            replace H := Option.bind_eq_some_iff.mp H
            obtain ⟨t258, A650, H⟩ := H
            replace H : (if t258 = true then ((impl_within.f ((rd_T59 (rd_L9 (rd_L10 l0_3 x49_2) x77_4) x89_5).f1) 0 (wrap64 (a0_0 - 1))).bind fun t259 => (if t259 = true then (if x89_5 > 0 then (if 0 ≤ x49_2 then (if x49_2 < (l0_3.length : Int) then (if 0 ≤ x77_4 then (if x77_4 < ((rd_L10 l0_3 x49_2).length : Int) then (if 0 ≤ (wrap64 (x89_5 - 1)) then (if (wrap64 (x89_5 - 1)) < ((rd_L9 (rd_L10 l0_3 x49_2) x77_4).length : Int) then ((impl_comparePushes.f k5 ((rd_T59 (rd_L9 (rd_L10 l0_3 x49_2) x77_4) (wrap64 (x89_5 - 1))).f0) ((rd_T59 (rd_L9 (rd_L10 l0_3 x49_2) x77_4) (wrap64 (x89_5 - 1))).f1) ((rd_T59 (rd_L9 (rd_L10 l0_3 x49_2) x77_4) x89_5).f0) ((rd_T59 (rd_L9 (rd_L10 l0_3 x49_2) x77_4) x89_5).f1)).bind fun t263 => (impl_ValidChoices.j5 k5 x49_2 x77_4 t243 x49_2 x77_4 (rd_L9 (rd_L10 l0_3 x49_2) x77_4) ((rd_L9 (rd_L10 l0_3 x49_2) x77_4).length : Int) x89_5 (decide (t263 ≥ 0)) a0_0 l0_1 l0_2 l0_3 l0_4 l0_5 t243)) else (none)) else (none)) else (none)) else (none)) else (none)) else (none)) else (impl_ValidChoices.j5 k5 x49_2 x77_4 t243 x49_2 x77_4 (rd_L9 (rd_L10 l0_3 x49_2) x77_4) ((rd_L9 (rd_L10 l0_3 x49_2) x77_4).length : Int) x89_5 false a0_0 l0_1 l0_2 l0_3 l0_4 l0_5 t243)) else (impl_ValidChoices.j5 k5 x49_2 x77_4 t243 x49_2 x77_4 (rd_L9 (rd_L10 l0_3 x49_2) x77_4) ((rd_L9 (rd_L10 l0_3 x49_2) x77_4).length : Int) x89_5 true a0_0 l0_1 l0_2 l0_3 l0_4 l0_5 t243))) else (impl_ValidChoices.j5 k5 x49_2 x77_4 t243 x49_2 x77_4 (rd_L9 (rd_L10 l0_3 x49_2) x77_4) ((rd_L9 (rd_L10 l0_3 x49_2) x77_4).length : Int) x89_5 true a0_0 l0_1 l0_2 l0_3 l0_4 l0_5 t243)) = some r := H
            have A65 := AZ.mk A650
            clear A650
            by_cases c66 : t258 = true
            rotate_left
            ·as_aux_lemma =>
             replace c66 := Bool.eq_false_iff.mpr c66
             subst c66
             have H1 : (impl_ValidChoices.j5 k5 x49_2 x77_4 t243 x49_2 x77_4 (rd_L9 (rd_L10 l0_3 x49_2) x77_4) ((rd_L9 (rd_L10 l0_3 x49_2) x77_4).length : Int) x89_5 true a0_0 l0_1 l0_2 l0_3 l0_4 l0_5 t243) = some r := by rw [if_neg (show ¬ (false = true) by decide)] at H; exact H
             clear H
             have H := H1
             clear H1
             have H' := AZ.mk H
             clear H
             try go_wp2
             have n0_ : AZ (((w61.setCell ⟨gb257, 0, none⟩ (.int .i64 ((rd_T59 (rd_L9 (rd_L10 l0_3 x49_2) x77_4) x89_5).f0))).setCell ⟨gb257, 1, none⟩ (.int .i64 ((rd_T59 (rd_L9 (rd_L10 l0_3 x49_2) x77_4) x89_5).f1))).heap[gb242]? = some (.cells #[.int .i64 a0_0, .slice A0_1 l0_1.length c0_1, .slice A0_2 l0_2.length c0_2, .slice (some ad254) l0_3.length c0_3, .slice A0_4 l0_4.length c0_4, .slice A0_5 l0_5.length c0_5] 33 (0, 0))) := ⟨by (with_reducible repeat (first | refine bn_ ?_ _ | refine bd_ ?_ | refine ba_ ?_ _)); refine blk_far ?_ NB242_257.out _; (with_reducible repeat (first | refine bn_ ?_ _ | refine bd_ ?_ | refine ba_ ?_ _)); refine blk_far ?_ NB242_257.out _; (with_reducible repeat (first | refine bn_ ?_ _ | refine bd_ ?_ | refine ba_ ?_ _)); exact BK242.out⟩
             have n1_ : AZ (((w61.setCell ⟨gb257, 0, none⟩ (.int .i64 ((rd_T59 (rd_L9 (rd_L10 l0_3 x49_2) x77_4) x89_5).f0))).setCell ⟨gb257, 1, none⟩ (.int .i64 ((rd_T59 (rd_L9 (rd_L10 l0_3 x49_2) x77_4) x89_5).f1))).heap[gb244]? = some (.cells #[.int .i64 t243] 2 (0, 0))) := ⟨by (with_reducible repeat (first | refine bn_ ?_ _ | refine bd_ ?_ | refine ba_ ?_ _)); refine blk_far ?_ NB244_257.out _; (with_reducible repeat (first | refine bn_ ?_ _ | refine bd_ ?_ | refine ba_ ?_ _)); refine blk_far ?_ NB244_257.out _; (with_reducible repeat (first | refine bn_ ?_ _ | refine bd_ ?_ | refine ba_ ?_ _)); exact BK244.out⟩
             have n2_ : AZ (((w61.setCell ⟨gb257, 0, none⟩ (.int .i64 ((rd_T59 (rd_L9 (rd_L10 l0_3 x49_2) x77_4) x89_5).f0))).setCell ⟨gb257, 1, none⟩ (.int .i64 ((rd_T59 (rd_L9 (rd_L10 l0_3 x49_2) x77_4) x89_5).f1))).heap[gb257]? = some (.cells #[.int .i64 ((rd_T59 (rd_L9 (rd_L10 l0_3 x49_2) x77_4) x89_5).f0), .int .i64 ((rd_T59 (rd_L9 (rd_L10 l0_3 x49_2) x77_4) x89_5).f1)] 59 (0, 0))) := ⟨by (with_reducible repeat (first | refine bn_ ?_ _ | refine bd_ ?_ | refine ba_ ?_ _)); refine blk_put (cs := #[.int .i64 ((rd_T59 (rd_L9 (rd_L10 l0_3 x49_2) x77_4) x89_5).f0), .int .i64 0]) ?_ 1 _ rfl; (with_reducible repeat (first | refine bn_ ?_ _ | refine bd_ ?_ | refine ba_ ?_ _)); refine blk_put (cs := #[.int .i64 0, .int .i64 0]) ?_ 0 _ rfl; (with_reducible repeat (first | refine bn_ ?_ _ | refine bd_ ?_ | refine ba_ ?_ _)); exact BK257.out⟩
             have n3_ : AZ (Below w.heap.size w ((w61.setCell ⟨gb257, 0, none⟩ (.int .i64 ((rd_T59 (rd_L9 (rd_L10 l0_3 x49_2) x77_4) x89_5).f0))).setCell ⟨gb257, 1, none⟩ (.int .i64 ((rd_T59 (rd_L9 (rd_L10 l0_3 x49_2) x77_4) x89_5).f1)))) := ⟨by repeat (first | (with_reducible first | exact HB.out | apply pA | apply pN | apply pD | refine pS ?_ GE242.out | refine pS ?_ GE244.out | refine pS ?_ GE257.out) | exact HB.out)⟩
             (try clear BK242)
             (try clear BK244)
             (try clear BK257)
             (try clear HB)
             generalize ((w61.setCell ⟨gb257, 0, none⟩ (.int .i64 ((rd_T59 (rd_L9 (rd_L10 l0_3 x49_2) x77_4) x89_5).f0))).setCell ⟨gb257, 1, none⟩ (.int .i64 ((rd_T59 (rd_L9 (rd_L10 l0_3 x49_2) x77_4) x89_5).f1))) = w85 at n0_ n1_ n2_ n3_ ⊢
             have BK242 := n0_
             have BK244 := n1_
             have BK257 := n2_
             have HB := n3_
             clear n0_ n1_ n2_ n3_
             have n0_ := AZ.mk (bd_ BK242.out)
             have n1_ := AZ.mk (bd_ BK244.out)
             have n2_ := AZ.mk (bd_ BK257.out)
             have n3_ := AZ.mk (pD HB.out)
             clear BK242
             clear BK244
             clear BK257
             clear HB
             have BK242 := n0_
             have BK244 := n1_
             have BK257 := n2_
             have HB := n3_
             clear n0_ n1_ n2_ n3_
             refine start_ (n := 36) (S := fun w' => w'.cell? ⟨gb257, 0, none⟩ = some (.int .i64 ((rd_T59 (rd_L9 (rd_L10 l0_3 x49_2) x77_4) x89_5).f0)) ∧ w'.cell? ⟨gb257, 1, none⟩ = some (.int .i64 ((rd_T59 (rd_L9 (rd_L10 l0_3 x49_2) x77_4) x89_5).f1)) ∧ w'.cell? ⟨gb244, 0, none⟩ = some (.int .i64 t243)) (ds := []) (bz 36 0) (by kernel_rfl) rfl rfl ⟨(bc BK257.out 0).trans rfl, (bc BK257.out 1).trans rfl, (bc BK244.out 0).trans rfl⟩ (fun hHeld => ?_); refine with_tabW impl_ValidChoices.tab15 impl_ValidChoices.bits15 (fun HT_ HW_ => ?_)
             generalize w85.drew = w86 at BK242 BK244 BK257 HB hHeld ⊢
             iterate 4 (first | (refine pz_ HT_ impl_ValidChoices.cz11 rfl rfl rfl (v := ?_) (a' := ?_) (by kernel_rfl) (fun _ _ _ h => h) (Or.inl ⟨by rfl, ?_⟩) ?_ ?_; rotate_left; (intro w'; go_simp; with_reducible rfl); rotate_left; (simp only [Act.put, sA, sB, sC, i64_w, i32_w]; rfl)) | (refine tz_ HT_ HW_ impl_ValidChoices.cz11 rfl rfl rfl (v := ?_) (a' := ?_) (by kernel_rfl) (fun _ _ _ h => h) (Or.inl ⟨by rfl, ?_⟩) hHeld ?_ ?_; rotate_left; (rintro w' ⟨s0, s1, s2⟩; go_simp; with_reducible rfl); rotate_left; (simp only [Act.put, sA, sB, sC, i64_w, i32_w]; rfl)))
             refine one_ (i := 4) (N := some 98) (bz 36 31) rfl rfl (one_of HT_.out (by kernel_rfl)) (by decide) (fun K hK => ?_)
             refine goes_ Try.func21 (by kernel_rfl) rfl #[.int .i64 ((rd_T59 (rd_L9 (rd_L10 l0_3 x49_2) x77_4) x89_5).f0), .int .i64 0, .int .i64 (wrap64 (t243 - 1))] (by rfl) rfl rfl (by (try simp only [List.map_toArray, List.map_cons, List.map_nil]); first | done | rfl | (simp only [List.length_drop, List.length_take]; rfl)) ?_
             with_reducible refine (impl_within.calls ((rd_T59 (rd_L9 (rd_L10 l0_3 x49_2) x77_4) x89_5).f0) 0 (wrap64 (t243 - 1)) false _ A65.out).mono ?_
             rintro e w' ⟨rfl, ⟨nd, rfl⟩⟩
             refine ⟨_, rfl, ?_⟩
             refine hK.out _ _ ⟨(bc BK257.out 0).trans rfl, (bc BK257.out 1).trans rfl, (bc BK244.out 0).trans rfl⟩ (fun hHeld => ?_)
             clear hK K
             refine norm_ (a' := ?_) ?_ ?_
             rotate_left
             ·show Act.put _ (some 98) _ = _
              simp only [Act.put, sA, sB, sC, i64_w, i32_w]
              rfl
             iterate 31 (first | (refine pz_ HT_ impl_ValidChoices.cz17 rfl rfl rfl (v := ?_) (a' := ?_) (by kernel_rfl) (fun _ _ _ h => h) (Or.inl ⟨by rfl, ?_⟩) ?_ ?_; rotate_left; (intro w'; go_simp; with_reducible rfl); rotate_left; (simp only [Act.put, sA, sB, sC, i64_w, i32_w]; rfl)) | (refine uz_ HT_ impl_ValidChoices.cz17 rfl rfl rfl (v := undef) (a' := ?_) (by kernel_rfl) (fun _ _ _ h => h) (Or.inr ⟨by rfl, rfl⟩) ?_ ?_; rotate_left; (simp only [Act.put, sA, sB, sC, i64_w, i32_w]; rfl)))
             refine done_ (done_of HT_.out (by kernel_rfl)) ?_
             try go_wp2
             go_meet
             case rel => exact ⟨_, (true), (by first | rfl | (simp; done) | (simp [*]; done)), H', ⟨by have := HJ2.out; have := HK2.out; have := HJ35.out; have := HK4.out; have := HK5.out; first | omega | exact Nat.le_refl _⟩, ⟨by (with_reducible repeat (first | refine bn_ ?_ _ | refine bd_ ?_ | refine ba_ ?_ _)); exact BK242.out⟩, ⟨by (with_reducible repeat (first | refine bn_ ?_ _ | refine bd_ ?_ | refine ba_ ?_ _)); exact BK244.out⟩, ⟨by (with_reducible repeat (first | refine bn_ ?_ _ | refine bd_ ?_ | refine ba_ ?_ _)); exact BK257.out⟩, ⟨by repeat (first | (with_reducible first | exact HB.out | apply pA | apply pN | apply pD | refine pS ?_ GE242.out | refine pS ?_ GE244.out | refine pS ?_ GE257.out) | exact HB.out)⟩⟩
            as_aux_lemma =>
            subst c66
            have H1 : ((impl_within.f ((rd_T59 (rd_L9 (rd_L10 l0_3 x49_2) x77_4) x89_5).f1) 0 (wrap64 (a0_0 - 1))).bind fun t259 => (if t259 = true then (if x89_5 > 0 then (if 0 ≤ x49_2 then (if x49_2 < (l0_3.length : Int) then (if 0 ≤ x77_4 then (if x77_4 < ((rd_L10 l0_3 x49_2).length : Int) then (if 0 ≤ (wrap64 (x89_5 - 1)) then (if (wrap64 (x89_5 - 1)) < ((rd_L9 (rd_L10 l0_3 x49_2) x77_4).length : Int) then ((impl_comparePushes.f k5 ((rd_T59 (rd_L9 (rd_L10 l0_3 x49_2) x77_4) (wrap64 (x89_5 - 1))).f0) ((rd_T59 (rd_L9 (rd_L10 l0_3 x49_2) x77_4) (wrap64 (x89_5 - 1))).f1) ((rd_T59 (rd_L9 (rd_L10 l0_3 x49_2) x77_4) x89_5).f0) ((rd_T59 (rd_L9 (rd_L10 l0_3 x49_2) x77_4) x89_5).f1)).bind fun t263 => (impl_ValidChoices.j5 k5 x49_2 x77_4 t243 x49_2 x77_4 (rd_L9 (rd_L10 l0_3 x49_2) x77_4) ((rd_L9 (rd_L10 l0_3 x49_2) x77_4).length : Int) x89_5 (decide (t263 ≥ 0)) a0_0 l0_1 l0_2 l0_3 l0_4 l0_5 t243)) else (none)) else (none)) else (none)) else (none)) else (none)) else (none)) else (impl_ValidChoices.j5 k5 x49_2 x77_4 t243 x49_2 x77_4 (rd_L9 (rd_L10 l0_3 x49_2) x77_4) ((rd_L9 (rd_L10 l0_3 x49_2) x77_4).length : Int) x89_5 false a0_0 l0_1 l0_2 l0_3 l0_4 l0_5 t243)) else (impl_ValidChoices.j5 k5 x49_2 x77_4 t243 x49_2 x77_4 (rd_L9 (rd_L10 l0_3 x49_2) x77_4) ((rd_L9 (rd_L10 l0_3 x49_2) x77_4).length : Int) x89_5 true a0_0 l0_1 l0_2 l0_3 l0_4 l0_5 t243))) = some r := by rw [if_pos rfl] at H; exact H
            clear H
            have H := H1
            clear H1
            replace H := Option.bind_eq_some_iff.mp H
            obtain ⟨t259, A670, H⟩ := H
            replace H : (if t259 = true then (if x89_5 > 0 then (if 0 ≤ x49_2 then (if x49_2 < (l0_3.length : Int) then (if 0 ≤ x77_4 then (if x77_4 < ((rd_L10 l0_3 x49_2).length : Int) then (if 0 ≤ (wrap64 (x89_5 - 1)) then (if (wrap64 (x89_5 - 1)) < ((rd_L9 (rd_L10 l0_3 x49_2) x77_4).length : Int) then ((impl_comparePushes.f k5 ((rd_T59 (rd_L9 (rd_L10 l0_3 x49_2) x77_4) (wrap64 (x89_5 - 1))).f0) ((rd_T59 (rd_L9 (rd_L10 l0_3 x49_2) x77_4) (wrap64 (x89_5 - 1))).f1) ((rd_T59 (rd_L9 (rd_L10 l0_3 x49_2) x77_4) x89_5).f0) ((rd_T59 (rd_L9 (rd_L10 l0_3 x49_2) x77_4) x89_5).f1)).bind fun t263 => (impl_ValidChoices.j5 k5 x49_2 x77_4 t243 x49_2 x77_4 (rd_L9 (rd_L10 l0_3 x49_2) x77_4) ((rd_L9 (rd_L10 l0_3 x49_2) x77_4).length : Int) x89_5 (decide (t263 ≥ 0)) a0_0 l0_1 l0_2 l0_3 l0_4 l0_5 t243)) else (none)) else (none)) else (none)) else (none)) else (none)) else (none)) else (impl_ValidChoices.j5 k5 x49_2 x77_4 t243 x49_2 x77_4 (rd_L9 (rd_L10 l0_3 x49_2) x77_4) ((rd_L9 (rd_L10 l0_3 x49_2) x77_4).length : Int) x89_5 false a0_0 l0_1 l0_2 l0_3 l0_4 l0_5 t243)) else (impl_ValidChoices.j5 k5 x49_2 x77_4 t243 x49_2 x77_4 (rd_L9 (rd_L10 l0_3 x49_2) x77_4) ((rd_L9 (rd_L10 l0_3 x49_2) x77_4).length : Int) x89_5 true a0_0 l0_1 l0_2 l0_3 l0_4 l0_5 t243)) = some r := H
            have A67 := AZ.mk A670
            clear A670
            by_cases c68 : t259 = true
            rotate_left
            ·as_aux_lemma =>
             replace c68 := Bool.eq_false_iff.mpr c68
             subst c68
             have H1 : (impl_ValidChoices.j5 k5 x49_2 x77_4 t243 x49_2 x77_4 (rd_L9 (rd_L10 l0_3 x49_2) x77_4) ((rd_L9 (rd_L10 l0_3 x49_2) x77_4).length : Int) x89_5 true a0_0 l0_1 l0_2 l0_3 l0_4 l0_5 t243) = some r := by rw [if_neg (show ¬ (false = true) by decide)] at H; exact H
             clear H
             have H := H1
             clear H1
             have H' := AZ.mk H
             clear H
             try go_wp2
             have n0_ : AZ (((w61.setCell ⟨gb257, 0, none⟩ (.int .i64 ((rd_T59 (rd_L9 (rd_L10 l0_3 x49_2) x77_4) x89_5).f0))).setCell ⟨gb257, 1, none⟩ (.int .i64 ((rd_T59 (rd_L9 (rd_L10 l0_3 x49_2) x77_4) x89_5).f1))).heap[gb242]? = some (.cells #[.int .i64 a0_0, .slice A0_1 l0_1.length c0_1, .slice A0_2 l0_2.length c0_2, .slice (some ad254) l0_3.length c0_3, .slice A0_4 l0_4.length c0_4, .slice A0_5 l0_5.length c0_5] 33 (0, 0))) := ⟨by (with_reducible repeat (first | refine bn_ ?_ _ | refine bd_ ?_ | refine ba_ ?_ _)); refine blk_far ?_ NB242_257.out _; (with_reducible repeat (first | refine bn_ ?_ _ | refine bd_ ?_ | refine ba_ ?_ _)); refine blk_far ?_ NB242_257.out _; (with_reducible repeat (first | refine bn_ ?_ _ | refine bd_ ?_ | refine ba_ ?_ _)); exact BK242.out⟩
             have n1_ : AZ (((w61.setCell ⟨gb257, 0, none⟩ (.int .i64 ((rd_T59 (rd_L9 (rd_L10 l0_3 x49_2) x77_4) x89_5).f0))).setCell ⟨gb257, 1, none⟩ (.int .i64 ((rd_T59 (rd_L9 (rd_L10 l0_3 x49_2) x77_4) x89_5).f1))).heap[gb244]? = some (.cells #[.int .i64 t243] 2 (0, 0))) := ⟨by (with_reducible repeat (first | refine bn_ ?_ _ | refine bd_ ?_ | refine ba_ ?_ _)); refine blk_far ?_ NB244_257.out _; (with_reducible repeat (first | refine bn_ ?_ _ | refine bd_ ?_ | refine ba_ ?_ _)); refine blk_far ?_ NB244_257.out _; (with_reducible repeat (first | refine bn_ ?_ _ | refine bd_ ?_ | refine ba_ ?_ _)); exact BK244.out⟩
             have n2_ : AZ (((w61.setCell ⟨gb257, 0, none⟩ (.int .i64 ((rd_T59 (rd_L9 (rd_L10 l0_3 x49_2) x77_4) x89_5).f0))).setCell ⟨gb257, 1, none⟩ (.int .i64 ((rd_T59 (rd_L9 (rd_L10 l0_3 x49_2) x77_4) x89_5).f1))).heap[gb257]? = some (.cells #[.int .i64 ((rd_T59 (rd_L9 (rd_L10 l0_3 x49_2) x77_4) x89_5).f0), .int .i64 ((rd_T59 (rd_L9 (rd_L10 l0_3 x49_2) x77_4) x89_5).f1)] 59 (0, 0))) := ⟨by (with_reducible repeat (first | refine bn_ ?_ _ | refine bd_ ?_ | refine ba_ ?_ _)); refine blk_put (cs := #[.int .i64 ((rd_T59 (rd_L9 (rd_L10 l0_3 x49_2) x77_4) x89_5).f0), .int .i64 0]) ?_ 1 _ rfl; (with_reducible repeat (first | refine bn_ ?_ _ | refine bd_ ?_ | refine ba_ ?_ _)); refine blk_put (cs := #[.int .i64 0, .int .i64 0]) ?_ 0 _ rfl; (with_reducible repeat (first | refine bn_ ?_ _ | refine bd_ ?_ | refine ba_ ?_ _)); exact BK257.out⟩
             have n3_ : AZ (Below w.heap.size w ((w61.setCell ⟨gb257, 0, none⟩ (.int .i64 ((rd_T59 (rd_L9 (rd_L10 l0_3 x49_2) x77_4) x89_5).f0))).setCell ⟨gb257, 1, none⟩ (.int .i64 ((rd_T59 (rd_L9 (rd_L10 l0_3 x49_2) x77_4) x89_5).f1)))) := ⟨by repeat (first | (with_reducible first | exact HB.out | apply pA | apply pN | apply pD | refine pS ?_ GE242.out | refine pS ?_ GE244.out | refine pS ?_ GE257.out) | exact HB.out)⟩
             (try clear BK242)
             (try clear BK244)
             (try clear BK257)
             (try clear HB)
             generalize ((w61.setCell ⟨gb257, 0, none⟩ (.int .i64 ((rd_T59 (rd_L9 (rd_L10 l0_3 x49_2) x77_4) x89_5).f0))).setCell ⟨gb257, 1, none⟩ (.int .i64 ((rd_T59 (rd_L9 (rd_L10 l0_3 x49_2) x77_4) x89_5).f1))) = w83 at n0_ n1_ n2_ n3_ ⊢
             have BK242 := n0_
             have BK244 := n1_
             have BK257 := n2_
             have HB := n3_
             clear n0_ n1_ n2_ n3_
             have n0_ := AZ.mk (bd_ BK242.out)
             have n1_ := AZ.mk (bd_ BK244.out)
             have n2_ := AZ.mk (bd_ BK257.out)
             have n3_ := AZ.mk (pD HB.out)
             clear BK242
             clear BK244
             clear BK257
             clear HB
             have BK242 := n0_
             have BK244 := n1_
             have BK257 := n2_
             have HB := n3_
             clear n0_ n1_ n2_ n3_
             refine start_ (n := 36) (S := fun w' => w'.cell? ⟨gb257, 0, none⟩ = some (.int .i64 ((rd_T59 (rd_L9 (rd_L10 l0_3 x49_2) x77_4) x89_5).f0)) ∧ w'.cell? ⟨gb257, 1, none⟩ = some (.int .i64 ((rd_T59 (rd_L9 (rd_L10 l0_3 x49_2) x77_4) x89_5).f1)) ∧ w'.cell? ⟨gb244, 0, none⟩ = some (.int .i64 t243) ∧ w'.cell? ⟨gb242, 0, none⟩ = some (.int .i64 a0_0) ∧ w'.cell? ⟨gb242, 1, none⟩ = some (.slice A0_1 l0_1.length c0_1) ∧ w'.cell? ⟨gb242, 2, none⟩ = some (.slice A0_2 l0_2.length c0_2) ∧ w'.cell? ⟨gb242, 3, none⟩ = some (.slice (some ad254) l0_3.length c0_3) ∧ w'.cell? ⟨gb242, 4, none⟩ = some (.slice A0_4 l0_4.length c0_4) ∧ w'.cell? ⟨gb242, 5, none⟩ = some (.slice A0_5 l0_5.length c0_5)) (ds := []) (bz 36 0) (by kernel_rfl) rfl rfl ⟨(bc BK257.out 0).trans rfl, (bc BK257.out 1).trans rfl, (bc BK244.out 0).trans rfl, (bc BK242.out 0).trans rfl, (bc BK242.out 1).trans rfl, (bc BK242.out 2).trans rfl, (bc BK242.out 3).trans rfl, (bc BK242.out 4).trans rfl, (bc BK242.out 5).trans rfl⟩ (fun hHeld => ?_); refine with_tabW impl_ValidChoices.tab15 impl_ValidChoices.bits15 (fun HT_ HW_ => ?_)
             generalize w83.drew = w84 at BK242 BK244 BK257 HB hHeld ⊢
             iterate 4 (first | (refine pz_ HT_ impl_ValidChoices.cz11 rfl rfl rfl (v := ?_) (a' := ?_) (by kernel_rfl) (fun _ _ _ h => h) (Or.inl ⟨by rfl, ?_⟩) ?_ ?_; rotate_left; (intro w'; go_simp; with_reducible rfl); rotate_left; (simp only [Act.put, sA, sB, sC, i64_w, i32_w]; rfl)) | (refine tz_ HT_ HW_ impl_ValidChoices.cz11 rfl rfl rfl (v := ?_) (a' := ?_) (by kernel_rfl) (fun _ _ _ h => h) (Or.inl ⟨by rfl, ?_⟩) hHeld ?_ ?_; rotate_left; (rintro w' ⟨s0, s1, s2, s3, s4, s5, s6, s7, s8⟩; go_simp; with_reducible rfl); rotate_left; (simp only [Act.put, sA, sB, sC, i64_w, i32_w]; rfl)))
             refine one_ (i := 4) (N := some 98) (bz 36 31) rfl rfl (one_of HT_.out (by kernel_rfl)) (by decide) (fun K hK => ?_)
             refine goes_ Try.func21 (by kernel_rfl) rfl #[.int .i64 ((rd_T59 (rd_L9 (rd_L10 l0_3 x49_2) x77_4) x89_5).f0), .int .i64 0, .int .i64 (wrap64 (t243 - 1))] (by rfl) rfl rfl (by (try simp only [List.map_toArray, List.map_cons, List.map_nil]); first | done | rfl | (simp only [List.length_drop, List.length_take]; rfl)) ?_
             with_reducible refine (impl_within.calls ((rd_T59 (rd_L9 (rd_L10 l0_3 x49_2) x77_4) x89_5).f0) 0 (wrap64 (t243 - 1)) true _ A65.out).mono ?_
             rintro e w' ⟨rfl, ⟨nd, rfl⟩⟩
             refine ⟨_, rfl, ?_⟩
             refine hK.out _ _ ⟨(bc BK257.out 0).trans rfl, (bc BK257.out 1).trans rfl, (bc BK244.out 0).trans rfl, (bc BK242.out 0).trans rfl, (bc BK242.out 1).trans rfl, (bc BK242.out 2).trans rfl, (bc BK242.out 3).trans rfl, (bc BK242.out 4).trans rfl, (bc BK242.out 5).trans rfl⟩ (fun hHeld => ?_)
             clear hK K
             refine norm_ (a' := ?_) ?_ ?_
             rotate_left
             ·show Act.put _ (some 98) _ = _
              simp only [Act.put, sA, sB, sC, i64_w, i32_w]
              rfl
             iterate 7 (first | (refine pz_ HT_ impl_ValidChoices.cz12 rfl rfl rfl (v := ?_) (a' := ?_) (by kernel_rfl) (fun _ _ _ h => h) (Or.inl ⟨by rfl, ?_⟩) ?_ ?_; rotate_left; (intro w'; go_simp; with_reducible rfl); rotate_left; (simp only [Act.put, sA, sB, sC, i64_w, i32_w]; rfl)) | (refine tz_ HT_ HW_ impl_ValidChoices.cz12 rfl rfl rfl (v := ?_) (a' := ?_) (by kernel_rfl) (fun _ _ _ h => h) (Or.inl ⟨by rfl, ?_⟩) hHeld ?_ ?_; rotate_left; (rintro w' ⟨s0, s1, s2, s3, s4, s5, s6, s7, s8⟩; go_simp; with_reducible rfl); rotate_left; (simp only [Act.put, sA, sB, sC, i64_w, i32_w]; rfl)))
             refine one_ (i := 12) (N := some 106) (bz 36 8191) rfl rfl (one_of HT_.out (by kernel_rfl)) (by decide) (fun K hK => ?_)
             refine goes_ Try.func21 (by kernel_rfl) rfl #[.int .i64 ((rd_T59 (rd_L9 (rd_L10 l0_3 x49_2) x77_4) x89_5).f1), .int .i64 0, .int .i64 (wrap64 (a0_0 - 1))] (by rfl) rfl rfl (by (try simp only [List.map_toArray, List.map_cons, List.map_nil]); first | done | rfl | (simp only [List.length_drop, List.length_take]; rfl)) ?_
             with_reducible refine (impl_within.calls ((rd_T59 (rd_L9 (rd_L10 l0_3 x49_2) x77_4) x89_5).f1) 0 (wrap64 (a0_0 - 1)) false _ A67.out).mono ?_
             rintro e w' ⟨rfl, ⟨nd, rfl⟩⟩
             refine ⟨_, rfl, ?_⟩
             refine hK.out _ _ ⟨(bc BK257.out 0).trans rfl, (bc BK257.out 1).trans rfl, (bc BK244.out 0).trans rfl, (bc BK242.out 0).trans rfl, (bc BK242.out 1).trans rfl, (bc BK242.out 2).trans rfl, (bc BK242.out 3).trans rfl, (bc BK242.out 4).trans rfl, (bc BK242.out 5).trans rfl⟩ (fun hHeld => ?_)
             clear hK K
             refine norm_ (a' := ?_) ?_ ?_
             rotate_left
             ·show Act.put _ (some 106) _ = _
              simp only [Act.put, sA, sB, sC, i64_w, i32_w]
              rfl
             iterate 23 (first | (refine pz_ HT_ impl_ValidChoices.cz16 rfl rfl rfl (v := ?_) (a' := ?_) (by kernel_rfl) (fun _ _ _ h => h) (Or.inl ⟨by rfl, ?_⟩) ?_ ?_; rotate_left; (intro w'; go_simp; with_reducible rfl); rotate_left; (simp only [Act.put, sA, sB, sC, i64_w, i32_w]; rfl)) | (refine uz_ HT_ impl_ValidChoices.cz16 rfl rfl rfl (v := undef) (a' := ?_) (by kernel_rfl) (fun _ _ _ h => h) (Or.inr ⟨by rfl, rfl⟩) ?_ ?_; rotate_left; (simp only [Act.put, sA, sB, sC, i64_w, i32_w]; rfl)))
             refine done_ (done_of HT_.out (by kernel_rfl)) ?_
             try go_wp2
             go_meet
             case rel => exact ⟨_, (true), (by first | rfl | (simp; done) | (simp [*]; done)), H', ⟨by have := HJ2.out; have := HK2.out; have := HJ35.out; have := HK4.out; have := HK5.out; first | omega | exact Nat.le_refl _⟩, ⟨by (with_reducible repeat (first | refine bn_ ?_ _ | refine bd_ ?_ | refine ba_ ?_ _)); exact BK242.out⟩, ⟨by (with_reducible repeat (first | refine bn_ ?_ _ | refine bd_ ?_ | refine ba_ ?_ _)); exact BK244.out⟩, ⟨by (with_reducible repeat (first | refine bn_ ?_ _ | refine bd_ ?_ | refine ba_ ?_ _)); exact BK257.out⟩, ⟨by repeat (first | (with_reducible first | exact HB.out | apply pA | apply pN | apply pD | refine pS ?_ GE242.out | refine pS ?_ GE244.out | refine pS ?_ GE257.out) | exact HB.out)⟩⟩
            as_aux_lemma =>
            subst c68
            have H1 : (if x89_5 > 0 then (if 0 ≤ x49_2 then (if x49_2 < (l0_3.length : Int) then (if 0 ≤ x77_4 then (if x77_4 < ((rd_L10 l0_3 x49_2).length : Int) then (if 0 ≤ (wrap64 (x89_5 - 1)) then (if (wrap64 (x89_5 - 1)) < ((rd_L9 (rd_L10 l0_3 x49_2) x77_4).length : Int) then ((impl_comparePushes.f k5 ((rd_T59 (rd_L9 (rd_L10 l0_3 x49_2) x77_4) (wrap64 (x89_5 - 1))).f0) ((rd_T59 (rd_L9 (rd_L10 l0_3 x49_2) x77_4) (wrap64 (x89_5 - 1))).f1) ((rd_T59 (rd_L9 (rd_L10 l0_3 x49_2) x77_4) x89_5).f0) ((rd_T59 (rd_L9 (rd_L10 l0_3 x49_2) x77_4) x89_5).f1)).bind fun t263 => (impl_ValidChoices.j5 k5 x49_2 x77_4 t243 x49_2 x77_4 (rd_L9 (rd_L10 l0_3 x49_2) x77_4) ((rd_L9 (rd_L10 l0_3 x49_2) x77_4).length : Int) x89_5 (decide (t263 ≥ 0)) a0_0 l0_1 l0_2 l0_3 l0_4 l0_5 t243)) else (none)) else (none)) else (none)) else (none)) else (none)) else (none)) else (impl_ValidChoices.j5 k5 x49_2 x77_4 t243 x49_2 x77_4 (rd_L9 (rd_L10 l0_3 x49_2) x77_4) ((rd_L9 (rd_L10 l0_3 x49_2) x77_4).length : Int) x89_5 false a0_0 l0_1 l0_2 l0_3 l0_4 l0_5 t243)) = some r := by rw [if_pos rfl] at H; exact H
            clear H
            have H := H1
            clear H1
            by_cases c69 : x89_5 > 0
            rotate_left
            ·as_aux_lemma =>
             rw [if_neg c69] at H
             have c69b0 : decide (0 < x89_5) = false := decide_eq_false c69
             clear c69
             (first | rw [c69b0] | rw [c69b1] | (simp only [i64_w, i32_w]; rw [c69b0]) | skip)
             have H' := AZ.mk H
             clear H
             try go_wp2
             have n0_ : AZ (((w61.setCell ⟨gb257, 0, none⟩ (.int .i64 ((rd_T59 (rd_L9 (rd_L10 l0_3 x49_2) x77_4) x89_5).f0))).setCell ⟨gb257, 1, none⟩ (.int .i64 ((rd_T59 (rd_L9 (rd_L10 l0_3 x49_2) x77_4) x89_5).f1))).heap[gb242]? = some (.cells #[.int .i64 a0_0, .slice A0_1 l0_1.length c0_1, .slice A0_2 l0_2.length c0_2, .slice (some ad254) l0_3.length c0_3, .slice A0_4 l0_4.length c0_4, .slice A0_5 l0_5.length c0_5] 33 (0, 0))) := ⟨by (with_reducible repeat (first | refine bn_ ?_ _ | refine bd_ ?_ | refine ba_ ?_ _)); refine blk_far ?_ NB242_257.out _; (with_reducible repeat (first | refine bn_ ?_ _ | refine bd_ ?_ | refine ba_ ?_ _)); refine blk_far ?_ NB242_257.out _; (with_reducible repeat (first | refine bn_ ?_ _ | refine bd_ ?_ | refine ba_ ?_ _)); exact BK242.out⟩
             have n1_ : AZ (((w61.setCell ⟨gb257, 0, none⟩ (.int .i64 ((rd_T59 (rd_L9 (rd_L10 l0_3 x49_2) x77_4) x89_5).f0))).setCell ⟨gb257, 1, none⟩ (.int .i64 ((rd_T59 (rd_L9 (rd_L10 l0_3 x49_2) x77_4) x89_5).f1))).heap[gb244]? = some (.cells #[.int .i64 t243] 2 (0, 0))) := ⟨by (with_reducible repeat (first | refine bn_ ?_ _ | refine bd_ ?_ | refine ba_ ?_ _)); refine blk_far ?_ NB244_257.out _; (with_reducible repeat (first | refine bn_ ?_ _ | refine bd_ ?_ | refine ba_ ?_ _)); refine blk_far ?_ NB244_257.out _; (with_reducible repeat (first | refine bn_ ?_ _ | refine bd_ ?_ | refine ba_ ?_ _)); exact BK244.out⟩
             have n2_ : AZ (((w61.setCell ⟨gb257, 0, none⟩ (.int .i64 ((rd_T59 (rd_L9 (rd_L10 l0_3 x49_2) x77_4) x89_5).f0))).setCell ⟨gb257, 1, none⟩ (.int .i64 ((rd_T59 (rd_L9 (rd_L10 l0_3 x49_2) x77_4) x89_5).f1))).heap[gb257]? = some (.cells #[.int .i64 ((rd_T59 (rd_L9 (rd_L10 l0_3 x49_2) x77_4) x89_5).f0), .int .i64 ((rd_T59 (rd_L9 (rd_L10 l0_3 x49_2) x77_4) x89_5).f1)] 59 (0, 0))) := ⟨by (with_reducible repeat (first | refine bn_ ?_ _ | refine bd_ ?_ | refine ba_ ?_ _)); refine blk_put (cs := #[.int .i64 ((rd_T59 (rd_L9 (rd_L10 l0_3 x49_2) x77_4) x89_5).f0), .int .i64 0]) ?_ 1 _ rfl; (with_reducible repeat (first | refine bn_ ?_ _ | refine bd_ ?_ | refine ba_ ?_ _)); refine blk_put (cs := #[.int .i64 0, .int .i64 0]) ?_ 0 _ rfl; (with_reducible repeat (first | refine bn_ ?_ _ | refine bd_ ?_ | refine ba_ ?_ _)); exact BK257.out⟩
             have n3_ : AZ (Below w.heap.size w ((w61.setCell ⟨gb257, 0, none⟩ (.int .i64 ((rd_T59 (rd_L9 (rd_L10 l0_3 x49_2) x77_4) x89_5).f0))).setCell ⟨gb257, 1, none⟩ (.int .i64 ((rd_T59 (rd_L9 (rd_L10 l0_3 x49_2) x77_4) x89_5).f1)))) := ⟨by repeat (first | (with_reducible first | exact HB.out | apply pA | apply pN | apply pD | refine pS ?_ GE242.out | refine pS ?_ GE244.out | refine pS ?_ GE257.out) | exact HB.out)⟩
             (try clear BK242)
             (try clear BK244)
             (try clear BK257)
             (try clear HB)
             generalize ((w61.setCell ⟨gb257, 0, none⟩ (.int .i64 ((rd_T59 (rd_L9 (rd_L10 l0_3 x49_2) x77_4) x89_5).f0))).setCell ⟨gb257, 1, none⟩ (.int .i64 ((rd_T59 (rd_L9 (rd_L10 l0_3 x49_2) x77_4) x89_5).f1))) = w81 at n0_ n1_ n2_ n3_ ⊢
             have BK242 := n0_
             have BK244 := n1_
             have BK257 := n2_
             have HB := n3_
             clear n0_ n1_ n2_ n3_
             have n0_ := AZ.mk (bd_ BK242.out)
             have n1_ := AZ.mk (bd_ BK244.out)
             have n2_ := AZ.mk (bd_ BK257.out)
             have n3_ := AZ.mk (pD HB.out)
             clear BK242
             clear BK244
             clear BK257
             clear HB
             have BK242 := n0_
             have BK244 := n1_
             have BK257 := n2_
             have HB := n3_
             clear n0_ n1_ n2_ n3_
             refine start_ (n := 36) (S := fun w' => w'.cell? ⟨gb257, 0, none⟩ = some (.int .i64 ((rd_T59 (rd_L9 (rd_L10 l0_3 x49_2) x77_4) x89_5).f0)) ∧ w'.cell? ⟨gb257, 1, none⟩ = some (.int .i64 ((rd_T59 (rd_L9 (rd_L10 l0_3 x49_2) x77_4) x89_5).f1)) ∧ w'.cell? ⟨gb244, 0, none⟩ = some (.int .i64 t243) ∧ w'.cell? ⟨gb242, 0, none⟩ = some (.int .i64 a0_0) ∧ w'.cell? ⟨gb242, 1, none⟩ = some (.slice A0_1 l0_1.length c0_1) ∧ w'.cell? ⟨gb242, 2, none⟩ = some (.slice A0_2 l0_2.length c0_2) ∧ w'.cell? ⟨gb242, 3, none⟩ = some (.slice (some ad254) l0_3.length c0_3) ∧ w'.cell? ⟨gb242, 4, none⟩ = some (.slice A0_4 l0_4.length c0_4) ∧ w'.cell? ⟨gb242, 5, none⟩ = some (.slice A0_5 l0_5.length c0_5)) (ds := []) (bz 36 0) (by kernel_rfl) rfl rfl ⟨(bc BK257.out 0).trans rfl, (bc BK257.out 1).trans rfl, (bc BK244.out 0).trans rfl, (bc BK242.out 0).trans rfl, (bc BK242.out 1).trans rfl, (bc BK242.out 2).trans rfl, (bc BK242.out 3).trans rfl, (bc BK242.out 4).trans rfl, (bc BK242.out 5).trans rfl⟩ (fun hHeld => ?_); refine with_tabW impl_ValidChoices.tab15 impl_ValidChoices.bits15 (fun HT_ HW_ => ?_)
             generalize w81.drew = w82 at BK242 BK244 BK257 HB hHeld ⊢
             iterate 4 (first | (refine pz_ HT_ impl_ValidChoices.cz11 rfl rfl rfl (v := ?_) (a' := ?_) (by kernel_rfl) (fun _ _ _ h => h) (Or.inl ⟨by rfl, ?_⟩) ?_ ?_; rotate_left; (intro w'; go_simp; with_reducible rfl); rotate_left; (simp only [Act.put, sA, sB, sC, i64_w, i32_w]; rfl)) | (refine tz_ HT_ HW_ impl_ValidChoices.cz11 rfl rfl rfl (v := ?_) (a' := ?_) (by kernel_rfl) (fun _ _ _ h => h) (Or.inl ⟨by rfl, ?_⟩) hHeld ?_ ?_; rotate_left; (rintro w' ⟨s0, s1, s2, s3, s4, s5, s6, s7, s8⟩; go_simp; with_reducible rfl); rotate_left; (simp only [Act.put, sA, sB, sC, i64_w, i32_w]; rfl)))
             refine one_ (i := 4) (N := some 98) (bz 36 31) rfl rfl (one_of HT_.out (by kernel_rfl)) (by decide) (fun K hK => ?_)
             refine goes_ Try.func21 (by kernel_rfl) rfl #[.int .i64 ((rd_T59 (rd_L9 (rd_L10 l0_3 x49_2) x77_4) x89_5).f0), .int .i64 0, .int .i64 (wrap64 (t243 - 1))] (by rfl) rfl rfl (by (try simp only [List.map_toArray, List.map_cons, List.map_nil]); first | done | rfl | (simp only [List.length_drop, List.length_take]; rfl)) ?_
             with_reducible refine (impl_within.calls ((rd_T59 (rd_L9 (rd_L10 l0_3 x49_2) x77_4) x89_5).f0) 0 (wrap64 (t243 - 1)) true _ A65.out).mono ?_
             rintro e w' ⟨rfl, ⟨nd, rfl⟩⟩
             refine ⟨_, rfl, ?_⟩
             refine hK.out _ _ ⟨(bc BK257.out 0).trans rfl, (bc BK257.out 1).trans rfl, (bc BK244.out 0).trans rfl, (bc BK242.out 0).trans rfl, (bc BK242.out 1).trans rfl, (bc BK242.out 2).trans rfl, (bc BK242.out 3).trans rfl, (bc BK242.out 4).trans rfl, (bc BK242.out 5).trans rfl⟩ (fun hHeld => ?_)
             clear hK K
             refine norm_ (a' := ?_) ?_ ?_
             rotate_left
             ·show Act.put _ (some 98) _ = _
              simp only [Act.put, sA, sB, sC, i64_w, i32_w]
              rfl
             iterate 7 (first | (refine pz_ HT_ impl_ValidChoices.cz12 rfl rfl rfl (v := ?_) (a' := ?_) (by kernel_rfl) (fun _ _ _ h => h) (Or.inl ⟨by rfl, ?_⟩) ?_ ?_; rotate_left; (intro w'; go_simp; with_reducible rfl); rotate_left; (simp only [Act.put, sA, sB, sC, i64_w, i32_w]; rfl)) | (refine tz_ HT_ HW_ impl_ValidChoices.cz12 rfl rfl rfl (v := ?_) (a' := ?_) (by kernel_rfl) (fun _ _ _ h => h) (Or.inl ⟨by rfl, ?_⟩) hHeld ?_ ?_; rotate_left; (rintro w' ⟨s0, s1, s2, s3, s4, s5, s6, s7, s8⟩; go_simp; with_reducible rfl); rotate_left; (simp only [Act.put, sA, sB, sC, i64_w, i32_w]; rfl)))
             refine one_ (i := 12) (N := some 106) (bz 36 8191) rfl rfl (one_of HT_.out (by kernel_rfl)) (by decide) (fun K hK => ?_)
             refine goes_ Try.func21 (by kernel_rfl) rfl #[.int .i64 ((rd_T59 (rd_L9 (rd_L10 l0_3 x49_2) x77_4) x89_5).f1), .int .i64 0, .int .i64 (wrap64 (a0_0 - 1))] (by rfl) rfl rfl (by (try simp only [List.map_toArray, List.map_cons, List.map_nil]); first | done | rfl | (simp only [List.length_drop, List.length_take]; rfl)) ?_
             with_reducible refine (impl_within.calls ((rd_T59 (rd_L9 (rd_L10 l0_3 x49_2) x77_4) x89_5).f1) 0 (wrap64 (a0_0 - 1)) true _ A67.out).mono ?_
             rintro e w' ⟨rfl, ⟨nd, rfl⟩⟩
             refine ⟨_, rfl, ?_⟩
             refine hK.out _ _ ⟨(bc BK257.out 0).trans rfl, (bc BK257.out 1).trans rfl, (bc BK244.out 0).trans rfl, (bc BK242.out 0).trans rfl, (bc BK242.out 1).trans rfl, (bc BK242.out 2).trans rfl, (bc BK242.out 3).trans rfl, (bc BK242.out 4).trans rfl, (bc BK242.out 5).trans rfl⟩ (fun hHeld => ?_)
             clear hK K
             refine norm_ (a' := ?_) ?_ ?_
             rotate_left
             ·show Act.put _ (some 106) _ = _
              simp only [Act.put, sA, sB, sC, i64_w, i32_w]
              rfl
             iterate 23 (first | (refine pz_ HT_ impl_ValidChoices.cz15 rfl rfl rfl (v := ?_) (a' := ?_) (by kernel_rfl) (fun _ _ _ h => h) (Or.inl ⟨by rfl, ?_⟩) ?_ ?_; rotate_left; (intro w'; go_simp; with_reducible rfl); rotate_left; (simp only [Act.put, sA, sB, sC, i64_w, i32_w]; rfl)) | (refine uz_ HT_ impl_ValidChoices.cz15 rfl rfl rfl (v := undef) (a' := ?_) (by kernel_rfl) (fun _ _ _ h => h) (Or.inr ⟨by rfl, rfl⟩) ?_ ?_; rotate_left; (simp only [Act.put, sA, sB, sC, i64_w, i32_w]; rfl)))
             refine done_ (done_of HT_.out (by kernel_rfl)) ?_
             try go_wp2
             go_meet
             case rel => exact ⟨_, (false), (by first | rfl | (simp; done) | (simp [*]; done)), H', ⟨by have := HJ2.out; have := HK2.out; have := HJ35.out; have := HK4.out; have := HK5.out; first | omega | exact Nat.le_refl _⟩, ⟨by (with_reducible repeat (first | refine bn_ ?_ _ | refine bd_ ?_ | refine ba_ ?_ _)); exact BK242.out⟩, ⟨by (with_reducible repeat (first | refine bn_ ?_ _ | refine bd_ ?_ | refine ba_ ?_ _)); exact BK244.out⟩, ⟨by (with_reducible repeat (first | refine bn_ ?_ _ | refine bd_ ?_ | refine ba_ ?_ _)); exact BK257.out⟩, ⟨by repeat (first | (with_reducible first | exact HB.out | apply pA | apply pN | apply pD | refine pS ?_ GE242.out | refine pS ?_ GE244.out | refine pS ?_ GE257.out) | exact HB.out)⟩⟩
            as_aux_lemma =>
            rw [if_pos c69] at H
            have c69b0 : decide (0 < x89_5) = true := decide_eq_true c69
            clear c69
            (first | rw [c69b0] | rw [c69b1] | (simp only [i64_w, i32_w]; rw [c69b0]) | skip)
            by_cases c70 : 0 ≤ x49_2
            rotate_left
            ·rw [if_neg c70] at H
             exact absurd H (by simp)
            as_aux_lemma =>
            rw [if_pos c70] at H
            have c70b0 : decide (0 ≤ x49_2) = true := decide_eq_true c70
            clear c70
            by_cases c71 : x49_2 < (l0_3.length : Int)
            rotate_left
            ·rw [if_neg c71] at H
             exact absurd H (by simp)
            as_aux_lemma =>
            rw [if_pos c71] at H
            have c71b0 : decide (x49_2 < (l0_3.length : Int)) = true := decide_eq_true c71
            clear c71
            by_cases c72 : 0 ≤ x77_4
            rotate_left
            ·rw [if_neg c72] at H
             exact absurd H (by simp)
            as_aux_lemma =>
            rw [if_pos c72] at H
            have c72b0 : decide (0 ≤ x77_4) = true := decide_eq_true c72
            clear c72
            by_cases c73 : x77_4 < ((rd_L10 l0_3 x49_2).length : Int)
            rotate_left
            ·rw [if_neg c73] at H
             exact absurd H (by simp)
            as_aux_lemma =>
            rw [if_pos c73] at H
            have c73b0 : decide (x77_4 < ((rd_L10 l0_3 x49_2).length : Int)) = true := decide_eq_true c73
            clear c73
            obtain ⟨ji74, hji74⟩ : ∃ j_ : Int, (wrap64 (x89_5 - 1)) = j_ := ⟨_, rfl⟩
            replace H : (if 0 ≤ (ji74) then (if (ji74) < ((rd_L9 (rd_L10 l0_3 x49_2) x77_4).length : Int) then ((impl_comparePushes.f k5 ((rd_T59 (rd_L9 (rd_L10 l0_3 x49_2) x77_4) (ji74)).f0) ((rd_T59 (rd_L9 (rd_L10 l0_3 x49_2) x77_4) (ji74)).f1) ((rd_T59 (rd_L9 (rd_L10 l0_3 x49_2) x77_4) x89_5).f0) ((rd_T59 (rd_L9 (rd_L10 l0_3 x49_2) x77_4) x89_5).f1)).bind fun t263 => (impl_ValidChoices.j5 k5 x49_2 x77_4 t243 x49_2 x77_4 (rd_L9 (rd_L10 l0_3 x49_2) x77_4) ((rd_L9 (rd_L10 l0_3 x49_2) x77_4).length : Int) x89_5 (decide (t263 ≥ 0)) a0_0 l0_1 l0_2 l0_3 l0_4 l0_5 t243)) else (none)) else (none)) = some r := by first | (rw [hji74] at H; exact H) | (simp only [hji74] at H ⊢; exact H)
            (try rw [hji74] at A65)
            (try rw [hji74] at A67)
            have hji74w : (IntKind.i64.wrap (x89_5 - 1)) = ji74 := (i64_w _).trans hji74
            by_cases c75 : 0 ≤ (ji74)
            rotate_left
            ·rw [if_neg c75] at H
             exact absurd H (by simp)
            as_aux_lemma =>
            rw [if_pos c75] at H
            have c75b0 : decide (0 ≤ (ji74)) = true := decide_eq_true c75
            clear c75
            by_cases c76 : (ji74) < ((rd_L9 (rd_L10 l0_3 x49_2) x77_4).length : Int)
            rotate_left
            ·rw [if_neg c76] at H
             exact absurd H (by simp)
            as_aux_lemma =>
            rw [if_pos c76] at H
            have c76b0 : decide ((ji74) < ((rd_L9 (rd_L10 l0_3 x49_2) x77_4).length : Int)) = true := decide_eq_true c76
            clear c76
            replace H := Option.bind_eq_some_iff.mp H
            obtain ⟨t263, A770, H⟩ := H
            replace H : (impl_ValidChoices.j5 k5 x49_2 x77_4 t243 x49_2 x77_4 (rd_L9 (rd_L10 l0_3 x49_2) x77_4) ((rd_L9 (rd_L10 l0_3 x49_2) x77_4).length : Int) x89_5 (decide (t263 ≥ 0)) a0_0 l0_1 l0_2 l0_3 l0_4 l0_5 t243) = some r := H
            have A77 := AZ.mk A770
            clear A770
            have H' := AZ.mk H
            clear H
            try go_wp2
            have n0_ : AZ (((w61.setCell ⟨gb257, 0, none⟩ (.int .i64 ((rd_T59 (rd_L9 (rd_L10 l0_3 x49_2) x77_4) x89_5).f0))).setCell ⟨gb257, 1, none⟩ (.int .i64 ((rd_T59 (rd_L9 (rd_L10 l0_3 x49_2) x77_4) x89_5).f1))).heap[gb242]? = some (.cells #[.int .i64 a0_0, .slice A0_1 l0_1.length c0_1, .slice A0_2 l0_2.length c0_2, .slice (some ad254) l0_3.length c0_3, .slice A0_4 l0_4.length c0_4, .slice A0_5 l0_5.length c0_5] 33 (0, 0))) := ⟨by (with_reducible repeat (first | refine bn_ ?_ _ | refine bd_ ?_ | refine ba_ ?_ _)); refine blk_far ?_ NB242_257.out _; (with_reducible repeat (first | refine bn_ ?_ _ | refine bd_ ?_ | refine ba_ ?_ _)); refine blk_far ?_ NB242_257.out _; (with_reducible repeat (first | refine bn_ ?_ _ | refine bd_ ?_ | refine ba_ ?_ _)); exact BK242.out⟩
            have n1_ : AZ (((w61.setCell ⟨gb257, 0, none⟩ (.int .i64 ((rd_T59 (rd_L9 (rd_L10 l0_3 x49_2) x77_4) x89_5).f0))).setCell ⟨gb257, 1, none⟩ (.int .i64 ((rd_T59 (rd_L9 (rd_L10 l0_3 x49_2) x77_4) x89_5).f1))).heap[gb244]? = some (.cells #[.int .i64 t243] 2 (0, 0))) := ⟨by (with_reducible repeat (first | refine bn_ ?_ _ | refine bd_ ?_ | refine ba_ ?_ _)); refine blk_far ?_ NB244_257.out _; (with_reducible repeat (first | refine bn_ ?_ _ | refine bd_ ?_ | refine ba_ ?_ _)); refine blk_far ?_ NB244_257.out _; (with_reducible repeat (first | refine bn_ ?_ _ | refine bd_ ?_ | refine ba_ ?_ _)); exact BK244.out⟩
            have n2_ : AZ (((w61.setCell ⟨gb257, 0, none⟩ (.int .i64 ((rd_T59 (rd_L9 (rd_L10 l0_3 x49_2) x77_4) x89_5).f0))).setCell ⟨gb257, 1, none⟩ (.int .i64 ((rd_T59 (rd_L9 (rd_L10 l0_3 x49_2) x77_4) x89_5).f1))).heap[gb257]? = some (.cells #[.int .i64 ((rd_T59 (rd_L9 (rd_L10 l0_3 x49_2) x77_4) x89_5).f0), .int .i64 ((rd_T59 (rd_L9 (rd_L10 l0_3 x49_2) x77_4) x89_5).f1)] 59 (0, 0))) := ⟨by (with_reducible repeat (first | refine bn_ ?_ _ | refine bd_ ?_ | refine ba_ ?_ _)); refine blk_put (cs := #[.int .i64 ((rd_T59 (rd_L9 (rd_L10 l0_3 x49_2) x77_4) x89_5).f0), .int .i64 0]) ?_ 1 _ rfl; (with_reducible repeat (first | refine bn_ ?_ _ | refine bd_ ?_ | refine ba_ ?_ _)); refine blk_put (cs := #[.int .i64 0, .int .i64 0]) ?_ 0 _ rfl; (with_reducible repeat (first | refine bn_ ?_ _ | refine bd_ ?_ | refine ba_ ?_ _)); exact BK257.out⟩
            have n3_ : AZ (Below w.heap.size w ((w61.setCell ⟨gb257, 0, none⟩ (.int .i64 ((rd_T59 (rd_L9 (rd_L10 l0_3 x49_2) x77_4) x89_5).f0))).setCell ⟨gb257, 1, none⟩ (.int .i64 ((rd_T59 (rd_L9 (rd_L10 l0_3 x49_2) x77_4) x89_5).f1)))) := ⟨by repeat (first | (with_reducible first | exact HB.out | apply pA | apply pN | apply pD | refine pS ?_ GE242.out | refine pS ?_ GE244.out | refine pS ?_ GE257.out) | exact HB.out)⟩
            (try clear BK242)
            (try clear BK244)
            (try clear BK257)
            (try clear HB)
            generalize ((w61.setCell ⟨gb257, 0, none⟩ (.int .i64 ((rd_T59 (rd_L9 (rd_L10 l0_3 x49_2) x77_4) x89_5).f0))).setCell ⟨gb257, 1, none⟩ (.int .i64 ((rd_T59 (rd_L9 (rd_L10 l0_3 x49_2) x77_4) x89_5).f1))) = w78 at n0_ n1_ n2_ n3_ ⊢
            have BK242 := n0_
            have BK244 := n1_
            have BK257 := n2_
            have HB := n3_
            clear n0_ n1_ n2_ n3_
            have n0_ := AZ.mk (bd_ BK242.out)
            have n1_ := AZ.mk (bd_ BK244.out)
            have n2_ := AZ.mk (bd_ BK257.out)
            have n3_ := AZ.mk (pD HB.out)
            clear BK242
            clear BK244
            clear BK257
            clear HB
            have BK242 := n0_
            have BK244 := n1_
            have BK257 := n2_
            have HB := n3_
            clear n0_ n1_ n2_ n3_
            have p260 : 0 ≤ (x49_2 : Int) := oT (by first | (with_reducible assumption) | assumption)
            have q260 : x49_2 < (l0_3.length : Int) := oT (by first | (with_reducible assumption) | assumption)
            obtain ⟨ad260, A260_0, c260_0, e260, hx260_0, hl260_0, hi260_0⟩ := at_L10 HR0_3.out x49_2 p260 q260
            have hw260_0 := hx260_0
            obtain rfl : ad254 = ad260 := (by injection e260)
            replace hx260_0 := (HB.out.cell (World.block_lt_of_cell? w _ hx260_0)).trans hx260_0
            have HR260_0 := AZ.mk hi260_0
            have HC260_0 := AZ.mk hl260_0
            clear hi260_0 hl260_0
            replace p260 := eq_true p260
            replace q260 := eq_true q260
            have p261 : 0 ≤ (x77_4 : Int) := oT (by first | (with_reducible assumption) | assumption)
            have q261 : x77_4 < ((rd_L10 l0_3 x49_2).length : Int) := oT (by first | (with_reducible assumption) | assumption)
            obtain ⟨ad261, A261_0, c261_0, e261, hx261_0, hl261_0, hi261_0⟩ := at_L9 HR260_0.out x77_4 p261 q261
            have hw261_0 := hx261_0
            cases e261
            replace hx261_0 := (HB.out.cell (World.block_lt_of_cell? w _ hx261_0)).trans hx261_0
            have HR261_0 := AZ.mk hi261_0
            have HC261_0 := AZ.mk hl261_0
            clear hi261_0 hl261_0
            replace p261 := eq_true p261
            replace q261 := eq_true q261
            have p262 : 0 ≤ ((ji74) : Int) := oT (by first | (with_reducible assumption) | assumption)
            have q262 : (ji74) < ((rd_L9 (rd_L10 l0_3 x49_2) x77_4).length : Int) := oT (by first | (with_reducible assumption) | assumption)
            obtain ⟨ad262, e262, hx262_0, hx262_1⟩ := at_T59 HR261_0.out (ji74) p262 q262
            have hw262_1 := hx262_1
            have hw262_0 := hx262_0
            cases e262
            replace hx262_0 := (HB.out.cell (World.block_lt_of_cell? w _ hx262_0)).trans hx262_0
            replace hx262_1 := (HB.out.cell (World.block_lt_of_cell? w _ hx262_1)).trans hx262_1
            replace p262 := eq_true p262
            replace q262 := eq_true q262
            refine start_ (n := 36) (S := fun w' => w'.cell? ⟨gb257, 0, none⟩ = some (.int .i64 ((rd_T59 (rd_L9 (rd_L10 l0_3 x49_2) x77_4) x89_5).f0)) ∧ w'.cell? ⟨gb257, 1, none⟩ = some (.int .i64 ((rd_T59 (rd_L9 (rd_L10 l0_3 x49_2) x77_4) x89_5).f1)) ∧ w'.cell? ⟨gb244, 0, none⟩ = some (.int .i64 t243) ∧ w'.cell? ⟨gb242, 0, none⟩ = some (.int .i64 a0_0) ∧ w'.cell? ⟨gb242, 1, none⟩ = some (.slice A0_1 l0_1.length c0_1) ∧ w'.cell? ⟨gb242, 2, none⟩ = some (.slice A0_2 l0_2.length c0_2) ∧ w'.cell? ⟨gb242, 3, none⟩ = some (.slice (some ad254) l0_3.length c0_3) ∧ w'.cell? ⟨gb242, 4, none⟩ = some (.slice A0_4 l0_4.length c0_4) ∧ w'.cell? ⟨gb242, 5, none⟩ = some (.slice A0_5 l0_5.length c0_5) ∧ w'.cell? (ad254.add (x49_2).toNat) = some (.slice (some ad261) (rd_L10 l0_3 x49_2).length c260_0) ∧ w'.cell? (ad261.add (x77_4).toNat) = some (.slice (some ad262) (rd_L9 (rd_L10 l0_3 x49_2) x77_4).length c261_0) ∧ w'.cell? (ad262.add (((ji74)).toNat * 2)) = some (.int .i64 ((rd_T59 (rd_L9 (rd_L10 l0_3 x49_2) x77_4) (ji74)).f0)) ∧ w'.cell? ⟨(ad262.add (((ji74)).toNat * 2)).block, (ad262.add (((ji74)).toNat * 2)).off + 1, none⟩ = some (.int .i64 ((rd_T59 (rd_L9 (rd_L10 l0_3 x49_2) x77_4) (ji74)).f1))) (ds := []) (bz 36 0) (by kernel_rfl) rfl rfl ⟨(bc BK257.out 0).trans rfl, (bc BK257.out 1).trans rfl, (bc BK244.out 0).trans rfl, (bc BK242.out 0).trans rfl, (bc BK242.out 1).trans rfl, (bc BK242.out 2).trans rfl, (bc BK242.out 3).trans rfl, (bc BK242.out 4).trans rfl, (bc BK242.out 5).trans rfl, ((HB.out.cell (World.block_lt_of_cell? w _ hw260_0)).trans hw260_0), ((HB.out.cell (World.block_lt_of_cell? w _ hw261_0)).trans hw261_0), ((HB.out.cell (World.block_lt_of_cell? w _ hw262_0)).trans hw262_0), ((HB.out.cell (World.block_lt_of_cell? w _ hw262_1)).trans hw262_1)⟩ (fun hHeld => ?_); refine with_tabW impl_ValidChoices.tab15 impl_ValidChoices.bits15 (fun HT_ HW_ => ?_)
            generalize w78.drew = w79 at BK242 BK244 BK257 HB HR260_0 HR261_0 hx260_0 hx261_0 hx262_0 hx262_1 hHeld ⊢
            iterate 4 (first | (refine pz_ HT_ impl_ValidChoices.cz11 rfl rfl rfl (v := ?_) (a' := ?_) (by kernel_rfl) (fun _ _ _ h => h) (Or.inl ⟨by rfl, ?_⟩) ?_ ?_; rotate_left; (intro w'; go_simp; with_reducible rfl); rotate_left; (simp only [Act.put, sA, sB, sC, i64_w, i32_w]; rfl)) | (refine tz_ HT_ HW_ impl_ValidChoices.cz11 rfl rfl rfl (v := ?_) (a' := ?_) (by kernel_rfl) (fun _ _ _ h => h) (Or.inl ⟨by rfl, ?_⟩) hHeld ?_ ?_; rotate_left; (rintro w' ⟨s0, s1, s2, s3, s4, s5, s6, s7, s8, s9, s10, s11, s12⟩; go_simp; with_reducible rfl); rotate_left; (simp only [Act.put, sA, sB, sC, i64_w, i32_w]; rfl)))
            refine one_ (i := 4) (N := some 98) (bz 36 31) rfl rfl (one_of HT_.out (by kernel_rfl)) (by decide) (fun K hK => ?_)
            refine goes_ Try.func21 (by kernel_rfl) rfl #[.int .i64 ((rd_T59 (rd_L9 (rd_L10 l0_3 x49_2) x77_4) x89_5).f0), .int .i64 0, .int .i64 (wrap64 (t243 - 1))] (by rfl) rfl rfl (by (try simp only [List.map_toArray, List.map_cons, List.map_nil]); first | done | rfl | (simp only [List.length_drop, List.length_take]; rfl)) ?_
            with_reducible refine (impl_within.calls ((rd_T59 (rd_L9 (rd_L10 l0_3 x49_2) x77_4) x89_5).f0) 0 (wrap64 (t243 - 1)) true _ A65.out).mono ?_
            rintro e w' ⟨rfl, ⟨nd, rfl⟩⟩
            refine ⟨_, rfl, ?_⟩
            refine hK.out _ _ ⟨(bc BK257.out 0).trans rfl, (bc BK257.out 1).trans rfl, (bc BK244.out 0).trans rfl, (bc BK242.out 0).trans rfl, (bc BK242.out 1).trans rfl, (bc BK242.out 2).trans rfl, (bc BK242.out 3).trans rfl, (bc BK242.out 4).trans rfl, (bc BK242.out 5).trans rfl, ((HB.out.cell (World.block_lt_of_cell? w _ hw260_0)).trans hw260_0), ((HB.out.cell (World.block_lt_of_cell? w _ hw261_0)).trans hw261_0), ((HB.out.cell (World.block_lt_of_cell? w _ hw262_0)).trans hw262_0), ((HB.out.cell (World.block_lt_of_cell? w _ hw262_1)).trans hw262_1)⟩ (fun hHeld => ?_)
            clear hK K
            refine norm_ (a' := ?_) ?_ ?_
            rotate_left
            ·show Act.put _ (some 98) _ = _
             simp only [Act.put, sA, sB, sC, i64_w, i32_w]
             rfl
            iterate 7 (first | (refine pz_ HT_ impl_ValidChoices.cz12 rfl rfl rfl (v := ?_) (a' := ?_) (by kernel_rfl) (fun _ _ _ h => h) (Or.inl ⟨by rfl, ?_⟩) ?_ ?_; rotate_left; (intro w'; go_simp; with_reducible rfl); rotate_left; (simp only [Act.put, sA, sB, sC, i64_w, i32_w]; rfl)) | (refine tz_ HT_ HW_ impl_ValidChoices.cz12 rfl rfl rfl (v := ?_) (a' := ?_) (by kernel_rfl) (fun _ _ _ h => h) (Or.inl ⟨by rfl, ?_⟩) hHeld ?_ ?_; rotate_left; (rintro w' ⟨s0, s1, s2, s3, s4, s5, s6, s7, s8, s9, s10, s11, s12⟩; go_simp; with_reducible rfl); rotate_left; (simp only [Act.put, sA, sB, sC, i64_w, i32_w]; rfl)))
            refine one_ (i := 12) (N := some 106) (bz 36 8191) rfl rfl (one_of HT_.out (by kernel_rfl)) (by decide) (fun K hK => ?_)
            refine goes_ Try.func21 (by kernel_rfl) rfl #[.int .i64 ((rd_T59 (rd_L9 (rd_L10 l0_3 x49_2) x77_4) x89_5).f1), .int .i64 0, .int .i64 (wrap64 (a0_0 - 1))] (by rfl) rfl rfl (by (try simp only [List.map_toArray, List.map_cons, List.map_nil]); first | done | rfl | (simp only [List.length_drop, List.length_take]; rfl)) ?_
            with_reducible refine (impl_within.calls ((rd_T59 (rd_L9 (rd_L10 l0_3 x49_2) x77_4) x89_5).f1) 0 (wrap64 (a0_0 - 1)) true _ A67.out).mono ?_
            rintro e w' ⟨rfl, ⟨nd, rfl⟩⟩
            refine ⟨_, rfl, ?_⟩
            refine hK.out _ _ ⟨(bc BK257.out 0).trans rfl, (bc BK257.out 1).trans rfl, (bc BK244.out 0).trans rfl, (bc BK242.out 0).trans rfl, (bc BK242.out 1).trans rfl, (bc BK242.out 2).trans rfl, (bc BK242.out 3).trans rfl, (bc BK242.out 4).trans rfl, (bc BK242.out 5).trans rfl, ((HB.out.cell (World.block_lt_of_cell? w _ hw260_0)).trans hw260_0), ((HB.out.cell (World.block_lt_of_cell? w _ hw261_0)).trans hw261_0), ((HB.out.cell (World.block_lt_of_cell? w _ hw262_0)).trans hw262_0), ((HB.out.cell (World.block_lt_of_cell? w _ hw262_1)).trans hw262_1)⟩ (fun hHeld => ?_)
            clear hK K
            refine norm_ (a' := ?_) ?_ ?_
            rotate_left
            ·show Act.put _ (some 106) _ = _
             simp only [Act.put, sA, sB, sC, i64_w, i32_w]
             rfl
            iterate 19 (first | (refine pz_ HT_ impl_ValidChoices.cz13 rfl rfl rfl (v := ?_) (a' := ?_) (by kernel_rfl) (fun _ _ _ h => h) (Or.inl ⟨by rfl, ?_⟩) ?_ ?_; rotate_left; (intro w'; go_simp; with_reducible rfl); rotate_left; (simp only [Act.put, sA, sB, sC, i64_w, i32_w]; rfl)) | (refine tz_ HT_ HW_ impl_ValidChoices.cz13 rfl rfl rfl (v := ?_) (a' := ?_) (by kernel_rfl) (fun _ _ _ h => h) (Or.inl ⟨by rfl, ?_⟩) hHeld ?_ ?_; rotate_left; (rintro w' ⟨s0, s1, s2, s3, s4, s5, s6, s7, s8, s9, s10, s11, s12⟩; go_simp; with_reducible rfl); rotate_left; (simp only [Act.put, sA, sB, sC, i64_w, i32_w]; rfl)))
            refine one_ (i := 32) (N := some 126) (bz 36 8589934591) rfl rfl (one_of HT_.out (by kernel_rfl)) (by decide) (fun K hK => ?_)
            refine goes_ Try.func26 (by kernel_rfl) rfl #[.agg #[.int .i64 ((rd_T59 (rd_L9 (rd_L10 l0_3 x49_2) x77_4) (ji74)).f0), .int .i64 ((rd_T59 (rd_L9 (rd_L10 l0_3 x49_2) x77_4) (ji74)).f1)], .agg #[.int .i64 ((rd_T59 (rd_L9 (rd_L10 l0_3 x49_2) x77_4) x89_5).f0), .int .i64 ((rd_T59 (rd_L9 (rd_L10 l0_3 x49_2) x77_4) x89_5).f1)]] (by rfl) rfl rfl (by (try simp only [List.map_toArray, List.map_cons, List.map_nil]); first | done | (simp only [hji74]; rfl) | rfl | (simp only [List.length_drop, List.length_take]; rfl)) ?_
            with_reducible refine (impl_comparePushes.calls k5 ((rd_T59 (rd_L9 (rd_L10 l0_3 x49_2) x77_4) (ji74)).f0) ((rd_T59 (rd_L9 (rd_L10 l0_3 x49_2) x77_4) (ji74)).f1) ((rd_T59 (rd_L9 (rd_L10 l0_3 x49_2) x77_4) x89_5).f0) ((rd_T59 (rd_L9 (rd_L10 l0_3 x49_2) x77_4) x89_5).f1) t263 _ A77.out).mono ?_
            rintro e w80 ⟨rfl, hb⟩
            refine ⟨_, rfl, ?_⟩
            have n0_ := AZ.mk (bb_ (g := gb242) (o := .cells #[.int .i64 a0_0, .slice A0_1 l0_1.length c0_1, .slice A0_2 l0_2.length c0_2, .slice (some ad254) l0_3.length c0_3, .slice A0_4 l0_4.length c0_4, .slice A0_5 l0_5.length c0_5] 33 (0, 0)) (by (with_reducible repeat (first | refine bn_ ?_ _ | refine bd_ ?_ | refine ba_ ?_ _)); exact BK242.out) hb)
            have n1_ := AZ.mk (bb_ (g := gb244) (o := .cells #[.int .i64 t243] 2 (0, 0)) (by (with_reducible repeat (first | refine bn_ ?_ _ | refine bd_ ?_ | refine ba_ ?_ _)); exact BK244.out) hb)
            have n2_ := AZ.mk (bb_ (g := gb257) (o := .cells #[.int .i64 ((rd_T59 (rd_L9 (rd_L10 l0_3 x49_2) x77_4) x89_5).f0), .int .i64 ((rd_T59 (rd_L9 (rd_L10 l0_3 x49_2) x77_4) x89_5).f1)] 59 (0, 0)) (by (with_reducible repeat (first | refine bn_ ?_ _ | refine bd_ ?_ | refine ba_ ?_ _)); exact BK257.out) hb)
            have n3_ := AZ.mk (pT (by repeat (first | (with_reducible first | exact HB.out | apply pA | apply pN | apply pD | refine pS ?_ GE242.out | refine pS ?_ GE244.out | refine pS ?_ GE257.out) | exact HB.out)) hb)
            clear BK242
            clear BK244
            clear BK257
            clear HB
            have BK242 := n0_
            have BK244 := n1_
            have BK257 := n2_
            have HB := n3_
            clear n0_ n1_ n2_ n3_
            (try clear hb)
            (try clear hb2)
            (try clear hk)
            (try clear hi)
            refine hK.out _ _ ⟨(bc BK257.out 0).trans rfl, (bc BK257.out 1).trans rfl, (bc BK244.out 0).trans rfl, (bc BK242.out 0).trans rfl, (bc BK242.out 1).trans rfl, (bc BK242.out 2).trans rfl, (bc BK242.out 3).trans rfl, (bc BK242.out 4).trans rfl, (bc BK242.out 5).trans rfl, ((HB.out.cell (World.block_lt_of_cell? w _ hw260_0)).trans hw260_0), ((HB.out.cell (World.block_lt_of_cell? w _ hw261_0)).trans hw261_0), ((HB.out.cell (World.block_lt_of_cell? w _ hw262_0)).trans hw262_0), ((HB.out.cell (World.block_lt_of_cell? w _ hw262_1)).trans hw262_1)⟩ (fun hHeld => ?_)
            clear hK K
            refine norm_ (a' := ?_) ?_ ?_
            rotate_left
            ·show Act.put _ (some 126) _ = _
             simp only [Act.put, sA, sB, sC, i64_w, i32_w]
             rfl
            iterate 3 (first | (refine pz_ HT_ impl_ValidChoices.cz14 rfl rfl rfl (v := ?_) (a' := ?_) (by kernel_rfl) (fun _ _ _ h => h) (Or.inl ⟨by rfl, ?_⟩) ?_ ?_; rotate_left; (intro w'; go_simp; with_reducible rfl); rotate_left; (simp only [Act.put, sA, sB, sC, i64_w, i32_w]; rfl)))
            refine done_ (done_of HT_.out (by kernel_rfl)) ?_
            try go_wp2
            go_meet
            case rel => exact ⟨_, (decide (t263 ≥ 0)), (by first | rfl | (simp; done) | (simp [*]; done)), H', ⟨by have := HJ2.out; have := HK2.out; have := HJ35.out; have := HK4.out; have := HK5.out; first | omega | exact Nat.le_refl _⟩, ⟨by (with_reducible repeat (first | refine bn_ ?_ _ | refine bd_ ?_ | refine ba_ ?_ _)); exact BK242.out⟩, ⟨by (with_reducible repeat (first | refine bn_ ?_ _ | refine bd_ ?_ | refine ba_ ?_ _)); exact BK244.out⟩, ⟨by (with_reducible repeat (first | refine bn_ ?_ _ | refine bd_ ?_ | refine ba_ ?_ _)); exact BK257.out⟩, ⟨by repeat (first | (with_reducible first | exact HB.out | apply pA | apply pN | apply pD | refine pS ?_ GE242.out | refine pS ?_ GE244.out | refine pS ?_ GE257.out) | exact HB.out)⟩⟩
           case rest =>
            clear HC60
            try clear c2
            try clear p2
            try clear c6
            try clear p6
            try clear c21
            try clear p64
            try clear c66
            try clear c68
            obtain ⟨kq, x129_59, rfl, HA, HJ59, BK242, BK244, BK257, HB⟩ := hcut
            cases kq with
            | zero => exact absurd HA.out (by simp [impl_ValidChoices.j5])
            | succ kj59 =>
             have H := HA.out
             clear HA
             simp only [impl_ValidChoices.j5] at H
             by_cases c87 : x129_59 = true
             ·subst c87
              have H1 : (some false) = some r := by rw [if_pos rfl] at H; exact H
              clear H
              have H := H1
              clear H1
              obtain rfl := Option.some.inj H
              go_wp2
              go_ret
              exact ⟨by first | rfl | (simp [errW_none, errW_some] <;> rfl) | (simp [*, errW_none, errW_some] <;> rfl), by repeat (first | (with_reducible first | exact HB.out | apply pA | apply pN | apply pD | refine pS ?_ GE242.out | refine pS ?_ GE244.out | refine pS ?_ GE257.out) | exact HB.out)⟩
             replace c87 := Bool.eq_false_iff.mpr c87
             subst c87
             have H1 : (impl_ValidChoices.l2 kj59 x49_2 x77_4 t243 x49_2 x77_4 (rd_L9 (rd_L10 l0_3 x49_2) x77_4) ((rd_L9 (rd_L10 l0_3 x49_2) x77_4).length : Int) (wrap64 (x89_5 + 1)) a0_0 l0_1 l0_2 l0_3 l0_4 l0_5 t243) = some r := by rw [if_neg (show ¬ (false = true) by decide)] at H; exact H
             clear H
             have H := H1
             clear H1
             have H' := AZ.mk H
             clear H
             go_wp2
             go_roundg kj59
             case measure => have := HJ2.out; have := HK2.out; have := HJ35.out; have := HK4.out; have := HK5.out; have := HJ59.out; omega
             case rel => exact ⟨(wrap64 (x89_5 + 1)), (by first | rfl | (simp; done) | (simp [*]; done)), H', ⟨by have := HJ2.out; have := HK2.out; have := HJ35.out; have := HK4.out; have := HK5.out; have := HJ59.out; omega⟩, ⟨by (with_reducible repeat (first | refine bn_ ?_ _ | refine bd_ ?_ | refine ba_ ?_ _)); exact BK242.out⟩, ⟨by (with_reducible repeat (first | refine bn_ ?_ _ | refine bd_ ?_ | refine ba_ ?_ _)); exact BK244.out⟩, ⟨by repeat (first | (with_reducible first | exact HB.out | apply pA | apply pN | apply pD | refine pS ?_ GE242.out | refine pS ?_ GE244.out | refine pS ?_ GE257.out) | exact HB.out)⟩⟩
end Go.Proofs.Ytcoaplkoilhhbaa.P
namespace Go.Proofs.Ytcoaplkoilhhbaa.P
open Go.RowKit Go.Proofs.YtcoaplkoilhhbaaW.PrintWords Go.Proofs.YtcoaplkoilhhbaaW.PrintLast Go.Proofs.YtcoaplkoilhhbaaW.PrintMore
attribute [local go_sem] max2_int min2_int max_two min_two max_three min_three max_four min_four
set_option linter.unusedVariables false
set_option linter.unusedSimpArgs false
def laws_eqInt64S.l0 : Nat → List Int → List Int → Int → Option (Bool)
 | 0, _, _, _ => none
 | k + 1, x0, x1, x5 => if x5 < (x0.length : Int) then (if 0 ≤ x5 then (if x5 < (x1.length : Int) then (if (rd x0 x5) = (rd x1 x5) then (laws_eqInt64S.l0 k x0 x1 (wrap64 (x5 + 1))) else (some false)) else (none)) else (none)) else (some true)
def laws_eqInt64S.f (k : Nat) (l0 : List Int) (l1 : List Int) : Option (Bool) := if (l0.length : Int) = (l1.length : Int) then (laws_eqInt64S.l0 k l0 l1 0) else (some false)
set_option maxHeartbeats 8000000 in
set_option maxRecDepth 100000 in
theorem laws_eqInt64S.calls (k : Nat) (A0 : Option Addr) (c0 : Nat) (l0 : List Int) (A1 : Option Addr) (c1 : Nat) (l1 : List Int) (r : Bool) (w : World) (hr0 : Kd.C (Kd.int .i64) w A0 l0.length l0) (hc0 : l0.length ≤ c0) (hr1 : Kd.C (Kd.int .i64) w A1 l1.length l1) (hc1 : l1.length ≤ c1) (h : laws_eqInt64S.f k l0 l1 = some r) :
  Calls Try.prog 30 #[.slice A0 l0.length c0, .slice A1 l1.length c1] w fun e w' => e = .returned (.bool r) ∧ Drawn0 w w' := by
 have HR0 := AZ.mk hr0
 have HC0 := AZ.mk hc0
 clear hr0 hc0
 have HR1 := AZ.mk hr1
 have HC1 := AZ.mk hc1
 clear hr1 hc1
 have H : (if (l0.length : Int) = (l1.length : Int) then (laws_eqInt64S.l0 k l0 l1 0) else (some false)) = some r := h
 clear h
 by_cases c3 : (l0.length : Int) = (l1.length : Int)
 rotate_left
 ·rw [if_neg c3] at H
  have c3b0 : ((l0.length : Int) == (l1.length : Int)) = false := beq_eq_false_iff_ne.mpr c3
  have c3b1 : ((l0.length : Int) != (l1.length : Int)) = true := bne_iff_ne.mpr c3
  have c3b2 : (l0.length == l1.length) = false := by first | simpa using c3 | (simp at c3 ⊢; omega)
  obtain rfl := Option.some.inj H
  go_enter Try.func30, Try.ntmps30
  go_wp2
  repeat (go_quiet (fail); try go_wp2)
  go_ret
  exact ⟨by first | rfl | (simp; done) | (simp [*]; done), by repeat (first | exact Drawn0.refl _ | apply Drawn0.step)⟩
 rw [if_pos c3] at H
 have c3b0 : ((l0.length : Int) == (l1.length : Int)) = true := beq_iff_eq.mpr c3
 have c3b1 : ((l0.length : Int) != (l1.length : Int)) = false := bne_eq_false_iff_eq.mpr c3
 have c3b2 : (l0.length == l1.length) = true := by first | simpa using c3 | (simp at c3 ⊢; omega)
 clear c3
 have H' := AZ.mk H
 clear H
 go_enter Try.func30, Try.ntmps30
 go_wp2
 repeat (go_quiet (fail); try go_wp2)
 go_loopg [5] k (fun kq v5 w' => ∃ (x5_1 : Int), v5 = .int .i64 x5_1 ∧ AZ (laws_eqInt64S.l0 kq l0 l1 x5_1 = some r) ∧ AZ (kq ≤ k) ∧ Drawn0 w w')
 case atStart => exact ⟨(0), (by first | rfl | (simp; done) | (simp [*]; done)), H', ⟨Nat.le_refl _⟩, by repeat (first | exact Drawn0.refl _ | apply Drawn0.step)⟩
 case round =>
  clear H'
  try clear c1
  try clear p2
  try clear c3
  try clear c3b0
  try clear c3b1
  try clear c3b2
  obtain ⟨x5_1, rfl, HA, HK1, ⟨m1, rfl⟩⟩ := hrel
  cases gk with
  | zero => exact absurd HA.out (by simp [laws_eqInt64S.l0])
  | succ k1 =>
   have H := HA.out
   clear HA
   simp only [laws_eqInt64S.l0] at H
   by_cases c4 : x5_1 < (l0.length : Int)
   rotate_left
   ·rw [if_neg c4] at H
    have c4b0 : decide (x5_1 < (l0.length : Int)) = false := decide_eq_false c4
    clear c4
    obtain rfl := Option.some.inj H
    go_wp2
    repeat (go_quiet (fail); try go_wp2)
    go_ret
    exact ⟨by first | rfl | (simp; done) | (simp [*]; done), by repeat (first | exact Drawn0.refl _ | apply Drawn0.step)⟩
   rw [if_pos c4] at H
   have c4b0 : decide (x5_1 < (l0.length : Int)) = true := decide_eq_true c4
   clear c4
   by_cases c5 : 0 ≤ x5_1
   rotate_left
   ·rw [if_neg c5] at H
    exact absurd H (by simp)
   rw [if_pos c5] at H
   have c5b0 : decide (0 ≤ x5_1) = true := decide_eq_true c5
   clear c5
   by_cases c6 : x5_1 < (l1.length : Int)
   rotate_left
   ·rw [if_neg c6] at H
    exact absurd H (by simp)
   rw [if_pos c6] at H
   have c6b0 : decide (x5_1 < (l1.length : Int)) = true := decide_eq_true c6
   clear c6
   by_cases c7 : (rd l0 x5_1) = (rd l1 x5_1)
   rotate_left
   ·rw [if_neg c7] at H
    have c7b0 : ((rd l0 x5_1) == (rd l1 x5_1)) = false := beq_eq_false_iff_ne.mpr c7
    have c7b1 : ((rd l0 x5_1) != (rd l1 x5_1)) = true := bne_iff_ne.mpr c7
    obtain rfl := Option.some.inj H
    have p273 : 0 ≤ (x5_1 : Int) := oT (by first | (with_reducible assumption) | assumption)
    have q273 : x5_1 < (l0.length : Int) := oT (by first | (with_reducible assumption) | assumption)
    obtain ⟨ad273, e273, hx273_0⟩ := Kd.at_int HR0.out x5_1 p273 q273
    cases e273
    replace p273 := eq_true p273
    replace q273 := eq_true q273
    have p274 : 0 ≤ (x5_1 : Int) := oT (by first | (with_reducible assumption) | assumption)
    have q274 : x5_1 < (l1.length : Int) := oT (by first | (with_reducible assumption) | assumption)
    obtain ⟨ad274, e274, hx274_0⟩ := Kd.at_int HR1.out x5_1 p274 q274
    cases e274
    replace p274 := eq_true p274
    replace q274 := eq_true q274
    go_wp2
    repeat (go_quiet (fail); try go_wp2)
    go_ret
    exact ⟨by first | rfl | (simp; done) | (simp [*]; done), by repeat (first | exact Drawn0.refl _ | apply Drawn0.step)⟩
   rw [if_pos c7] at H
   have c7b0 : ((rd l0 x5_1) == (rd l1 x5_1)) = true := beq_iff_eq.mpr c7
   have c7b1 : ((rd l0 x5_1) != (rd l1 x5_1)) = false := bne_eq_false_iff_eq.mpr c7
   clear c7
   have H' := AZ.mk H
   clear H
   have p273 : 0 ≤ (x5_1 : Int) := oT (by first | (with_reducible assumption) | assumption)
   have q273 : x5_1 < (l0.length : Int) := oT (by first | (with_reducible assumption) | assumption)
   obtain ⟨ad273, e273, hx273_0⟩ := Kd.at_int HR0.out x5_1 p273 q273
   cases e273
   replace p273 := eq_true p273
   replace q273 := eq_true q273
   have p274 : 0 ≤ (x5_1 : Int) := oT (by first | (with_reducible assumption) | assumption)
   have q274 : x5_1 < (l1.length : Int) := oT (by first | (with_reducible assumption) | assumption)
   obtain ⟨ad274, e274, hx274_0⟩ := Kd.at_int HR1.out x5_1 p274 q274
   cases e274
   replace p274 := eq_true p274
   replace q274 := eq_true q274
   go_wp2
   repeat (go_quiet (fail); try go_wp2)
   go_roundg k1
   case measure => have := HK1.out; omega
   case rel => exact ⟨(wrap64 (x5_1 + 1)), (by first | rfl | (simp; done) | (simp [*]; done)), H', ⟨by have := HK1.out; omega⟩, by repeat (first | exact Drawn0.refl _ | apply Drawn0.step)⟩
end Go.Proofs.Ytcoaplkoilhhbaa.P
namespace Go.Proofs.Ytcoaplkoilhhbaa.P
open Go.RowKit Go.Proofs.YtcoaplkoilhhbaaW.PrintWords Go.Proofs.YtcoaplkoilhhbaaW.PrintLast Go.Proofs.YtcoaplkoilhhbaaW.PrintMore
attribute [local go_sem] max2_int min2_int max_two min_two max_three min_three max_four min_four
set_option linter.unusedVariables false
set_option linter.unusedSimpArgs false
def laws_eqBoolS.l0 : Nat → List Bool → List Bool → Int → Option (Bool)
 | 0, _, _, _ => none
 | k + 1, x0, x1, x5 => if x5 < (x0.length : Int) then (if 0 ≤ x5 then (if x5 < (x1.length : Int) then (if ((rdOf false x0 x5) != (rdOf false x1 x5)) = true then (some false) else (laws_eqBoolS.l0 k x0 x1 (wrap64 (x5 + 1)))) else (none)) else (none)) else (some true)
def laws_eqBoolS.f (k : Nat) (l0 : List Bool) (l1 : List Bool) : Option (Bool) := if (l0.length : Int) = (l1.length : Int) then (laws_eqBoolS.l0 k l0 l1 0) else (some false)
set_option maxHeartbeats 8000000 in
set_option maxRecDepth 100000 in
theorem laws_eqBoolS.calls (k : Nat) (A0 : Option Addr) (c0 : Nat) (l0 : List Bool) (A1 : Option Addr) (c1 : Nat) (l1 : List Bool) (r : Bool) (w : World) (hr0 : Kd.C Kd.bool w A0 l0.length l0) (hc0 : l0.length ≤ c0) (hr1 : Kd.C Kd.bool w A1 l1.length l1) (hc1 : l1.length ≤ c1) (h : laws_eqBoolS.f k l0 l1 = some r) :
  Calls Try.prog 31 #[.slice A0 l0.length c0, .slice A1 l1.length c1] w fun e w' => e = .returned (.bool r) ∧ Drawn0 w w' := by
 have HR0 := AZ.mk hr0
 have HC0 := AZ.mk hc0
 clear hr0 hc0
 have HR1 := AZ.mk hr1
 have HC1 := AZ.mk hc1
 clear hr1 hc1
 have H : (if (l0.length : Int) = (l1.length : Int) then (laws_eqBoolS.l0 k l0 l1 0) else (some false)) = some r := h
 clear h
 by_cases c3 : (l0.length : Int) = (l1.length : Int)
 rotate_left
 ·rw [if_neg c3] at H
  have c3b0 : ((l0.length : Int) == (l1.length : Int)) = false := beq_eq_false_iff_ne.mpr c3
  have c3b1 : ((l0.length : Int) != (l1.length : Int)) = true := bne_iff_ne.mpr c3
  have c3b2 : (l0.length == l1.length) = false := by first | simpa using c3 | (simp at c3 ⊢; omega)
  obtain rfl := Option.some.inj H
  go_enter Try.func31, Try.ntmps31
  go_wp2
  repeat (go_quiet (fail); try go_wp2)
  go_ret
  exact ⟨by first | rfl | (simp; done) | (simp [*]; done), by repeat (first | exact Drawn0.refl _ | apply Drawn0.step)⟩
 rw [if_pos c3] at H
 have c3b0 : ((l0.length : Int) == (l1.length : Int)) = true := beq_iff_eq.mpr c3
 have c3b1 : ((l0.length : Int) != (l1.length : Int)) = false := bne_eq_false_iff_eq.mpr c3
 have c3b2 : (l0.length == l1.length) = true := by first | simpa using c3 | (simp at c3 ⊢; omega)
 clear c3
 have H' := AZ.mk H
 clear H
 go_enter Try.func31, Try.ntmps31
 go_wp2
 repeat (go_quiet (fail); try go_wp2)
 go_loopg [5] k (fun kq v5 w' => ∃ (x5_1 : Int), v5 = .int .i64 x5_1 ∧ AZ (laws_eqBoolS.l0 kq l0 l1 x5_1 = some r) ∧ AZ (kq ≤ k) ∧ Drawn0 w w')
 case atStart => exact ⟨(0), (by first | rfl | (simp; done) | (simp [*]; done)), H', ⟨Nat.le_refl _⟩, by repeat (first | exact Drawn0.refl _ | apply Drawn0.step)⟩
 case round =>
  clear H'
  try clear c1
  try clear p2
  try clear c3
  try clear c3b0
  try clear c3b1
  try clear c3b2
  obtain ⟨x5_1, rfl, HA, HK1, ⟨m1, rfl⟩⟩ := hrel
  cases gk with
  | zero => exact absurd HA.out (by simp [laws_eqBoolS.l0])
  | succ k1 =>
   have H := HA.out
   clear HA
   simp only [laws_eqBoolS.l0] at H
   by_cases c4 : x5_1 < (l0.length : Int)
   rotate_left
   ·rw [if_neg c4] at H
    have c4b0 : decide (x5_1 < (l0.length : Int)) = false := decide_eq_false c4
    clear c4
    obtain rfl := Option.some.inj H
    go_wp2
    repeat (go_quiet (fail); try go_wp2)
    go_ret
    exact ⟨by first | rfl | (simp; done) | (simp [*]; done), by repeat (first | exact Drawn0.refl _ | apply Drawn0.step)⟩
   rw [if_pos c4] at H
   have c4b0 : decide (x5_1 < (l0.length : Int)) = true := decide_eq_true c4
   clear c4
   by_cases c5 : 0 ≤ x5_1
   rotate_left
   ·rw [if_neg c5] at H
    exact absurd H (by simp)
   rw [if_pos c5] at H
   have c5b0 : decide (0 ≤ x5_1) = true := decide_eq_true c5
   clear c5
   by_cases c6 : x5_1 < (l1.length : Int)
   rotate_left
   ·rw [if_neg c6] at H
    exact absurd H (by simp)
   rw [if_pos c6] at H
   have c6b0 : decide (x5_1 < (l1.length : Int)) = true := decide_eq_true c6
   clear c6
   by_cases c7 : ((rdOf false l0 x5_1) != (rdOf false l1 x5_1)) = true
   ·rw [if_pos c7] at H
    have c7b0 : ((rdOf false l0 x5_1) != (rdOf false l1 x5_1)) = true := c7
    (try (have c7b1 : decide ((rdOf false l0 x5_1) = (rdOf false l1 x5_1)) = false := by simpa using c7))
    (try (have c7b2 : ((rdOf false l0 x5_1) == (rdOf false l1 x5_1)) = false := by simpa using c7))
    (try (have c7b3 : ¬ ((rdOf false l0 x5_1) = (rdOf false l1 x5_1)) := by simpa using c7))
    clear c7
    obtain rfl := Option.some.inj H
    have p275 : 0 ≤ (x5_1 : Int) := oT (by first | (with_reducible assumption) | assumption)
    have q275 : x5_1 < (l0.length : Int) := oT (by first | (with_reducible assumption) | assumption)
    obtain ⟨ad275, e275, hx275_0⟩ := Kd.at_bool HR0.out x5_1 p275 q275
    cases e275
    replace p275 := eq_true p275
    replace q275 := eq_true q275
    have p276 : 0 ≤ (x5_1 : Int) := oT (by first | (with_reducible assumption) | assumption)
    have q276 : x5_1 < (l1.length : Int) := oT (by first | (with_reducible assumption) | assumption)
    obtain ⟨ad276, e276, hx276_0⟩ := Kd.at_bool HR1.out x5_1 p276 q276
    cases e276
    replace p276 := eq_true p276
    replace q276 := eq_true q276
    go_wp2
    repeat (go_quiet (fail); try go_wp2)
    go_ret
    exact ⟨by first | rfl | (simp; done) | (simp [*]; done), by repeat (first | exact Drawn0.refl _ | apply Drawn0.step)⟩
   rw [if_neg c7] at H
   have c7b0 : ((rdOf false l0 x5_1) != (rdOf false l1 x5_1)) = false := by simpa using c7
   (try (have c7b1 : decide ((rdOf false l0 x5_1) = (rdOf false l1 x5_1)) = true := by simpa using c7))
   (try (have c7b2 : ((rdOf false l0 x5_1) == (rdOf false l1 x5_1)) = true := by simpa using c7))
   clear c7
   have H' := AZ.mk H
   clear H
   have p275 : 0 ≤ (x5_1 : Int) := oT (by first | (with_reducible assumption) | assumption)
   have q275 : x5_1 < (l0.length : Int) := oT (by first | (with_reducible assumption) | assumption)
   obtain ⟨ad275, e275, hx275_0⟩ := Kd.at_bool HR0.out x5_1 p275 q275
   cases e275
   replace p275 := eq_true p275
   replace q275 := eq_true q275
   have p276 : 0 ≤ (x5_1 : Int) := oT (by first | (with_reducible assumption) | assumption)
   have q276 : x5_1 < (l1.length : Int) := oT (by first | (with_reducible assumption) | assumption)
   obtain ⟨ad276, e276, hx276_0⟩ := Kd.at_bool HR1.out x5_1 p276 q276
   cases e276
   replace p276 := eq_true p276
   replace q276 := eq_true q276
   go_wp2
   repeat (go_quiet (fail); try go_wp2)
   go_roundg k1
   case measure => have := HK1.out; omega
   case rel => exact ⟨(wrap64 (x5_1 + 1)), (by first | rfl | (simp; done) | (simp [*]; done)), H', ⟨by have := HK1.out; omega⟩, by repeat (first | exact Drawn0.refl _ | apply Drawn0.step)⟩
end Go.Proofs.Ytcoaplkoilhhbaa.P
namespace Go.Proofs.Ytcoaplkoilhhbaa.P
open Go.RowKit Go.Proofs.YtcoaplkoilhhbaaW.PrintWords Go.Proofs.YtcoaplkoilhhbaaW.PrintLast Go.Proofs.YtcoaplkoilhhbaaW.PrintMore
attribute [local go_sem] max2_int min2_int max_two min_two max_three min_three max_four min_four
set_option linter.unusedVariables false
set_option linter.unusedSimpArgs false
def laws_eqPush.f (a0_0 : Int) (a0_1 : Int) (a1_0 : Int) (a1_1 : Int) : Option (Bool) := if a0_0 = a1_0 then (if a0_1 = a1_1 then (some true) else (some false)) else (some false)
set_option maxHeartbeats 8000000 in
set_option maxRecDepth 100000 in
theorem laws_eqPush.calls (a0_0 : Int) (a0_1 : Int) (a1_0 : Int) (a1_1 : Int) (r : Bool) (w : World) (h : laws_eqPush.f a0_0 a0_1 a1_0 a1_1 = some r) :
  Calls Try.prog 52 #[.agg #[.int .i64 a0_0, .int .i64 a0_1], .agg #[.int .i64 a1_0, .int .i64 a1_1]] w fun e w' => e = .returned (.bool r) ∧ Below w.heap.size w w' := by
 have hu59 := Try.underlying59
 have HB := AZ.mk (Below.refl w.heap.size w)
 have H : (if a0_0 = a1_0 then (if a0_1 = a1_1 then (some true) else (some false)) else (some false)) = some r := h
 clear h
 by_cases c3 : a0_0 = a1_0
 rotate_left
 ·rw [if_neg c3] at H
  have c3b0 : (a0_0 == a1_0) = false := beq_eq_false_iff_ne.mpr c3
  have c3b1 : (a0_0 != a1_0) = true := bne_iff_ne.mpr c3
  obtain rfl := Option.some.inj H
  go_enter Try.func52, Try.ntmps52
  go_wp2_with (first | ((with_reducible refine gate_dst (N := 2) rfl ?_); refine box_event ?hg (N := 2) ?hd (cs := #[.int .i64 a0_0, .int .i64 a0_1]) (t := 59) ?hr ?_; (case hd => rfl); (case hg => rfl); (case hr => first | (go_simp; done) | (go_simp; rfl)); intro gb277 hg w15 hbox hb; have n0_ := AZ.mk (pT (by repeat (first | (with_reducible first | exact HB.out | apply pA | apply pN | apply pD) | exact HB.out)) hb); have n1_ := AZ.mk (hbox); have n2_ := AZ.mk ((by rw [hg]; exact (pZ (by repeat (first | (with_reducible first | exact HB.out | apply pA | apply pN | apply pD) | exact HB.out))) : w.heap.size ≤ gb277)); have n3_ := AZ.mk ((by rw [hg]; exact (pZ (by repeat (first | (with_reducible first | exact HB.out | apply pA | apply pN | apply pD) | exact HB.out))) : w.heap.size ≤ gb277)); clear HB; have HB := n0_; have BK277 := n1_; have GW277 := n2_; have GE277 := n3_; clear n0_ n1_ n2_ n3_; clear hb hbox hg) | ((with_reducible refine gate_dst (N := 3) rfl ?_); refine box_event ?hg (N := 3) ?hd (cs := #[.int .i64 a1_0, .int .i64 a1_1]) (t := 59) ?hr ?_; (case hd => rfl); (case hg => rfl); (case hr => first | (go_simp; done) | (go_simp; rfl)); intro gb278 hg w16 hbox hb; have n0_ := AZ.mk (bb_ (g := gb277) (o := .cells #[.int .i64 a0_0, .int .i64 a0_1] 59 (0, 0)) (by (with_reducible repeat (first | refine bn_ ?_ _ | refine bd_ ?_ | refine ba_ ?_ _)); exact BK277.out) hb); have n1_ := AZ.mk (pT (by repeat (first | (with_reducible first | exact HB.out | apply pA | apply pN | apply pD | refine pS ?_ GE277.out) | exact HB.out)) hb); have n2_ := AZ.mk (hbox); have n3_ := AZ.mk ((by rw [hg]; exact (pZ (by repeat (first | (with_reducible first | exact HB.out | apply pA | apply pN | apply pD | refine pS ?_ GE277.out) | exact HB.out))) : w.heap.size ≤ gb278)); have n4_ := AZ.mk ((by rw [hg]; exact (pZ (by repeat (first | (with_reducible first | exact HB.out | apply pA | apply pN | apply pD | refine pS ?_ GE277.out) | exact HB.out))) : w.heap.size ≤ gb278)); have n5_ := AZ.mk ((by rw [hg]; exact Nat.ne_of_lt (blk_lt (g := gb277) (o := .cells #[.int .i64 a0_0, .int .i64 a0_1] 59 (0, 0)) (by (with_reducible repeat (first | refine bn_ ?_ _ | refine bd_ ?_ | refine ba_ ?_ _)); exact BK277.out)) : gb277 ≠ gb278)); have n6_ := AZ.mk ((by rw [hg]; exact Nat.ne_of_gt (blk_lt (g := gb277) (o := .cells #[.int .i64 a0_0, .int .i64 a0_1] 59 (0, 0)) (by (with_reducible repeat (first | refine bn_ ?_ _ | refine bd_ ?_ | refine ba_ ?_ _)); exact BK277.out)) : gb278 ≠ gb277)); clear BK277; clear HB; have BK277 := n0_; have HB := n1_; have BK278 := n2_; have GW278 := n3_; have GE278 := n4_; have NB277_278 := n5_; have NB278_277 := n6_; clear n0_ n1_ n2_ n3_ n4_ n5_ n6_; clear hb hbox hg; have hnb17 := NB277_278.out; have hnc17 := NB278_277.out; have hcz18_0 : w16.cell? ⟨gb277, 0, none⟩ = some (.int .i64 a0_0) := (bc BK277.out 0).trans rfl; have hcz18_1 : w16.cell? ⟨gb277, 1, none⟩ = some (.int .i64 a0_1) := (bc BK277.out 1).trans rfl; have hfz18_0 := bf BK277.out 0; have hfz18_1 := bf BK277.out 1; have hcz19_0 : w16.cell? ⟨gb278, 0, none⟩ = some (.int .i64 a1_0) := (bc BK278.out 0).trans rfl; have hcz19_1 : w16.cell? ⟨gb278, 1, none⟩ = some (.int .i64 a1_1) := (bc BK278.out 1).trans rfl; have hfz19_0 := bf BK278.out 0; have hfz19_1 := bf BK278.out 1))
  go_ret
  exact ⟨by first | rfl | (simp [errW_none, errW_some] <;> rfl) | (simp [*, errW_none, errW_some] <;> rfl), by repeat (first | (with_reducible first | exact HB.out | apply pA | apply pN | apply pD | refine pS ?_ GE277.out | refine pS ?_ GE278.out) | exact HB.out)⟩
 rw [if_pos c3] at H
 have c3b0 : (a0_0 == a1_0) = true := beq_iff_eq.mpr c3
 have c3b1 : (a0_0 != a1_0) = false := bne_eq_false_iff_eq.mpr c3
 clear c3
 by_cases c4 : a0_1 = a1_1
 ·rw [if_pos c4] at H
  have c4b0 : (a0_1 == a1_1) = true := beq_iff_eq.mpr c4
  have c4b1 : (a0_1 != a1_1) = false := bne_eq_false_iff_eq.mpr c4
  clear c4
  obtain rfl := Option.some.inj H
  go_enter Try.func52, Try.ntmps52
  go_wp2_with (first | ((with_reducible refine gate_dst (N := 2) rfl ?_); refine box_event ?hg (N := 2) ?hd (cs := #[.int .i64 a0_0, .int .i64 a0_1]) (t := 59) ?hr ?_; (case hd => rfl); (case hg => rfl); (case hr => first | (go_simp; done) | (go_simp; rfl)); intro gb277 hg w5 hbox hb; have n0_ := AZ.mk (pT (by repeat (first | (with_reducible first | exact HB.out | apply pA | apply pN | apply pD) | exact HB.out)) hb); have n1_ := AZ.mk (hbox); have n2_ := AZ.mk ((by rw [hg]; exact (pZ (by repeat (first | (with_reducible first | exact HB.out | apply pA | apply pN | apply pD) | exact HB.out))) : w.heap.size ≤ gb277)); have n3_ := AZ.mk ((by rw [hg]; exact (pZ (by repeat (first | (with_reducible first | exact HB.out | apply pA | apply pN | apply pD) | exact HB.out))) : w.heap.size ≤ gb277)); clear HB; have HB := n0_; have BK277 := n1_; have GW277 := n2_; have GE277 := n3_; clear n0_ n1_ n2_ n3_; clear hb hbox hg) | ((with_reducible refine gate_dst (N := 3) rfl ?_); refine box_event ?hg (N := 3) ?hd (cs := #[.int .i64 a1_0, .int .i64 a1_1]) (t := 59) ?hr ?_; (case hd => rfl); (case hg => rfl); (case hr => first | (go_simp; done) | (go_simp; rfl)); intro gb278 hg w6 hbox hb; have n0_ := AZ.mk (bb_ (g := gb277) (o := .cells #[.int .i64 a0_0, .int .i64 a0_1] 59 (0, 0)) (by (with_reducible repeat (first | refine bn_ ?_ _ | refine bd_ ?_ | refine ba_ ?_ _)); exact BK277.out) hb); have n1_ := AZ.mk (pT (by repeat (first | (with_reducible first | exact HB.out | apply pA | apply pN | apply pD | refine pS ?_ GE277.out) | exact HB.out)) hb); have n2_ := AZ.mk (hbox); have n3_ := AZ.mk ((by rw [hg]; exact (pZ (by repeat (first | (with_reducible first | exact HB.out | apply pA | apply pN | apply pD | refine pS ?_ GE277.out) | exact HB.out))) : w.heap.size ≤ gb278)); have n4_ := AZ.mk ((by rw [hg]; exact (pZ (by repeat (first | (with_reducible first | exact HB.out | apply pA | apply pN | apply pD | refine pS ?_ GE277.out) | exact HB.out))) : w.heap.size ≤ gb278)); have n5_ := AZ.mk ((by rw [hg]; exact Nat.ne_of_lt (blk_lt (g := gb277) (o := .cells #[.int .i64 a0_0, .int .i64 a0_1] 59 (0, 0)) (by (with_reducible repeat (first | refine bn_ ?_ _ | refine bd_ ?_ | refine ba_ ?_ _)); exact BK277.out)) : gb277 ≠ gb278)); have n6_ := AZ.mk ((by rw [hg]; exact Nat.ne_of_gt (blk_lt (g := gb277) (o := .cells #[.int .i64 a0_0, .int .i64 a0_1] 59 (0, 0)) (by (with_reducible repeat (first | refine bn_ ?_ _ | refine bd_ ?_ | refine ba_ ?_ _)); exact BK277.out)) : gb278 ≠ gb277)); clear BK277; clear HB; have BK277 := n0_; have HB := n1_; have BK278 := n2_; have GW278 := n3_; have GE278 := n4_; have NB277_278 := n5_; have NB278_277 := n6_; clear n0_ n1_ n2_ n3_ n4_ n5_ n6_; clear hb hbox hg; have hnb7 := NB277_278.out; have hnc7 := NB278_277.out; have hcz8_0 : w6.cell? ⟨gb277, 0, none⟩ = some (.int .i64 a0_0) := (bc BK277.out 0).trans rfl; have hcz8_1 : w6.cell? ⟨gb277, 1, none⟩ = some (.int .i64 a0_1) := (bc BK277.out 1).trans rfl; have hfz8_0 := bf BK277.out 0; have hfz8_1 := bf BK277.out 1; have hcz9_0 : w6.cell? ⟨gb278, 0, none⟩ = some (.int .i64 a1_0) := (bc BK278.out 0).trans rfl; have hcz9_1 : w6.cell? ⟨gb278, 1, none⟩ = some (.int .i64 a1_1) := (bc BK278.out 1).trans rfl; have hfz9_0 := bf BK278.out 0; have hfz9_1 := bf BK278.out 1))
  go_ret
  exact ⟨by first | rfl | (simp [errW_none, errW_some] <;> rfl) | (simp [*, errW_none, errW_some] <;> rfl), by repeat (first | (with_reducible first | exact HB.out | apply pA | apply pN | apply pD | refine pS ?_ GE277.out | refine pS ?_ GE278.out) | exact HB.out)⟩
 rw [if_neg c4] at H
 have c4b0 : (a0_1 == a1_1) = false := beq_eq_false_iff_ne.mpr c4
 have c4b1 : (a0_1 != a1_1) = true := bne_iff_ne.mpr c4
 obtain rfl := Option.some.inj H
 go_enter Try.func52, Try.ntmps52
 go_wp2_with (first | ((with_reducible refine gate_dst (N := 2) rfl ?_); refine box_event ?hg (N := 2) ?hd (cs := #[.int .i64 a0_0, .int .i64 a0_1]) (t := 59) ?hr ?_; (case hd => rfl); (case hg => rfl); (case hr => first | (go_simp; done) | (go_simp; rfl)); intro gb277 hg w10 hbox hb; have n0_ := AZ.mk (pT (by repeat (first | (with_reducible first | exact HB.out | apply pA | apply pN | apply pD) | exact HB.out)) hb); have n1_ := AZ.mk (hbox); have n2_ := AZ.mk ((by rw [hg]; exact (pZ (by repeat (first | (with_reducible first | exact HB.out | apply pA | apply pN | apply pD) | exact HB.out))) : w.heap.size ≤ gb277)); have n3_ := AZ.mk ((by rw [hg]; exact (pZ (by repeat (first | (with_reducible first | exact HB.out | apply pA | apply pN | apply pD) | exact HB.out))) : w.heap.size ≤ gb277)); clear HB; have HB := n0_; have BK277 := n1_; have GW277 := n2_; have GE277 := n3_; clear n0_ n1_ n2_ n3_; clear hb hbox hg) | ((with_reducible refine gate_dst (N := 3) rfl ?_); refine box_event ?hg (N := 3) ?hd (cs := #[.int .i64 a1_0, .int .i64 a1_1]) (t := 59) ?hr ?_; (case hd => rfl); (case hg => rfl); (case hr => first | (go_simp; done) | (go_simp; rfl)); intro gb278 hg w11 hbox hb; have n0_ := AZ.mk (bb_ (g := gb277) (o := .cells #[.int .i64 a0_0, .int .i64 a0_1] 59 (0, 0)) (by (with_reducible repeat (first | refine bn_ ?_ _ | refine bd_ ?_ | refine ba_ ?_ _)); exact BK277.out) hb); have n1_ := AZ.mk (pT (by repeat (first | (with_reducible first | exact HB.out | apply pA | apply pN | apply pD | refine pS ?_ GE277.out) | exact HB.out)) hb); have n2_ := AZ.mk (hbox); have n3_ := AZ.mk ((by rw [hg]; exact (pZ (by repeat (first | (with_reducible first | exact HB.out | apply pA | apply pN | apply pD | refine pS ?_ GE277.out) | exact HB.out))) : w.heap.size ≤ gb278)); have n4_ := AZ.mk ((by rw [hg]; exact (pZ (by repeat (first | (with_reducible first | exact HB.out | apply pA | apply pN | apply pD | refine pS ?_ GE277.out) | exact HB.out))) : w.heap.size ≤ gb278)); have n5_ := AZ.mk ((by rw [hg]; exact Nat.ne_of_lt (blk_lt (g := gb277) (o := .cells #[.int .i64 a0_0, .int .i64 a0_1] 59 (0, 0)) (by (with_reducible repeat (first | refine bn_ ?_ _ | refine bd_ ?_ | refine ba_ ?_ _)); exact BK277.out)) : gb277 ≠ gb278)); have n6_ := AZ.mk ((by rw [hg]; exact Nat.ne_of_gt (blk_lt (g := gb277) (o := .cells #[.int .i64 a0_0, .int .i64 a0_1] 59 (0, 0)) (by (with_reducible repeat (first | refine bn_ ?_ _ | refine bd_ ?_ | refine ba_ ?_ _)); exact BK277.out)) : gb278 ≠ gb277)); clear BK277; clear HB; have BK277 := n0_; have HB := n1_; have BK278 := n2_; have GW278 := n3_; have GE278 := n4_; have NB277_278 := n5_; have NB278_277 := n6_; clear n0_ n1_ n2_ n3_ n4_ n5_ n6_; clear hb hbox hg; have hnb12 := NB277_278.out; have hnc12 := NB278_277.out; have hcz13_0 : w11.cell? ⟨gb277, 0, none⟩ = some (.int .i64 a0_0) := (bc BK277.out 0).trans rfl; have hcz13_1 : w11.cell? ⟨gb277, 1, none⟩ = some (.int .i64 a0_1) := (bc BK277.out 1).trans rfl; have hfz13_0 := bf BK277.out 0; have hfz13_1 := bf BK277.out 1; have hcz14_0 : w11.cell? ⟨gb278, 0, none⟩ = some (.int .i64 a1_0) := (bc BK278.out 0).trans rfl; have hcz14_1 : w11.cell? ⟨gb278, 1, none⟩ = some (.int .i64 a1_1) := (bc BK278.out 1).trans rfl; have hfz14_0 := bf BK278.out 0; have hfz14_1 := bf BK278.out 1))
 go_ret
 exact ⟨by first | rfl | (simp [errW_none, errW_some] <;> rfl) | (simp [*, errW_none, errW_some] <;> rfl), by repeat (first | (with_reducible first | exact HB.out | apply pA | apply pN | apply pD | refine pS ?_ GE277.out | refine pS ?_ GE278.out) | exact HB.out)⟩
end Go.Proofs.Ytcoaplkoilhhbaa.P
namespace Go.Proofs.Ytcoaplkoilhhbaa.P
open Go.RowKit Go.Proofs.YtcoaplkoilhhbaaW.PrintWords Go.Proofs.YtcoaplkoilhhbaaW.PrintLast Go.Proofs.YtcoaplkoilhhbaaW.PrintMore
attribute [local go_sem] max2_int min2_int max_two min_two max_three min_three max_four min_four
set_option linter.unusedVariables false
set_option linter.unusedSimpArgs false
def laws_eqPushS.l0 : Nat → List (S59) → List (S59) → Int → Option (Bool)
 | 0, _, _, _ => none
 | k + 1, x0, x1, x5 => if x5 < (x0.length : Int) then (if 0 ≤ x5 then (if x5 < (x1.length : Int) then ((laws_eqPush.f ((rd_T59 x0 x5).f0) ((rd_T59 x0 x5).f1) ((rd_T59 x1 x5).f0) ((rd_T59 x1 x5).f1)).bind fun t281 => (if t281 = true then (laws_eqPushS.l0 k x0 x1 (wrap64 (x5 + 1))) else (some false))) else (none)) else (none)) else (some true)
def laws_eqPushS.f (k : Nat) (l0 : List (S59)) (l1 : List (S59)) : Option (Bool) := if (l0.length : Int) = (l1.length : Int) then (laws_eqPushS.l0 k l0 l1 0) else (some false)
def laws_eqPushS.T6 : Bool × List (List Nat × List Nat) := (true, [([], []), ([], []), ([0, 1], [0, 1]), ([2], [2]), ([], []), ([], []), ([4, 5], [4, 5]), ([6], [6]), ([3, 7], [3, 7]), ([8], [8])])
def laws_eqPushS.B6 : List Nat := [0, 0, 3, 7, 0, 0, 48, 112, 255, 511]
theorem laws_eqPushS.tab6 : rtab .any (opsOf Try.f50 6) = laws_eqPushS.T6 := by kernel_rfl
theorem laws_eqPushS.bits6 : waitsOk laws_eqPushS.T6.2 laws_eqPushS.B6 = true := by kernel_rfl
def laws_eqPushS.cz0 : List Nat := [0, 1, 2, 4, 5, 6, 403, 407]
set_option maxHeartbeats 8000000 in
set_option maxRecDepth 100000 in
theorem laws_eqPushS.calls (k : Nat) (A0 : Option Addr) (c0 : Nat) (l0 : List (S59)) (A1 : Option Addr) (c1 : Nat) (l1 : List (S59)) (r : Bool) (w : World) (hr0 : Kd.C k59 w A0 l0.length l0) (hc0 : l0.length ≤ c0) (hr1 : Kd.C k59 w A1 l1.length l1) (hc1 : l1.length ≤ c1) (h : laws_eqPushS.f k l0 l1 = some r) :
  Calls Try.prog 50 #[.slice A0 l0.length c0, .slice A1 l1.length c1] w fun e w' => e = .returned (.bool r) ∧ Below w.heap.size w w' := by
 have hu59 := Try.underlying59
 have HR0 := AZ.mk hr0
 have HC0 := AZ.mk hc0
 clear hr0 hc0
 have HR1 := AZ.mk hr1
 have HC1 := AZ.mk hc1
 clear hr1 hc1
 have HB := AZ.mk (Below.refl w.heap.size w)
 have H : (if (l0.length : Int) = (l1.length : Int) then (laws_eqPushS.l0 k l0 l1 0) else (some false)) = some r := h
 clear h
 by_cases c3 : (l0.length : Int) = (l1.length : Int)
 rotate_left
 ·rw [if_neg c3] at H
  have c3b0 : ((l0.length : Int) == (l1.length : Int)) = false := beq_eq_false_iff_ne.mpr c3
  have c3b1 : ((l0.length : Int) != (l1.length : Int)) = true := bne_iff_ne.mpr c3
  have c3b2 : (l0.length == l1.length) = false := by first | simpa using c3 | (simp at c3 ⊢; omega)
  obtain rfl := Option.some.inj H
  go_enter Try.func50, Try.ntmps50
  go_wp2
  go_ret
  exact ⟨by first | rfl | (simp [errW_none, errW_some] <;> rfl) | (simp [*, errW_none, errW_some] <;> rfl), by repeat (first | (with_reducible first | exact HB.out | apply pA | apply pN | apply pD) | exact HB.out)⟩
 rw [if_pos c3] at H
 have c3b0 : ((l0.length : Int) == (l1.length : Int)) = true := beq_iff_eq.mpr c3
 have c3b1 : ((l0.length : Int) != (l1.length : Int)) = false := bne_eq_false_iff_eq.mpr c3
 have c3b2 : (l0.length == l1.length) = true := by first | simpa using c3 | (simp at c3 ⊢; omega)
 clear c3
 have H' := AZ.mk H
 clear H
 go_enter Try.func50, Try.ntmps50
 go_wp2
 go_loopg [5] k (fun kq v5 w' => ∃ (x5_1 : Int), v5 = .int .i64 x5_1 ∧ AZ (laws_eqPushS.l0 kq l0 l1 x5_1 = some r) ∧ AZ (kq ≤ k) ∧ AZ (Below w.heap.size w w'))
 case atStart => exact ⟨(0), (by first | rfl | (simp; done) | (simp [*]; done)), H', ⟨Nat.le_refl _⟩, ⟨by repeat (first | (with_reducible first | exact HB.out | apply pA | apply pN | apply pD) | exact HB.out)⟩⟩
 case round =>
  clear H'
  try clear c1
  try clear p2
  try clear c3
  try clear c3b0
  try clear c3b1
  try clear c3b2
  obtain ⟨x5_1, rfl, HA, HK1, HB⟩ := hrel
  cases gk with
  | zero => exact absurd HA.out (by simp [laws_eqPushS.l0])
  | succ k1 =>
   have H := HA.out
   clear HA
   simp only [laws_eqPushS.l0] at H
   by_cases c4 : x5_1 < (l0.length : Int)
   rotate_left
   ·rw [if_neg c4] at H
    have c4b0 : decide (x5_1 < (l0.length : Int)) = false := decide_eq_false c4
    clear c4
    obtain rfl := Option.some.inj H
    go_wp2
    go_ret
    exact ⟨by first | rfl | (simp [errW_none, errW_some] <;> rfl) | (simp [*, errW_none, errW_some] <;> rfl), by repeat (first | (with_reducible first | exact HB.out | apply pA | apply pN | apply pD) | exact HB.out)⟩
   rw [if_pos c4] at H
   have c4b0 : decide (x5_1 < (l0.length : Int)) = true := decide_eq_true c4
   clear c4
   by_cases c5 : 0 ≤ x5_1
   rotate_left
   ·rw [if_neg c5] at H
    exact absurd H (by simp)
   rw [if_pos c5] at H
   have c5b0 : decide (0 ≤ x5_1) = true := decide_eq_true c5
   clear c5
   by_cases c6 : x5_1 < (l1.length : Int)
   rotate_left
   ·rw [if_neg c6] at H
    exact absurd H (by simp)
   rw [if_pos c6] at H
   have c6b0 : decide (x5_1 < (l1.length : Int)) = true := decide_eq_true c6
   clear c6
   replace H := Option.bind_eq_some_iff.mp H
   obtain ⟨t281, A70, H⟩ := H
   replace H : (if t281 = true then (laws_eqPushS.l0 k1 l0 l1 (wrap64 (x5_1 + 1))) else (some false)) = some r := H
   have A7 := AZ.mk A70
   clear A70
   by_cases c8 : t281 = true
   rotate_left
   ·replace c8 := Bool.eq_false_iff.mpr c8
    subst c8
    have H1 : (some false) = some r := by rw [if_neg (show ¬ (false = true) by decide)] at H; exact H
    clear H
    have H := H1
    clear H1
    obtain rfl := Option.some.inj H
    try go_wp2
    have n0_ := AZ.mk (pD HB.out)
    clear HB
    have HB := n0_
    clear n0_
    have p279 : 0 ≤ (x5_1 : Int) := oT (by first | (with_reducible assumption) | assumption)
    have q279 : x5_1 < (l0.length : Int) := oT (by first | (with_reducible assumption) | assumption)
    obtain ⟨ad279, e279, hx279_0, hx279_1⟩ := at_T59 HR0.out x5_1 p279 q279
    have hw279_1 := hx279_1
    have hw279_0 := hx279_0
    cases e279
    replace hx279_0 := (HB.out.cell (World.block_lt_of_cell? w _ hx279_0)).trans hx279_0
    replace hx279_1 := (HB.out.cell (World.block_lt_of_cell? w _ hx279_1)).trans hx279_1
    replace p279 := eq_true p279
    replace q279 := eq_true q279
    have p280 : 0 ≤ (x5_1 : Int) := oT (by first | (with_reducible assumption) | assumption)
    have q280 : x5_1 < (l1.length : Int) := oT (by first | (with_reducible assumption) | assumption)
    obtain ⟨ad280, e280, hx280_0, hx280_1⟩ := at_T59 HR1.out x5_1 p280 q280
    have hw280_1 := hx280_1
    have hw280_0 := hx280_0
    cases e280
    replace hx280_0 := (HB.out.cell (World.block_lt_of_cell? w _ hx280_0)).trans hx280_0
    replace hx280_1 := (HB.out.cell (World.block_lt_of_cell? w _ hx280_1)).trans hx280_1
    replace p280 := eq_true p280
    replace q280 := eq_true q280
    refine start_ (n := 10) (S := fun w' => w'.cell? (ad279.add ((x5_1).toNat * 2)) = some (.int .i64 ((rd_T59 l0 x5_1).f0)) ∧ w'.cell? ⟨(ad279.add ((x5_1).toNat * 2)).block, (ad279.add ((x5_1).toNat * 2)).off + 1, none⟩ = some (.int .i64 ((rd_T59 l0 x5_1).f1)) ∧ w'.cell? (ad280.add ((x5_1).toNat * 2)) = some (.int .i64 ((rd_T59 l1 x5_1).f0)) ∧ w'.cell? ⟨(ad280.add ((x5_1).toNat * 2)).block, (ad280.add ((x5_1).toNat * 2)).off + 1, none⟩ = some (.int .i64 ((rd_T59 l1 x5_1).f1))) (ds := []) (bz 10 0) (by kernel_rfl) rfl rfl ⟨((HB.out.cell (World.block_lt_of_cell? w _ hw279_0)).trans hw279_0), ((HB.out.cell (World.block_lt_of_cell? w _ hw279_1)).trans hw279_1), ((HB.out.cell (World.block_lt_of_cell? w _ hw280_0)).trans hw280_0), ((HB.out.cell (World.block_lt_of_cell? w _ hw280_1)).trans hw280_1)⟩ (fun hHeld => ?_); refine with_tabW laws_eqPushS.tab6 laws_eqPushS.bits6 (fun HT_ HW_ => ?_)
    generalize wr.drew = w11 at HB hx279_0 hx279_1 hx280_0 hx280_1 hHeld ⊢
    iterate 8 (first | (refine pz_ HT_ laws_eqPushS.cz0 rfl rfl rfl (v := ?_) (a' := ?_) (by kernel_rfl) (fun _ _ _ h => h) (Or.inl ⟨by rfl, ?_⟩) ?_ ?_; rotate_left; (intro w'; go_simp; with_reducible rfl); rotate_left; (simp only [Act.put, sA, sB, sC, i64_w, i32_w]; rfl)) | (refine tz_ HT_ HW_ laws_eqPushS.cz0 rfl rfl rfl (v := ?_) (a' := ?_) (by kernel_rfl) (fun _ _ _ h => h) (Or.inl ⟨by rfl, ?_⟩) hHeld ?_ ?_; rotate_left; (rintro w' ⟨s0, s1, s2, s3⟩; go_simp; with_reducible rfl); rotate_left; (simp only [Act.put, sA, sB, sC, i64_w, i32_w]; rfl)))
    refine one_ (i := 8) (N := some 25) (bz 10 511) rfl rfl (one_of HT_.out (by kernel_rfl)) (by decide) (fun K hK => ?_)
    refine goes_ Try.func52 (by kernel_rfl) rfl #[.agg #[.int .i64 ((rd_T59 l0 x5_1).f0), .int .i64 ((rd_T59 l0 x5_1).f1)], .agg #[.int .i64 ((rd_T59 l1 x5_1).f0), .int .i64 ((rd_T59 l1 x5_1).f1)]] (by rfl) rfl rfl (by (try simp only [List.map_toArray, List.map_cons, List.map_nil]); first | done | rfl | (simp only [List.length_drop, List.length_take]; rfl)) ?_
    with_reducible refine (laws_eqPush.calls ((rd_T59 l0 x5_1).f0) ((rd_T59 l0 x5_1).f1) ((rd_T59 l1 x5_1).f0) ((rd_T59 l1 x5_1).f1) false _ A7.out).mono ?_
    rintro e w12 ⟨rfl, hb⟩
    refine ⟨_, rfl, ?_⟩
    have n0_ := AZ.mk (pT (by repeat (first | (with_reducible first | exact HB.out | apply pA | apply pN | apply pD) | exact HB.out)) hb)
    clear HB
    have HB := n0_
    clear n0_
    (try clear hb)
    (try clear hb2)
    (try clear hk)
    (try clear hi)
    refine hK.out _ _ ⟨((HB.out.cell (World.block_lt_of_cell? w _ hw279_0)).trans hw279_0), ((HB.out.cell (World.block_lt_of_cell? w _ hw279_1)).trans hw279_1), ((HB.out.cell (World.block_lt_of_cell? w _ hw280_0)).trans hw280_0), ((HB.out.cell (World.block_lt_of_cell? w _ hw280_1)).trans hw280_1)⟩ (fun hHeld => ?_)
    clear hK K
    refine norm_ (a' := ?_) ?_ ?_
    rotate_left
    ·show Act.put _ (some 25) _ = _
     simp only [Act.put, sA, sB, sC, i64_w, i32_w]
     rfl
    refine pure_ (i := 9) (N := some 26) (v := ?_) (a' := ?_) (bz 10 1023) rfl rfl (any_of HT_.out (by kernel_rfl)) (fun _ _ _ h => h) (Or.inl ⟨by rfl, ?_⟩) ?_ ?_
    rotate_left
    ·intro w'
     go_simp
     with_reducible rfl
    rotate_left
    ·simp only [Act.put, sA, sB, sC, i64_w, i32_w]
     rfl
    refine done_ (done_of HT_.out (by kernel_rfl)) ?_
    try go_wp2
    go_ret
    exact ⟨by first | rfl | (simp [errW_none, errW_some] <;> rfl) | (simp [*, errW_none, errW_some] <;> rfl), by repeat (first | (with_reducible first | exact HB.out | apply pA | apply pN | apply pD) | exact HB.out)⟩
   subst c8
   have H1 : (laws_eqPushS.l0 k1 l0 l1 (wrap64 (x5_1 + 1))) = some r := by rw [if_pos rfl] at H; exact H
   clear H
   have H := H1
   clear H1
   have H' := AZ.mk H
   clear H
   try go_wp2
   have n0_ := AZ.mk (pD HB.out)
   clear HB
   have HB := n0_
   clear n0_
   have p279 : 0 ≤ (x5_1 : Int) := oT (by first | (with_reducible assumption) | assumption)
   have q279 : x5_1 < (l0.length : Int) := oT (by first | (with_reducible assumption) | assumption)
   obtain ⟨ad279, e279, hx279_0, hx279_1⟩ := at_T59 HR0.out x5_1 p279 q279
   have hw279_1 := hx279_1
   have hw279_0 := hx279_0
   cases e279
   replace hx279_0 := (HB.out.cell (World.block_lt_of_cell? w _ hx279_0)).trans hx279_0
   replace hx279_1 := (HB.out.cell (World.block_lt_of_cell? w _ hx279_1)).trans hx279_1
   replace p279 := eq_true p279
   replace q279 := eq_true q279
   have p280 : 0 ≤ (x5_1 : Int) := oT (by first | (with_reducible assumption) | assumption)
   have q280 : x5_1 < (l1.length : Int) := oT (by first | (with_reducible assumption) | assumption)
   obtain ⟨ad280, e280, hx280_0, hx280_1⟩ := at_T59 HR1.out x5_1 p280 q280
   have hw280_1 := hx280_1
   have hw280_0 := hx280_0
   cases e280
   replace hx280_0 := (HB.out.cell (World.block_lt_of_cell? w _ hx280_0)).trans hx280_0
   replace hx280_1 := (HB.out.cell (World.block_lt_of_cell? w _ hx280_1)).trans hx280_1
   replace p280 := eq_true p280
   replace q280 := eq_true q280
   refine start_ (n := 10) (S := fun w' => w'.cell? (ad279.add ((x5_1).toNat * 2)) = some (.int .i64 ((rd_T59 l0 x5_1).f0)) ∧ w'.cell? ⟨(ad279.add ((x5_1).toNat * 2)).block, (ad279.add ((x5_1).toNat * 2)).off + 1, none⟩ = some (.int .i64 ((rd_T59 l0 x5_1).f1)) ∧ w'.cell? (ad280.add ((x5_1).toNat * 2)) = some (.int .i64 ((rd_T59 l1 x5_1).f0)) ∧ w'.cell? ⟨(ad280.add ((x5_1).toNat * 2)).block, (ad280.add ((x5_1).toNat * 2)).off + 1, none⟩ = some (.int .i64 ((rd_T59 l1 x5_1).f1))) (ds := []) (bz 10 0) (by kernel_rfl) rfl rfl ⟨((HB.out.cell (World.block_lt_of_cell? w _ hw279_0)).trans hw279_0), ((HB.out.cell (World.block_lt_of_cell? w _ hw279_1)).trans hw279_1), ((HB.out.cell (World.block_lt_of_cell? w _ hw280_0)).trans hw280_0), ((HB.out.cell (World.block_lt_of_cell? w _ hw280_1)).trans hw280_1)⟩ (fun hHeld => ?_); refine with_tabW laws_eqPushS.tab6 laws_eqPushS.bits6 (fun HT_ HW_ => ?_)
   generalize wr.drew = w9 at HB hx279_0 hx279_1 hx280_0 hx280_1 hHeld ⊢
   iterate 8 (first | (refine pz_ HT_ laws_eqPushS.cz0 rfl rfl rfl (v := ?_) (a' := ?_) (by kernel_rfl) (fun _ _ _ h => h) (Or.inl ⟨by rfl, ?_⟩) ?_ ?_; rotate_left; (intro w'; go_simp; with_reducible rfl); rotate_left; (simp only [Act.put, sA, sB, sC, i64_w, i32_w]; rfl)) | (refine tz_ HT_ HW_ laws_eqPushS.cz0 rfl rfl rfl (v := ?_) (a' := ?_) (by kernel_rfl) (fun _ _ _ h => h) (Or.inl ⟨by rfl, ?_⟩) hHeld ?_ ?_; rotate_left; (rintro w' ⟨s0, s1, s2, s3⟩; go_simp; with_reducible rfl); rotate_left; (simp only [Act.put, sA, sB, sC, i64_w, i32_w]; rfl)))
   refine one_ (i := 8) (N := some 25) (bz 10 511) rfl rfl (one_of HT_.out (by kernel_rfl)) (by decide) (fun K hK => ?_)
   refine goes_ Try.func52 (by kernel_rfl) rfl #[.agg #[.int .i64 ((rd_T59 l0 x5_1).f0), .int .i64 ((rd_T59 l0 x5_1).f1)], .agg #[.int .i64 ((rd_T59 l1 x5_1).f0), .int .i64 ((rd_T59 l1 x5_1).f1)]] (by rfl) rfl rfl (by (try simp only [List.map_toArray, List.map_cons, List.map_nil]); first | done | rfl | (simp only [List.length_drop, List.length_take]; rfl)) ?_
   with_reducible refine (laws_eqPush.calls ((rd_T59 l0 x5_1).f0) ((rd_T59 l0 x5_1).f1) ((rd_T59 l1 x5_1).f0) ((rd_T59 l1 x5_1).f1) true _ A7.out).mono ?_
   rintro e w10 ⟨rfl, hb⟩
   refine ⟨_, rfl, ?_⟩
   have n0_ := AZ.mk (pT (by repeat (first | (with_reducible first | exact HB.out | apply pA | apply pN | apply pD) | exact HB.out)) hb)
   clear HB
   have HB := n0_
   clear n0_
   (try clear hb)
   (try clear hb2)
   (try clear hk)
   (try clear hi)
   refine hK.out _ _ ⟨((HB.out.cell (World.block_lt_of_cell? w _ hw279_0)).trans hw279_0), ((HB.out.cell (World.block_lt_of_cell? w _ hw279_1)).trans hw279_1), ((HB.out.cell (World.block_lt_of_cell? w _ hw280_0)).trans hw280_0), ((HB.out.cell (World.block_lt_of_cell? w _ hw280_1)).trans hw280_1)⟩ (fun hHeld => ?_)
   clear hK K
   refine norm_ (a' := ?_) ?_ ?_
   rotate_left
   ·show Act.put _ (some 25) _ = _
    simp only [Act.put, sA, sB, sC, i64_w, i32_w]
    rfl
   refine pure_ (i := 9) (N := some 26) (v := ?_) (a' := ?_) (bz 10 1023) rfl rfl (any_of HT_.out (by kernel_rfl)) (fun _ _ _ h => h) (Or.inl ⟨by rfl, ?_⟩) ?_ ?_
   rotate_left
   ·intro w'
    go_simp
    with_reducible rfl
   rotate_left
   ·simp only [Act.put, sA, sB, sC, i64_w, i32_w]
    rfl
   refine done_ (done_of HT_.out (by kernel_rfl)) ?_
   try go_wp2
   go_roundg k1
   case measure => have := HK1.out; omega
   case rel => exact ⟨(wrap64 (x5_1 + 1)), (by first | rfl | (simp; done) | (simp [*]; done)), H', ⟨by have := HK1.out; omega⟩, ⟨by repeat (first | (with_reducible first | exact HB.out | apply pA | apply pN | apply pD) | exact HB.out)⟩⟩
end Go.Proofs.Ytcoaplkoilhhbaa.P
namespace Go.Proofs.Ytcoaplkoilhhbaa.P
open Go.RowKit Go.Proofs.YtcoaplkoilhhbaaW.PrintWords Go.Proofs.YtcoaplkoilhhbaaW.PrintLast Go.Proofs.YtcoaplkoilhhbaaW.PrintMore
attribute [local go_sem] max2_int min2_int max_two min_two max_three min_three max_four min_four
set_option linter.unusedVariables false
set_option linter.unusedSimpArgs false
def laws_eqPushSS.l0 : Nat → List (List (S59)) → List (List (S59)) → Int → Option (Bool)
 | 0, _, _, _ => none
 | k + 1, x0, x1, x5 => if x5 < (x0.length : Int) then (if 0 ≤ x5 then (if x5 < (x1.length : Int) then ((laws_eqPushS.f k (rd_L9 x0 x5) (rd_L9 x1 x5)).bind fun t284 => (if t284 = true then (laws_eqPushSS.l0 k x0 x1 (wrap64 (x5 + 1))) else (some false))) else (none)) else (none)) else (some true)
def laws_eqPushSS.f (k : Nat) (l0 : List (List (S59))) (l1 : List (List (S59))) : Option (Bool) := if (l0.length : Int) = (l1.length : Int) then (laws_eqPushSS.l0 k l0 l1 0) else (some false)
def laws_eqPushSS.T6 : Bool × List (List Nat × List Nat) := (true, [([], []), ([], []), ([0, 1], [0, 1]), ([2], [2]), ([], []), ([], []), ([4, 5], [4, 5]), ([6], [6]), ([3, 7], [3, 7]), ([8], [8])])
def laws_eqPushSS.B6 : List Nat := [0, 0, 3, 7, 0, 0, 48, 112, 255, 511]
theorem laws_eqPushSS.tab6 : rtab .any (opsOf Try.f45 6) = laws_eqPushSS.T6 := by kernel_rfl
theorem laws_eqPushSS.bits6 : waitsOk laws_eqPushSS.T6.2 laws_eqPushSS.B6 = true := by kernel_rfl
def laws_eqPushSS.cz0 : List Nat := [0, 1, 2, 4, 5, 6, 403, 407]
set_option maxHeartbeats 8000000 in
set_option maxRecDepth 100000 in
theorem laws_eqPushSS.calls (k : Nat) (A0 : Option Addr) (c0 : Nat) (l0 : List (List (S59))) (A1 : Option Addr) (c1 : Nat) (l1 : List (List (S59))) (r : Bool) (w : World) (hr0 : Kd.C (Kd.slice 59 k59) w A0 l0.length l0) (hc0 : l0.length ≤ c0) (hr1 : Kd.C (Kd.slice 59 k59) w A1 l1.length l1) (hc1 : l1.length ≤ c1) (h : laws_eqPushSS.f k l0 l1 = some r) :
  Calls Try.prog 45 #[.slice A0 l0.length c0, .slice A1 l1.length c1] w fun e w' => e = .returned (.bool r) ∧ Below w.heap.size w w' := by
 have HR0 := AZ.mk hr0
 have HC0 := AZ.mk hc0
 clear hr0 hc0
 have HR1 := AZ.mk hr1
 have HC1 := AZ.mk hc1
 clear hr1 hc1
 have HB := AZ.mk (Below.refl w.heap.size w)
 have H : (if (l0.length : Int) = (l1.length : Int) then (laws_eqPushSS.l0 k l0 l1 0) else (some false)) = some r := h
 clear h
 by_cases c3 : (l0.length : Int) = (l1.length : Int)
 rotate_left
 ·rw [if_neg c3] at H
  have c3b0 : ((l0.length : Int) == (l1.length : Int)) = false := beq_eq_false_iff_ne.mpr c3
  have c3b1 : ((l0.length : Int) != (l1.length : Int)) = true := bne_iff_ne.mpr c3
  have c3b2 : (l0.length == l1.length) = false := by first | simpa using c3 | (simp at c3 ⊢; omega)
  obtain rfl := Option.some.inj H
  go_enter Try.func45, Try.ntmps45
  go_wp2
  go_ret
  exact ⟨by first | rfl | (simp [errW_none, errW_some] <;> rfl) | (simp [*, errW_none, errW_some] <;> rfl), by repeat (first | (with_reducible first | exact HB.out | apply pA | apply pN | apply pD) | exact HB.out)⟩
 rw [if_pos c3] at H
 have c3b0 : ((l0.length : Int) == (l1.length : Int)) = true := beq_iff_eq.mpr c3
 have c3b1 : ((l0.length : Int) != (l1.length : Int)) = false := bne_eq_false_iff_eq.mpr c3
 have c3b2 : (l0.length == l1.length) = true := by first | simpa using c3 | (simp at c3 ⊢; omega)
 clear c3
 have H' := AZ.mk H
 clear H
 go_enter Try.func45, Try.ntmps45
 go_wp2
 go_loopg [5] k (fun kq v5 w' => ∃ (x5_1 : Int), v5 = .int .i64 x5_1 ∧ AZ (laws_eqPushSS.l0 kq l0 l1 x5_1 = some r) ∧ AZ (kq ≤ k) ∧ AZ (Below w.heap.size w w'))
 case atStart => exact ⟨(0), (by first | rfl | (simp; done) | (simp [*]; done)), H', ⟨Nat.le_refl _⟩, ⟨by repeat (first | (with_reducible first | exact HB.out | apply pA | apply pN | apply pD) | exact HB.out)⟩⟩
 case round =>
  clear H'
  try clear c1
  try clear p2
  try clear c3
  try clear c3b0
  try clear c3b1
  try clear c3b2
  obtain ⟨x5_1, rfl, HA, HK1, HB⟩ := hrel
  cases gk with
  | zero => exact absurd HA.out (by simp [laws_eqPushSS.l0])
  | succ k1 =>
   have H := HA.out
   clear HA
   simp only [laws_eqPushSS.l0] at H
   by_cases c4 : x5_1 < (l0.length : Int)
   rotate_left
   ·rw [if_neg c4] at H
    have c4b0 : decide (x5_1 < (l0.length : Int)) = false := decide_eq_false c4
    clear c4
    obtain rfl := Option.some.inj H
    go_wp2
    go_ret
    exact ⟨by first | rfl | (simp [errW_none, errW_some] <;> rfl) | (simp [*, errW_none, errW_some] <;> rfl), by repeat (first | (with_reducible first | exact HB.out | apply pA | apply pN | apply pD) | exact HB.out)⟩
   rw [if_pos c4] at H
   have c4b0 : decide (x5_1 < (l0.length : Int)) = true := decide_eq_true c4
   clear c4
   by_cases c5 : 0 ≤ x5_1
   rotate_left
   ·rw [if_neg c5] at H
    exact absurd H (by simp)
   rw [if_pos c5] at H
   have c5b0 : decide (0 ≤ x5_1) = true := decide_eq_true c5
   clear c5
   by_cases c6 : x5_1 < (l1.length : Int)
   rotate_left
   ·rw [if_neg c6] at H
    exact absurd H (by simp)
   rw [if_pos c6] at H
   have c6b0 : decide (x5_1 < (l1.length : Int)) = true := decide_eq_true c6
   clear c6
   replace H := Option.bind_eq_some_iff.mp H
   obtain ⟨t284, A70, H⟩ := H
   replace H : (if t284 = true then (laws_eqPushSS.l0 k1 l0 l1 (wrap64 (x5_1 + 1))) else (some false)) = some r := H
   have A7 := AZ.mk A70
   clear A70
   by_cases c8 : t284 = true
   rotate_left
   ·replace c8 := Bool.eq_false_iff.mpr c8
    subst c8
    have H1 : (some false) = some r := by rw [if_neg (show ¬ (false = true) by decide)] at H; exact H
    clear H
    have H := H1
    clear H1
    obtain rfl := Option.some.inj H
    try go_wp2
    have n0_ := AZ.mk (pD HB.out)
    clear HB
    have HB := n0_
    clear n0_
    have p282 : 0 ≤ (x5_1 : Int) := oT (by first | (with_reducible assumption) | assumption)
    have q282 : x5_1 < (l0.length : Int) := oT (by first | (with_reducible assumption) | assumption)
    obtain ⟨ad282, A282_0, c282_0, e282, hx282_0, hl282_0, hi282_0⟩ := at_L9 HR0.out x5_1 p282 q282
    have hw282_0 := hx282_0
    cases e282
    replace hx282_0 := (HB.out.cell (World.block_lt_of_cell? w _ hx282_0)).trans hx282_0
    have HR282_0 := AZ.mk hi282_0
    have HC282_0 := AZ.mk hl282_0
    clear hi282_0 hl282_0
    replace p282 := eq_true p282
    replace q282 := eq_true q282
    have p283 : 0 ≤ (x5_1 : Int) := oT (by first | (with_reducible assumption) | assumption)
    have q283 : x5_1 < (l1.length : Int) := oT (by first | (with_reducible assumption) | assumption)
    obtain ⟨ad283, A283_0, c283_0, e283, hx283_0, hl283_0, hi283_0⟩ := at_L9 HR1.out x5_1 p283 q283
    have hw283_0 := hx283_0
    cases e283
    replace hx283_0 := (HB.out.cell (World.block_lt_of_cell? w _ hx283_0)).trans hx283_0
    have HR283_0 := AZ.mk hi283_0
    have HC283_0 := AZ.mk hl283_0
    clear hi283_0 hl283_0
    replace p283 := eq_true p283
    replace q283 := eq_true q283
    refine start_ (n := 10) (S := fun w' => w'.cell? (ad282.add (x5_1).toNat) = some (.slice A282_0 (rd_L9 l0 x5_1).length c282_0) ∧ w'.cell? (ad283.add (x5_1).toNat) = some (.slice A283_0 (rd_L9 l1 x5_1).length c283_0)) (ds := []) (bz 10 0) (by kernel_rfl) rfl rfl ⟨((HB.out.cell (World.block_lt_of_cell? w _ hw282_0)).trans hw282_0), ((HB.out.cell (World.block_lt_of_cell? w _ hw283_0)).trans hw283_0)⟩ (fun hHeld => ?_); refine with_tabW laws_eqPushSS.tab6 laws_eqPushSS.bits6 (fun HT_ HW_ => ?_)
    generalize wr.drew = w11 at HB HR282_0 HR283_0 hx282_0 hx283_0 hHeld ⊢
    iterate 8 (first | (refine pz_ HT_ laws_eqPushSS.cz0 rfl rfl rfl (v := ?_) (a' := ?_) (by kernel_rfl) (fun _ _ _ h => h) (Or.inl ⟨by rfl, ?_⟩) ?_ ?_; rotate_left; (intro w'; go_simp; with_reducible rfl); rotate_left; (simp only [Act.put, sA, sB, sC, i64_w, i32_w]; rfl)) | (refine tz_ HT_ HW_ laws_eqPushSS.cz0 rfl rfl rfl (v := ?_) (a' := ?_) (by kernel_rfl) (fun _ _ _ h => h) (Or.inl ⟨by rfl, ?_⟩) hHeld ?_ ?_; rotate_left; (rintro w' ⟨s0, s1⟩; go_simp; with_reducible rfl); rotate_left; (simp only [Act.put, sA, sB, sC, i64_w, i32_w]; rfl)))
    refine one_ (i := 8) (N := some 25) (bz 10 511) rfl rfl (one_of HT_.out (by kernel_rfl)) (by decide) (fun K hK => ?_)
    refine goes_ Try.func50 (by kernel_rfl) rfl #[.slice A282_0 (rd_L9 l0 x5_1).length c282_0, .slice A283_0 (rd_L9 l1 x5_1).length c283_0] (by rfl) rfl rfl (by (try simp only [List.map_toArray, List.map_cons, List.map_nil]); first | done | rfl | (simp only [List.length_drop, List.length_take]; rfl)) ?_
    with_reducible refine (laws_eqPushS.calls k1 _ _ (rd_L9 l0 x5_1) _ _ (rd_L9 l1 x5_1) false _ ?side1 ?side2 ?side3 ?side4 A7.out).mono ?_
    (case side1 => repeat (first | exact (Kd.C_below HR282_0.out HB.out) | (with_reducible refine Kd.C_alloc ?_ _) | (with_reducible refine Kd.C_drewN ?_ _) | (with_reducible refine Kd.C_drew ?_)))
    (case side2 => exact HC282_0.out)
    (case side3 => repeat (first | exact (Kd.C_below HR283_0.out HB.out) | (with_reducible refine Kd.C_alloc ?_ _) | (with_reducible refine Kd.C_drewN ?_ _) | (with_reducible refine Kd.C_drew ?_)))
    (case side4 => exact HC283_0.out)
    rintro e w12 ⟨rfl, hb⟩
    refine ⟨_, rfl, ?_⟩
    have n0_ := AZ.mk (pT (by repeat (first | (with_reducible first | exact HB.out | apply pA | apply pN | apply pD) | exact HB.out)) hb)
    clear HB
    have HB := n0_
    clear n0_
    (try clear hb)
    (try clear hb2)
    (try clear hk)
    (try clear hi)
    refine hK.out _ _ ⟨((HB.out.cell (World.block_lt_of_cell? w _ hw282_0)).trans hw282_0), ((HB.out.cell (World.block_lt_of_cell? w _ hw283_0)).trans hw283_0)⟩ (fun hHeld => ?_)
    clear hK K
    refine norm_ (a' := ?_) ?_ ?_
    rotate_left
    ·show Act.put _ (some 25) _ = _
     simp only [Act.put, sA, sB, sC, i64_w, i32_w]
     rfl
    refine pure_ (i := 9) (N := some 26) (v := ?_) (a' := ?_) (bz 10 1023) rfl rfl (any_of HT_.out (by kernel_rfl)) (fun _ _ _ h => h) (Or.inl ⟨by rfl, ?_⟩) ?_ ?_
    rotate_left
    ·intro w'
     go_simp
     with_reducible rfl
    rotate_left
    ·simp only [Act.put, sA, sB, sC, i64_w, i32_w]
     rfl
    refine done_ (done_of HT_.out (by kernel_rfl)) ?_
    try go_wp2
    go_ret
    exact ⟨by first | rfl | (simp [errW_none, errW_some] <;> rfl) | (simp [*, errW_none, errW_some] <;> rfl), by repeat (first | (with_reducible first | exact HB.out | apply pA | apply pN | apply pD) | exact HB.out)⟩
   subst c8
   have H1 : (laws_eqPushSS.l0 k1 l0 l1 (wrap64 (x5_1 + 1))) = some r := by rw [if_pos rfl] at H; exact H
   clear H
   have H := H1
   clear H1
   have H' := AZ.mk H
   clear H
   try go_wp2
   have n0_ := AZ.mk (pD HB.out)
   clear HB
   have HB := n0_
   clear n0_
   have p282 : 0 ≤ (x5_1 : Int) := oT (by first | (with_reducible assumption) | assumption)
   have q282 : x5_1 < (l0.length : Int) := oT (by first | (with_reducible assumption) | assumption)
   obtain ⟨ad282, A282_0, c282_0, e282, hx282_0, hl282_0, hi282_0⟩ := at_L9 HR0.out x5_1 p282 q282
   have hw282_0 := hx282_0
   cases e282
   replace hx282_0 := (HB.out.cell (World.block_lt_of_cell? w _ hx282_0)).trans hx282_0
   have HR282_0 := AZ.mk hi282_0
   have HC282_0 := AZ.mk hl282_0
   clear hi282_0 hl282_0
   replace p282 := eq_true p282
   replace q282 := eq_true q282
   have p283 : 0 ≤ (x5_1 : Int) := oT (by first | (with_reducible assumption) | assumption)
   have q283 : x5_1 < (l1.length : Int) := oT (by first | (with_reducible assumption) | assumption)
   obtain ⟨ad283, A283_0, c283_0, e283, hx283_0, hl283_0, hi283_0⟩ := at_L9 HR1.out x5_1 p283 q283
   have hw283_0 := hx283_0
   cases e283
   replace hx283_0 := (HB.out.cell (World.block_lt_of_cell? w _ hx283_0)).trans hx283_0
   have HR283_0 := AZ.mk hi283_0
   have HC283_0 := AZ.mk hl283_0
   clear hi283_0 hl283_0
   replace p283 := eq_true p283
   replace q283 := eq_true q283
   refine start_ (n := 10) (S := fun w' => w'.cell? (ad282.add (x5_1).toNat) = some (.slice A282_0 (rd_L9 l0 x5_1).length c282_0) ∧ w'.cell? (ad283.add (x5_1).toNat) = some (.slice A283_0 (rd_L9 l1 x5_1).length c283_0)) (ds := []) (bz 10 0) (by kernel_rfl) rfl rfl ⟨((HB.out.cell (World.block_lt_of_cell? w _ hw282_0)).trans hw282_0), ((HB.out.cell (World.block_lt_of_cell? w _ hw283_0)).trans hw283_0)⟩ (fun hHeld => ?_); refine with_tabW laws_eqPushSS.tab6 laws_eqPushSS.bits6 (fun HT_ HW_ => ?_)
   generalize wr.drew = w9 at HB HR282_0 HR283_0 hx282_0 hx283_0 hHeld ⊢
   iterate 8 (first | (refine pz_ HT_ laws_eqPushSS.cz0 rfl rfl rfl (v := ?_) (a' := ?_) (by kernel_rfl) (fun _ _ _ h => h) (Or.inl ⟨by rfl, ?_⟩) ?_ ?_; rotate_left; (intro w'; go_simp; with_reducible rfl); rotate_left; (simp only [Act.put, sA, sB, sC, i64_w, i32_w]; rfl)) | (refine tz_ HT_ HW_ laws_eqPushSS.cz0 rfl rfl rfl (v := ?_) (a' := ?_) (by kernel_rfl) (fun _ _ _ h => h) (Or.inl ⟨by rfl, ?_⟩) hHeld ?_ ?_; rotate_left; (rintro w' ⟨s0, s1⟩; go_simp; with_reducible rfl); rotate_left; (simp only [Act.put, sA, sB, sC, i64_w, i32_w]; rfl)))
   refine one_ (i := 8) (N := some 25) (bz 10 511) rfl rfl (one_of HT_.out (by kernel_rfl)) (by decide) (fun K hK => ?_)
   refine goes_ Try.func50 (by kernel_rfl) rfl #[.slice A282_0 (rd_L9 l0 x5_1).length c282_0, .slice A283_0 (rd_L9 l1 x5_1).length c283_0] (by rfl) rfl rfl (by (try simp only [List.map_toArray, List.map_cons, List.map_nil]); first | done | rfl | (simp only [List.length_drop, List.length_take]; rfl)) ?_
   with_reducible refine (laws_eqPushS.calls k1 _ _ (rd_L9 l0 x5_1) _ _ (rd_L9 l1 x5_1) true _ ?side1 ?side2 ?side3 ?side4 A7.out).mono ?_
   (case side1 => repeat (first | exact (Kd.C_below HR282_0.out HB.out) | (with_reducible refine Kd.C_alloc ?_ _) | (with_reducible refine Kd.C_drewN ?_ _) | (with_reducible refine Kd.C_drew ?_)))
   (case side2 => exact HC282_0.out)
   (case side3 => repeat (first | exact (Kd.C_below HR283_0.out HB.out) | (with_reducible refine Kd.C_alloc ?_ _) | (with_reducible refine Kd.C_drewN ?_ _) | (with_reducible refine Kd.C_drew ?_)))
   (case side4 => exact HC283_0.out)
   rintro e w10 ⟨rfl, hb⟩
   refine ⟨_, rfl, ?_⟩
   have n0_ := AZ.mk (pT (by repeat (first | (with_reducible first | exact HB.out | apply pA | apply pN | apply pD) | exact HB.out)) hb)
   clear HB
   have HB := n0_
   clear n0_
   (try clear hb)
   (try clear hb2)
   (try clear hk)
   (try clear hi)
   refine hK.out _ _ ⟨((HB.out.cell (World.block_lt_of_cell? w _ hw282_0)).trans hw282_0), ((HB.out.cell (World.block_lt_of_cell? w _ hw283_0)).trans hw283_0)⟩ (fun hHeld => ?_)
   clear hK K
   refine norm_ (a' := ?_) ?_ ?_
   rotate_left
   ·show Act.put _ (some 25) _ = _
    simp only [Act.put, sA, sB, sC, i64_w, i32_w]
    rfl
   refine pure_ (i := 9) (N := some 26) (v := ?_) (a' := ?_) (bz 10 1023) rfl rfl (any_of HT_.out (by kernel_rfl)) (fun _ _ _ h => h) (Or.inl ⟨by rfl, ?_⟩) ?_ ?_
   rotate_left
   ·intro w'
    go_simp
    with_reducible rfl
   rotate_left
   ·simp only [Act.put, sA, sB, sC, i64_w, i32_w]
    rfl
   refine done_ (done_of HT_.out (by kernel_rfl)) ?_
   try go_wp2
   go_roundg k1
   case measure => have := HK1.out; omega
   case rel => exact ⟨(wrap64 (x5_1 + 1)), (by first | rfl | (simp; done) | (simp [*]; done)), H', ⟨by have := HK1.out; omega⟩, ⟨by repeat (first | (with_reducible first | exact HB.out | apply pA | apply pN | apply pD) | exact HB.out)⟩⟩
end Go.Proofs.Ytcoaplkoilhhbaa.P
