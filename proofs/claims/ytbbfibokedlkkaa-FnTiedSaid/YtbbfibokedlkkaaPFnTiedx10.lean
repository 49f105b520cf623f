/- Walks of the functions named below, by a program of the session over the kit's printer. -/
import Derived.Test.YtbbfibokedlkkaaPFnTiedx0
import Derived.Test.YtbbfibokedlkkaaPFnTiedx9
namespace Go.Proofs.Ytbbfibokedlkkaa.PFnTied
open Go.RowKit Go.Proofs.YtbbfibokedlkkaaW.PrintWords Go.Proofs.YtbbfibokedlkkaaW.PrintLast Go.Proofs.YtbbfibokedlkkaaW.PrintMore
attribute [local go_sem] max2_int min2_int max_two min_two max_three min_three max_four min_four   -- for this text's walks alone
set_option linter.unusedVariables false
set_option linter.unusedSimpArgs false
abbrev A10_0 := #[O,O,O,O,O,O,O,O,O,O,O,O,O,O,O,O,O,O,O,O,O,O,O,O,O,O,O,O,O,O,O]
abbrev A10_1 := #[I,O,O,O,O,O,O,O,O,O,O,O,O,O,O,O,O,O,O,O,O,O,O,O,O,O,O,O,O,O,O]
abbrev A10_2 := #[I,I,O,O,O,O,O,O,O,O,O,O,O,O,O,O,O,O,O,O,O,O,O,O,O,O,O,O,O,O,O]
abbrev A10_3 := #[I,I,I,O,O,O,O,O,O,O,O,O,O,O,O,O,O,O,O,O,O,O,O,O,O,O,O,O,O,O,O]
abbrev A10_4 := #[I,I,I,O,I,O,O,O,O,O,O,O,O,O,O,O,O,O,O,O,O,O,O,O,O,O,O,O,O,O,O]
abbrev A10_5 := #[I,I,I,O,I,O,O,O,O,O,I,O,O,O,O,O,O,O,O,O,O,O,O,O,O,O,O,O,O,O,O]
abbrev A10_6 := #[I,I,I,O,I,O,O,O,O,O,I,I,O,O,O,O,O,O,O,O,O,O,O,O,O,O,O,O,O,O,O]
abbrev A10_7 := #[I,I,I,O,I,O,O,O,O,O,I,I,I,O,O,O,O,O,O,O,O,O,O,O,O,O,O,O,O,O,O]
abbrev A10_8 := #[I,I,I,O,I,O,O,O,O,O,I,I,I,O,I,O,O,O,O,O,O,O,O,O,O,O,O,O,O,O,O]
abbrev A10_9 := #[I,I,I,O,I,O,O,O,O,O,I,I,I,O,I,O,O,O,O,O,O,O,I,O,O,O,O,O,O,O,O]
abbrev A10_10 := #[I,I,I,O,I,O,O,O,O,O,I,I,I,O,I,O,O,O,O,O,O,O,I,O,I,O,O,O,O,O,O]
abbrev A10_11 := #[I,I,I,I,I,O,O,O,O,O,I,I,I,O,I,O,O,O,O,O,O,O,I,O,I,O,O,O,O,O,O]
abbrev A10_12 := #[I,I,I,I,I,I,O,O,O,O,I,I,I,O,I,O,O,O,O,O,O,O,I,O,I,O,O,O,O,O,O]
abbrev A10_13 := #[I,I,I,I,I,I,I,O,O,O,I,I,I,O,I,O,O,O,O,O,O,O,I,O,I,O,O,O,O,O,O]
abbrev A10_14 := #[I,I,I,I,I,I,I,I,O,O,I,I,I,O,I,O,O,O,O,O,O,O,I,O,I,O,O,O,O,O,O]
abbrev A10_15 := #[I,I,I,I,I,I,I,I,I,O,I,I,I,O,I,O,O,O,O,O,O,O,I,O,I,O,O,O,O,O,O]
abbrev A10_16 := #[I,I,I,I,I,I,I,I,I,I,I,I,I,O,I,O,O,O,O,O,O,O,I,O,I,O,O,O,O,O,O]
abbrev A10_17 := #[I,I,I,I,I,I,I,I,I,I,I,I,I,I,I,O,O,O,O,O,O,O,I,O,I,O,O,O,O,O,O]
abbrev A10_18 := #[I,I,I,I,I,I,I,I,I,I,I,I,I,I,I,I,O,O,O,O,O,O,I,O,I,O,O,O,O,O,O]
abbrev A10_19 := #[I,I,I,I,I,I,I,I,I,I,I,I,I,I,I,I,I,O,O,O,O,O,I,O,I,O,O,O,O,O,O]
abbrev A10_20 := #[I,I,I,I,I,I,I,I,I,I,I,I,I,I,I,I,I,I,O,O,O,O,I,O,I,O,O,O,O,O,O]
abbrev A10_21 := #[I,I,I,I,I,I,I,I,I,I,I,I,I,I,I,I,I,I,I,O,O,O,I,O,I,O,O,O,O,O,O]
abbrev A10_22 := #[I,I,I,I,I,I,I,I,I,I,I,I,I,I,I,I,I,I,I,I,O,O,I,O,I,O,O,O,O,O,O]
abbrev A10_23 := #[I,I,I,I,I,I,I,I,I,I,I,I,I,I,I,I,I,I,I,I,I,O,I,O,I,O,O,O,O,O,O]
abbrev A10_24 := #[I,I,I,I,I,I,I,I,I,I,I,I,I,I,I,I,I,I,I,I,I,I,I,O,I,O,O,O,O,O,O]
abbrev A10_25 := #[I,I,I,I,I,I,I,I,I,I,I,I,I,I,I,I,I,I,I,I,I,I,I,I,I,O,O,O,O,O,O]
abbrev A10_26 := #[I,I,I,I,I,I,I,I,I,I,I,I,I,I,I,I,I,I,I,I,I,I,I,I,I,I,O,O,O,O,O]
abbrev A10_27 := #[I,I,I,I,I,I,I,I,I,I,I,I,I,I,I,I,I,I,I,I,I,I,I,I,I,I,I,O,O,O,O]
abbrev A10_28 := #[I,I,I,I,I,I,I,I,I,I,I,I,I,I,I,I,I,I,I,I,I,I,I,I,I,I,I,I,O,O,O]
abbrev A10_29 := #[I,I,I,I,I,I,I,I,I,I,I,I,I,I,I,I,I,I,I,I,I,I,I,I,I,I,I,I,I,O,O]
abbrev A10_30 := #[I,I,I,I,I,I,I,I,I,I,I,I,I,I,I,I,I,I,I,I,I,I,I,I,I,I,I,I,I,I,O]
abbrev A10_31 := #[I,I,I,I,I,I,I,I,I,I,I,I,I,I,I,I,I,I,I,I,I,I,I,I,I,I,I,I,I,I,I]
abbrev A10_32 := #[O,O,O,O,O,O,O,O,O,O,O,O,O,O,O,O,O]
abbrev A10_33 := #[I,O,O,O,O,O,O,O,O,O,O,O,O,O,O,O,O]
abbrev A10_34 := #[I,O,I,O,O,O,O,O,O,O,O,O,O,O,O,O,O]
abbrev A10_35 := #[I,I,I,O,O,O,O,O,O,O,O,O,O,O,O,O,O]
abbrev A10_36 := #[I,I,I,I,O,O,O,O,O,O,O,O,O,O,O,O,O]
abbrev A10_37 := #[I,I,I,I,I,O,O,O,O,O,O,O,O,O,O,O,O]
abbrev A10_38 := #[I,I,I,I,I,I,O,O,O,O,O,O,O,O,O,O,O]
abbrev A10_39 := #[I,I,I,I,I,I,O,I,O,O,O,O,O,O,O,O,O]
abbrev A10_40 := #[I,I,I,I,I,I,O,I,I,O,O,O,O,O,O,O,O]
abbrev A10_41 := #[I,I,I,I,I,I,O,I,I,I,O,O,O,O,O,O,O]
abbrev A10_42 := #[I,I,I,I,I,I,I,I,I,I,O,O,O,O,O,O,O]
abbrev A10_43 := #[I,I,I,I,I,I,I,I,I,I,I,O,O,O,O,O,O]
abbrev A10_44 := #[I,I,I,I,I,I,I,I,I,I,I,I,O,O,O,O,O]
abbrev A10_45 := #[I,I,I,I,I,I,I,I,I,I,I,I,I,O,O,O,O]
abbrev A10_46 := #[I,I,I,I,I,I,I,I,I,I,I,I,I,I,O,O,O]
abbrev A10_47 := #[I,I,I,I,I,I,I,I,I,I,I,I,I,I,I,O,O]
abbrev A10_48 := #[I,I,I,I,I,I,I,I,I,I,I,I,I,I,I,I,O]
abbrev A10_49 := #[I,I,I,I,I,I,I,I,I,I,I,I,I,I,I,I,I]
abbrev A10_50 := #[O,O,O,O,O,O,O,O,O,O,O,O,O,O,O,O,O,O,O]
abbrev A10_51 := #[I,O,O,O,O,O,O,O,O,O,O,O,O,O,O,O,O,O,O]
abbrev A10_52 := #[I,I,O,O,O,O,O,O,O,O,O,O,O,O,O,O,O,O,O]
abbrev A10_53 := #[I,I,I,O,O,O,O,O,O,O,O,O,O,O,O,O,O,O,O]
abbrev A10_54 := #[I,I,I,O,O,O,I,O,O,O,O,O,O,O,O,O,O,O,O]
abbrev A10_55 := #[I,I,I,O,O,O,I,I,O,O,O,O,O,O,O,O,O,O,O]
abbrev A10_56 := #[I,I,I,O,O,O,I,I,I,O,O,O,O,O,O,O,O,O,O]
abbrev A10_57 := #[I,I,I,O,O,O,I,I,I,O,O,O,O,O,I,O,O,O,O]
abbrev A10_58 := #[I,I,I,I,O,O,I,I,I,O,O,O,O,O,I,O,O,O,O]
abbrev A10_59 := #[I,I,I,I,I,O,I,I,I,O,O,O,O,O,I,O,O,O,O]
abbrev A10_60 := #[I,I,I,I,I,I,I,I,I,O,O,O,O,O,I,O,O,O,O]
abbrev A10_61 := #[I,I,I,I,I,I,I,I,I,I,O,O,O,O,I,O,O,O,O]
abbrev A10_62 := #[I,I,I,I,I,I,I,I,I,I,I,O,O,O,I,O,O,O,O]
abbrev A10_63 := #[I,I,I,I,I,I,I,I,I,I,I,I,O,O,I,O,O,O,O]
abbrev A10_64 := #[I,I,I,I,I,I,I,I,I,I,I,I,I,O,I,O,O,O,O]
abbrev A10_65 := #[I,I,I,I,I,I,I,I,I,I,I,I,I,I,I,O,O,O,O]
abbrev A10_66 := #[I,I,I,I,I,I,I,I,I,I,I,I,I,I,I,I,O,O,O]
abbrev A10_67 := #[I,I,I,I,I,I,I,I,I,I,I,I,I,I,I,I,I,O,O]
abbrev A10_68 := #[I,I,I,I,I,I,I,I,I,I,I,I,I,I,I,I,I,I,O]
abbrev A10_69 := #[I,I,I,I,I,I,I,I,I,I,I,I,I,I,I,I,I,I,I]
abbrev A10_70 := #[I,I,I,I,I,I,I,O,O,O,O,O,O,O,O,O,O]
abbrev A10_71 := #[I,I,I,I,I,I,I,I,O,O,O,O,O,O,O,O,O]
abbrev A10_72 := #[I,I,I,I,I,I,I,I,I,O,O,O,O,O,O,O,O]

/-! ### spec_Shed: function 32 -/
mutual
def spec_Shed.l0 : Nat → List Int → List Int → Int → Int → List (S57) → List (S55) → List (S59) → Option (List Int × Bool)
 | 0, _, _, _, _, _, _, _ => none
 | k + 1, x4, x6, x7, x284000, x284001, x284002, x284003 => if x7 < (x284001.length : Int) then (if 0 ≤ x7 then (if (rd_T57 x284001 x7).f2 = true then (if 0 ≤ ((rd_T57 x284001 x7).f0) then (if ((rd_T57 x284001 x7).f0) < (x4.length : Int) then (if 0 ≤ (rd x4 ((rd_T57 x284001 x7).f0)) then (if (rd x4 ((rd_T57 x284001 x7).f0)) < (x6.length : Int) then (spec_Shed.l0 k x4 (x6.set ((rd x4 ((rd_T57 x284001 x7).f0)) : Int).toNat (wrap64 ((rd x6 (rd x4 ((rd_T57 x284001 x7).f0))) + ((rd_T57 x284001 x7).f1)))) (wrap64 (x7 + 1)) x284000 x284001 x284002 x284003) else (none)) else (none)) else (none)) else (none)) else (spec_Shed.l0 k x4 x6 (wrap64 (x7 + 1)) x284000 x284001 x284002 x284003)) else (none)) else (if 0 ≤ (x284003.length : Int) then (if ((x284003.length : Int) : Int).toNat ≤ 281474976710656 then (spec_Shed.l1 k x4 x6 (List.replicate ((x284003.length : Int) : Int).toNat false) 0 x284000 x284001 x284002 x284003) else (none)) else (none))
def spec_Shed.l1 : Nat → List Int → List Int → List Bool → Int → Int → List (S57) → List (S55) → List (S59) → Option (List Int × Bool)
 | 0, _, _, _, _, _, _, _, _ => none
 | k + 1, x4, x6, x8, x9, x284000, x284001, x284002, x284003 => if x9 ≤ 9 then (spec_Shed.l2 k x4 x6 x8 x9 0 x284000 x284001 x284002 x284003) else (spec_Shed.l3 k x8 (([] : List Int)) 0)
def spec_Shed.l2 : Nat → List Int → List Int → List Bool → Int → Int → Int → List (S57) → List (S55) → List (S59) → Option (List Int × Bool)
 | 0, _, _, _, _, _, _, _, _, _ => none
 | k + 1, x4, x6, x8, x9, x10, x284000, x284001, x284002, x284003 => if x10 < (x284003.length : Int) then (if 0 ≤ x10 then (if ((rd_T59 x284003 x10).f2) = x9 then (if 0 ≤ ((rd_T59 x284003 x10).f0) then (if ((rd_T59 x284003 x10).f0) < (x4.length : Int) then (if 0 ≤ (rd x4 ((rd_T59 x284003 x10).f0)) then (if (rd x4 ((rd_T59 x284003 x10).f0)) < (x6.length : Int) then (if ((rd_T59 x284003 x10).f1) ≤ (rd x6 (rd x4 ((rd_T59 x284003 x10).f0))) then (if x10 < (x8.length : Int) then (spec_Shed.l2 k x4 (x6.set ((rd x4 ((rd_T59 x284003 x10).f0)) : Int).toNat (wrap64 ((rd x6 (rd x4 ((rd_T59 x284003 x10).f0))) - ((rd_T59 x284003 x10).f1)))) (x8.set (x10 : Int).toNat true) x9 (wrap64 (x10 + 1)) x284000 x284001 x284002 x284003) else (none)) else (spec_Shed.l2 k x4 x6 x8 x9 (wrap64 (x10 + 1)) x284000 x284001 x284002 x284003)) else (none)) else (none)) else (none)) else (none)) else (spec_Shed.l2 k x4 x6 x8 x9 (wrap64 (x10 + 1)) x284000 x284001 x284002 x284003)) else (none)) else (spec_Shed.l1 k x4 x6 x8 (wrap64 (x9 + 1)) x284000 x284001 x284002 x284003)
def spec_Shed.l3 : Nat → List Bool → List Int → Int → Option (List Int × Bool)
 | 0, _, _, _ => none
 | k + 1, x8, x12, x13 => if x13 < (x8.length : Int) then (if 0 ≤ x13 then (if rdOf false x8 x13 = true then (spec_Shed.l3 k x8 x12 (wrap64 (x13 + 1))) else (if x12.length < 17592186044416 then (spec_Shed.l3 k x8 (x12 ++ [x13]) (wrap64 (x13 + 1))) else (none))) else (none)) else (some (x12, true))
end
def spec_Shed.f (k : Nat) (a0_0 : Int) (l0_1 : List (S57)) (l0_2 : List (S55)) (l0_3 : List (S59)) : Option (List Int × Bool) := (spec_Islands.f k a0_0 l0_1 l0_2 l0_3).bind fun bt284 => (if bt284.2 = true then (if 0 ≤ a0_0 then (if (a0_0 : Int).toNat ≤ 35184372088832 then (spec_Shed.l0 k bt284.1 (List.replicate (a0_0 : Int).toNat 0) 0 a0_0 l0_1 l0_2 l0_3) else (none)) else (none)) else (some ((([] : List Int)), false)))
def spec_Shed.T9 : Bool × List (List Nat × List Nat) := (true, [([], []), ([], []), ([], []), ([2], [2]), ([], []), ([3, 4], [3, 4]), ([5], [5]), ([6], [6]), ([1, 7], [1, 7]), ([8], [8]), ([], []), ([], []), ([], []), ([12], [12]), ([], []), ([13, 14], [13, 14]), ([15], [15]), ([16], [16]), ([11, 17], [11, 17]), ([18], [18]), ([10, 19], [10, 19]), ([20], [20]), ([], []), ([22], [22]), ([], []), ([23, 24], [23, 24]), ([25], [25]), ([26], [26]), ([21, 27], [21, 27]), ([0, 9, 0, 1, 2, 3, 4, 5, 6, 7, 8, 9, 10, 11, 12, 13, 14, 15, 16, 17, 18, 19, 20, 21, 22, 23, 24, 25, 26, 27, 28], [0, 9]), ([29, 28, 0, 1, 2, 3, 4, 5, 6, 7, 8, 9, 10, 11, 12, 13, 14, 15, 16, 17, 18, 19, 20, 21, 22, 23, 24, 25, 26, 27, 28], [28, 29])])
def spec_Shed.B9 : List Nat := [0, 0, 0, 4, 0, 28, 60, 124, 254, 510, 0, 0, 0, 4096, 0, 28672, 61440, 126976, 260096, 522240, 1047552, 2096128, 0, 4194304, 0, 29360128, 62914560, 130023424, 268434432, 536870911, 1073741823]
theorem spec_Shed.tab9 : rtab .any (opsOf Try.f32 9) = spec_Shed.T9 := by kernel_rfl
theorem spec_Shed.bits9 : waitsOk spec_Shed.T9.2 spec_Shed.B9 = true := by kernel_rfl
def spec_Shed.T18 : Bool × List (List Nat × List Nat) := (true, [([], []), ([0], [0]), ([], []), ([1, 2], [1, 2]), ([3], [3]), ([4], [4]), ([5, 4], [4, 5]), ([4], [4]), ([4], [4]), ([4], [4]), ([9, 4], [4, 9]), ([8, 10, 4], [4, 8, 10]), ([11, 4], [4, 11]), ([7, 12, 4], [4, 7, 12]), ([13, 4], [4, 13]), ([6, 14, 4], [4, 6, 14]), ([4, 15], [4, 15])])
def spec_Shed.B18 : List Nat := [0, 1, 0, 7, 15, 31, 63, 31, 31, 31, 543, 1823, 3871, 8095, 16287, 32767, 65535]
theorem spec_Shed.tab18 : rtab .any (opsOf Try.f32 18) = spec_Shed.T18 := by kernel_rfl
theorem spec_Shed.bits18 : waitsOk spec_Shed.T18.2 spec_Shed.B18 = true := by kernel_rfl
def spec_Shed.T19 : Bool × List (List Nat × List Nat) := (true, [([], []), ([], []), ([], []), ([2], [2]), ([1, 3], [1, 3]), ([4], [4]), ([], []), ([], []), ([], []), ([8], [8]), ([7, 9], [7, 9]), ([10], [10]), ([6, 11], [6, 11]), ([12], [12]), ([], []), ([14], [14]), ([13, 15], [13, 15]), ([0, 5, 0, 1, 2, 3, 4, 5, 6, 7, 8, 9, 10, 11, 12, 13, 14, 15, 16], [0, 5]), ([17, 16, 0, 1, 2, 3, 4, 5, 6, 7, 8, 9, 10, 11, 12, 13, 14, 15, 16], [16, 17])])
def spec_Shed.B19 : List Nat := [0, 0, 0, 4, 14, 30, 0, 0, 0, 256, 896, 1920, 4032, 8128, 0, 16384, 65472, 131071, 262143]
theorem spec_Shed.tab19 : rtab .any (opsOf Try.f32 19) = spec_Shed.T19 := by kernel_rfl
theorem spec_Shed.bits19 : waitsOk spec_Shed.T19.2 spec_Shed.B19 = true := by kernel_rfl
set_option maxHeartbeats 8000000 in
set_option maxRecDepth 100000 in
theorem spec_Shed.calls (k : Nat) (a0_0 : Int) (A0_1 : Option Addr) (c0_1 : Nat) (l0_1 : List (S57)) (A0_2 : Option Addr) (c0_2 : Nat) (l0_2 : List (S55)) (A0_3 : Option Addr) (c0_3 : Nat) (l0_3 : List (S59)) (r1 : List Int) (r2 : Bool) (w : World) (hr0_1 : Kd.C k57 w A0_1 l0_1.length l0_1) (hc0_1 : l0_1.length ≤ c0_1) (hr0_2 : Kd.C k55 w A0_2 l0_2.length l0_2) (hc0_2 : l0_2.length ≤ c0_2) (hr0_3 : Kd.C k59 w A0_3 l0_3.length l0_3) (hc0_3 : l0_3.length ≤ c0_3) (h : spec_Shed.f k a0_0 l0_1 l0_2 l0_3 = some (r1, r2)) :
  Calls Try.prog 32 #[.agg #[.int .i64 a0_0, .slice A0_1 l0_1.length c0_1, .slice A0_2 l0_2.length c0_2, .slice A0_3 l0_3.length c0_3]] w fun e w' => ∃ v0_ : Value, e = .returned (.tuple #[v0_, .bool r2]) ∧ Kd.R (Kd.int .i64) 3 w' w.heap.size (fun _ => True) v0_ r1 ∧ Below w.heap.size w w' := by
 have hu41 := Try.underlying41; have hu59 := Try.underlying59; have HR0_1 := Az hr0_1; have HC0_1 := Az hc0_1; clear hr0_1 hc0_1; have HR0_2 := Az hr0_2; have HC0_2 := Az hc0_2; clear hr0_2 hc0_2; have HR0_3 := Az hr0_3; have HC0_3 := Az hc0_3; clear hr0_3 hc0_3; have HB := Az (Below.refl w.heap.size w); have H : ((spec_Islands.f k a0_0 l0_1 l0_2 l0_3).bind fun bt284 => (if bt284.2 = true then (if 0 ≤ a0_0 then (if (a0_0 : Int).toNat ≤ 35184372088832 then (spec_Shed.l0 k bt284.1 (List.replicate (a0_0 : Int).toNat 0) 0 a0_0 l0_1 l0_2 l0_3) else (none)) else (none)) else (some ((([] : List Int)), false)))) = some (r1, r2) := h; clear h; replace H := Option.bind_eq_some_iff.mp H; obtain ⟨⟨t284, t287⟩, A20, H⟩ := H; replace H : (if t287 = true then (if 0 ≤ a0_0 then (if (a0_0 : Int).toNat ≤ 35184372088832 then (spec_Shed.l0 k t284 (List.replicate (a0_0 : Int).toNat 0) 0 a0_0 l0_1 l0_2 l0_3) else (none)) else (none)) else (some ((([] : List Int)), false))) = some (r1, r2) := H; have A2 := Az A20; clear A20; have HC3 := Az H; clear H
 go_enter Try.func32, Try.ntmps32
 go_upto_if 20 with (first | ((with_reducible refine gate_dst (N := 1) rfl ?_); refine box_event ?hg (N := 1) ?hd (cs := #[.int .i64 a0_0, .slice A0_1 l0_1.length c0_1, .slice A0_2 l0_2.length c0_2, .slice A0_3 l0_3.length c0_3]) (t := 41) ?hr ?_; (case hd => rfl); (case hg => rfl); (case hr => first | (go_simp; done) | (go_simp; rfl)); intro gb283 hg w4 hbox hb; have BK283 := Az (hbox); have GW283 := Az ((by rw [hg]; exact (below_size bz) : w.heap.size ≤ gb283)); replace HB := Az (below_step bz hb); have GE283 := GW283; clear hb hbox hg; obtain ⟨hcz5_0, hcz5_1, hcz5_2, hcz5_3⟩ := bc4 BK283.out; obtain ⟨hfz5_0, hfz5_1, hfz5_2, hfz5_3⟩ := bf4_ BK283.out) | ((with_reducible refine gate_callee (f := 19) rfl ?_); refine goesL_ (some 16) rfl rfl Try.func19 (by kernel_rfl) rfl #[.agg #[.int .i64 a0_0, .slice A0_1 l0_1.length c0_1, .slice A0_2 l0_2.length c0_2, .slice A0_3 l0_3.length c0_3]] rfl (by (try simp only [List.map_toArray, List.map_cons, List.map_nil]); first | done | rfl) ?_; (with_reducible refine (spec_Islands.calls k a0_0 _ _ l0_1 _ _ l0_2 _ _ l0_3 t284 t287 _ ?side1 ?side2 ?side3 ?side4 ?side5 ?side6 A2.out).mono ?_); (case side1 => exact cu HR0_1.out HB.out); (case side2 => exact HC0_1.out); (case side3 => exact cu HR0_2.out HB.out); (case side4 => exact HC0_2.out); (case side5 => exact cu HR0_3.out HB.out); (case side6 => exact HC0_3.out); rintro e w6 ⟨v285, rfl, ho0, hb⟩; refine ⟨_, rfl, ?_⟩; have HO286 := Az (Kd.R_lower ho0 (below_size bz)); replace BK283 := Az (blk_below (bu BK283.out) hb); replace HB := Az (below_step bz hb); (try clear hb); (try clear hb2); (try clear hk); (try clear hi); (try clear ho0)))
 (try simp only [Act.put, sA, sB, sC])
 have H := HC3.out; clear HC3
 by_cases c7 : t287 = true
 ·
  subst c7
  have H1 : (if 0 ≤ a0_0 then (if (a0_0 : Int).toNat ≤ 35184372088832 then (spec_Shed.l0 k t284 (List.replicate (a0_0 : Int).toNat 0) 0 a0_0 l0_1 l0_2 l0_3) else (none)) else (none)) = some (r1, r2) := by rw [if_pos rfl] at H; exact H
  clear H; have H := H1; clear H1
  by_cases c8 : 0 ≤ a0_0
  ·
   rw [if_pos c8] at H; have c8b0 := eq_true c8; have c8b1 : decide (0 ≤ a0_0) = true := decide_eq_true c8; clear c8
   by_cases c9 : (a0_0 : Int).toNat ≤ 35184372088832
   ·
    rw [if_pos c9] at H; have c9b0 := eq_true c9; have c9b1 : decide ((a0_0 : Int).toNat ≤ 35184372088832) = true := decide_eq_true c9; clear c9; obtain ⟨y288, hy288⟩ : ∃ y_ : List Int, y_ = (List.replicate (a0_0 : Int).toNat 0) := ⟨_, rfl⟩
    replace H : (spec_Shed.l0 k t284 y288 0 a0_0 l0_1 l0_2 l0_3) = some (r1, r2) := by have hy_ := hy288; exact yz
    have Ny288 := Az hy288; clear hy288; have H' := Az H; clear H; obtain ⟨hcz10_0, hcz10_1, hcz10_2, hcz10_3⟩ := bc4 BK283.out; obtain ⟨hfz10_0, hfz10_1, hfz10_2, hfz10_3⟩ := bf4_ BK283.out
    go_wp2_with (first | ((with_reducible refine gate_dst (N := 24) rfl ?_); refine Kd.R_make (Kd.int .i64) _ 3 rfl (N := 24) rfl 45 _ _ rfl a0_0 rfl rfl Try.underlying45 (.int .i64 0) 8 info3 rfl (by decide) (by omega) 0 (ok := fun _ => True) (okp := fun _ => True) rfl (fun _ hk => hk) trivial oz (Nat.le_trans (Nat.mul_le_mul_right _ (oz : a0_0.toNat ≤ 35184372088832)) (by omega)) (Below.refl _ _) (Nat.le_refl _) ?_; intro v289 w11 ho12 hb hg_ hnew_; clear hg_ hnew_; (first | rw [← Ny288.out] at ho12 | (simp only [Int.reduceToNat] at ho12; rw [← Ny288.out] at ho12)); have HO290 := Az (Kd.R_lower (Kd.R_new' ho12 (Kd.R_lt (ru HO286.out))) (below_size bz)); replace HO286 := Az (Kd.R_elder' (ru HO286.out) (Kd.R_base ho12) hb); replace BK283 := Az (blk_below (bu BK283.out) hb); replace HB := Az (below_step bz hb); clear hb ho12))
    go_loopg [7] k (fun kq v7 w' => ∃ (x6_1 : List Int) (x7_1 : Int), v7 = .int .i64 x7_1 ∧ Aside0 (spec_Shed.l0 kq t284 x6_1 x7_1 a0_0 l0_1 l0_2 l0_3 = some (r1, r2)) ∧ Aside0 (kq ≤ k) ∧ Aside0 (Kd.R (Kd.int .i64) 3 w' w.heap.size (fun k_ => some k_ ≠ (v289 : Value).ownBlock) v285 t284) ∧ Aside0 (Kd.R (Kd.int .i64) 3 w' w.heap.size (fun k_ => some k_ ≠ (v285 : Value).ownBlock) v289 x6_1) ∧ Aside0 (w'.heap[gb283]? = some (.cells #[.int .i64 a0_0, (.slice A0_1 l0_1.length c0_1), (.slice A0_2 l0_2.length c0_2), (.slice A0_3 l0_3.length c0_3)] 41 (0, 0))) ∧ Aside0 (Below w.heap.size w w'))
    case atStart => exact ⟨(y288), (0), (by first | rfl | (simp; done) | (simp [*]; done)), H', ⟨Nat.le_refl _⟩, ⟨by (with_reducible repeat (first | apply Kd.R_alloc | apply Kd.R_drewN | apply Kd.R_drew)); exact Kd.R_mono HO286.out (fun _ hk => hk.2)⟩, ⟨by (with_reducible repeat (first | apply Kd.R_alloc | apply Kd.R_drewN | apply Kd.R_drew)); exact Kd.R_mono HO290.out (fun _ hk => hk.2)⟩, ⟨by refine bu ?_; exact BK283.out⟩, ⟨bz⟩⟩
    case round =>
     clear H'; (try clear c1); (try clear p2); (try clear c3); (try clear c7); (try clear c8); (try clear c8b0); (try clear c8b1); (try clear c9); (try clear c9b0); (try clear c9b1); (try clear hcz10_0); (try clear hcz10_1); (try clear hcz10_2); (try clear hcz10_3); (try clear hcz5_0); (try clear hcz5_1); (try clear hcz5_2); (try clear hcz5_3); (try clear hfz10_0); (try clear hfz10_1); (try clear hfz10_2); (try clear hfz10_3); (try clear hfz5_0); (try clear hfz5_1); (try clear hfz5_2); (try clear hfz5_3); obtain ⟨x6_1, x7_1, rfl, HA, HK1, HO_4, HO_6, BK283, HB⟩ := hrel
     cases gk with
     | zero => exact absurd HA.out (by simp [spec_Shed.l0])
     | succ k1 =>
      have H := HA.out; clear HA; simp only [spec_Shed.l0] at H
      by_cases c13 : x7_1 < (l0_1.length : Int)
      ·
       rw [if_pos c13] at H; have c13b0 : decide (x7_1 < (l0_1.length : Int)) = true := decide_eq_true c13; clear c13
       (first | rw [c13b0] | (simp only [i64_w, i32_w]; rw [c13b0]) | skip)
       by_cases c14 : 0 ≤ x7_1
       ·
        rw [if_pos c14] at H; have c14b0 : decide (0 ≤ x7_1) = true := decide_eq_true c14; clear c14; have HC15 := Az H; clear H; obtain ⟨hcz16_0, hcz16_1, hcz16_2, hcz16_3⟩ := bc4 BK283.out; obtain ⟨hfz16_0, hfz16_1, hfz16_2, hfz16_3⟩ := bf4_ BK283.out; have p291 : 0 ≤ (x7_1 : Int) := oz; have q291 : x7_1 < (l0_1.length : Int) := oz; obtain ⟨ad291, e291, hx291_0, hx291_1, hx291_2⟩ := at_T57 HR0_1.out x7_1 p291 q291
        cases e291
        replace hx291_0 := pw_cell_below HB.out hx291_0; replace hx291_1 := pw_cell_below HB.out hx291_1; replace hx291_2 := pw_cell_below HB.out hx291_2; replace p291 := eq_true p291; replace q291 := eq_true q291
        go_upto_if 37 with (fail)
        have H := HC15.out; clear HC15; obtain ⟨bq17, hbq17⟩ : ∃ b_ : Bool, b_ = ((rd_T57 l0_1 x7_1).f2) := ⟨_, rfl⟩
        replace H : (if bq17 = true then (if 0 ≤ ((rd_T57 l0_1 x7_1).f0) then (if ((rd_T57 l0_1 x7_1).f0) < (t284.length : Int) then (if 0 ≤ (rd t284 ((rd_T57 l0_1 x7_1).f0)) then (if (rd t284 ((rd_T57 l0_1 x7_1).f0)) < (x6_1.length : Int) then (spec_Shed.l0 k1 t284 (x6_1.set ((rd t284 ((rd_T57 l0_1 x7_1).f0)) : Int).toNat (wrap64 ((rd x6_1 (rd t284 ((rd_T57 l0_1 x7_1).f0))) + ((rd_T57 l0_1 x7_1).f1)))) (wrap64 (x7_1 + 1)) a0_0 l0_1 l0_2 l0_3) else (none)) else (none)) else (none)) else (none)) else (spec_Shed.l0 k1 t284 x6_1 (wrap64 (x7_1 + 1)) a0_0 l0_1 l0_2 l0_3)) = some (r1, r2) := by rw [← hbq17] at H; exact H
        have Nbq17 := Az hbq17; clear hbq17
        (try rw [← Nbq17.out])
        by_cases c18 : bq17 = true
        ·
         subst c18
         have H1 : (if 0 ≤ ((rd_T57 l0_1 x7_1).f0) then (if ((rd_T57 l0_1 x7_1).f0) < (t284.length : Int) then (if 0 ≤ (rd t284 ((rd_T57 l0_1 x7_1).f0)) then (if (rd t284 ((rd_T57 l0_1 x7_1).f0)) < (x6_1.length : Int) then (spec_Shed.l0 k1 t284 (x6_1.set ((rd t284 ((rd_T57 l0_1 x7_1).f0)) : Int).toNat (wrap64 ((rd x6_1 (rd t284 ((rd_T57 l0_1 x7_1).f0))) + ((rd_T57 l0_1 x7_1).f1)))) (wrap64 (x7_1 + 1)) a0_0 l0_1 l0_2 l0_3) else (none)) else (none)) else (none)) else (none)) = some (r1, r2) := by rw [if_pos rfl] at H; exact H
         clear H; have H := H1; clear H1
         by_cases c19 : 0 ≤ ((rd_T57 l0_1 x7_1).f0)
         ·
          rw [if_pos c19] at H; have c19b0 : decide (0 ≤ ((rd_T57 l0_1 x7_1).f0)) = true := decide_eq_true c19; clear c19
          by_cases c20 : ((rd_T57 l0_1 x7_1).f0) < (t284.length : Int)
          ·
           rw [if_pos c20] at H; have c20b0 : decide (((rd_T57 l0_1 x7_1).f0) < (t284.length : Int)) = true := decide_eq_true c20; clear c20
           by_cases c21 : 0 ≤ (rd t284 ((rd_T57 l0_1 x7_1).f0))
           ·
            rw [if_pos c21] at H; have c21b0 : decide (0 ≤ (rd t284 ((rd_T57 l0_1 x7_1).f0))) = true := decide_eq_true c21; clear c21
            by_cases c22 : (rd t284 ((rd_T57 l0_1 x7_1).f0)) < (x6_1.length : Int)
            ·
             rw [if_pos c22] at H; have c22b0 : decide ((rd t284 ((rd_T57 l0_1 x7_1).f0)) < (x6_1.length : Int)) = true := decide_eq_true c22; clear c22; obtain ⟨y298, hy298⟩ : ∃ y_ : List Int, y_ = (x6_1.set ((rd t284 ((rd_T57 l0_1 x7_1).f0)) : Int).toNat (wrap64 ((rd x6_1 (rd t284 ((rd_T57 l0_1 x7_1).f0))) + ((rd_T57 l0_1 x7_1).f1)))) := ⟨_, rfl⟩
             replace H : (spec_Shed.l0 k1 t284 y298 (wrap64 (x7_1 + 1)) a0_0 l0_1 l0_2 l0_3) = some (r1, r2) := by have hy_ := hy298; exact yz
             have Ny298 := Az hy298; clear hy298; have H' := Az H; clear H
             try go_wp2
             replace HO_4 := Az (Kd.R_drew HO_4.out); replace HO_6 := Az (Kd.R_drew HO_6.out); replace BK283 := Az (blk_drew BK283.out); replace HB := Az (below_drew1 HB.out); have p292 : 0 ≤ (x7_1 : Int) := oz; have q292 : x7_1 < (l0_1.length : Int) := oz; obtain ⟨ad292, e292, hx292_0, hx292_1, hx292_2⟩ := at_T57 HR0_1.out x7_1 p292 q292; have hw292_2 := hx292_2; have hw292_1 := hx292_1; have hw292_0 := hx292_0
             (try rw [← Nbq17.out] at hx292_2)
             obtain rfl : ad291 = ad292 := (by injection e292); replace hx292_0 := pw_cell_below HB.out hx292_0; replace hx292_1 := pw_cell_below HB.out hx292_1; replace hx292_2 := pw_cell_below HB.out hx292_2; replace p292 := eq_true p292; replace q292 := eq_true q292; obtain ⟨Ao25, co25, eo25⟩ := Kd.R_slice HO_4.out
             (first | subst eo25 | (injection eo25 with f1_ f2_ f3_; have f4_ := f1_.symm; have f5_ := f3_.symm; clear f1_ f2_ f3_; subst f4_; subst f5_))
             have p293 : 0 ≤ (((rd_T57 l0_1 x7_1).f0) : Int) := oz; have q293 : ((rd_T57 l0_1 x7_1).f0) < (t284.length : Int) := oz; obtain ⟨ad293, e293, hx293_0⟩ := Kd.at_int (Kd.R_reads' HO_4.out).2.2 ((rd_T57 l0_1 x7_1).f0) p293 q293
             cases e293
             replace p293 := eq_true p293; replace q293 := eq_true q293; have p294 : 0 ≤ (x7_1 : Int) := oz; have q294 : x7_1 < (l0_1.length : Int) := oz; obtain ⟨ad294, e294, hx294_0, hx294_1, hx294_2⟩ := at_T57 HR0_1.out x7_1 p294 q294; have hw294_2 := hx294_2; have hw294_1 := hx294_1; have hw294_0 := hx294_0
             (try rw [← Nbq17.out] at hx294_2)
             obtain rfl : ad291 = ad294 := (by injection e294); replace hx294_0 := pw_cell_below HB.out hx294_0; replace hx294_1 := pw_cell_below HB.out hx294_1; replace hx294_2 := pw_cell_below HB.out hx294_2; replace p294 := eq_true p294; replace q294 := eq_true q294; have p295 : 0 ≤ (((rd_T57 l0_1 x7_1).f0) : Int) := oz; have q295 : ((rd_T57 l0_1 x7_1).f0) < (t284.length : Int) := oz; obtain ⟨ad295, e295, hx295_0⟩ := Kd.at_int (Kd.R_reads' HO_4.out).2.2 ((rd_T57 l0_1 x7_1).f0) p295 q295; obtain rfl : ad293 = ad295 := (by injection e295); replace p295 := eq_true p295; replace q295 := eq_true q295; obtain ⟨Ao26, co26, eo26⟩ := Kd.R_slice HO_6.out
             (first | subst eo26 | (injection eo26 with f1_ f2_ f3_; have f4_ := f1_.symm; have f5_ := f3_.symm; clear f1_ f2_ f3_; subst f4_; subst f5_))
             have p296 : 0 ≤ ((rd t284 ((rd_T57 l0_1 x7_1).f0)) : Int) := oz; have q296 : (rd t284 ((rd_T57 l0_1 x7_1).f0)) < (x6_1.length : Int) := oz; obtain ⟨ad296, e296, hx296_0⟩ := Kd.at_int (Kd.R_reads' HO_6.out).2.2 (rd t284 ((rd_T57 l0_1 x7_1).f0)) p296 q296
             cases e296
             replace p296 := eq_true p296; replace q296 := eq_true q296; have p297 : 0 ≤ (x7_1 : Int) := oz; have q297 : x7_1 < (l0_1.length : Int) := oz; obtain ⟨ad297, e297, hx297_0, hx297_1, hx297_2⟩ := at_T57 HR0_1.out x7_1 p297 q297; have hw297_2 := hx297_2; have hw297_1 := hx297_1; have hw297_0 := hx297_0
             (try rw [← Nbq17.out] at hx297_2)
             obtain rfl : ad291 = ad297 := (by injection e297); replace hx297_0 := pw_cell_below HB.out hx297_0; replace hx297_1 := pw_cell_below HB.out hx297_1; replace hx297_2 := pw_cell_below HB.out hx297_2; replace p297 := eq_true p297; replace q297 := eq_true q297; have p23 : 0 ≤ ((rd t284 ((rd_T57 l0_1 x7_1).f0)) : Int) := oz; have q23 : ((rd t284 ((rd_T57 l0_1 x7_1).f0)) : Int) < ((x6_1.length : Int) : Int) := oz; obtain ⟨go23, co23, eo23, gb23, gl23, cl23, HG23⟩ := Kd.R_form HO_6.out (by omega)
             (first | cases eo23 | (injection eo23 with ea_ en_ ec_; (first | subst ea_ | (injection ea_ with ea_; subst ea_)); subst ec_; clear en_))
             have GB23 := Az gb23; have GG23 := Az HG23; clear gb23 gl23 HG23
             (first | simp only [add_plain] at hx296_0 | skip)
             obtain ⟨hx23_0, hf23_0⟩ := Kd.R_celln 0 HO_6.out ((rd t284 ((rd_T57 l0_1 x7_1).f0)) : Int) p23 q23; replace p23 := eq_true p23; replace q23 := eq_true q23; have HP27 := Kd.R_putn HO_6.out ((rd t284 ((rd_T57 l0_1 x7_1).f0)) : Int) (wrap64 ((rd x6_1 (rd t284 ((rd_T57 l0_1 x7_1).f0))) + ((rd_T57 l0_1 x7_1).f1))); rw [← Ny298.out] at HP27; have HQ27 := Az HP27; clear HP27; refine start_ (n := 31) (S := fun w' => w'.cell? ⟨gb283, 0, none⟩ = some (.int .i64 a0_0) ∧ w'.cell? ⟨gb283, 1, none⟩ = some (.slice (some ad291) l0_1.length c0_1) ∧ w'.cell? ⟨gb283, 2, none⟩ = some (.slice A0_2 l0_2.length c0_2) ∧ w'.cell? ⟨gb283, 3, none⟩ = some (.slice A0_3 l0_3.length c0_3) ∧ w'.cell? (ad291.add ((x7_1).toNat * 3)) = some (.int .i64 ((rd_T57 l0_1 x7_1).f0)) ∧ w'.cell? ⟨(ad291.add ((x7_1).toNat * 3)).block, (ad291.add ((x7_1).toNat * 3)).off + 1, none⟩ = some (.int .i64 ((rd_T57 l0_1 x7_1).f1)) ∧ w'.cell? ⟨(ad291.add ((x7_1).toNat * 3)).block, (ad291.add ((x7_1).toNat * 3)).off + 2, none⟩ = some (.bool ((rd_T57 l0_1 x7_1).f2)) ∧ w'.cell? (ad293.add (((rd_T57 l0_1 x7_1).f0)).toNat) = some (.int .i64 (rd t284 ((rd_T57 l0_1 x7_1).f0))) ∧ w'.cell? (ad291.add ((x7_1).toNat * 3)) = some (.int .i64 ((rd_T57 l0_1 x7_1).f0)) ∧ w'.cell? ⟨(ad291.add ((x7_1).toNat * 3)).block, (ad291.add ((x7_1).toNat * 3)).off + 1, none⟩ = some (.int .i64 ((rd_T57 l0_1 x7_1).f1)) ∧ w'.cell? ⟨(ad291.add ((x7_1).toNat * 3)).block, (ad291.add ((x7_1).toNat * 3)).off + 2, none⟩ = some (.bool ((rd_T57 l0_1 x7_1).f2)) ∧ w'.cell? (ad293.add (((rd_T57 l0_1 x7_1).f0)).toNat) = some (.int .i64 (rd t284 ((rd_T57 l0_1 x7_1).f0))) ∧ w'.cell? ⟨go23, ((rd t284 ((rd_T57 l0_1 x7_1).f0))).toNat, none⟩ = some (.int .i64 (rd x6_1 (rd t284 ((rd_T57 l0_1 x7_1).f0)))) ∧ w'.cell? (ad291.add ((x7_1).toNat * 3)) = some (.int .i64 ((rd_T57 l0_1 x7_1).f0)) ∧ w'.cell? ⟨(ad291.add ((x7_1).toNat * 3)).block, (ad291.add ((x7_1).toNat * 3)).off + 1, none⟩ = some (.int .i64 ((rd_T57 l0_1 x7_1).f1)) ∧ w'.cell? ⟨(ad291.add ((x7_1).toNat * 3)).block, (ad291.add ((x7_1).toNat * 3)).off + 2, none⟩ = some (.bool ((rd_T57 l0_1 x7_1).f2))) (ds := [30]) A10_0 (by kernel_rfl) rfl rfl ⟨(blk_cell BK283.out 0).trans rfl, (blk_cell BK283.out 1).trans rfl, (blk_cell BK283.out 2).trans rfl, (blk_cell BK283.out 3).trans rfl, (pw_cell_below HB.out hw292_0), (pw_cell_below HB.out hw292_1), (pw_cell_below HB.out hw292_2), hx293_0, (pw_cell_below HB.out hw294_0), (pw_cell_below HB.out hw294_1), (pw_cell_below HB.out hw294_2), hx295_0, hx296_0, (pw_cell_below HB.out hw297_0), (pw_cell_below HB.out hw297_1), (pw_cell_below HB.out hw297_2)⟩ (fun hHeld => ?_); refine with_tabW spec_Shed.tab9 spec_Shed.bits9 (fun HT_ HW_ => ?_); generalize wr.drew = w24 at HO_4 HO_6 BK283 HB GG23 HQ27 hf23_0 hx23_0 hx292_0 hx292_1 hx292_2 hx293_0 hx294_0 hx294_1 hx294_2 hx295_0 hx296_0 hx297_0 hx297_1 hx297_2 hHeld ⊢; refine pz 0 38 A10_1 HT_.out ?_; refine pz 1 39 A10_2 HT_.out ?_
             refine pz 2 40 A10_3 HT_.out ?_; refine pz 4 42 A10_4 HT_.out ?_; refine pz 10 48 A10_5 HT_.out ?_; refine pz 11 49 A10_6 HT_.out ?_; refine pz 12 50 A10_7 HT_.out ?_; refine pz 14 52 A10_8 HT_.out ?_; refine pz 22 60 A10_9 HT_.out ?_; refine pz 24 62 A10_10 HT_.out ?_; refine tz 3 41 A10_11 HT_.out HW_.out hHeld ?_
             refine pz 5 43 A10_12 HT_.out ?_; refine pz 6 44 A10_13 HT_.out ?_; refine tz 7 45 A10_14 HT_.out HW_.out hHeld ?_
             refine pz 8 46 A10_15 HT_.out ?_; refine tz 9 47 A10_16 HT_.out HW_.out hHeld ?_
             refine tz 13 51 A10_17 HT_.out HW_.out hHeld ?_
             refine pz 15 53 A10_18 HT_.out ?_; refine pz 16 54 A10_19 HT_.out ?_; refine tz 17 55 A10_20 HT_.out HW_.out hHeld ?_
             refine pz 18 56 A10_21 HT_.out ?_; refine tz 19 57 A10_22 HT_.out HW_.out hHeld ?_
             refine pz 20 58 A10_23 HT_.out ?_; refine tz 21 59 A10_24 HT_.out HW_.out hHeld ?_
             refine tz 23 61 A10_25 HT_.out HW_.out hHeld ?_
             refine pz 25 63 A10_26 HT_.out ?_; refine pz 26 64 A10_27 HT_.out ?_; refine tz 27 65 A10_28 HT_.out HW_.out hHeld ?_
             refine pz 28 66 A10_29 HT_.out ?_; refine pz 29 67 A10_30 HT_.out ?_; refine last_ (i := 30) (N := none) A10_31 rfl rfl (one_of HT_.out (by kernel_rfl)) (by decide) (fun K hK => ?_); refine skip_ (w1 := ?_) (by rfl) rfl ?_ ?_; rotate_left
             ·
              go_simp
              rfl
             refine hK.out _ _ ?_; clear hK K; refine done_ (done_of HT_.out (by kernel_rfl)) ?_
             try go_wp2
             go_roundg k1
             case measure => have := HK1.out; omega
             case rel => exact ⟨(y298), (wrap64 (x7_1 + 1)), (by first | rfl | (simp; done) | (simp [*]; done)), H', ⟨by have := HK1.out; omega⟩, ⟨by (with_reducible repeat (first | apply Kd.R_alloc | apply Kd.R_drewN | apply Kd.R_drew)); exact Kd.R_mono (Kd.R_far (p := ⟨go23, ((rd t284 ((rd_T57 l0_1 x7_1).f0)) : Int).toNat, none⟩) (Kd.R_mono HO_4.out (fun k_ hk => (⟨hk, fun e_ => hk (by rw [e_]; rfl)⟩ : _ ∧ k_ ≠ go23))) (fun _ hk => hk.2) (.int .i64 (wrap64 ((rd x6_1 (rd t284 ((rd_T57 l0_1 x7_1).f0))) + ((rd_T57 l0_1 x7_1).f1))))) (fun _ hk => hk.1)⟩, ⟨ru HQ27.out⟩, ⟨by refine bu ?_; refine blk_far ?_ (by have h_ := Kd.R_ne HO_6.out BK283.out (by decide); intro e_; exact h_ (by rw [e_]; rfl)) _; refine bu ?_; exact BK283.out⟩, ⟨by repeat (first | (with_reducible first | exact HB.out | apply ba | apply bn | apply bd | refine bt ?_ GB23.out | refine bt ?_ GE283.out) | exact HB.out)⟩⟩
            ·
             rw [if_neg c22] at H; exact absurd H (by simp)
           ·
            rw [if_neg c21] at H; exact absurd H (by simp)
          ·
           rw [if_neg c20] at H; exact absurd H (by simp)
         ·
          rw [if_neg c19] at H; exact absurd H (by simp)
        ·
         replace c18 := Bool.eq_false_iff.mpr c18; subst c18
         have H1 : (spec_Shed.l0 k1 t284 x6_1 (wrap64 (x7_1 + 1)) a0_0 l0_1 l0_2 l0_3) = some (r1, r2) := by rw [if_neg (show ¬ (false = true) by decide)] at H; exact H
         clear H; have H := H1; clear H1; have H' := Az H; clear H
         go_wp2
         go_roundg k1
         case measure => have := HK1.out; omega
         case rel => exact ⟨(x6_1), (wrap64 (x7_1 + 1)), (by first | rfl | (simp; done) | (simp [*]; done)), H', ⟨by have := HK1.out; omega⟩, ⟨ru HO_4.out⟩, ⟨ru HO_6.out⟩, ⟨by refine bu ?_; exact BK283.out⟩, ⟨bz⟩⟩
       ·
        rw [if_neg c14] at H; exact absurd H (by simp)
      ·
       rw [if_neg c13] at H; have c13b0 : decide (x7_1 < (l0_1.length : Int)) = false := decide_eq_false c13; clear c13
       (first | rw [c13b0] | (simp only [i64_w, i32_w]; rw [c13b0]) | skip)
       by_cases c28 : 0 ≤ (l0_3.length : Int)
       ·
        rw [if_pos c28] at H; have c28b0 := eq_true c28; have c28b1 : decide (0 ≤ (l0_3.length : Int)) = true := decide_eq_true c28; clear c28
        by_cases c29 : ((l0_3.length : Int) : Int).toNat ≤ 281474976710656
        ·
         rw [if_pos c29] at H; have c29b0 := eq_true c29; have c29b1 : decide (((l0_3.length : Int) : Int).toNat ≤ 281474976710656) = true := decide_eq_true c29; clear c29; obtain ⟨y299, hy299⟩ : ∃ y_ : List Bool, y_ = (List.replicate ((l0_3.length : Int) : Int).toNat false) := ⟨_, rfl⟩
         replace H : (spec_Shed.l1 k1 t284 x6_1 y299 0 a0_0 l0_1 l0_2 l0_3) = some (r1, r2) := by have hy_ := hy299; exact yz
         have Ny299 := Az hy299; clear hy299; have H' := Az H; clear H; obtain ⟨hcz30_0, hcz30_1, hcz30_2, hcz30_3⟩ := bc4 BK283.out; obtain ⟨hfz30_0, hfz30_1, hfz30_2, hfz30_3⟩ := bf4_ BK283.out
         go_wp2_with (first | ((with_reducible refine gate_dst (N := 71) rfl ?_); refine Kd.R_make Kd.bool _ 4 rfl (N := 71) rfl 94 _ _ rfl (l0_3.length : Int) rfl rfl Try.underlying94 (.bool false) 1 info4 rfl (by decide) (by omega) false (ok := fun _ => True) (okp := fun _ => True) rfl (fun _ hk => hk) trivial oz (Nat.le_trans (Nat.mul_le_mul_right _ (oz : (l0_3.length : Int).toNat ≤ 281474976710656)) (by omega)) (Below.refl _ _) (Nat.le_refl _) ?_; intro v300 w31 ho32 hb hg_ hnew_; clear hg_ hnew_; (first | rw [← Ny299.out] at ho32 | (simp only [Int.reduceToNat] at ho32; rw [← Ny299.out] at ho32)); replace HO_4 := Az (Kd.R_below (ru HO_4.out) hb); replace HO_6 := Az (Kd.R_below (ru HO_6.out) hb); have HO301 := Az (Kd.R_lower ho32 (below_size bz)); replace BK283 := Az (blk_below (bu BK283.out) hb); replace HB := Az (below_step bz hb); clear hb ho32))
         go_loopg [9] k1 (fun kq v9 w' => ∃ (x6_2 : List Int) (x8_2 : List Bool) (x9_2 : Int), v9 = .int .i64 x9_2 ∧ Aside0 (spec_Shed.l1 kq t284 x6_2 x8_2 x9_2 a0_0 l0_1 l0_2 l0_3 = some (r1, r2)) ∧ Aside0 (kq ≤ k1) ∧ Aside0 (Kd.R (Kd.int .i64) 3 w' w.heap.size (fun k_ => some k_ ≠ (v289 : Value).ownBlock) v285 t284) ∧ Aside0 (Kd.R (Kd.int .i64) 3 w' w.heap.size (fun k_ => some k_ ≠ (v285 : Value).ownBlock) v289 x6_2) ∧ Aside0 (Kd.R Kd.bool 4 w' w.heap.size (fun _ => True) v300 x8_2) ∧ Aside0 (w'.heap[gb283]? = some (.cells #[.int .i64 a0_0, (.slice A0_1 l0_1.length c0_1), (.slice A0_2 l0_2.length c0_2), (.slice A0_3 l0_3.length c0_3)] 41 (0, 0))) ∧ Aside0 (Below w.heap.size w w'))
         case atStart => exact ⟨(x6_1), (y299), (0), (by first | rfl | (simp; done) | (simp [*]; done)), H', ⟨Nat.le_refl _⟩, ⟨ru HO_4.out⟩, ⟨ru HO_6.out⟩, ⟨ru HO301.out⟩, ⟨by refine bu ?_; exact BK283.out⟩, ⟨bz⟩⟩
         case round =>
          clear H'; (try clear c1); (try clear q1); (try clear c2); (try clear p2); (try clear q2); (try clear hx2); (try clear hf2); (try clear c3); (try clear p6); (try clear c7); (try clear c8); (try clear c8b0); (try clear c8b1); (try clear c9); (try clear c9b0); (try clear c9b1); (try clear c13); (try clear c13b0); (try clear c14); (try clear c14b0); (try clear q17); (try clear c18); (try clear c19); (try clear c19b0); (try clear c20); (try clear c20b0); (try clear c21); (try clear c21b0); (try clear c22); (try clear c22b0); (try clear p23); (try clear q23); (try clear hx23); (try clear hf23); (try clear c28); (try clear c28b0); (try clear c28b1); (try clear c29); (try clear c29b0); (try clear c29b1); (try clear p29); (try clear q29); (try clear hx29); (try clear c32); (try clear hcz10_0); (try clear hcz10_1); (try clear hcz10_2); (try clear hcz10_3); (try clear hcz16_0); (try clear hcz16_1); (try clear hcz16_2); (try clear hcz16_3); (try clear hcz30_0); (try clear hcz30_1); (try clear hcz30_2); (try clear hcz30_3); (try clear hcz5_0); (try clear hcz5_1); (try clear hcz5_2); (try clear hcz5_3); (try clear hfz10_0); (try clear hfz10_1); (try clear hfz10_2); (try clear hfz10_3); (try clear hfz16_0); (try clear hfz16_1); (try clear hfz16_2); (try clear hfz16_3); (try clear hfz30_0); (try clear hfz30_1); (try clear hfz30_2); (try clear hfz30_3); (try clear hfz5_0); (try clear hfz5_1); (try clear hfz5_2); (try clear hfz5_3); (try clear hx23_0); (try clear hx291_0); (try clear hx291_1); (try clear hx291_2); (try clear hx292_0); (try clear hx292_1); (try clear hx292_2); (try clear hx293_0); (try clear hx294_0); (try clear hx294_1); (try clear hx294_2); (try clear hx295_0); (try clear hx296_0); (try clear hx297_0); (try clear hx297_1); (try clear hx297_2); (try clear p2); (try clear p23); (try clear p291); (try clear p292); (try clear p293); (try clear p294); (try clear p295); (try clear p296); (try clear p297); (try clear q23); (try clear q291); (try clear q292); (try clear q293); (try clear q294); (try clear q295); (try clear q296); (try clear q297); obtain ⟨x6_2, x8_2, x9_2, rfl, HA, HK2, HO_4, HO_6, HO_8, BK283, HB⟩ := hrel
          cases gk with
          | zero => exact absurd HA.out (by simp [spec_Shed.l1])
          | succ k2 =>
           have H := HA.out; clear HA; simp only [spec_Shed.l1] at H
           by_cases c33 : x9_2 ≤ 9
           ·
            rw [if_pos c33] at H; have c33b0 : decide (x9_2 ≤ 9) = true := decide_eq_true c33; clear c33; have H' := Az H; clear H
            go_wp2
            go_loopg [10] k2 (fun kq v10 w' => ∃ (x6_3 : List Int) (x8_3 : List Bool) (x10_3 : Int), v10 = .int .i64 x10_3 ∧ Aside0 (spec_Shed.l2 kq t284 x6_3 x8_3 x9_2 x10_3 a0_0 l0_1 l0_2 l0_3 = some (r1, r2)) ∧ Aside0 (kq ≤ k2) ∧ Aside0 (Kd.R (Kd.int .i64) 3 w' w.heap.size (fun k_ => some k_ ≠ (v289 : Value).ownBlock) v285 t284) ∧ Aside0 (Kd.R (Kd.int .i64) 3 w' w.heap.size (fun k_ => some k_ ≠ (v285 : Value).ownBlock) v289 x6_3) ∧ Aside0 (Kd.R Kd.bool 4 w' w.heap.size (fun _ => True) v300 x8_3) ∧ Aside0 (w'.heap[gb283]? = some (.cells #[.int .i64 a0_0, (.slice A0_1 l0_1.length c0_1), (.slice A0_2 l0_2.length c0_2), (.slice A0_3 l0_3.length c0_3)] 41 (0, 0))) ∧ Aside0 (Below w.heap.size w w'))
            case atStart => exact ⟨(x6_2), (x8_2), (0), (by first | rfl | (simp; done) | (simp [*]; done)), H', ⟨Nat.le_refl _⟩, ⟨ru HO_4.out⟩, ⟨ru HO_6.out⟩, ⟨ru HO_8.out⟩, ⟨by refine bu ?_; exact BK283.out⟩, ⟨bz⟩⟩
            case round =>
             clear H'; (try clear c1); (try clear q1); (try clear c2); (try clear p2); (try clear q2); (try clear hx2); (try clear hf2); (try clear c3); (try clear p6); (try clear c7); (try clear c8); (try clear c8b0); (try clear c8b1); (try clear c9); (try clear c9b0); (try clear c9b1); (try clear c13); (try clear c13b0); (try clear c14); (try clear c14b0); (try clear q17); (try clear c18); (try clear c19); (try clear c19b0); (try clear c20); (try clear c20b0); (try clear c21); (try clear c21b0); (try clear c22); (try clear c22b0); (try clear p23); (try clear q23); (try clear hx23); (try clear hf23); (try clear c28); (try clear c28b0); (try clear c28b1); (try clear c29); (try clear c29b0); (try clear c29b1); (try clear p29); (try clear q29); (try clear hx29); (try clear c32); (try clear c33); (try clear c33b0); (try clear hcz10_0); (try clear hcz10_1); (try clear hcz10_2); (try clear hcz10_3); (try clear hcz16_0); (try clear hcz16_1); (try clear hcz16_2); (try clear hcz16_3); (try clear hcz30_0); (try clear hcz30_1); (try clear hcz30_2); (try clear hcz30_3); (try clear hcz5_0); (try clear hcz5_1); (try clear hcz5_2); (try clear hcz5_3); (try clear hfz10_0); (try clear hfz10_1); (try clear hfz10_2); (try clear hfz10_3); (try clear hfz16_0); (try clear hfz16_1); (try clear hfz16_2); (try clear hfz16_3); (try clear hfz30_0); (try clear hfz30_1); (try clear hfz30_2); (try clear hfz30_3); (try clear hfz5_0); (try clear hfz5_1); (try clear hfz5_2); (try clear hfz5_3); (try clear hx23_0); (try clear hx291_0); (try clear hx291_1); (try clear hx291_2); (try clear hx292_0); (try clear hx292_1); (try clear hx292_2); (try clear hx293_0); (try clear hx294_0); (try clear hx294_1); (try clear hx294_2); (try clear hx295_0); (try clear hx296_0); (try clear hx297_0); (try clear hx297_1); (try clear hx297_2); (try clear p2); (try clear p23); (try clear p29); (try clear p291); (try clear p292); (try clear p293); (try clear p294); (try clear p295); (try clear p296); (try clear p297); (try clear p6); (try clear q1); (try clear q17); (try clear q2); (try clear q23); (try clear q29); (try clear q291); (try clear q292); (try clear q293); (try clear q294); (try clear q295); (try clear q296); (try clear q297); obtain ⟨x6_3, x8_3, x10_3, rfl, HA, HK3, HO_4, HO_6, HO_8, BK283, HB⟩ := hrel
             cases gk with
             | zero => exact absurd HA.out (by simp [spec_Shed.l2])
             | succ k3 =>
              have H := HA.out; clear HA; simp only [spec_Shed.l2] at H
              by_cases c34 : x10_3 < (l0_3.length : Int)
              ·
               rw [if_pos c34] at H; have c34b0 : decide (x10_3 < (l0_3.length : Int)) = true := decide_eq_true c34; clear c34
               by_cases c35 : 0 ≤ x10_3
               ·
                rw [if_pos c35] at H; have c35b0 : decide (0 ≤ x10_3) = true := decide_eq_true c35; clear c35
                by_cases c36 : ((rd_T59 l0_3 x10_3).f2) = x9_2
                ·
                 rw [if_pos c36] at H; have c36b0 : (((rd_T59 l0_3 x10_3).f2) == x9_2) = true := beq_iff_eq.mpr c36; have c36b1 : (((rd_T59 l0_3 x10_3).f2) != x9_2) = false := bne_eq_false_iff_eq.mpr c36; clear c36
                 by_cases c37 : 0 ≤ ((rd_T59 l0_3 x10_3).f0)
                 ·
                  rw [if_pos c37] at H; have c37b0 : decide (0 ≤ ((rd_T59 l0_3 x10_3).f0)) = true := decide_eq_true c37; clear c37
                  by_cases c38 : ((rd_T59 l0_3 x10_3).f0) < (t284.length : Int)
                  ·
                   rw [if_pos c38] at H; have c38b0 : decide (((rd_T59 l0_3 x10_3).f0) < (t284.length : Int)) = true := decide_eq_true c38; clear c38
                   by_cases c39 : 0 ≤ (rd t284 ((rd_T59 l0_3 x10_3).f0))
                   ·
                    rw [if_pos c39] at H; have c39b0 : decide (0 ≤ (rd t284 ((rd_T59 l0_3 x10_3).f0))) = true := decide_eq_true c39; clear c39
                    by_cases c40 : (rd t284 ((rd_T59 l0_3 x10_3).f0)) < (x6_3.length : Int)
                    ·
                     rw [if_pos c40] at H; have c40b0 : decide ((rd t284 ((rd_T59 l0_3 x10_3).f0)) < (x6_3.length : Int)) = true := decide_eq_true c40; clear c40; have HC41 := Az H; clear H; obtain ⟨hcz42_0, hcz42_1, hcz42_2, hcz42_3⟩ := bc4 BK283.out; obtain ⟨hfz42_0, hfz42_1, hfz42_2, hfz42_3⟩ := bf4_ BK283.out; have p302 : 0 ≤ (x10_3 : Int) := oz; have q302 : x10_3 < (l0_3.length : Int) := oz; obtain ⟨ad302, e302, hx302_0, hx302_1, hx302_2⟩ := at_T59 HR0_3.out x10_3 p302 q302
                     cases e302
                     replace hx302_0 := pw_cell_below HB.out hx302_0; replace hx302_1 := pw_cell_below HB.out hx302_1; replace hx302_2 := pw_cell_below HB.out hx302_2; replace p302 := eq_true p302; replace q302 := eq_true q302
                     try go_wp2_with (first | ((with_reducible refine gate_dst (N := 11) rfl ?_); refine box_event ?hg (N := 11) ?hd (cs := #[.int .i64 0, .int .i64 0, .int .i64 0]) (t := 59) ?hr ?_; (case hd => rfl); (case hg => rfl); (case hr => first | (go_simp; done) | (go_simp; rfl)); intro gb303 hg w43 hbox hb; have n0_ := Az (Kd.R_below (ru HO_4.out) hb); have n1_ := Az (Kd.R_below (ru HO_6.out) hb); have n2_ := Az (Kd.R_below (ru HO_8.out) hb); have n3_ := Az (blk_below (bu BK283.out) hb); have n4_ := Az (below_step bz hb); have n5_ := Az (hbox); have n6_ := Az ((by rw [hg]; exact (below_size bz) : w.heap.size ≤ gb303)); have n7_ := n6_; have n8_ := Az ((by rw [hg]; exact Nat.ne_of_lt (blk_lt (g := gb283) (o := .cells #[.int .i64 a0_0, .slice A0_1 l0_1.length c0_1, .slice A0_2 l0_2.length c0_2, .slice (some ad302) l0_3.length c0_3] 41 (0, 0)) (bu BK283.out)) : gb283 ≠ gb303)); have n9_ := Az n8_.out.symm; clear HO_4; clear HO_6; clear HO_8; clear BK283; clear HB; have HO_4 := n0_; have HO_6 := n1_; have HO_8 := n2_; have BK283 := n3_; have HB := n4_; have BK303 := n5_; have GW303 := n6_; have GE303 := n7_; have NB283_303 := n8_; have NB303_283 := n9_; clear n0_ n1_ n2_ n3_ n4_ n5_ n6_ n7_ n8_ n9_; clear hb hbox hg; have hnb44 := NB303_283.out; have hnc44 := NB283_303.out; obtain ⟨hcz45_0, hcz45_1, hcz45_2⟩ := bc3 BK303.out; obtain ⟨hfz45_0, hfz45_1, hfz45_2⟩ := bf3_ BK303.out))
                     have n0_ : Aside0 (Kd.R (Kd.int .i64) 3 (((w43.setCell ⟨gb303, 0, none⟩ (.int .i64 ((rd_T59 l0_3 x10_3).f0))).setCell ⟨gb303, 1, none⟩ (.int .i64 ((rd_T59 l0_3 x10_3).f1))).setCell ⟨gb303, 2, none⟩ (.int .i64 ((rd_T59 l0_3 x10_3).f2))) w.heap.size (fun k_ => some k_ ≠ (v289 : Value).ownBlock) v285 t284) := ⟨by (with_reducible repeat (first | apply Kd.R_alloc | apply Kd.R_drewN | apply Kd.R_drew)); exact Kd.R_mono (Kd.R_far (p := ⟨gb303, 2, none⟩) (Kd.R_far (p := ⟨gb303, 1, none⟩) (Kd.R_far (p := ⟨gb303, 0, none⟩) (Kd.R_types HO_4.out BK303.out (by decide)) (fun _ hk => hk.2) (.int .i64 ((rd_T59 l0_3 x10_3).f0))) (fun _ hk => hk.2) (.int .i64 ((rd_T59 l0_3 x10_3).f1))) (fun _ hk => hk.2) (.int .i64 ((rd_T59 l0_3 x10_3).f2))) (fun _ hk => hk.1)⟩; have n1_ : Aside0 (Kd.R (Kd.int .i64) 3 (((w43.setCell ⟨gb303, 0, none⟩ (.int .i64 ((rd_T59 l0_3 x10_3).f0))).setCell ⟨gb303, 1, none⟩ (.int .i64 ((rd_T59 l0_3 x10_3).f1))).setCell ⟨gb303, 2, none⟩ (.int .i64 ((rd_T59 l0_3 x10_3).f2))) w.heap.size (fun k_ => some k_ ≠ (v285 : Value).ownBlock) v289 x6_3) := ⟨by (with_reducible repeat (first | apply Kd.R_alloc | apply Kd.R_drewN | apply Kd.R_drew)); exact Kd.R_mono (Kd.R_far (p := ⟨gb303, 2, none⟩) (Kd.R_far (p := ⟨gb303, 1, none⟩) (Kd.R_far (p := ⟨gb303, 0, none⟩) (Kd.R_types HO_6.out BK303.out (by decide)) (fun _ hk => hk.2) (.int .i64 ((rd_T59 l0_3 x10_3).f0))) (fun _ hk => hk.2) (.int .i64 ((rd_T59 l0_3 x10_3).f1))) (fun _ hk => hk.2) (.int .i64 ((rd_T59 l0_3 x10_3).f2))) (fun _ hk => hk.1)⟩; have n2_ : Aside0 (Kd.R Kd.bool 4 (((w43.setCell ⟨gb303, 0, none⟩ (.int .i64 ((rd_T59 l0_3 x10_3).f0))).setCell ⟨gb303, 1, none⟩ (.int .i64 ((rd_T59 l0_3 x10_3).f1))).setCell ⟨gb303, 2, none⟩ (.int .i64 ((rd_T59 l0_3 x10_3).f2))) w.heap.size (fun _ => True) v300 x8_3) := ⟨by (with_reducible repeat (first | apply Kd.R_alloc | apply Kd.R_drewN | apply Kd.R_drew)); exact Kd.R_mono (Kd.R_far (p := ⟨gb303, 2, none⟩) (Kd.R_far (p := ⟨gb303, 1, none⟩) (Kd.R_far (p := ⟨gb303, 0, none⟩) (Kd.R_types HO_8.out BK303.out (by decide)) (fun _ hk => hk.2) (.int .i64 ((rd_T59 l0_3 x10_3).f0))) (fun _ hk => hk.2) (.int .i64 ((rd_T59 l0_3 x10_3).f1))) (fun _ hk => hk.2) (.int .i64 ((rd_T59 l0_3 x10_3).f2))) (fun _ hk => trivial)⟩; have n3_ : Aside0 ((((w43.setCell ⟨gb303, 0, none⟩ (.int .i64 ((rd_T59 l0_3 x10_3).f0))).setCell ⟨gb303, 1, none⟩ (.int .i64 ((rd_T59 l0_3 x10_3).f1))).setCell ⟨gb303, 2, none⟩ (.int .i64 ((rd_T59 l0_3 x10_3).f2))).heap[gb283]? = some (.cells #[.int .i64 a0_0, .slice A0_1 l0_1.length c0_1, .slice A0_2 l0_2.length c0_2, .slice (some ad302) l0_3.length c0_3] 41 (0, 0))) := ⟨by refine bu ?_; refine bf3 ?_ NB283_303.out; refine bu ?_; exact BK283.out⟩; have n4_ : Aside0 ((((w43.setCell ⟨gb303, 0, none⟩ (.int .i64 ((rd_T59 l0_3 x10_3).f0))).setCell ⟨gb303, 1, none⟩ (.int .i64 ((rd_T59 l0_3 x10_3).f1))).setCell ⟨gb303, 2, none⟩ (.int .i64 ((rd_T59 l0_3 x10_3).f2))).heap[gb303]? = some (.cells #[.int .i64 ((rd_T59 l0_3 x10_3).f0), .int .i64 ((rd_T59 l0_3 x10_3).f1), .int .i64 ((rd_T59 l0_3 x10_3).f2)] 59 (0, 0))) := ⟨by refine bu ?_; refine blk_put (cs := #[.int .i64 ((rd_T59 l0_3 x10_3).f0), .int .i64 ((rd_T59 l0_3 x10_3).f1), .int .i64 0]) ?_ 2 _ rfl; refine bu ?_; refine blk_put (cs := #[.int .i64 ((rd_T59 l0_3 x10_3).f0), .int .i64 0, .int .i64 0]) ?_ 1 _ rfl; refine bu ?_; refine blk_put (cs := #[.int .i64 0, .int .i64 0, .int .i64 0]) ?_ 0 _ rfl; refine bu ?_; exact BK303.out⟩; have n5_ : Aside0 (Below w.heap.size w (((w43.setCell ⟨gb303, 0, none⟩ (.int .i64 ((rd_T59 l0_3 x10_3).f0))).setCell ⟨gb303, 1, none⟩ (.int .i64 ((rd_T59 l0_3 x10_3).f1))).setCell ⟨gb303, 2, none⟩ (.int .i64 ((rd_T59 l0_3 x10_3).f2)))) := ⟨bz⟩
                     (try (have hsd_ : ∀ (W_ : World) (n_ : Nat) (a_ : Addr) (v_ : Value), (W_.drewN n_).setCell a_ v_ = (W_.setCell a_ v_).drewN n_ := fun _ _ _ _ => rfl); simp only [hsd_]; clear hsd_)
                     (try clear HO_4); (try clear HO_6); (try clear HO_8); (try clear BK283); (try clear BK303); (try clear HB); generalize (((w43.setCell ⟨gb303, 0, none⟩ (.int .i64 ((rd_T59 l0_3 x10_3).f0))).setCell ⟨gb303, 1, none⟩ (.int .i64 ((rd_T59 l0_3 x10_3).f1))).setCell ⟨gb303, 2, none⟩ (.int .i64 ((rd_T59 l0_3 x10_3).f2))) = w46 at n0_ n1_ n2_ n3_ n4_ n5_ ⊢; have HO_4 := n0_; have HO_6 := n1_; have HO_8 := n2_; have BK283 := n3_; have BK303 := n4_; have HB := n5_; clear n0_ n1_ n2_ n3_ n4_ n5_; replace HO_4 := Az (Kd.R_drew HO_4.out); replace HO_6 := Az (Kd.R_drew HO_6.out); replace HO_8 := Az (Kd.R_drew HO_8.out); replace BK283 := Az (blk_drew BK283.out); replace BK303 := Az (blk_drew BK303.out); replace HB := Az (below_drew1 HB.out); obtain ⟨Ao48, co48, eo48⟩ := Kd.R_slice HO_4.out
                     (first | subst eo48 | (injection eo48 with f1_ f2_ f3_; have f4_ := f1_.symm; have f5_ := f3_.symm; clear f1_ f2_ f3_; subst f4_; subst f5_))
                     have p304 : 0 ≤ (((rd_T59 l0_3 x10_3).f0) : Int) := oz; have q304 : ((rd_T59 l0_3 x10_3).f0) < (t284.length : Int) := oz; obtain ⟨ad304, e304, hx304_0⟩ := Kd.at_int (Kd.R_reads' HO_4.out).2.2 ((rd_T59 l0_3 x10_3).f0) p304 q304
                     cases e304
                     replace p304 := eq_true p304; replace q304 := eq_true q304; obtain ⟨Ao49, co49, eo49⟩ := Kd.R_slice HO_6.out
                     (first | subst eo49 | (injection eo49 with f1_ f2_ f3_; have f4_ := f1_.symm; have f5_ := f3_.symm; clear f1_ f2_ f3_; subst f4_; subst f5_))
                     have p305 : 0 ≤ ((rd t284 ((rd_T59 l0_3 x10_3).f0)) : Int) := oz; have q305 : (rd t284 ((rd_T59 l0_3 x10_3).f0)) < (x6_3.length : Int) := oz; obtain ⟨ad305, e305, hx305_0⟩ := Kd.at_int (Kd.R_reads' HO_6.out).2.2 (rd t284 ((rd_T59 l0_3 x10_3).f0)) p305 q305
                     cases e305
                     replace p305 := eq_true p305; replace q305 := eq_true q305; refine start_ (n := 17) (S := fun w' => w'.cell? ⟨gb303, 0, none⟩ = some (.int .i64 ((rd_T59 l0_3 x10_3).f0)) ∧ w'.cell? ⟨gb303, 1, none⟩ = some (.int .i64 ((rd_T59 l0_3 x10_3).f1)) ∧ w'.cell? ⟨gb303, 2, none⟩ = some (.int .i64 ((rd_T59 l0_3 x10_3).f2)) ∧ w'.cell? (ad304.add (((rd_T59 l0_3 x10_3).f0)).toNat) = some (.int .i64 (rd t284 ((rd_T59 l0_3 x10_3).f0))) ∧ w'.cell? (ad305.add ((rd t284 ((rd_T59 l0_3 x10_3).f0))).toNat) = some (.int .i64 (rd x6_3 (rd t284 ((rd_T59 l0_3 x10_3).f0))))) (ds := []) A10_32 (by kernel_rfl) rfl rfl ⟨(blk_cell BK303.out 0).trans rfl, (blk_cell BK303.out 1).trans rfl, (blk_cell BK303.out 2).trans rfl, hx304_0, hx305_0⟩ (fun hHeld => ?_); refine with_tabW spec_Shed.tab18 spec_Shed.bits18 (fun HT_ HW_ => ?_); generalize w46.drew = w47 at HO_4 HO_6 HO_8 BK283 BK303 HB hx304_0 hx305_0 hHeld ⊢; refine pz 0 88 A10_33 HT_.out ?_; refine pz 2 90 A10_34 HT_.out ?_; refine tz 1 89 A10_35 HT_.out HW_.out hHeld ?_
                     refine pz 3 91 A10_36 HT_.out ?_; refine pz 4 92 A10_37 HT_.out ?_; refine pz 5 93 A10_38 HT_.out ?_; refine pz 7 95 A10_39 HT_.out ?_; refine pz 8 96 A10_40 HT_.out ?_; refine pz 9 97 A10_41 HT_.out ?_; refine tz 6 94 A10_42 HT_.out HW_.out hHeld ?_
                     refine tz 10 98 A10_43 HT_.out HW_.out hHeld ?_
                     refine pz 11 99 A10_44 HT_.out ?_; refine tz 12 100 A10_45 HT_.out HW_.out hHeld ?_
                     refine pz 13 101 A10_46 HT_.out ?_; refine tz 14 102 A10_47 HT_.out HW_.out hHeld ?_
                     refine pz 15 103 A10_48 HT_.out ?_; refine pz 16 104 A10_49 HT_.out ?_; refine done_ (done_of HT_.out (by kernel_rfl)) ?_
                     go_upto_if 104 with (fail)
                     have H := HC41.out; clear HC41
                     by_cases c50 : ((rd_T59 l0_3 x10_3).f1) ≤ (rd x6_3 (rd t284 ((rd_T59 l0_3 x10_3).f0)))
                     ·
                      rw [if_pos c50] at H; have c50b0 : decide (((rd_T59 l0_3 x10_3).f1) ≤ (rd x6_3 (rd t284 ((rd_T59 l0_3 x10_3).f0)))) = true := decide_eq_true c50; clear c50
                      (first | rw [c50b0] | (simp only [i64_w, i32_w]; rw [c50b0]) | skip)
                      obtain ⟨y309, hy309⟩ : ∃ y_ : List Int, y_ = (x6_3.set ((rd t284 ((rd_T59 l0_3 x10_3).f0)) : Int).toNat (wrap64 ((rd x6_3 (rd t284 ((rd_T59 l0_3 x10_3).f0))) - ((rd_T59 l0_3 x10_3).f1)))) := ⟨_, rfl⟩
                      replace H : (if x10_3 < (x8_3.length : Int) then (spec_Shed.l2 k3 t284 y309 (x8_3.set (x10_3 : Int).toNat true) x9_2 (wrap64 (x10_3 + 1)) a0_0 l0_1 l0_2 l0_3) else (none)) = some (r1, r2) := by have hy_ := hy309; exact yz
                      have Ny309 := Az hy309; clear hy309
                      by_cases c52 : x10_3 < (x8_3.length : Int)
                      ·
                       rw [if_pos c52] at H; have c52b0 : decide (x10_3 < (x8_3.length : Int)) = true := decide_eq_true c52; clear c52; obtain ⟨y310, hy310⟩ : ∃ y_ : List Bool, y_ = (x8_3.set (x10_3 : Int).toNat true) := ⟨_, rfl⟩
                       replace H : (spec_Shed.l2 k3 t284 y309 y310 x9_2 (wrap64 (x10_3 + 1)) a0_0 l0_1 l0_2 l0_3) = some (r1, r2) := by have hy_ := hy310; exact yz
                       have Ny310 := Az hy310; clear hy310; have H' := Az H; clear H
                       try go_wp2
                       replace HO_4 := Az (Kd.R_drew HO_4.out); replace HO_6 := Az (Kd.R_drew HO_6.out); replace HO_8 := Az (Kd.R_drew HO_8.out); replace BK283 := Az (blk_drew BK283.out); replace BK303 := Az (blk_drew BK303.out); replace HB := Az (below_drew1 HB.out); have p306 : 0 ≤ (((rd_T59 l0_3 x10_3).f0) : Int) := oz; have q306 : ((rd_T59 l0_3 x10_3).f0) < (t284.length : Int) := oz; obtain ⟨ad306, e306, hx306_0⟩ := Kd.at_int (Kd.R_reads' HO_4.out).2.2 ((rd_T59 l0_3 x10_3).f0) p306 q306; obtain rfl : ad304 = ad306 := (by injection e306); replace p306 := eq_true p306; replace q306 := eq_true q306; have p307 : 0 ≤ (((rd_T59 l0_3 x10_3).f0) : Int) := oz; have q307 : ((rd_T59 l0_3 x10_3).f0) < (t284.length : Int) := oz; obtain ⟨ad307, e307, hx307_0⟩ := Kd.at_int (Kd.R_reads' HO_4.out).2.2 ((rd_T59 l0_3 x10_3).f0) p307 q307; obtain rfl : ad304 = ad307 := (by injection e307); replace p307 := eq_true p307; replace q307 := eq_true q307; have p308 : 0 ≤ ((rd t284 ((rd_T59 l0_3 x10_3).f0)) : Int) := oz; have q308 : (rd t284 ((rd_T59 l0_3 x10_3).f0)) < (x6_3.length : Int) := oz; obtain ⟨ad308, e308, hx308_0⟩ := Kd.at_int (Kd.R_reads' HO_6.out).2.2 (rd t284 ((rd_T59 l0_3 x10_3).f0)) p308 q308; obtain rfl : ad305 = ad308 := (by injection e308); replace p308 := eq_true p308; replace q308 := eq_true q308; have p51 : 0 ≤ ((rd t284 ((rd_T59 l0_3 x10_3).f0)) : Int) := oz; have q51 : ((rd t284 ((rd_T59 l0_3 x10_3).f0)) : Int) < ((x6_3.length : Int) : Int) := oz; obtain ⟨go51, co51, eo51, gb51, gl51, cl51, HG51⟩ := Kd.R_form HO_6.out (by omega)
                       (first | cases eo51 | (injection eo51 with ea_ en_ ec_; (first | subst ea_ | (injection ea_ with ea_; subst ea_)); subst ec_; clear en_))
                       have GB51 := Az gb51; have GG51 := Az HG51; clear gb51 gl51 HG51
                       (first | simp only [add_plain] at hx305_0 | skip)
                       (first | simp only [add_plain] at hx308_0 | skip)
                       obtain ⟨hx51_0, hf51_0⟩ := Kd.R_celln 0 HO_6.out ((rd t284 ((rd_T59 l0_3 x10_3).f0)) : Int) p51 q51; replace p51 := eq_true p51; replace q51 := eq_true q51; have HP55 := Kd.R_putn HO_6.out ((rd t284 ((rd_T59 l0_3 x10_3).f0)) : Int) (wrap64 ((rd x6_3 (rd t284 ((rd_T59 l0_3 x10_3).f0))) - ((rd_T59 l0_3 x10_3).f1))); rw [← Ny309.out] at HP55; have HQ55 := Az HP55; clear HP55; refine start_ (n := 19) (S := fun w' => w'.cell? ⟨gb303, 0, none⟩ = some (.int .i64 ((rd_T59 l0_3 x10_3).f0)) ∧ w'.cell? ⟨gb303, 1, none⟩ = some (.int .i64 ((rd_T59 l0_3 x10_3).f1)) ∧ w'.cell? ⟨gb303, 2, none⟩ = some (.int .i64 ((rd_T59 l0_3 x10_3).f2)) ∧ w'.cell? (ad304.add (((rd_T59 l0_3 x10_3).f0)).toNat) = some (.int .i64 (rd t284 ((rd_T59 l0_3 x10_3).f0))) ∧ w'.cell? (ad304.add (((rd_T59 l0_3 x10_3).f0)).toNat) = some (.int .i64 (rd t284 ((rd_T59 l0_3 x10_3).f0))) ∧ w'.cell? ⟨go51, ((rd t284 ((rd_T59 l0_3 x10_3).f0))).toNat, none⟩ = some (.int .i64 (rd x6_3 (rd t284 ((rd_T59 l0_3 x10_3).f0))))) (ds := [18]) A10_50 (by kernel_rfl) rfl rfl ⟨(blk_cell BK303.out 0).trans rfl, (blk_cell BK303.out 1).trans rfl, (blk_cell BK303.out 2).trans rfl, hx306_0, hx307_0, hx308_0⟩ (fun hHeld => ?_); refine with_tabW spec_Shed.tab19 spec_Shed.bits19 (fun HT_ HW_ => ?_); generalize w47.drew = w54 at HO_4 HO_6 HO_8 BK283 BK303 HB GG51 HQ55 hf51_0 hx305_0 hx306_0 hx307_0 hx308_0 hx51_0 hHeld ⊢; refine pz 0 105 A10_51 HT_.out ?_; refine pz 1 106 A10_52 HT_.out ?_; refine pz 2 107 A10_53 HT_.out ?_; refine pz 6 111 A10_54 HT_.out ?_; refine pz 7 112 A10_55 HT_.out ?_; refine pz 8 113 A10_56 HT_.out ?_; refine pz 14 119 A10_57 HT_.out ?_; refine tz 3 108 A10_58 HT_.out HW_.out hHeld ?_
                       refine pz 4 109 A10_59 HT_.out ?_; refine tz 5 110 A10_60 HT_.out HW_.out hHeld ?_
                       refine tz 9 114 A10_61 HT_.out HW_.out hHeld ?_
                       refine pz 10 115 A10_62 HT_.out ?_; refine tz 11 116 A10_63 HT_.out HW_.out hHeld ?_
                       refine pz 12 117 A10_64 HT_.out ?_; refine tz 13 118 A10_65 HT_.out HW_.out hHeld ?_
                       refine tz 15 120 A10_66 HT_.out HW_.out hHeld ?_
                       refine pz 16 121 A10_67 HT_.out ?_; refine pz 17 122 A10_68 HT_.out ?_; refine last_ (i := 18) (N := none) A10_69 rfl rfl (one_of HT_.out (by kernel_rfl)) (by decide) (fun K hK => ?_); refine skip_ (w1 := ?_) (by rfl) rfl ?_ ?_; rotate_left
                       ·
                        go_simp
                        rfl
                       refine hK.out _ _ ?_; clear hK K; refine done_ (done_of HT_.out (by kernel_rfl)) ?_; have n0_ : Aside0 (Kd.R (Kd.int .i64) 3 (w54.setCell ⟨go51, ((rd t284 ((rd_T59 l0_3 x10_3).f0)) : Int).toNat, none⟩ (.int .i64 (wrap64 ((rd x6_3 (rd t284 ((rd_T59 l0_3 x10_3).f0))) - ((rd_T59 l0_3 x10_3).f1))))) w.heap.size (fun k_ => some k_ ≠ (.slice (some ⟨go51, 0, none⟩) x6_3.length co49 : Value).ownBlock) (.slice (some ad304) t284.length co48) t284) := ⟨by (with_reducible repeat (first | apply Kd.R_alloc | apply Kd.R_drewN | apply Kd.R_drew)); exact Kd.R_mono (Kd.R_far (p := ⟨go51, ((rd t284 ((rd_T59 l0_3 x10_3).f0)) : Int).toNat, none⟩) (Kd.R_mono HO_4.out (fun k_ hk => (⟨hk, fun e_ => hk (by rw [e_]; rfl)⟩ : _ ∧ k_ ≠ go51))) (fun _ hk => hk.2) (.int .i64 (wrap64 ((rd x6_3 (rd t284 ((rd_T59 l0_3 x10_3).f0))) - ((rd_T59 l0_3 x10_3).f1))))) (fun _ hk => hk.1)⟩; have n1_ : Aside0 (Kd.R (Kd.int .i64) 3 (w54.setCell ⟨go51, ((rd t284 ((rd_T59 l0_3 x10_3).f0)) : Int).toNat, none⟩ (.int .i64 (wrap64 ((rd x6_3 (rd t284 ((rd_T59 l0_3 x10_3).f0))) - ((rd_T59 l0_3 x10_3).f1))))) w.heap.size (fun k_ => some k_ ≠ (.slice (some ad304) t284.length co48 : Value).ownBlock) (.slice (some ⟨go51, 0, none⟩) x6_3.length co49) y309) := ⟨ru HQ55.out⟩; have n2_ : Aside0 (Kd.R Kd.bool 4 (w54.setCell ⟨go51, ((rd t284 ((rd_T59 l0_3 x10_3).f0)) : Int).toNat, none⟩ (.int .i64 (wrap64 ((rd x6_3 (rd t284 ((rd_T59 l0_3 x10_3).f0))) - ((rd_T59 l0_3 x10_3).f1))))) w.heap.size (fun _ => True) v300 x8_3) := ⟨by (with_reducible repeat (first | apply Kd.R_alloc | apply Kd.R_drewN | apply Kd.R_drew)); exact Kd.R_mono (Kd.R_far (p := ⟨go51, ((rd t284 ((rd_T59 l0_3 x10_3).f0)) : Int).toNat, none⟩) (Kd.R_types HO_8.out GG51.out (by decide)) (fun _ hk => hk.2) (.int .i64 (wrap64 ((rd x6_3 (rd t284 ((rd_T59 l0_3 x10_3).f0))) - ((rd_T59 l0_3 x10_3).f1))))) (fun _ hk => trivial)⟩; have n3_ : Aside0 ((w54.setCell ⟨go51, ((rd t284 ((rd_T59 l0_3 x10_3).f0)) : Int).toNat, none⟩ (.int .i64 (wrap64 ((rd x6_3 (rd t284 ((rd_T59 l0_3 x10_3).f0))) - ((rd_T59 l0_3 x10_3).f1))))).heap[gb283]? = some (.cells #[.int .i64 a0_0, .slice A0_1 l0_1.length c0_1, .slice A0_2 l0_2.length c0_2, .slice (some ad302) l0_3.length c0_3] 41 (0, 0))) := ⟨by refine bu ?_; refine blk_far ?_ (by have h_ := Kd.R_ne HO_6.out BK283.out (by decide); intro e_; exact h_ (by rw [e_]; rfl)) _; refine bu ?_; exact BK283.out⟩; have n4_ : Aside0 ((w54.setCell ⟨go51, ((rd t284 ((rd_T59 l0_3 x10_3).f0)) : Int).toNat, none⟩ (.int .i64 (wrap64 ((rd x6_3 (rd t284 ((rd_T59 l0_3 x10_3).f0))) - ((rd_T59 l0_3 x10_3).f1))))).heap[gb303]? = some (.cells #[.int .i64 ((rd_T59 l0_3 x10_3).f0), .int .i64 ((rd_T59 l0_3 x10_3).f1), .int .i64 ((rd_T59 l0_3 x10_3).f2)] 59 (0, 0))) := ⟨by refine bu ?_; refine blk_far ?_ (by have h_ := Kd.R_ne HO_6.out BK303.out (by decide); intro e_; exact h_ (by rw [e_]; rfl)) _; refine bu ?_; exact BK303.out⟩; have n5_ : Aside0 (Below w.heap.size w (w54.setCell ⟨go51, ((rd t284 ((rd_T59 l0_3 x10_3).f0)) : Int).toNat, none⟩ (.int .i64 (wrap64 ((rd x6_3 (rd t284 ((rd_T59 l0_3 x10_3).f0))) - ((rd_T59 l0_3 x10_3).f1)))))) := ⟨by repeat (first | (with_reducible first | exact HB.out | apply ba | apply bn | apply bd | refine bt ?_ GB51.out | refine bt ?_ GE283.out | refine bt ?_ GE303.out) | exact HB.out)⟩
                       (try (have hsd_ : ∀ (W_ : World) (n_ : Nat) (a_ : Addr) (v_ : Value), (W_.drewN n_).setCell a_ v_ = (W_.setCell a_ v_).drewN n_ := fun _ _ _ _ => rfl); simp only [hsd_]; clear hsd_)
                       (try clear HO_4); (try clear HO_6); (try clear HO_8); (try clear BK283); (try clear BK303); (try clear HB); generalize (w54.setCell ⟨go51, ((rd t284 ((rd_T59 l0_3 x10_3).f0)) : Int).toNat, none⟩ (.int .i64 (wrap64 ((rd x6_3 (rd t284 ((rd_T59 l0_3 x10_3).f0))) - ((rd_T59 l0_3 x10_3).f1))))) = w56 at n0_ n1_ n2_ n3_ n4_ n5_ ⊢; have HO_4 := n0_; have HO_6 := n1_; have HO_8 := n2_; have BK283 := n3_; have BK303 := n4_; have HB := n5_; clear n0_ n1_ n2_ n3_ n4_ n5_; have p53 : 0 ≤ (x10_3 : Int) := oz; have q53 : (x10_3 : Int) < ((x8_3.length : Int) : Int) := oz; obtain ⟨go53, co53, eo53, gb53, gl53, cl53, HG53⟩ := Kd.R_form HO_8.out (by omega)
                       (first | cases eo53 | (injection eo53 with ea_ en_ ec_; (first | subst ea_ | (injection ea_ with ea_; subst ea_)); subst ec_; clear en_))
                       have GB53 := Az gb53; have GG53 := Az HG53; clear gb53 gl53 HG53; obtain ⟨hx53_0, hf53_0⟩ := Kd.R_celln false HO_8.out (x10_3 : Int) p53 q53; replace p53 := eq_true p53; replace q53 := eq_true q53; obtain ⟨hy57_, hz57_⟩ := Kd.R_celln false HO_8.out (x10_3 : Int) oz oz; have HP57 := Kd.R_putg HO_8.out (x10_3 : Int) true
                       try go_wp2_with (first | ((with_reducible refine gate_store (t := 4) (p := 125) rfl ?_); refine store_event (t := 4) (p := 125) (v := ?vo_w58) (w1 := (w56.setCell ⟨go53, (x10_3 : Int).toNat, none⟩ (.bool true))) ?hg ?ho ?hn ?hr ?_; (case ho => rfl); (case hg => rfl); (case hn => rfl); (case hr => first | (go_simp; done) | (go_simp; rfl)); intro w58 hw; have hg : w56.grownBy w58 (some go53) := (by rw [hw]; exact HP57.2); have hp_ : Kd.R Kd.bool 4 w58 w.heap.size (fun _ => True) (.slice (some ⟨go53, 0, none⟩) x8_3.length co53) y310 := (by rw [hw, Ny310.out]; exact HP57.1); clear HP57; replace HO_4 := Az (Kd.R_over' (v := (.slice (some ⟨go53, 0, none⟩) x8_3.length co53)) (ru HO_4.out) (Kd.R_typed HO_8.out) (by decide) hg); replace HO_6 := Az (Kd.R_over' (v := (.slice (some ⟨go53, 0, none⟩) x8_3.length co53)) (ru HO_6.out) (Kd.R_typed HO_8.out) (by decide) hg); replace BK283 := Az (blk_grown (g := gb283) (o := .cells #[.int .i64 a0_0, .slice A0_1 l0_1.length c0_1, .slice A0_2 l0_2.length c0_2, .slice (some ad302) l0_3.length c0_3] 41 (0, 0)) (bu BK283.out) hg (Kd.R_ne HO_8.out BK283.out (by decide))); replace BK303 := Az (blk_grown (g := gb303) (o := .cells #[.int .i64 ((rd_T59 l0_3 x10_3).f0), .int .i64 ((rd_T59 l0_3 x10_3).f1), .int .i64 ((rd_T59 l0_3 x10_3).f2)] 59 (0, 0)) (bu BK303.out) hg (Kd.R_ne HO_8.out BK303.out (by decide))); replace HO_8 := Az (hp_); replace HB := Az ((by rw [hw]; exact below_set (HB.out) GB53.out : Below w.heap.size w w58)); clear hg hw hp_))
                       go_roundg k3
                       case measure => have := HK1.out; have := HK2.out; have := HK3.out; omega
                       case rel => exact ⟨(y309), (y310), (wrap64 (x10_3 + 1)), (by first | rfl | (simp; done) | (simp [*]; done)), H', ⟨by have := HK1.out; have := HK2.out; have := HK3.out; omega⟩, ⟨ru HO_4.out⟩, ⟨ru HO_6.out⟩, ⟨ru HO_8.out⟩, ⟨by refine bu ?_; exact BK283.out⟩, ⟨bz⟩⟩
                      ·
                       rw [if_neg c52] at H; exact absurd H (by simp)
                     ·
                      rw [if_neg c50] at H; have c50b0 : decide (((rd_T59 l0_3 x10_3).f1) ≤ (rd x6_3 (rd t284 ((rd_T59 l0_3 x10_3).f0)))) = false := decide_eq_false c50; clear c50
                      (first | rw [c50b0] | (simp only [i64_w, i32_w]; rw [c50b0]) | skip)
                      have H' := Az H; clear H
                      go_wp2
                      go_roundg k3
                      case measure => have := HK1.out; have := HK2.out; have := HK3.out; omega
                      case rel => exact ⟨(x6_3), (x8_3), (wrap64 (x10_3 + 1)), (by first | rfl | (simp; done) | (simp [*]; done)), H', ⟨by have := HK1.out; have := HK2.out; have := HK3.out; omega⟩, ⟨ru HO_4.out⟩, ⟨ru HO_6.out⟩, ⟨ru HO_8.out⟩, ⟨by refine bu ?_; exact BK283.out⟩, ⟨bz⟩⟩
                    ·
                     rw [if_neg c40] at H; exact absurd H (by simp)
                   ·
                    rw [if_neg c39] at H; exact absurd H (by simp)
                  ·
                   rw [if_neg c38] at H; exact absurd H (by simp)
                 ·
                  rw [if_neg c37] at H; exact absurd H (by simp)
                ·
                 rw [if_neg c36] at H; have c36b0 : (((rd_T59 l0_3 x10_3).f2) == x9_2) = false := beq_eq_false_iff_ne.mpr c36; have c36b1 : (((rd_T59 l0_3 x10_3).f2) != x9_2) = true := bne_iff_ne.mpr c36; have HC59 := Az H; clear H; obtain ⟨hcz60_0, hcz60_1, hcz60_2, hcz60_3⟩ := bc4 BK283.out; obtain ⟨hfz60_0, hfz60_1, hfz60_2, hfz60_3⟩ := bf4_ BK283.out; have p302 : 0 ≤ (x10_3 : Int) := oz; have q302 : x10_3 < (l0_3.length : Int) := oz; obtain ⟨ad302, e302, hx302_0, hx302_1, hx302_2⟩ := at_T59 HR0_3.out x10_3 p302 q302
                 cases e302
                 replace hx302_0 := pw_cell_below HB.out hx302_0; replace hx302_1 := pw_cell_below HB.out hx302_1; replace hx302_2 := pw_cell_below HB.out hx302_2; replace p302 := eq_true p302; replace q302 := eq_true q302
                 try go_wp2_with (first | ((with_reducible refine gate_dst (N := 11) rfl ?_); refine box_event ?hg (N := 11) ?hd (cs := #[.int .i64 0, .int .i64 0, .int .i64 0]) (t := 59) ?hr ?_; (case hd => rfl); (case hg => rfl); (case hr => first | (go_simp; done) | (go_simp; rfl)); intro gb303 hg w61 hbox hb; have n0_ := Az (Kd.R_below (ru HO_4.out) hb); have n1_ := Az (Kd.R_below (ru HO_6.out) hb); have n2_ := Az (Kd.R_below (ru HO_8.out) hb); have n3_ := Az (blk_below (bu BK283.out) hb); have n4_ := Az (below_step bz hb); have n5_ := Az (hbox); have n6_ := Az ((by rw [hg]; exact (below_size bz) : w.heap.size ≤ gb303)); have n7_ := n6_; have n8_ := Az ((by rw [hg]; exact Nat.ne_of_lt (blk_lt (g := gb283) (o := .cells #[.int .i64 a0_0, .slice A0_1 l0_1.length c0_1, .slice A0_2 l0_2.length c0_2, .slice (some ad302) l0_3.length c0_3] 41 (0, 0)) (bu BK283.out)) : gb283 ≠ gb303)); have n9_ := Az n8_.out.symm; clear HO_4; clear HO_6; clear HO_8; clear BK283; clear HB; have HO_4 := n0_; have HO_6 := n1_; have HO_8 := n2_; have BK283 := n3_; have HB := n4_; have BK303 := n5_; have GW303 := n6_; have GE303 := n7_; have NB283_303 := n8_; have NB303_283 := n9_; clear n0_ n1_ n2_ n3_ n4_ n5_ n6_ n7_ n8_ n9_; clear hb hbox hg; have hnb62 := NB303_283.out; have hnc62 := NB283_303.out; obtain ⟨hcz63_0, hcz63_1, hcz63_2⟩ := bc3 BK303.out; obtain ⟨hfz63_0, hfz63_1, hfz63_2⟩ := bf3_ BK303.out))
                 have n0_ : Aside0 (Kd.R (Kd.int .i64) 3 (((w61.setCell ⟨gb303, 0, none⟩ (.int .i64 ((rd_T59 l0_3 x10_3).f0))).setCell ⟨gb303, 1, none⟩ (.int .i64 ((rd_T59 l0_3 x10_3).f1))).setCell ⟨gb303, 2, none⟩ (.int .i64 ((rd_T59 l0_3 x10_3).f2))) w.heap.size (fun k_ => some k_ ≠ (v289 : Value).ownBlock) v285 t284) := ⟨by (with_reducible repeat (first | apply Kd.R_alloc | apply Kd.R_drewN | apply Kd.R_drew)); exact Kd.R_mono (Kd.R_far (p := ⟨gb303, 2, none⟩) (Kd.R_far (p := ⟨gb303, 1, none⟩) (Kd.R_far (p := ⟨gb303, 0, none⟩) (Kd.R_types HO_4.out BK303.out (by decide)) (fun _ hk => hk.2) (.int .i64 ((rd_T59 l0_3 x10_3).f0))) (fun _ hk => hk.2) (.int .i64 ((rd_T59 l0_3 x10_3).f1))) (fun _ hk => hk.2) (.int .i64 ((rd_T59 l0_3 x10_3).f2))) (fun _ hk => hk.1)⟩; have n1_ : Aside0 (Kd.R (Kd.int .i64) 3 (((w61.setCell ⟨gb303, 0, none⟩ (.int .i64 ((rd_T59 l0_3 x10_3).f0))).setCell ⟨gb303, 1, none⟩ (.int .i64 ((rd_T59 l0_3 x10_3).f1))).setCell ⟨gb303, 2, none⟩ (.int .i64 ((rd_T59 l0_3 x10_3).f2))) w.heap.size (fun k_ => some k_ ≠ (v285 : Value).ownBlock) v289 x6_3) := ⟨by (with_reducible repeat (first | apply Kd.R_alloc | apply Kd.R_drewN | apply Kd.R_drew)); exact Kd.R_mono (Kd.R_far (p := ⟨gb303, 2, none⟩) (Kd.R_far (p := ⟨gb303, 1, none⟩) (Kd.R_far (p := ⟨gb303, 0, none⟩) (Kd.R_types HO_6.out BK303.out (by decide)) (fun _ hk => hk.2) (.int .i64 ((rd_T59 l0_3 x10_3).f0))) (fun _ hk => hk.2) (.int .i64 ((rd_T59 l0_3 x10_3).f1))) (fun _ hk => hk.2) (.int .i64 ((rd_T59 l0_3 x10_3).f2))) (fun _ hk => hk.1)⟩; have n2_ : Aside0 (Kd.R Kd.bool 4 (((w61.setCell ⟨gb303, 0, none⟩ (.int .i64 ((rd_T59 l0_3 x10_3).f0))).setCell ⟨gb303, 1, none⟩ (.int .i64 ((rd_T59 l0_3 x10_3).f1))).setCell ⟨gb303, 2, none⟩ (.int .i64 ((rd_T59 l0_3 x10_3).f2))) w.heap.size (fun _ => True) v300 x8_3) := ⟨by (with_reducible repeat (first | apply Kd.R_alloc | apply Kd.R_drewN | apply Kd.R_drew)); exact Kd.R_mono (Kd.R_far (p := ⟨gb303, 2, none⟩) (Kd.R_far (p := ⟨gb303, 1, none⟩) (Kd.R_far (p := ⟨gb303, 0, none⟩) (Kd.R_types HO_8.out BK303.out (by decide)) (fun _ hk => hk.2) (.int .i64 ((rd_T59 l0_3 x10_3).f0))) (fun _ hk => hk.2) (.int .i64 ((rd_T59 l0_3 x10_3).f1))) (fun _ hk => hk.2) (.int .i64 ((rd_T59 l0_3 x10_3).f2))) (fun _ hk => trivial)⟩; have n3_ : Aside0 ((((w61.setCell ⟨gb303, 0, none⟩ (.int .i64 ((rd_T59 l0_3 x10_3).f0))).setCell ⟨gb303, 1, none⟩ (.int .i64 ((rd_T59 l0_3 x10_3).f1))).setCell ⟨gb303, 2, none⟩ (.int .i64 ((rd_T59 l0_3 x10_3).f2))).heap[gb283]? = some (.cells #[.int .i64 a0_0, .slice A0_1 l0_1.length c0_1, .slice A0_2 l0_2.length c0_2, .slice (some ad302) l0_3.length c0_3] 41 (0, 0))) := ⟨by refine bu ?_; refine bf3 ?_ NB283_303.out; refine bu ?_; exact BK283.out⟩; have n4_ : Aside0 ((((w61.setCell ⟨gb303, 0, none⟩ (.int .i64 ((rd_T59 l0_3 x10_3).f0))).setCell ⟨gb303, 1, none⟩ (.int .i64 ((rd_T59 l0_3 x10_3).f1))).setCell ⟨gb303, 2, none⟩ (.int .i64 ((rd_T59 l0_3 x10_3).f2))).heap[gb303]? = some (.cells #[.int .i64 ((rd_T59 l0_3 x10_3).f0), .int .i64 ((rd_T59 l0_3 x10_3).f1), .int .i64 ((rd_T59 l0_3 x10_3).f2)] 59 (0, 0))) := ⟨by refine bu ?_; refine blk_put (cs := #[.int .i64 ((rd_T59 l0_3 x10_3).f0), .int .i64 ((rd_T59 l0_3 x10_3).f1), .int .i64 0]) ?_ 2 _ rfl; refine bu ?_; refine blk_put (cs := #[.int .i64 ((rd_T59 l0_3 x10_3).f0), .int .i64 0, .int .i64 0]) ?_ 1 _ rfl; refine bu ?_; refine blk_put (cs := #[.int .i64 0, .int .i64 0, .int .i64 0]) ?_ 0 _ rfl; refine bu ?_; exact BK303.out⟩; have n5_ : Aside0 (Below w.heap.size w (((w61.setCell ⟨gb303, 0, none⟩ (.int .i64 ((rd_T59 l0_3 x10_3).f0))).setCell ⟨gb303, 1, none⟩ (.int .i64 ((rd_T59 l0_3 x10_3).f1))).setCell ⟨gb303, 2, none⟩ (.int .i64 ((rd_T59 l0_3 x10_3).f2)))) := ⟨bz⟩
                 (try (have hsd_ : ∀ (W_ : World) (n_ : Nat) (a_ : Addr) (v_ : Value), (W_.drewN n_).setCell a_ v_ = (W_.setCell a_ v_).drewN n_ := fun _ _ _ _ => rfl); simp only [hsd_]; clear hsd_)
                 (try clear HO_4); (try clear HO_6); (try clear HO_8); (try clear BK283); (try clear BK303); (try clear HB); generalize (((w61.setCell ⟨gb303, 0, none⟩ (.int .i64 ((rd_T59 l0_3 x10_3).f0))).setCell ⟨gb303, 1, none⟩ (.int .i64 ((rd_T59 l0_3 x10_3).f1))).setCell ⟨gb303, 2, none⟩ (.int .i64 ((rd_T59 l0_3 x10_3).f2))) = w64 at n0_ n1_ n2_ n3_ n4_ n5_ ⊢; have HO_4 := n0_; have HO_6 := n1_; have HO_8 := n2_; have BK283 := n3_; have BK303 := n4_; have HB := n5_; clear n0_ n1_ n2_ n3_ n4_ n5_; replace HO_4 := Az (Kd.R_drew HO_4.out); replace HO_6 := Az (Kd.R_drew HO_6.out); replace HO_8 := Az (Kd.R_drew HO_8.out); replace BK283 := Az (blk_drew BK283.out); replace BK303 := Az (blk_drew BK303.out); replace HB := Az (below_drew1 HB.out); refine start_ (n := 17) (S := fun w' => w'.cell? ⟨gb303, 0, none⟩ = some (.int .i64 ((rd_T59 l0_3 x10_3).f0)) ∧ w'.cell? ⟨gb303, 1, none⟩ = some (.int .i64 ((rd_T59 l0_3 x10_3).f1)) ∧ w'.cell? ⟨gb303, 2, none⟩ = some (.int .i64 ((rd_T59 l0_3 x10_3).f2))) (ds := []) A10_32 (by kernel_rfl) rfl rfl (bc3 BK303.out) (fun hHeld => ?_); refine with_tabW spec_Shed.tab18 spec_Shed.bits18 (fun HT_ HW_ => ?_); generalize w64.drew = w65 at HO_4 HO_6 HO_8 BK283 BK303 HB hHeld ⊢; refine pz 0 88 A10_33 HT_.out ?_; refine pz 2 90 A10_34 HT_.out ?_; refine tz 1 89 A10_35 HT_.out HW_.out hHeld ?_
                 refine pz 3 91 A10_36 HT_.out ?_; refine pz 4 92 A10_37 HT_.out ?_; refine pu 5 93 A10_38 HT_.out ?_
                 refine pu 6 94 A10_70 HT_.out ?_
                 refine pu 7 95 A10_71 HT_.out ?_
                 refine pu 8 96 A10_72 HT_.out ?_
                 refine pu 9 97 A10_42 HT_.out ?_
                 refine pu 10 98 A10_43 HT_.out ?_
                 refine pu 11 99 A10_44 HT_.out ?_
                 refine pu 12 100 A10_45 HT_.out ?_
                 refine pu 13 101 A10_46 HT_.out ?_
                 refine pu 14 102 A10_47 HT_.out ?_
                 refine pu 15 103 A10_48 HT_.out ?_
                 refine pz 16 104 A10_49 HT_.out ?_; refine done_ (done_of HT_.out (by kernel_rfl)) ?_
                 go_upto_if 104 with (fail)
                 have H := HC59.out; clear HC59; have H' := Az H; clear H
                 go_wp2
                 go_roundg k3
                 case measure => have := HK1.out; have := HK2.out; have := HK3.out; omega
                 case rel => exact ⟨(x6_3), (x8_3), (wrap64 (x10_3 + 1)), (by first | rfl | (simp; done) | (simp [*]; done)), H', ⟨by have := HK1.out; have := HK2.out; have := HK3.out; omega⟩, ⟨ru HO_4.out⟩, ⟨ru HO_6.out⟩, ⟨ru HO_8.out⟩, ⟨by refine bu ?_; exact BK283.out⟩, ⟨bz⟩⟩
               ·
                rw [if_neg c35] at H; exact absurd H (by simp)
              ·
               rw [if_neg c34] at H; have c34b0 : decide (x10_3 < (l0_3.length : Int)) = false := decide_eq_false c34; clear c34; have H' := Az H; clear H; obtain ⟨hcz66_0, hcz66_1, hcz66_2, hcz66_3⟩ := bc4 BK283.out; obtain ⟨hfz66_0, hfz66_1, hfz66_2, hfz66_3⟩ := bf4_ BK283.out
               go_wp2
               go_roundg k3
               case measure => have := HK1.out; have := HK2.out; have := HK3.out; omega
               case rel => exact ⟨(x6_3), (x8_3), (wrap64 (x9_2 + 1)), (by first | rfl | (simp; done) | (simp [*]; done)), H', ⟨by have := HK1.out; have := HK2.out; have := HK3.out; omega⟩, ⟨ru HO_4.out⟩, ⟨ru HO_6.out⟩, ⟨ru HO_8.out⟩, ⟨by refine bu ?_; exact BK283.out⟩, ⟨bz⟩⟩
           ·
            rw [if_neg c33] at H; have c33b0 : decide (x9_2 ≤ 9) = false := decide_eq_false c33; clear c33; obtain ⟨y311, hy311⟩ : ∃ y_ : List Int, y_ = (([] : List Int)) := ⟨_, rfl⟩
            replace H : (spec_Shed.l3 k2 x8_2 y311 0) = some (r1, r2) := by have hy_ := hy311; exact yz
            have Ny311 := Az hy311; clear hy311; have H' := Az H; clear H
            go_wp2_with (first | ((with_reducible refine gate_dst (N := 126) rfl ?_); refine Kd.R_lit (Kd.int .i64) _ 3 ?hg (N := 126) ?hd (xs := ([] : List Int)) (inner := []) (ok := fun _ => True) (okp := fun _ => True) ?hr ?hp (fun _ hk => hk) trivial (Below.refl _ _) (Nat.le_refl _) (by simp) ?_; (case hd => rfl); (case hg => rfl); (case hr => first | (go_simp; done) | (go_simp; rfl)); (case hp => exact (Reps.none _ _)); intro v312 w67 ho68 hb hg_ hnew_; clear hg_ hnew_; (first | rw [← Ny311.out] at ho68 | (simp only [Int.reduceToNat] at ho68; rw [← Ny311.out] at ho68)); replace HO_8 := Az (Kd.R_below (ru HO_8.out) hb); have HO313 := Az (Kd.R_lower (Kd.R_new' (Kd.R_new' ho68 (Kd.R_lt (ru HO_4.out))) (Kd.R_lt (ru HO_6.out))) (below_size bz)); replace HO_4 := Az (Kd.R_elder' (ru HO_4.out) (Kd.R_base ho68) hb); replace HO_6 := Az (Kd.R_elder' (ru HO_6.out) (Kd.R_base ho68) hb); replace BK283 := Az (blk_below (bu BK283.out) hb); replace HB := Az (below_step bz hb); clear hb ho68))
            go_loopg [12, 13] k2 (fun kq v12 v13 w' => ∃ (x12_3 : List Int) (x13_3 : Int), v13 = .int .i64 x13_3 ∧ Aside0 (spec_Shed.l3 kq x8_2 x12_3 x13_3 = some (r1, r2)) ∧ Aside0 (kq ≤ k2) ∧ Aside0 (Kd.R Kd.bool 4 w' w.heap.size (fun _ => True) v300 x8_2) ∧ Aside0 (Kd.R (Kd.int .i64) 3 w' w.heap.size (fun _ => True) v12 x12_3) ∧ Aside0 (w'.heap[gb283]? = some (.cells #[.int .i64 a0_0, (.slice A0_1 l0_1.length c0_1), (.slice A0_2 l0_2.length c0_2), (.slice A0_3 l0_3.length c0_3)] 41 (0, 0))) ∧ Aside0 (Below w.heap.size w w'))
            case atStart => exact ⟨(y311), (0), (by first | rfl | (simp; done) | (simp [*]; done)), H', ⟨Nat.le_refl _⟩, ⟨ru HO_8.out⟩, ⟨by (with_reducible repeat (first | apply Kd.R_alloc | apply Kd.R_drewN | apply Kd.R_drew)); exact Kd.R_mono HO313.out (fun _ hk => trivial)⟩, ⟨by refine bu ?_; exact BK283.out⟩, ⟨bz⟩⟩
            case round =>
             clear H'; (try clear p2); (try clear c3); (try clear p3); (try clear q3); (try clear hx3); (try clear c4); (try clear c5); (try clear p5); (try clear q5); (try clear hx5); (try clear hf5); (try clear c6); (try clear p6); (try clear p30); (try clear q30); (try clear hx30); (try clear c33); (try clear c33b0); (try clear c34); (try clear c34b0); (try clear c35); (try clear c36); (try clear c36b0); (try clear c36b1); (try clear c37); (try clear c38); (try clear c39); (try clear c40); (try clear c50); (try clear c50b0); (try clear p51); (try clear q51); (try clear hx51); (try clear hf51); (try clear c52); (try clear c52b0); (try clear p53); (try clear q53); (try clear hx53); (try clear hf53); (try clear c62); (try clear p64); (try clear hcz60_0); (try clear hcz60_1); (try clear hcz60_2); (try clear hcz60_3); (try clear hcz63_0); (try clear hcz63_1); (try clear hcz63_2); (try clear hcz66_0); (try clear hcz66_1); (try clear hcz66_2); (try clear hcz66_3); (try clear hfz60_0); (try clear hfz60_1); (try clear hfz60_2); (try clear hfz60_3); (try clear hfz63_0); (try clear hfz63_1); (try clear hfz63_2); (try clear hfz66_0); (try clear hfz66_1); (try clear hfz66_2); (try clear hfz66_3); (try clear hx302_0); (try clear hx302_1); (try clear hx302_2); (try clear hx305_0); (try clear hx306_0); (try clear hx307_0); (try clear hx308_0); (try clear hx51_0); (try clear hx53_0); (try clear p302); (try clear p306); (try clear p307); (try clear p308); (try clear p51); (try clear p53); (try clear q302); (try clear q306); (try clear q307); (try clear q308); (try clear q51); (try clear q53); obtain ⟨x12_3, x13_3, rfl, HA, HK3, HO_8, HO_12, BK283, HB⟩ := hrel
             cases gk with
             | zero => exact absurd HA.out (by simp [spec_Shed.l3])
             | succ k3 =>
              have H := HA.out; clear HA; simp only [spec_Shed.l3] at H
              by_cases c69 : x13_3 < (x8_2.length : Int)
              ·
               rw [if_pos c69] at H; have c69b0 : decide (x13_3 < (x8_2.length : Int)) = true := decide_eq_true c69; clear c69
               by_cases c70 : 0 ≤ x13_3
               ·
                rw [if_pos c70] at H; have c70b0 : decide (0 ≤ x13_3) = true := decide_eq_true c70; clear c70; have HC71 := Az H; clear H; obtain ⟨Ao72, co72, eo72⟩ := Kd.R_slice HO_8.out; subst eo72; have p314 : 0 ≤ (x13_3 : Int) := oz; have q314 : x13_3 < (x8_2.length : Int) := oz; obtain ⟨ad314, e314, hx314_0⟩ := Kd.at_bool (Kd.R_reads' HO_8.out).2.2 x13_3 p314 q314
                cases e314
                replace p314 := eq_true p314; replace q314 := eq_true q314
                go_upto_if 137 with (fail)
                have H := HC71.out; clear HC71; obtain ⟨bq73, hbq73⟩ : ∃ b_ : Bool, b_ = (rdOf false x8_2 x13_3) := ⟨_, rfl⟩
                replace H : (if bq73 = true then (spec_Shed.l3 k3 x8_2 x12_3 (wrap64 (x13_3 + 1))) else (if x12_3.length < 17592186044416 then (spec_Shed.l3 k3 x8_2 (x12_3 ++ [x13_3]) (wrap64 (x13_3 + 1))) else (none))) = some (r1, r2) := by rw [← hbq73] at H; exact H
                have Nbq73 := Az hbq73; clear hbq73
                (try rw [← Nbq73.out])
                by_cases c74 : bq73 = true
                ·
                 subst c74
                 have H1 : (spec_Shed.l3 k3 x8_2 x12_3 (wrap64 (x13_3 + 1))) = some (r1, r2) := by rw [if_pos rfl] at H; exact H
                 clear H; have H := H1; clear H1; have H' := Az H; clear H
                 go_wp2
                 go_roundg k3
                 case measure => have := HK1.out; have := HK2.out; have := HK3.out; omega
                 case rel => exact ⟨(x12_3), (wrap64 (x13_3 + 1)), (by first | rfl | (simp; done) | (simp [*]; done)), H', ⟨by have := HK1.out; have := HK2.out; have := HK3.out; omega⟩, ⟨ru HO_8.out⟩, ⟨ru HO_12.out⟩, ⟨by refine bu ?_; exact BK283.out⟩, ⟨bz⟩⟩
                ·
                 replace c74 := Bool.eq_false_iff.mpr c74; subst c74
                 have H1 : (if x12_3.length < 17592186044416 then (spec_Shed.l3 k3 x8_2 (x12_3 ++ [x13_3]) (wrap64 (x13_3 + 1))) else (none)) = some (r1, r2) := by rw [if_neg (show ¬ (false = true) by decide)] at H; exact H
                 clear H; have H := H1; clear H1
                 by_cases c75 : x12_3.length < 17592186044416
                 ·
                  rw [if_pos c75] at H; have LMc75 := Az c75; clear c75; obtain ⟨y315, hy315⟩ : ∃ y_ : List Int, y_ = (x12_3 ++ [x13_3]) := ⟨_, rfl⟩
                  replace H : (spec_Shed.l3 k3 x8_2 y315 (wrap64 (x13_3 + 1))) = some (r1, r2) := by have hy_ := hy315; exact yz
                  have Ny315 := Az hy315; clear hy315; have H' := Az H; clear H
                  go_wp2_with (first | ((with_reducible refine gate_builtin (b := .append) (xs := #[.tmp 138, .tmp 140]) rfl ?_); at_builtin; refine Kd.R_append (Kd.int .i64) (w0 := w) w.heap.size rfl (.tmp 138) (.tmp 140) 45 3 (.int .i64 0) 8 rfl Try.underlying45 info3 rfl (by decide) (by omega) u12 x12_3 x13_3 [.int .i64 x13_3] (fun _ => True) (fun _ => False) rfl rfl ?aP (fun _ hk => hk.elim) ?aF ?aO ?aB ?aS ?aL ?_; (case aP => exact rfl); (case aB => exact bz); (case aF => exact (fun _ _ => trivial)); (case aO => exact (ru HO_12.out)); (case aS => exact (below_size bz)); (case aL => have := LMc75.out; omega); intro v316 w76 ho hb hg hat; rw [← Ny315.out] at ho; replace HO_8 := Az (Kd.R_over' (ru HO_8.out) (Kd.R_typed (ru HO_12.out)) (by decide) hg); replace BK283 := Az (blk_grown (g := gb283) (o := .cells #[.int .i64 a0_0, .slice A0_1 l0_1.length c0_1, .slice A0_2 l0_2.length c0_2, .slice A0_3 l0_3.length c0_3] 41 (0, 0)) (bu BK283.out) hg (Kd.R_ne HO_12.out BK283.out (by decide))); replace HB := Az (hb); have HO317 := Az (ho); clear HO_12; clear ho hb hg hat))
                  go_roundg k3
                  case measure => have := HK1.out; have := HK2.out; have := HK3.out; omega
                  case rel => exact ⟨(y315), (wrap64 (x13_3 + 1)), (by first | rfl | (simp; done) | (simp [*]; done)), H', ⟨by have := HK1.out; have := HK2.out; have := HK3.out; omega⟩, ⟨ru HO_8.out⟩, ⟨ru HO317.out⟩, ⟨by refine bu ?_; exact BK283.out⟩, ⟨bz⟩⟩
                 ·
                  rw [if_neg c75] at H; exact absurd H (by simp)
               ·
                rw [if_neg c70] at H; exact absurd H (by simp)
              ·
               rw [if_neg c69] at H; have c69b0 : decide (x13_3 < (x8_2.length : Int)) = false := decide_eq_false c69; clear c69; simp only [Option.some.injEq, Prod.mk.injEq] at H; obtain ⟨rfl, rfl⟩ := H; obtain ⟨Ao77, co77, eo77⟩ := Kd.R_slice HO_8.out; subst eo77
               go_wp2
               go_ret2
               exact ⟨_, rz, ru HO_12.out, bz⟩
        ·
         rw [if_neg c29] at H; exact absurd H (by simp)
       ·
        rw [if_neg c28] at H; exact absurd H (by simp)
   ·
    rw [if_neg c9] at H; exact absurd H (by simp)
  ·
   rw [if_neg c8] at H; exact absurd H (by simp)
 ·
  replace c7 := Bool.eq_false_iff.mpr c7; subst c7
  have H1 : (some ((([] : List Int)), false)) = some (r1, r2) := by rw [if_neg (show ¬ (false = true) by decide)] at H; exact H
  clear H; have H := H1; clear H1; obtain ⟨y318, hy318⟩ : ∃ y_ : List Int, y_ = (([] : List Int)) := ⟨_, rfl⟩
  replace H : (some (y318, false)) = some (r1, r2) := by have hy_ := hy318; exact yz
  have Ny318 := Az hy318; clear hy318; simp only [Option.some.injEq, Prod.mk.injEq] at H; obtain ⟨rfl, rfl⟩ := H
  go_wp2_with (first | ((with_reducible refine gate_dst (N := 21) rfl ?_); refine Kd.R_lit (Kd.int .i64) _ 3 ?hg (N := 21) ?hd (xs := ([] : List Int)) (inner := []) (ok := fun _ => True) (okp := fun _ => True) ?hr ?hp (fun _ hk => hk) trivial (Below.refl _ _) (Nat.le_refl _) (by simp) ?_; (case hd => rfl); (case hg => rfl); (case hr => first | (go_simp; done) | (go_simp; rfl)); (case hp => exact (Reps.none _ _)); intro v319 w78 ho79 hb hg_ hnew_; clear hg_ hnew_; (first | rw [← Ny318.out] at ho79 | (simp only [Int.reduceToNat] at ho79; rw [← Ny318.out] at ho79)); have HO320 := Az (Kd.R_lower (Kd.R_new' ho79 (Kd.R_lt (ru HO286.out))) (below_size bz)); replace HO286 := Az (Kd.R_elder' (ru HO286.out) (Kd.R_base ho79) hb); replace BK283 := Az (blk_below (bu BK283.out) hb); replace HB := Az (below_step bz hb); clear hb ho79))
  go_ret2
  exact ⟨_, rz, by (with_reducible repeat (first | apply Kd.R_alloc | apply Kd.R_drewN | apply Kd.R_drew)); exact Kd.R_mono HO320.out (fun _ hk => trivial), bz⟩

end Go.Proofs.Ytbbfibokedlkkaa.PFnTied
