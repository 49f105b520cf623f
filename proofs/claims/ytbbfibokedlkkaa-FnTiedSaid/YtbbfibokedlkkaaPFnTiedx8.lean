/- Walks of the functions named below, by a program of the session over the kit's printer. -/
import Derived.Test.YtbbfibokedlkkaaPFnTiedx0
import Derived.Test.YtbbfibokedlkkaaPFnTiedx7
namespace Go.Proofs.Ytbbfibokedlkkaa.PFnTied
open Go.RowKit Go.Proofs.YtbbfibokedlkkaaW.PrintWords Go.Proofs.YtbbfibokedlkkaaW.PrintLast Go.Proofs.YtbbfibokedlkkaaW.PrintMore
attribute [local go_sem] max2_int min2_int max_two min_two max_three min_three max_four min_four   -- for this text's walks alone
set_option linter.unusedVariables false
set_option linter.unusedSimpArgs false
abbrev A8_0 := #[O,O,O,O,O,O,O,O,O,O,O,O,O,O,O,O,O,O,O,O,O,O,O,O,O,O,O,O,O,O,O,O,O,O,O]
abbrev A8_1 := #[I,O,O,O,O,O,O,O,O,O,O,O,O,O,O,O,O,O,O,O,O,O,O,O,O,O,O,O,O,O,O,O,O,O,O]
abbrev A8_2 := #[I,O,I,O,O,O,O,O,O,O,O,O,O,O,O,O,O,O,O,O,O,O,O,O,O,O,O,O,O,O,O,O,O,O,O]
abbrev A8_3 := #[I,O,I,O,O,O,I,O,O,O,O,O,O,O,O,O,O,O,O,O,O,O,O,O,O,O,O,O,O,O,O,O,O,O,O]
abbrev A8_4 := #[I,I,I,O,O,O,I,O,O,O,O,O,O,O,O,O,O,O,O,O,O,O,O,O,O,O,O,O,O,O,O,O,O,O,O]
abbrev A8_5 := #[I,I,I,I,O,O,I,O,O,O,O,O,O,O,O,O,O,O,O,O,O,O,O,O,O,O,O,O,O,O,O,O,O,O,O]
abbrev A8_6 := #[I,I,I,I,I,O,I,O,O,O,O,O,O,O,O,O,O,O,O,O,O,O,O,O,O,O,O,O,O,O,O,O,O,O,O]
abbrev A8_7 := #[I,I,I,I,I,I,I,O,O,O,O,O,O,O,O,O,O,O,O,O,O,O,O,O,O,O,O,O,O,O,O,O,O,O,O]
abbrev A8_8 := #[I,I,I,I,I,I,I,I,O,O,O,O,O,O,O,O,O,O,O,O,O,O,O,O,O,O,O,O,O,O,O,O,O,O,O]
abbrev A8_9 := #[I,I,I,I,I,I,I,I,I,O,O,O,O,O,O,O,O,O,O,O,O,O,O,O,O,O,O,O,O,O,O,O,O,O,O]
abbrev A8_10 := #[I,I,I,I,I,I,I,I,I,I,O,O,O,O,O,O,O,O,O,O,O,O,O,O,O,O,O,O,O,O,O,O,O,O,O]
abbrev A8_11 := #[I,I,I,I,I,I,I,I,I,I,I,O,O,O,O,O,O,O,O,O,O,O,O,O,O,O,O,O,O,O,O,O,O,O,O]
abbrev A8_12 := #[I,I,I,I,I,I,I,I,I,I,I,O,I,O,O,O,O,O,O,O,O,O,O,O,O,O,O,O,O,O,O,O,O,O,O]
abbrev A8_13 := #[I,I,I,I,I,I,I,I,I,I,I,O,I,O,O,O,I,O,O,O,O,O,O,O,O,O,O,O,O,O,O,O,O,O,O]
abbrev A8_14 := #[I,I,I,I,I,I,I,I,I,I,I,I,I,O,O,O,I,O,O,O,O,O,O,O,O,O,O,O,O,O,O,O,O,O,O]
abbrev A8_15 := #[I,I,I,I,I,I,I,I,I,I,I,I,I,I,O,O,I,O,O,O,O,O,O,O,O,O,O,O,O,O,O,O,O,O,O]
abbrev A8_16 := #[I,I,I,I,I,I,I,I,I,I,I,I,I,I,I,O,I,O,O,O,O,O,O,O,O,O,O,O,O,O,O,O,O,O,O]
abbrev A8_17 := #[I,I,I,I,I,I,I,I,I,I,I,I,I,I,I,I,I,O,O,O,O,O,O,O,O,O,O,O,O,O,O,O,O,O,O]
abbrev A8_18 := #[I,I,I,I,I,I,I,I,I,I,I,I,I,I,I,I,I,I,O,O,O,O,O,O,O,O,O,O,O,O,O,O,O,O,O]
abbrev A8_19 := #[I,I,I,I,I,I,I,I,I,I,I,I,I,I,I,I,I,I,I,O,O,O,O,O,O,O,O,O,O,O,O,O,O,O,O]
abbrev A8_20 := #[I,I,I,I,I,I,I,I,I,I,I,I,I,I,I,I,I,I,I,I,O,O,O,O,O,O,O,O,O,O,O,O,O,O,O]
abbrev A8_21 := #[I,I,I,I,I,I,I,I,I,I,I,I,I,I,I,I,I,I,I,I,I,O,O,O,O,O,O,O,O,O,O,O,O,O,O]
abbrev A8_22 := #[I,I,I,I,I,I,I,I,I,I,I,I,I,I,I,I,I,I,I,I,I,I,O,O,O,O,O,O,O,O,O,O,O,O,O]
abbrev A8_23 := #[I,I,I,I,I,I,I,I,I,I,I,I,I,I,I,I,I,I,I,I,I,I,O,I,O,O,O,O,O,O,O,O,O,O,O]
abbrev A8_24 := #[I,I,I,I,I,I,I,I,I,I,I,I,I,I,I,I,I,I,I,I,I,I,O,I,O,O,O,I,O,O,O,O,O,O,O]
abbrev A8_25 := #[I,I,I,I,I,I,I,I,I,I,I,I,I,I,I,I,I,I,I,I,I,I,O,I,O,O,O,I,O,I,O,O,O,O,O]
abbrev A8_26 := #[I,I,I,I,I,I,I,I,I,I,I,I,I,I,I,I,I,I,I,I,I,I,I,I,O,O,O,I,O,I,O,O,O,O,O]
abbrev A8_27 := #[I,I,I,I,I,I,I,I,I,I,I,I,I,I,I,I,I,I,I,I,I,I,I,I,I,O,O,I,O,I,O,O,O,O,O]
abbrev A8_28 := #[I,I,I,I,I,I,I,I,I,I,I,I,I,I,I,I,I,I,I,I,I,I,I,I,I,I,O,I,O,I,O,O,O,O,O]
abbrev A8_29 := #[I,I,I,I,I,I,I,I,I,I,I,I,I,I,I,I,I,I,I,I,I,I,I,I,I,I,I,I,O,I,O,O,O,O,O]
abbrev A8_30 := #[I,I,I,I,I,I,I,I,I,I,I,I,I,I,I,I,I,I,I,I,I,I,I,I,I,I,I,I,I,I,O,O,O,O,O]
abbrev A8_31 := #[I,I,I,I,I,I,I,I,I,I,I,I,I,I,I,I,I,I,I,I,I,I,I,I,I,I,I,I,I,I,I,O,O,O,O]
abbrev A8_32 := #[I,I,I,I,I,I,I,I,I,I,I,I,I,I,I,I,I,I,I,I,I,I,I,I,I,I,I,I,I,I,I,I,O,O,O]
abbrev A8_33 := #[I,I,I,I,I,I,I,I,I,I,I,I,I,I,I,I,I,I,I,I,I,I,I,I,I,I,I,I,I,I,I,I,I,O,O]
abbrev A8_34 := #[I,I,I,I,I,I,I,I,I,I,I,I,I,I,I,I,I,I,I,I,I,I,I,I,I,I,I,I,I,I,I,I,I,I,O]
abbrev A8_35 := #[I,I,I,I,I,I,I,I,I,I,I,I,I,I,I,I,I,I,I,I,I,I,I,I,I,I,I,I,I,I,I,I,I,I,I]
abbrev A8_36 := #[I,I,I,I,I,I,I,I,I,I,I,I,I,I,I,I,I,I,I,I,I,I,I,O,O,O,O,O,O,O,O,O,O,O,O]
abbrev A8_37 := #[I,I,I,I,I,I,I,I,I,I,I,I,I,I,I,I,I,I,I,I,I,I,I,I,O,O,O,O,O,O,O,O,O,O,O]
abbrev A8_38 := #[I,I,I,I,I,I,I,I,I,I,I,I,I,I,I,I,I,I,I,I,I,I,I,I,I,O,O,O,O,O,O,O,O,O,O]
abbrev A8_39 := #[I,I,I,I,I,I,I,I,I,I,I,I,I,I,I,I,I,I,I,I,I,I,I,I,I,I,O,O,O,O,O,O,O,O,O]
abbrev A8_40 := #[I,I,I,I,I,I,I,I,I,I,I,I,I,I,I,I,I,I,I,I,I,I,I,I,I,I,I,O,O,O,O,O,O,O,O]
abbrev A8_41 := #[I,I,I,I,I,I,I,I,I,I,I,I,I,I,I,I,I,I,I,I,I,I,I,I,I,I,I,I,O,O,O,O,O,O,O]
abbrev A8_42 := #[I,I,I,I,I,I,I,I,I,I,I,I,I,I,I,I,I,I,I,I,I,I,I,I,I,I,I,I,I,O,O,O,O,O,O]
abbrev A8_43 := #[I,I,I,I,I,I,I,I,I,I,I,I,O,O,O,O,O,O,O,O,O,O,O,O,O,O,O,O,O,O,O,O,O,O,O]
abbrev A8_44 := #[I,I,I,I,I,I,I,I,I,I,I,I,I,O,O,O,O,O,O,O,O,O,O,O,O,O,O,O,O,O,O,O,O,O,O]
abbrev A8_45 := #[I,I,I,I,I,I,I,I,I,I,I,I,I,I,O,O,O,O,O,O,O,O,O,O,O,O,O,O,O,O,O,O,O,O,O]
abbrev A8_46 := #[I,I,I,I,I,I,I,I,I,I,I,I,I,I,I,O,O,O,O,O,O,O,O,O,O,O,O,O,O,O,O,O,O,O,O]
abbrev A8_47 := #[I,I,I,I,I,I,I,I,I,I,I,I,I,I,I,I,O,O,O,O,O,O,O,O,O,O,O,O,O,O,O,O,O,O,O]

/-! ### spec_NetOk: function 15 -/
mutual
def spec_NetOk.j0 : Nat → Bool → Int → List (S57) → List (S55) → List (S59) → Option (Bool)
 | 0, _, _, _, _, _ => none
 | k + 1, x28, x245000, x245001, x245002, x245003 => if x28 = true then (some false) else (spec_NetOk.l0 k (wrap64 (x245000 - 1)) 0 x245000 x245001 x245002 x245003)
def spec_NetOk.l0 : Nat → Int → Int → Int → List (S57) → List (S55) → List (S59) → Option (Bool)
 | 0, _, _, _, _, _, _ => none
 | k + 1, x3, x4, x245000, x245001, x245002, x245003 => if x4 < (x245001.length : Int) then (if 0 ≤ x4 then ((spec_l1In.f ((rd_T57 x245001 x4).f0) 0 x3).bind fun t247 => (if t247 = true then ((spec_l1In.f ((rd_T57 x245001 x4).f1) 0 100000).bind fun t249 => (if t249 = true then (spec_NetOk.l0 k x3 (wrap64 (x4 + 1)) x245000 x245001 x245002 x245003) else (some false))) else (some false))) else (none)) else (spec_NetOk.l1 k x3 0 x245000 x245001 x245002 x245003)
def spec_NetOk.l1 : Nat → Int → Int → Int → List (S57) → List (S55) → List (S59) → Option (Bool)
 | 0, _, _, _, _, _, _ => none
 | k + 1, x3, x5, x245000, x245001, x245002, x245003 => if x5 < (x245002.length : Int) then (if 0 ≤ x5 then ((spec_l1In.f ((rd_T55 x245002 x5).f0) 0 x3).bind fun t251 => (if t251 = true then ((spec_l1In.f ((rd_T55 x245002 x5).f1) 0 x3).bind fun t253 => (if t253 = true then (if ((rd_T55 x245002 x5).f0) = ((rd_T55 x245002 x5).f1) then (some false) else (spec_NetOk.l1 k x3 (wrap64 (x5 + 1)) x245000 x245001 x245002 x245003)) else (some false))) else (some false))) else (none)) else (spec_NetOk.l2 k x3 0 x245000 x245001 x245002 x245003)
def spec_NetOk.l2 : Nat → Int → Int → Int → List (S57) → List (S55) → List (S59) → Option (Bool)
 | 0, _, _, _, _, _, _ => none
 | k + 1, x3, x6, x245000, x245001, x245002, x245003 => if x6 < (x245003.length : Int) then (if 0 ≤ x6 then ((spec_l1In.f ((rd_T59 x245003 x6).f0) 0 x3).bind fun t257 => (if t257 = true then ((spec_l1In.f ((rd_T59 x245003 x6).f1) 1 100000).bind fun t259 => (if t259 = true then ((spec_l1In.f ((rd_T59 x245003 x6).f2) 0 9).bind fun t261 => (if t261 = true then (spec_NetOk.l2 k x3 (wrap64 (x6 + 1)) x245000 x245001 x245002 x245003) else (some false))) else (some false))) else (some false))) else (none)) else (some true)
end
def spec_NetOk.f (k : Nat) (a0_0 : Int) (l0_1 : List (S57)) (l0_2 : List (S55)) (l0_3 : List (S59)) : Option (Bool) := (spec_l1In.f a0_0 1 8).bind fun t245 => (if t245 = true then (if (l0_1.length : Int) > 6 then (spec_NetOk.j0 k true a0_0 l0_1 l0_2 l0_3) else (if (l0_2.length : Int) > 16 then (spec_NetOk.j0 k true a0_0 l0_1 l0_2 l0_3) else (spec_NetOk.j0 k (decide ((l0_3.length : Int) > 40)) a0_0 l0_1 l0_2 l0_3))) else (spec_NetOk.j0 k true a0_0 l0_1 l0_2 l0_3))
def spec_NetOk.T12 : Bool × List (List Nat × List Nat) := (true, [([], []), ([0], [0]), ([], []), ([1, 2], [1, 2]), ([3], [3]), ([4], [4]), ([], []), ([5, 6], [5, 6]), ([7], [7]), ([8, 7], [8]), ([9], [9]), ([10, 9], [9, 10]), ([9], [9]), ([11, 12, 9], [9, 11, 12]), ([13, 9], [9, 13]), ([14, 9], [9, 14]), ([9], [9]), ([15, 16, 9, 9], [9, 15, 16]), ([17, 9], [9, 17]), ([9, 18], [9, 18]), ([19, 17], [19]), ([20], [20]), ([21, 20], [20, 21]), ([20], [20]), ([22, 23, 20], [20, 22, 23]), ([24, 20], [20, 24]), ([25, 20], [20, 25]), ([20], [20]), ([27, 20], [20, 27]), ([20], [20]), ([28, 29, 20], [20, 28, 29]), ([30, 20], [20, 30]), ([31, 20], [20, 31]), ([26, 32, 20], [20, 26, 32]), ([20, 33], [20, 33])])
def spec_NetOk.B12 : List Nat := [0, 1, 0, 7, 15, 31, 0, 127, 255, 511, 1023, 2047, 1023, 8191, 16383, 32767, 1023, 131071, 262143, 524287, 1048575, 2097151, 4194303, 2097151, 16777215, 33554431, 67108863, 2097151, 136314879, 2097151, 941621247, 2015363071, 4162846719, 8589934591, 17179869183]
theorem spec_NetOk.tab12 : rtab .any (opsOf Try.f15 12) = spec_NetOk.T12 := by kernel_rfl
theorem spec_NetOk.bits12 : waitsOk spec_NetOk.T12.2 spec_NetOk.B12 = true := by kernel_rfl
set_option maxHeartbeats 8000000 in
set_option maxRecDepth 100000 in
theorem spec_NetOk.calls (k : Nat) (a0_0 : Int) (A0_1 : Option Addr) (c0_1 : Nat) (l0_1 : List (S57)) (A0_2 : Option Addr) (c0_2 : Nat) (l0_2 : List (S55)) (A0_3 : Option Addr) (c0_3 : Nat) (l0_3 : List (S59)) (r : Bool) (w : World) (hr0_1 : Kd.C k57 w A0_1 l0_1.length l0_1) (hc0_1 : l0_1.length ≤ c0_1) (hr0_2 : Kd.C k55 w A0_2 l0_2.length l0_2) (hc0_2 : l0_2.length ≤ c0_2) (hr0_3 : Kd.C k59 w A0_3 l0_3.length l0_3) (hc0_3 : l0_3.length ≤ c0_3) (h : spec_NetOk.f k a0_0 l0_1 l0_2 l0_3 = some r) :
  Calls Try.prog 15 #[.agg #[.int .i64 a0_0, .slice A0_1 l0_1.length c0_1, .slice A0_2 l0_2.length c0_2, .slice A0_3 l0_3.length c0_3]] w fun e w' => e = .returned (.bool r) ∧ Below w.heap.size w w' := by
 have hu41 := Try.underlying41; have HR0_1 := Az hr0_1; have HC0_1 := Az hc0_1; clear hr0_1 hc0_1; have HR0_2 := Az hr0_2; have HC0_2 := Az hc0_2; clear hr0_2 hc0_2; have HR0_3 := Az hr0_3; have HC0_3 := Az hc0_3; clear hr0_3 hc0_3; have HB := Az (Below.refl w.heap.size w); have H : ((spec_l1In.f a0_0 1 8).bind fun t245 => (if t245 = true then (if (l0_1.length : Int) > 6 then (spec_NetOk.j0 k true a0_0 l0_1 l0_2 l0_3) else (if (l0_2.length : Int) > 16 then (spec_NetOk.j0 k true a0_0 l0_1 l0_2 l0_3) else (spec_NetOk.j0 k (decide ((l0_3.length : Int) > 40)) a0_0 l0_1 l0_2 l0_3))) else (spec_NetOk.j0 k true a0_0 l0_1 l0_2 l0_3))) = some r := h; clear h; have HC2 := Az H; clear H
 go_enter Try.func15, Try.ntmps15
 go_upto_region 1 with (first | ((with_reducible refine gate_dst (N := 1) rfl ?_); (try (refine gate_guard (by rfl) ?_; dsimp only)); refine box_event ?hg (N := 1) ?hd (cs := #[.int .i64 a0_0, .slice A0_1 l0_1.length c0_1, .slice A0_2 l0_2.length c0_2, .slice A0_3 l0_3.length c0_3]) (t := 41) ?hr ?_; (case hd => rfl); (case hg => rfl); (case hr => first | (go_simp; done) | (go_simp; rfl)); intro gb244 hg w3 hbox hb; have BK244 := Az (hbox); have GW244 := Az ((by rw [hg]; exact (below_size bz) : w.heap.size ≤ gb244)); replace HB := Az (below_step bz hb); have GE244 := GW244; clear hb hbox hg))
 (try simp only [Act.put, sA, sB, sC])
 go_cut [28] (fun v28 wc => ∃ (kq : Nat) (x28_1 : Bool), v28 = .bool x28_1 ∧ Aside0 (spec_NetOk.j0 kq x28_1 a0_0 l0_1 l0_2 l0_3 = some r) ∧ Aside0 (kq ≤ k) ∧ Aside0 (wc.heap[gb244]? = some (.cells #[.int .i64 a0_0, (.slice A0_1 l0_1.length c0_1), (.slice A0_2 l0_2.length c0_2), (.slice A0_3 l0_3.length c0_3)] 41 (0, 0))) ∧ Aside0 (Below w.heap.size w wc))
 case first =>
  have H := HC2.out; clear HC2; replace H := Option.bind_eq_some_iff.mp H; obtain ⟨t245, A40, H⟩ := H; replace H : (if t245 = true then (if (l0_1.length : Int) > 6 then (spec_NetOk.j0 k true a0_0 l0_1 l0_2 l0_3) else (if (l0_2.length : Int) > 16 then (spec_NetOk.j0 k true a0_0 l0_1 l0_2 l0_3) else (spec_NetOk.j0 k (decide ((l0_3.length : Int) > 40)) a0_0 l0_1 l0_2 l0_3))) else (spec_NetOk.j0 k true a0_0 l0_1 l0_2 l0_3)) = some r := H; have A4 := Az A40; clear A40
  by_cases c5 : t245 = true
  ·
   subst c5
   have H1 : (if (l0_1.length : Int) > 6 then (spec_NetOk.j0 k true a0_0 l0_1 l0_2 l0_3) else (if (l0_2.length : Int) > 16 then (spec_NetOk.j0 k true a0_0 l0_1 l0_2 l0_3) else (spec_NetOk.j0 k (decide ((l0_3.length : Int) > 40)) a0_0 l0_1 l0_2 l0_3))) = some r := by rw [if_pos rfl] at H; exact H
   clear H; have H := H1; clear H1
   by_cases c6 : (l0_1.length : Int) > 6
   ·
    rw [if_pos c6] at H; have c6b0 : decide (6 < (l0_1.length : Int)) = true := decide_eq_true c6; have c6b1 : decide (6 < l0_1.length) = true := decide_eq_true (by omega); clear c6
    (first | rw [c6b0] | (simp only [i64_w, i32_w]; rw [c6b0]) | skip)
    have H' := Az H; clear H; obtain ⟨hcz7_0, hcz7_1, hcz7_2, hcz7_3⟩ := bc4 BK244.out; obtain ⟨hfz7_0, hfz7_1, hfz7_2, hfz7_3⟩ := bf4_ BK244.out
    go_wp2_with (first | ((with_reducible refine gate_callee (f := 33) rfl ?_); refine goesL_ (some 9) rfl rfl Try.func33 (by kernel_rfl) rfl #[.int .i64 a0_0, .int .i64 1, .int .i64 8] rfl (by (try simp only [List.map_toArray, List.map_cons, List.map_nil]); first | done | rfl) ?_; (with_reducible refine (spec_l1In.calls a0_0 1 8 true _ A4.out).mono ?_); rintro e w' ⟨rfl, ⟨nd, rfl⟩⟩; refine ⟨_, rfl, ?_⟩))
    go_meet
    case rel => exact ⟨_, (true), (by first | rfl | (simp; done) | (simp [*]; done)), H', ⟨by first | omega | exact Nat.le_refl _⟩, ⟨by refine bu ?_; exact BK244.out⟩, ⟨bz⟩⟩
   ·
    rw [if_neg c6] at H; have c6b0 : decide (6 < (l0_1.length : Int)) = false := decide_eq_false c6; have c6b1 : decide (6 < l0_1.length) = false := decide_eq_false (by omega); clear c6
    (first | rw [c6b0] | (simp only [i64_w, i32_w]; rw [c6b0]) | skip)
    by_cases c8 : (l0_2.length : Int) > 16
    ·
     rw [if_pos c8] at H; have c8b0 : decide (16 < (l0_2.length : Int)) = true := decide_eq_true c8; have c8b1 : decide (16 < l0_2.length) = true := decide_eq_true (by omega); clear c8; have H' := Az H; clear H; obtain ⟨hcz9_0, hcz9_1, hcz9_2, hcz9_3⟩ := bc4 BK244.out; obtain ⟨hfz9_0, hfz9_1, hfz9_2, hfz9_3⟩ := bf4_ BK244.out
     go_wp2_with (first | ((with_reducible refine gate_callee (f := 33) rfl ?_); refine goesL_ (some 9) rfl rfl Try.func33 (by kernel_rfl) rfl #[.int .i64 a0_0, .int .i64 1, .int .i64 8] rfl (by (try simp only [List.map_toArray, List.map_cons, List.map_nil]); first | done | rfl) ?_; (with_reducible refine (spec_l1In.calls a0_0 1 8 true _ A4.out).mono ?_); rintro e w' ⟨rfl, ⟨nd, rfl⟩⟩; refine ⟨_, rfl, ?_⟩))
     go_meet
     case rel => exact ⟨_, (true), (by first | rfl | (simp; done) | (simp [*]; done)), H', ⟨by first | omega | exact Nat.le_refl _⟩, ⟨by refine bu ?_; exact BK244.out⟩, ⟨bz⟩⟩
    ·
     rw [if_neg c8] at H; have c8b0 : decide (16 < (l0_2.length : Int)) = false := decide_eq_false c8; have c8b1 : decide (16 < l0_2.length) = false := decide_eq_false (by omega); clear c8; have H' := Az H; clear H; obtain ⟨hcz10_0, hcz10_1, hcz10_2, hcz10_3⟩ := bc4 BK244.out; obtain ⟨hfz10_0, hfz10_1, hfz10_2, hfz10_3⟩ := bf4_ BK244.out
     go_wp2_with (first | ((with_reducible refine gate_callee (f := 33) rfl ?_); refine goesL_ (some 9) rfl rfl Try.func33 (by kernel_rfl) rfl #[.int .i64 a0_0, .int .i64 1, .int .i64 8] rfl (by (try simp only [List.map_toArray, List.map_cons, List.map_nil]); first | done | rfl) ?_; (with_reducible refine (spec_l1In.calls a0_0 1 8 true _ A4.out).mono ?_); rintro e w' ⟨rfl, ⟨nd, rfl⟩⟩; refine ⟨_, rfl, ?_⟩))
     go_meet
     case rel => exact ⟨_, (decide ((l0_3.length : Int) > 40)), (by first | rfl | (simp; done) | (simp [*]; done)), H', ⟨by first | omega | exact Nat.le_refl _⟩, ⟨by refine bu ?_; exact BK244.out⟩, ⟨bz⟩⟩
  ·
   replace c5 := Bool.eq_false_iff.mpr c5; subst c5
   have H1 : (spec_NetOk.j0 k true a0_0 l0_1 l0_2 l0_3) = some r := by rw [if_neg (show ¬ (false = true) by decide)] at H; exact H
   clear H; have H := H1; clear H1; have H' := Az H; clear H; obtain ⟨hcz11_0, hcz11_1, hcz11_2, hcz11_3⟩ := bc4 BK244.out; obtain ⟨hfz11_0, hfz11_1, hfz11_2, hfz11_3⟩ := bf4_ BK244.out
   go_wp2_with (first | ((with_reducible refine gate_callee (f := 33) rfl ?_); refine goesL_ (some 9) rfl rfl Try.func33 (by kernel_rfl) rfl #[.int .i64 a0_0, .int .i64 1, .int .i64 8] rfl (by (try simp only [List.map_toArray, List.map_cons, List.map_nil]); first | done | rfl) ?_; (with_reducible refine (spec_l1In.calls a0_0 1 8 false _ A4.out).mono ?_); rintro e w' ⟨rfl, ⟨nd, rfl⟩⟩; refine ⟨_, rfl, ?_⟩))
   go_meet
   case rel => exact ⟨_, (true), (by first | rfl | (simp; done) | (simp [*]; done)), H', ⟨by first | omega | exact Nat.le_refl _⟩, ⟨by refine bu ?_; exact BK244.out⟩, ⟨bz⟩⟩
 case rest =>
  clear HC2; (try clear c1); (try clear p2); (try clear c3); (try clear c5); (try clear c6); (try clear c6b0); (try clear c6b1); (try clear c8); (try clear c8b0); (try clear c8b1); (try clear hcz10_0); (try clear hcz10_1); (try clear hcz10_2); (try clear hcz10_3); (try clear hcz11_0); (try clear hcz11_1); (try clear hcz11_2); (try clear hcz11_3); (try clear hcz7_0); (try clear hcz7_1); (try clear hcz7_2); (try clear hcz7_3); (try clear hcz9_0); (try clear hcz9_1); (try clear hcz9_2); (try clear hcz9_3); (try clear hfz10_0); (try clear hfz10_1); (try clear hfz10_2); (try clear hfz10_3); (try clear hfz11_0); (try clear hfz11_1); (try clear hfz11_2); (try clear hfz11_3); (try clear hfz7_0); (try clear hfz7_1); (try clear hfz7_2); (try clear hfz7_3); (try clear hfz9_0); (try clear hfz9_1); (try clear hfz9_2); (try clear hfz9_3); obtain ⟨kq, x28_1, rfl, HA, HJ1, BK244, HB⟩ := hcut
  cases kq with
  | zero => exact absurd HA.out (by simp [spec_NetOk.j0])
  | succ kj1 =>
   have H := HA.out; clear HA; simp only [spec_NetOk.j0] at H
   by_cases c12 : x28_1 = true
   ·
    subst c12
    have H1 : (some false) = some r := by rw [if_pos rfl] at H; exact H
    clear H; have H := H1; clear H1; obtain rfl := Option.some.inj H
    go_wp2
    go_ret
    exact ⟨rz, bz⟩
   ·
    replace c12 := Bool.eq_false_iff.mpr c12; subst c12
    have H1 : (spec_NetOk.l0 kj1 (wrap64 (a0_0 - 1)) 0 a0_0 l0_1 l0_2 l0_3) = some r := by rw [if_neg (show ¬ (false = true) by decide)] at H; exact H
    clear H; have H := H1; clear H1; have H' := Az H; clear H; obtain ⟨hcz13_0, hcz13_1, hcz13_2, hcz13_3⟩ := bc4 BK244.out; obtain ⟨hfz13_0, hfz13_1, hfz13_2, hfz13_3⟩ := bf4_ BK244.out
    go_wp2
    go_loopg [4] kj1 (fun kq v4 w' => ∃ (x4_2 : Int), v4 = .int .i64 x4_2 ∧ Aside0 (spec_NetOk.l0 kq (wrap64 (a0_0 - 1)) x4_2 a0_0 l0_1 l0_2 l0_3 = some r) ∧ Aside0 (kq ≤ kj1) ∧ Aside0 (w'.heap[gb244]? = some (.cells #[.int .i64 a0_0, (.slice A0_1 l0_1.length c0_1), (.slice A0_2 l0_2.length c0_2), (.slice A0_3 l0_3.length c0_3)] 41 (0, 0))) ∧ Aside0 (Below w.heap.size w w'))
    case atStart => exact ⟨(0), (by first | rfl | (simp; done) | (simp [*]; done)), H', ⟨Nat.le_refl _⟩, ⟨by refine bu ?_; exact BK244.out⟩, ⟨bz⟩⟩
    case round =>
     clear H'; (try clear c1); (try clear p2); (try clear c3); (try clear c5); (try clear c6); (try clear c6b0); (try clear c6b1); (try clear p6); (try clear c8); (try clear c8b0); (try clear c8b1); (try clear c12); (try clear hcz10_0); (try clear hcz10_1); (try clear hcz10_2); (try clear hcz10_3); (try clear hcz11_0); (try clear hcz11_1); (try clear hcz11_2); (try clear hcz11_3); (try clear hcz13_0); (try clear hcz13_1); (try clear hcz13_2); (try clear hcz13_3); (try clear hcz7_0); (try clear hcz7_1); (try clear hcz7_2); (try clear hcz7_3); (try clear hcz9_0); (try clear hcz9_1); (try clear hcz9_2); (try clear hcz9_3); (try clear hfz10_0); (try clear hfz10_1); (try clear hfz10_2); (try clear hfz10_3); (try clear hfz11_0); (try clear hfz11_1); (try clear hfz11_2); (try clear hfz11_3); (try clear hfz13_0); (try clear hfz13_1); (try clear hfz13_2); (try clear hfz13_3); (try clear hfz7_0); (try clear hfz7_1); (try clear hfz7_2); (try clear hfz7_3); (try clear hfz9_0); (try clear hfz9_1); (try clear hfz9_2); (try clear hfz9_3); (try clear p2); obtain ⟨x4_2, rfl, HA, HK2, BK244, HB⟩ := hrel
     cases gk with
     | zero => exact absurd HA.out (by simp [spec_NetOk.l0])
     | succ k2 =>
      have H := HA.out; clear HA; simp only [spec_NetOk.l0] at H
      by_cases c14 : x4_2 < (l0_1.length : Int)
      ·
       rw [if_pos c14] at H; have c14b0 : decide (x4_2 < (l0_1.length : Int)) = true := decide_eq_true c14; clear c14
       by_cases c15 : 0 ≤ x4_2
       ·
        rw [if_pos c15] at H; have c15b0 : decide (0 ≤ x4_2) = true := decide_eq_true c15; clear c15; replace H := Option.bind_eq_some_iff.mp H; obtain ⟨t247, A160, H⟩ := H; replace H : (if t247 = true then ((spec_l1In.f ((rd_T57 l0_1 x4_2).f1) 0 100000).bind fun t249 => (if t249 = true then (spec_NetOk.l0 k2 (wrap64 (a0_0 - 1)) (wrap64 (x4_2 + 1)) a0_0 l0_1 l0_2 l0_3) else (some false))) else (some false)) = some r := H; have A16 := Az A160; clear A160
        by_cases c17 : t247 = true
        ·
         subst c17
         have H1 : ((spec_l1In.f ((rd_T57 l0_1 x4_2).f1) 0 100000).bind fun t249 => (if t249 = true then (spec_NetOk.l0 k2 (wrap64 (a0_0 - 1)) (wrap64 (x4_2 + 1)) a0_0 l0_1 l0_2 l0_3) else (some false))) = some r := by rw [if_pos rfl] at H; exact H
         clear H; have H := H1; clear H1; replace H := Option.bind_eq_some_iff.mp H; obtain ⟨t249, A180, H⟩ := H; replace H : (if t249 = true then (spec_NetOk.l0 k2 (wrap64 (a0_0 - 1)) (wrap64 (x4_2 + 1)) a0_0 l0_1 l0_2 l0_3) else (some false)) = some r := H; have A18 := Az A180; clear A180; have HC19 := Az H; clear H; obtain ⟨hcz20_0, hcz20_1, hcz20_2, hcz20_3⟩ := bc4 BK244.out; obtain ⟨hfz20_0, hfz20_1, hfz20_2, hfz20_3⟩ := bf4_ BK244.out; have p246 : 0 ≤ (x4_2 : Int) := oz; have q246 : x4_2 < (l0_1.length : Int) := oz; obtain ⟨ad246, e246, hx246_0, hx246_1, hx246_2⟩ := at_T57 HR0_1.out x4_2 p246 q246
         cases e246
         replace hx246_0 := pw_cell_below HB.out hx246_0; replace hx246_1 := pw_cell_below HB.out hx246_1; replace hx246_2 := pw_cell_below HB.out hx246_2; replace p246 := eq_true p246; replace q246 := eq_true q246
         go_upto_if 57 with (first | ((with_reducible refine gate_callee (f := 33) rfl ?_); refine goesL_ (some 46) rfl rfl Try.func33 (by kernel_rfl) rfl #[.int .i64 ((rd_T57 l0_1 x4_2).f0), .int .i64 0, .int .i64 (wrap64 (a0_0 - 1))] rfl (by (try simp only [List.map_toArray, List.map_cons, List.map_nil]); first | done | rfl) ?_; (with_reducible refine (spec_l1In.calls ((rd_T57 l0_1 x4_2).f0) 0 (wrap64 (a0_0 - 1)) true _ A16.out).mono ?_); rintro e w' ⟨rfl, ⟨nd, rfl⟩⟩; refine ⟨_, rfl, ?_⟩; have p248 : 0 ≤ (x4_2 : Int) := oz; have q248 : x4_2 < (l0_1.length : Int) := oz; obtain ⟨ad248, e248, hx248_0, hx248_1, hx248_2⟩ := at_T57 HR0_1.out x4_2 p248 q248; obtain rfl : ad246 = ad248 := (by injection e248); replace hx248_0 := pw_cell_below HB.out hx248_0; replace hx248_1 := pw_cell_below HB.out hx248_1; replace hx248_2 := pw_cell_below HB.out hx248_2; replace p248 := eq_true p248; replace q248 := eq_true q248) | (go_at_call 33; (with_reducible refine (spec_l1In.calls ((rd_T57 l0_1 x4_2).f1) 0 100000 t249 _ A18.out).mono ?_); rintro e w' ⟨rfl, ⟨nd, rfl⟩⟩))
         (try simp only [Act.put, sA, sB, sC])
         have H := HC19.out; clear HC19
         by_cases c21 : t249 = true
         ·
          subst c21
          have H1 : (spec_NetOk.l0 k2 (wrap64 (a0_0 - 1)) (wrap64 (x4_2 + 1)) a0_0 l0_1 l0_2 l0_3) = some r := by rw [if_pos rfl] at H; exact H
          clear H; have H := H1; clear H1; have H' := Az H; clear H
          go_wp2
          go_roundg k2
          case measure => have := HJ1.out; have := HK2.out; omega
          case rel => exact ⟨(wrap64 (x4_2 + 1)), (by first | rfl | (simp; done) | (simp [*]; done)), H', ⟨by have := HJ1.out; have := HK2.out; omega⟩, ⟨by refine bu ?_; exact BK244.out⟩, ⟨bz⟩⟩
         ·
          replace c21 := Bool.eq_false_iff.mpr c21; subst c21
          have H1 : (some false) = some r := by rw [if_neg (show ¬ (false = true) by decide)] at H; exact H
          clear H; have H := H1; clear H1; obtain rfl := Option.some.inj H
          go_wp2
          go_ret
          exact ⟨rz, bz⟩
        ·
         replace c17 := Bool.eq_false_iff.mpr c17; subst c17
         have H1 : (some false) = some r := by rw [if_neg (show ¬ (false = true) by decide)] at H; exact H
         clear H; have H := H1; clear H1; have HC22 := Az H; clear H; obtain ⟨hcz23_0, hcz23_1, hcz23_2, hcz23_3⟩ := bc4 BK244.out; obtain ⟨hfz23_0, hfz23_1, hfz23_2, hfz23_3⟩ := bf4_ BK244.out; have p246 : 0 ≤ (x4_2 : Int) := oz; have q246 : x4_2 < (l0_1.length : Int) := oz; obtain ⟨ad246, e246, hx246_0, hx246_1, hx246_2⟩ := at_T57 HR0_1.out x4_2 p246 q246
         cases e246
         replace hx246_0 := pw_cell_below HB.out hx246_0; replace hx246_1 := pw_cell_below HB.out hx246_1; replace hx246_2 := pw_cell_below HB.out hx246_2; replace p246 := eq_true p246; replace q246 := eq_true q246
         go_upto_if 57 with (first | ((with_reducible refine gate_callee (f := 33) rfl ?_); refine goesL_ (some 46) rfl rfl Try.func33 (by kernel_rfl) rfl #[.int .i64 ((rd_T57 l0_1 x4_2).f0), .int .i64 0, .int .i64 (wrap64 (a0_0 - 1))] rfl (by (try simp only [List.map_toArray, List.map_cons, List.map_nil]); first | done | rfl) ?_; (with_reducible refine (spec_l1In.calls ((rd_T57 l0_1 x4_2).f0) 0 (wrap64 (a0_0 - 1)) false _ A16.out).mono ?_); rintro e w' ⟨rfl, ⟨nd, rfl⟩⟩; refine ⟨_, rfl, ?_⟩))
         (try simp only [Act.put, sA, sB, sC])
         have H := HC22.out; clear HC22; obtain rfl := Option.some.inj H
         go_wp2
         go_ret
         exact ⟨rz, bz⟩
       ·
        rw [if_neg c15] at H; exact absurd H (by simp)
      ·
       rw [if_neg c14] at H; have c14b0 : decide (x4_2 < (l0_1.length : Int)) = false := decide_eq_false c14; clear c14; have H' := Az H; clear H; obtain ⟨hcz24_0, hcz24_1, hcz24_2, hcz24_3⟩ := bc4 BK244.out; obtain ⟨hfz24_0, hfz24_1, hfz24_2, hfz24_3⟩ := bf4_ BK244.out
       go_wp2
       go_loopg [5] k2 (fun kq v5 w' => ∃ (x5_3 : Int), v5 = .int .i64 x5_3 ∧ Aside0 (spec_NetOk.l1 kq (wrap64 (a0_0 - 1)) x5_3 a0_0 l0_1 l0_2 l0_3 = some r) ∧ Aside0 (kq ≤ k2) ∧ Aside0 (w'.heap[gb244]? = some (.cells #[.int .i64 a0_0, (.slice A0_1 l0_1.length c0_1), (.slice A0_2 l0_2.length c0_2), (.slice A0_3 l0_3.length c0_3)] 41 (0, 0))) ∧ Aside0 (Below w.heap.size w w'))
       case atStart => exact ⟨(0), (by first | rfl | (simp; done) | (simp [*]; done)), H', ⟨Nat.le_refl _⟩, ⟨by refine bu ?_; exact BK244.out⟩, ⟨bz⟩⟩
       case round =>
        clear H'; (try clear c1); (try clear c2); (try clear p2); (try clear q2); (try clear hx2); (try clear c3); (try clear c5); (try clear c6); (try clear c6b0); (try clear c6b1); (try clear p6); (try clear c8); (try clear c8b0); (try clear c8b1); (try clear c12); (try clear c14); (try clear c14b0); (try clear c15); (try clear c15b0); (try clear c17); (try clear c21); (try clear p24); (try clear q24); (try clear hx24); (try clear hcz10_0); (try clear hcz10_1); (try clear hcz10_2); (try clear hcz10_3); (try clear hcz11_0); (try clear hcz11_1); (try clear hcz11_2); (try clear hcz11_3); (try clear hcz13_0); (try clear hcz13_1); (try clear hcz13_2); (try clear hcz13_3); (try clear hcz20_0); (try clear hcz20_1); (try clear hcz20_2); (try clear hcz20_3); (try clear hcz23_0); (try clear hcz23_1); (try clear hcz23_2); (try clear hcz23_3); (try clear hcz24_0); (try clear hcz24_1); (try clear hcz24_2); (try clear hcz24_3); (try clear hcz7_0); (try clear hcz7_1); (try clear hcz7_2); (try clear hcz7_3); (try clear hcz9_0); (try clear hcz9_1); (try clear hcz9_2); (try clear hcz9_3); (try clear hfz10_0); (try clear hfz10_1); (try clear hfz10_2); (try clear hfz10_3); (try clear hfz11_0); (try clear hfz11_1); (try clear hfz11_2); (try clear hfz11_3); (try clear hfz13_0); (try clear hfz13_1); (try clear hfz13_2); (try clear hfz13_3); (try clear hfz20_0); (try clear hfz20_1); (try clear hfz20_2); (try clear hfz20_3); (try clear hfz23_0); (try clear hfz23_1); (try clear hfz23_2); (try clear hfz23_3); (try clear hfz24_0); (try clear hfz24_1); (try clear hfz24_2); (try clear hfz24_3); (try clear hfz7_0); (try clear hfz7_1); (try clear hfz7_2); (try clear hfz7_3); (try clear hfz9_0); (try clear hfz9_1); (try clear hfz9_2); (try clear hfz9_3); (try clear hx246_0); (try clear hx246_1); (try clear hx246_2); (try clear hx248_0); (try clear hx248_1); (try clear hx248_2); (try clear p2); (try clear p246); (try clear p248); (try clear p6); (try clear q246); (try clear q248); obtain ⟨x5_3, rfl, HA, HK3, BK244, HB⟩ := hrel
        cases gk with
        | zero => exact absurd HA.out (by simp [spec_NetOk.l1])
        | succ k3 =>
         have H := HA.out; clear HA; simp only [spec_NetOk.l1] at H; have HC25 := Az H; clear H; obtain ⟨hcz26_0, hcz26_1, hcz26_2, hcz26_3⟩ := bc4 BK244.out; obtain ⟨hfz26_0, hfz26_1, hfz26_2, hfz26_3⟩ := bf4_ BK244.out
         go_upto_if 62 with (fail)
         have H := HC25.out; clear HC25
         by_cases c27 : x5_3 < (l0_2.length : Int)
         ·
          rw [if_pos c27] at H; have c27b0 : decide (x5_3 < (l0_2.length : Int)) = true := decide_eq_true c27; clear c27
          (first | rw [c27b0] | (simp only [i64_w, i32_w]; rw [c27b0]) | skip)
          by_cases c28 : 0 ≤ x5_3
          ·
           rw [if_pos c28] at H; have c28b0 : decide (0 ≤ x5_3) = true := decide_eq_true c28; clear c28; replace H := Option.bind_eq_some_iff.mp H; obtain ⟨t251, A290, H⟩ := H; replace H : (if t251 = true then ((spec_l1In.f ((rd_T55 l0_2 x5_3).f1) 0 (wrap64 (a0_0 - 1))).bind fun t253 => (if t253 = true then (if ((rd_T55 l0_2 x5_3).f0) = ((rd_T55 l0_2 x5_3).f1) then (some false) else (spec_NetOk.l1 k3 (wrap64 (a0_0 - 1)) (wrap64 (x5_3 + 1)) a0_0 l0_1 l0_2 l0_3)) else (some false))) else (some false)) = some r := H; have A29 := Az A290; clear A290
           by_cases c30 : t251 = true
           ·
            subst c30
            have H1 : ((spec_l1In.f ((rd_T55 l0_2 x5_3).f1) 0 (wrap64 (a0_0 - 1))).bind fun t253 => (if t253 = true then (if ((rd_T55 l0_2 x5_3).f0) = ((rd_T55 l0_2 x5_3).f1) then (some false) else (spec_NetOk.l1 k3 (wrap64 (a0_0 - 1)) (wrap64 (x5_3 + 1)) a0_0 l0_1 l0_2 l0_3)) else (some false))) = some r := by rw [if_pos rfl] at H; exact H
            clear H; have H := H1; clear H1; replace H := Option.bind_eq_some_iff.mp H; obtain ⟨t253, A310, H⟩ := H; replace H : (if t253 = true then (if ((rd_T55 l0_2 x5_3).f0) = ((rd_T55 l0_2 x5_3).f1) then (some false) else (spec_NetOk.l1 k3 (wrap64 (a0_0 - 1)) (wrap64 (x5_3 + 1)) a0_0 l0_1 l0_2 l0_3)) else (some false)) = some r := H; have A31 := Az A310; clear A310
            by_cases c32 : t253 = true
            ·
             subst c32
             have H1 : (if ((rd_T55 l0_2 x5_3).f0) = ((rd_T55 l0_2 x5_3).f1) then (some false) else (spec_NetOk.l1 k3 (wrap64 (a0_0 - 1)) (wrap64 (x5_3 + 1)) a0_0 l0_1 l0_2 l0_3)) = some r := by rw [if_pos rfl] at H; exact H
             clear H; have H := H1; clear H1; have HC33 := Az H; clear H
             try go_wp2
             replace BK244 := Az (blk_drew BK244.out); replace HB := Az (below_drew1 HB.out); have p250 : 0 ≤ (x5_3 : Int) := oz; have q250 : x5_3 < (l0_2.length : Int) := oz; obtain ⟨ad250, e250, hx250_0, hx250_1, hx250_2⟩ := at_T55 HR0_2.out x5_3 p250 q250; have hw250_2 := hx250_2; have hw250_1 := hx250_1; have hw250_0 := hx250_0
             cases e250
             replace hx250_0 := pw_cell_below HB.out hx250_0; replace hx250_1 := pw_cell_below HB.out hx250_1; replace hx250_2 := pw_cell_below HB.out hx250_2; replace p250 := eq_true p250; replace q250 := eq_true q250; have p252 : 0 ≤ (x5_3 : Int) := oz; have q252 : x5_3 < (l0_2.length : Int) := oz; obtain ⟨ad252, e252, hx252_0, hx252_1, hx252_2⟩ := at_T55 HR0_2.out x5_3 p252 q252; have hw252_2 := hx252_2; have hw252_1 := hx252_1; have hw252_0 := hx252_0; obtain rfl : ad250 = ad252 := (by injection e252); replace hx252_0 := pw_cell_below HB.out hx252_0; replace hx252_1 := pw_cell_below HB.out hx252_1; replace hx252_2 := pw_cell_below HB.out hx252_2; replace p252 := eq_true p252; replace q252 := eq_true q252; have p254 : 0 ≤ (x5_3 : Int) := oz; have q254 : x5_3 < (l0_2.length : Int) := oz; obtain ⟨ad254, e254, hx254_0, hx254_1, hx254_2⟩ := at_T55 HR0_2.out x5_3 p254 q254; have hw254_2 := hx254_2; have hw254_1 := hx254_1; have hw254_0 := hx254_0; obtain rfl : ad250 = ad254 := (by injection e254); replace hx254_0 := pw_cell_below HB.out hx254_0; replace hx254_1 := pw_cell_below HB.out hx254_1; replace hx254_2 := pw_cell_below HB.out hx254_2; replace p254 := eq_true p254; replace q254 := eq_true q254; have p255 : 0 ≤ (x5_3 : Int) := oz; have q255 : x5_3 < (l0_2.length : Int) := oz; obtain ⟨ad255, e255, hx255_0, hx255_1, hx255_2⟩ := at_T55 HR0_2.out x5_3 p255 q255; have hw255_2 := hx255_2; have hw255_1 := hx255_1; have hw255_0 := hx255_0; obtain rfl : ad250 = ad255 := (by injection e255); replace hx255_0 := pw_cell_below HB.out hx255_0; replace hx255_1 := pw_cell_below HB.out hx255_1; replace hx255_2 := pw_cell_below HB.out hx255_2; replace p255 := eq_true p255; replace q255 := eq_true q255
             refine start_ (n := 35) (S := fun w' => w'.cell? ⟨gb244, 0, none⟩ = some (.int .i64 a0_0) ∧ w'.cell? ⟨gb244, 1, none⟩ = some (.slice A0_1 l0_1.length c0_1) ∧ w'.cell? ⟨gb244, 2, none⟩ = some (.slice (some ad250) l0_2.length c0_2) ∧ w'.cell? ⟨gb244, 3, none⟩ = some (.slice A0_3 l0_3.length c0_3) ∧ w'.cell? (ad250.add ((x5_3).toNat * 3)) = some (.int .i64 ((rd_T55 l0_2 x5_3).f0)) ∧ w'.cell? ⟨(ad250.add ((x5_3).toNat * 3)).block, (ad250.add ((x5_3).toNat * 3)).off + 1, none⟩ = some (.int .i64 ((rd_T55 l0_2 x5_3).f1)) ∧ w'.cell? ⟨(ad250.add ((x5_3).toNat * 3)).block, (ad250.add ((x5_3).toNat * 3)).off + 2, none⟩ = some (.bool ((rd_T55 l0_2 x5_3).f2)) ∧ w'.cell? (ad250.add ((x5_3).toNat * 3)) = some (.int .i64 ((rd_T55 l0_2 x5_3).f0)) ∧ w'.cell? ⟨(ad250.add ((x5_3).toNat * 3)).block, (ad250.add ((x5_3).toNat * 3)).off + 1, none⟩ = some (.int .i64 ((rd_T55 l0_2 x5_3).f1)) ∧ w'.cell? ⟨(ad250.add ((x5_3).toNat * 3)).block, (ad250.add ((x5_3).toNat * 3)).off + 2, none⟩ = some (.bool ((rd_T55 l0_2 x5_3).f2)) ∧ w'.cell? (ad250.add ((x5_3).toNat * 3)) = some (.int .i64 ((rd_T55 l0_2 x5_3).f0)) ∧ w'.cell? ⟨(ad250.add ((x5_3).toNat * 3)).block, (ad250.add ((x5_3).toNat * 3)).off + 1, none⟩ = some (.int .i64 ((rd_T55 l0_2 x5_3).f1)) ∧ w'.cell? ⟨(ad250.add ((x5_3).toNat * 3)).block, (ad250.add ((x5_3).toNat * 3)).off + 2, none⟩ = some (.bool ((rd_T55 l0_2 x5_3).f2)) ∧ w'.cell? (ad250.add ((x5_3).toNat * 3)) = some (.int .i64 ((rd_T55 l0_2 x5_3).f0)) ∧ w'.cell? ⟨(ad250.add ((x5_3).toNat * 3)).block, (ad250.add ((x5_3).toNat * 3)).off + 1, none⟩ = some (.int .i64 ((rd_T55 l0_2 x5_3).f1)) ∧ w'.cell? ⟨(ad250.add ((x5_3).toNat * 3)).block, (ad250.add ((x5_3).toNat * 3)).off + 2, none⟩ = some (.bool ((rd_T55 l0_2 x5_3).f2))) (ds := []) A8_0 (by kernel_rfl) rfl rfl ⟨(blk_cell BK244.out 0).trans rfl, (blk_cell BK244.out 1).trans rfl, (blk_cell BK244.out 2).trans rfl, (blk_cell BK244.out 3).trans rfl, (pw_cell_below HB.out hw250_0), (pw_cell_below HB.out hw250_1), (pw_cell_below HB.out hw250_2), (pw_cell_below HB.out hw252_0), (pw_cell_below HB.out hw252_1), (pw_cell_below HB.out hw252_2), (pw_cell_below HB.out hw254_0), (pw_cell_below HB.out hw254_1), (pw_cell_below HB.out hw254_2), (pw_cell_below HB.out hw255_0), (pw_cell_below HB.out hw255_1), (pw_cell_below HB.out hw255_2)⟩ (fun hHeld => ?_); refine with_tabW spec_NetOk.tab12 spec_NetOk.bits12 (fun HT_ HW_ => ?_); generalize wr.drew = w34 at BK244 HB hx250_0 hx250_1 hx250_2 hx252_0 hx252_1 hx252_2 hx254_0 hx254_1 hx254_2 hx255_0 hx255_1 hx255_2 hHeld ⊢; refine pz 0 65 A8_1 HT_.out ?_; refine pz 2 67 A8_2 HT_.out ?_; refine pz 6 71 A8_3 HT_.out ?_
             refine tz 1 66 A8_4 HT_.out HW_.out hHeld ?_
             refine pz 3 68 A8_5 HT_.out ?_; refine pz 4 69 A8_6 HT_.out ?_; refine tz 5 70 A8_7 HT_.out HW_.out hHeld ?_
             refine one_ (i := 7) (N := some 72) A8_8 rfl rfl (one_of HT_.out (by kernel_rfl)) (by decide) (fun K hK => ?_); refine goes_ Try.func33 (by kernel_rfl) rfl #[.int .i64 ((rd_T55 l0_2 x5_3).f0), .int .i64 0, .int .i64 (wrap64 (a0_0 - 1))] (by rfl) rfl rfl (by (try simp only [List.map_toArray, List.map_cons, List.map_nil]); first | done | rfl) ?_
             with_reducible refine (spec_l1In.calls ((rd_T55 l0_2 x5_3).f0) 0 (wrap64 (a0_0 - 1)) true _ A29.out).mono ?_
             rintro e w' ⟨rfl, ⟨nd, rfl⟩⟩; refine ⟨_, rfl, ?_⟩; refine hK.out _ _ ⟨(blk_cell BK244.out 0).trans rfl, (blk_cell BK244.out 1).trans rfl, (blk_cell BK244.out 2).trans rfl, (blk_cell BK244.out 3).trans rfl, (pw_cell_below HB.out hw250_0), (pw_cell_below HB.out hw250_1), (pw_cell_below HB.out hw250_2), (pw_cell_below HB.out hw252_0), (pw_cell_below HB.out hw252_1), (pw_cell_below HB.out hw252_2), (pw_cell_below HB.out hw254_0), (pw_cell_below HB.out hw254_1), (pw_cell_below HB.out hw254_2), (pw_cell_below HB.out hw255_0), (pw_cell_below HB.out hw255_1), (pw_cell_below HB.out hw255_2)⟩ (fun hHeld => ?_); clear hK K; refine norm_ (a' := ?_) ?_ ?_; rotate_left
             ·
              show Act.put _ (some 72) _ = _
              simp only [Act.put, sA, sB, sC, i64_w, i32_w]
              rfl
             refine pz 8 73 A8_9 HT_.out ?_; refine pz 9 74 A8_10 HT_.out ?_; refine pz 10 75 A8_11 HT_.out ?_; refine pz 12 77 A8_12 HT_.out ?_; refine pz 16 81 A8_13 HT_.out ?_; refine tz 11 76 A8_14 HT_.out HW_.out hHeld ?_
             refine pz 13 78 A8_15 HT_.out ?_; refine pz 14 79 A8_16 HT_.out ?_; refine tz 15 80 A8_17 HT_.out HW_.out hHeld ?_
             refine one_ (i := 17) (N := some 82) A8_18 rfl rfl (one_of HT_.out (by kernel_rfl)) (by decide) (fun K hK => ?_); refine goes_ Try.func33 (by kernel_rfl) rfl #[.int .i64 ((rd_T55 l0_2 x5_3).f1), .int .i64 0, .int .i64 (wrap64 (a0_0 - 1))] (by rfl) rfl rfl (by (try simp only [List.map_toArray, List.map_cons, List.map_nil]); first | done | rfl) ?_
             with_reducible refine (spec_l1In.calls ((rd_T55 l0_2 x5_3).f1) 0 (wrap64 (a0_0 - 1)) true _ A31.out).mono ?_
             rintro e w' ⟨rfl, ⟨nd, rfl⟩⟩; refine ⟨_, rfl, ?_⟩; refine hK.out _ _ ⟨(blk_cell BK244.out 0).trans rfl, (blk_cell BK244.out 1).trans rfl, (blk_cell BK244.out 2).trans rfl, (blk_cell BK244.out 3).trans rfl, (pw_cell_below HB.out hw250_0), (pw_cell_below HB.out hw250_1), (pw_cell_below HB.out hw250_2), (pw_cell_below HB.out hw252_0), (pw_cell_below HB.out hw252_1), (pw_cell_below HB.out hw252_2), (pw_cell_below HB.out hw254_0), (pw_cell_below HB.out hw254_1), (pw_cell_below HB.out hw254_2), (pw_cell_below HB.out hw255_0), (pw_cell_below HB.out hw255_1), (pw_cell_below HB.out hw255_2)⟩ (fun hHeld => ?_); clear hK K; refine norm_ (a' := ?_) ?_ ?_; rotate_left
             ·
              show Act.put _ (some 82) _ = _
              simp only [Act.put, sA, sB, sC, i64_w, i32_w]
              rfl
             refine pz 18 83 A8_19 HT_.out ?_; refine pz 19 84 A8_20 HT_.out ?_; refine pz 20 85 A8_21 HT_.out ?_; refine pz 21 86 A8_22 HT_.out ?_; refine pz 23 88 A8_23 HT_.out ?_; refine pz 27 92 A8_24 HT_.out ?_; refine pz 29 94 A8_25 HT_.out ?_; refine tz 22 87 A8_26 HT_.out HW_.out hHeld ?_
             refine pz 24 89 A8_27 HT_.out ?_; refine pz 25 90 A8_28 HT_.out ?_; refine tz 26 91 A8_29 HT_.out HW_.out hHeld ?_
             refine tz 28 93 A8_30 HT_.out HW_.out hHeld ?_
             refine pz 30 95 A8_31 HT_.out ?_; refine pz 31 96 A8_32 HT_.out ?_; refine tz 32 97 A8_33 HT_.out HW_.out hHeld ?_
             refine pz 33 98 A8_34 HT_.out ?_; refine pz 34 99 A8_35 HT_.out ?_; refine done_ (done_of HT_.out (by kernel_rfl)) ?_
             go_upto_if 99 with (fail)
             have H := HC33.out; clear HC33
             by_cases c35 : ((rd_T55 l0_2 x5_3).f0) = ((rd_T55 l0_2 x5_3).f1)
             ·
              rw [if_pos c35] at H; have c35b0 : (((rd_T55 l0_2 x5_3).f0) == ((rd_T55 l0_2 x5_3).f1)) = true := beq_iff_eq.mpr c35; have c35b1 : (((rd_T55 l0_2 x5_3).f0) != ((rd_T55 l0_2 x5_3).f1)) = false := bne_eq_false_iff_eq.mpr c35; clear c35
              (first | rw [c35b0] | (simp only [i64_w, i32_w]; rw [c35b0]) | skip)
              obtain rfl := Option.some.inj H
              go_wp2
              go_ret
              exact ⟨rz, bz⟩
             ·
              rw [if_neg c35] at H; have c35b0 : (((rd_T55 l0_2 x5_3).f0) == ((rd_T55 l0_2 x5_3).f1)) = false := beq_eq_false_iff_ne.mpr c35; have c35b1 : (((rd_T55 l0_2 x5_3).f0) != ((rd_T55 l0_2 x5_3).f1)) = true := bne_iff_ne.mpr c35
              (first | rw [c35b0] | (simp only [i64_w, i32_w]; rw [c35b0]) | skip)
              have H' := Az H; clear H
              go_wp2
              go_roundg k3
              case measure => have := HJ1.out; have := HK2.out; have := HK3.out; omega
              case rel => exact ⟨(wrap64 (x5_3 + 1)), (by first | rfl | (simp; done) | (simp [*]; done)), H', ⟨by have := HJ1.out; have := HK2.out; have := HK3.out; omega⟩, ⟨by refine bu ?_; exact BK244.out⟩, ⟨bz⟩⟩
            ·
             replace c32 := Bool.eq_false_iff.mpr c32; subst c32
             have H1 : (some false) = some r := by rw [if_neg (show ¬ (false = true) by decide)] at H; exact H
             clear H; have H := H1; clear H1; have HC36 := Az H; clear H
             try go_wp2
             replace BK244 := Az (blk_drew BK244.out); replace HB := Az (below_drew1 HB.out); have p250 : 0 ≤ (x5_3 : Int) := oz; have q250 : x5_3 < (l0_2.length : Int) := oz; obtain ⟨ad250, e250, hx250_0, hx250_1, hx250_2⟩ := at_T55 HR0_2.out x5_3 p250 q250; have hw250_2 := hx250_2; have hw250_1 := hx250_1; have hw250_0 := hx250_0
             cases e250
             replace hx250_0 := pw_cell_below HB.out hx250_0; replace hx250_1 := pw_cell_below HB.out hx250_1; replace hx250_2 := pw_cell_below HB.out hx250_2; replace p250 := eq_true p250; replace q250 := eq_true q250; have p252 : 0 ≤ (x5_3 : Int) := oz; have q252 : x5_3 < (l0_2.length : Int) := oz; obtain ⟨ad252, e252, hx252_0, hx252_1, hx252_2⟩ := at_T55 HR0_2.out x5_3 p252 q252; have hw252_2 := hx252_2; have hw252_1 := hx252_1; have hw252_0 := hx252_0; obtain rfl : ad250 = ad252 := (by injection e252); replace hx252_0 := pw_cell_below HB.out hx252_0; replace hx252_1 := pw_cell_below HB.out hx252_1; replace hx252_2 := pw_cell_below HB.out hx252_2; replace p252 := eq_true p252; replace q252 := eq_true q252; refine start_ (n := 35) (S := fun w' => w'.cell? ⟨gb244, 0, none⟩ = some (.int .i64 a0_0) ∧ w'.cell? ⟨gb244, 1, none⟩ = some (.slice A0_1 l0_1.length c0_1) ∧ w'.cell? ⟨gb244, 2, none⟩ = some (.slice (some ad250) l0_2.length c0_2) ∧ w'.cell? ⟨gb244, 3, none⟩ = some (.slice A0_3 l0_3.length c0_3) ∧ w'.cell? (ad250.add ((x5_3).toNat * 3)) = some (.int .i64 ((rd_T55 l0_2 x5_3).f0)) ∧ w'.cell? ⟨(ad250.add ((x5_3).toNat * 3)).block, (ad250.add ((x5_3).toNat * 3)).off + 1, none⟩ = some (.int .i64 ((rd_T55 l0_2 x5_3).f1)) ∧ w'.cell? ⟨(ad250.add ((x5_3).toNat * 3)).block, (ad250.add ((x5_3).toNat * 3)).off + 2, none⟩ = some (.bool ((rd_T55 l0_2 x5_3).f2)) ∧ w'.cell? (ad250.add ((x5_3).toNat * 3)) = some (.int .i64 ((rd_T55 l0_2 x5_3).f0)) ∧ w'.cell? ⟨(ad250.add ((x5_3).toNat * 3)).block, (ad250.add ((x5_3).toNat * 3)).off + 1, none⟩ = some (.int .i64 ((rd_T55 l0_2 x5_3).f1)) ∧ w'.cell? ⟨(ad250.add ((x5_3).toNat * 3)).block, (ad250.add ((x5_3).toNat * 3)).off + 2, none⟩ = some (.bool ((rd_T55 l0_2 x5_3).f2))) (ds := []) A8_0 (by kernel_rfl) rfl rfl ⟨(blk_cell BK244.out 0).trans rfl, (blk_cell BK244.out 1).trans rfl, (blk_cell BK244.out 2).trans rfl, (blk_cell BK244.out 3).trans rfl, (pw_cell_below HB.out hw250_0), (pw_cell_below HB.out hw250_1), (pw_cell_below HB.out hw250_2), (pw_cell_below HB.out hw252_0), (pw_cell_below HB.out hw252_1), (pw_cell_below HB.out hw252_2)⟩ (fun hHeld => ?_); refine with_tabW spec_NetOk.tab12 spec_NetOk.bits12 (fun HT_ HW_ => ?_); generalize wr.drew = w37 at BK244 HB hx250_0 hx250_1 hx250_2 hx252_0 hx252_1 hx252_2 hHeld ⊢; refine pz 0 65 A8_1 HT_.out ?_; refine pz 2 67 A8_2 HT_.out ?_; refine pz 6 71 A8_3 HT_.out ?_
             refine tz 1 66 A8_4 HT_.out HW_.out hHeld ?_
             refine pz 3 68 A8_5 HT_.out ?_; refine pz 4 69 A8_6 HT_.out ?_; refine tz 5 70 A8_7 HT_.out HW_.out hHeld ?_
             refine one_ (i := 7) (N := some 72) A8_8 rfl rfl (one_of HT_.out (by kernel_rfl)) (by decide) (fun K hK => ?_); refine goes_ Try.func33 (by kernel_rfl) rfl #[.int .i64 ((rd_T55 l0_2 x5_3).f0), .int .i64 0, .int .i64 (wrap64 (a0_0 - 1))] (by rfl) rfl rfl (by (try simp only [List.map_toArray, List.map_cons, List.map_nil]); first | done | rfl) ?_
             with_reducible refine (spec_l1In.calls ((rd_T55 l0_2 x5_3).f0) 0 (wrap64 (a0_0 - 1)) true _ A29.out).mono ?_
             rintro e w' ⟨rfl, ⟨nd, rfl⟩⟩; refine ⟨_, rfl, ?_⟩; refine hK.out _ _ ⟨(blk_cell BK244.out 0).trans rfl, (blk_cell BK244.out 1).trans rfl, (blk_cell BK244.out 2).trans rfl, (blk_cell BK244.out 3).trans rfl, (pw_cell_below HB.out hw250_0), (pw_cell_below HB.out hw250_1), (pw_cell_below HB.out hw250_2), (pw_cell_below HB.out hw252_0), (pw_cell_below HB.out hw252_1), (pw_cell_below HB.out hw252_2)⟩ (fun hHeld => ?_); clear hK K; refine norm_ (a' := ?_) ?_ ?_; rotate_left
             ·
              show Act.put _ (some 72) _ = _
              simp only [Act.put, sA, sB, sC, i64_w, i32_w]
              rfl
             refine pz 8 73 A8_9 HT_.out ?_; refine pz 9 74 A8_10 HT_.out ?_; refine pz 10 75 A8_11 HT_.out ?_; refine pz 12 77 A8_12 HT_.out ?_; refine pz 16 81 A8_13 HT_.out ?_; refine tz 11 76 A8_14 HT_.out HW_.out hHeld ?_
             refine pz 13 78 A8_15 HT_.out ?_; refine pz 14 79 A8_16 HT_.out ?_; refine tz 15 80 A8_17 HT_.out HW_.out hHeld ?_
             refine one_ (i := 17) (N := some 82) A8_18 rfl rfl (one_of HT_.out (by kernel_rfl)) (by decide) (fun K hK => ?_); refine goes_ Try.func33 (by kernel_rfl) rfl #[.int .i64 ((rd_T55 l0_2 x5_3).f1), .int .i64 0, .int .i64 (wrap64 (a0_0 - 1))] (by rfl) rfl rfl (by (try simp only [List.map_toArray, List.map_cons, List.map_nil]); first | done | rfl) ?_
             with_reducible refine (spec_l1In.calls ((rd_T55 l0_2 x5_3).f1) 0 (wrap64 (a0_0 - 1)) false _ A31.out).mono ?_
             rintro e w' ⟨rfl, ⟨nd, rfl⟩⟩; refine ⟨_, rfl, ?_⟩; refine hK.out _ _ ⟨(blk_cell BK244.out 0).trans rfl, (blk_cell BK244.out 1).trans rfl, (blk_cell BK244.out 2).trans rfl, (blk_cell BK244.out 3).trans rfl, (pw_cell_below HB.out hw250_0), (pw_cell_below HB.out hw250_1), (pw_cell_below HB.out hw250_2), (pw_cell_below HB.out hw252_0), (pw_cell_below HB.out hw252_1), (pw_cell_below HB.out hw252_2)⟩ (fun hHeld => ?_); clear hK K; refine norm_ (a' := ?_) ?_ ?_; rotate_left
             ·
              show Act.put _ (some 82) _ = _
              simp only [Act.put, sA, sB, sC, i64_w, i32_w]
              rfl
             refine pz 18 83 A8_19 HT_.out ?_; refine pz 19 84 A8_20 HT_.out ?_; refine pz 20 85 A8_21 HT_.out ?_; refine pu 21 86 A8_22 HT_.out ?_
             refine pu 22 87 A8_36 HT_.out ?_
             refine pu 23 88 A8_37 HT_.out ?_
             refine pu 24 89 A8_38 HT_.out ?_
             refine pu 25 90 A8_39 HT_.out ?_
             refine pu 26 91 A8_40 HT_.out ?_
             refine pu 27 92 A8_41 HT_.out ?_
             refine pu 28 93 A8_42 HT_.out ?_
             refine pu 29 94 A8_30 HT_.out ?_
             refine pu 30 95 A8_31 HT_.out ?_
             refine pu 31 96 A8_32 HT_.out ?_
             refine pu 32 97 A8_33 HT_.out ?_
             refine pu 33 98 A8_34 HT_.out ?_
             refine pz 34 99 A8_35 HT_.out ?_; refine done_ (done_of HT_.out (by kernel_rfl)) ?_
             go_upto_if 99 with (fail)
             have H := HC36.out; clear HC36; obtain rfl := Option.some.inj H
             go_wp2
             go_ret
             exact ⟨rz, bz⟩
           ·
            replace c30 := Bool.eq_false_iff.mpr c30; subst c30
            have H1 : (some false) = some r := by rw [if_neg (show ¬ (false = true) by decide)] at H; exact H
            clear H; have H := H1; clear H1; have HC38 := Az H; clear H
            try go_wp2
            replace BK244 := Az (blk_drew BK244.out); replace HB := Az (below_drew1 HB.out); have p250 : 0 ≤ (x5_3 : Int) := oz; have q250 : x5_3 < (l0_2.length : Int) := oz; obtain ⟨ad250, e250, hx250_0, hx250_1, hx250_2⟩ := at_T55 HR0_2.out x5_3 p250 q250; have hw250_2 := hx250_2; have hw250_1 := hx250_1; have hw250_0 := hx250_0
            cases e250
            replace hx250_0 := pw_cell_below HB.out hx250_0; replace hx250_1 := pw_cell_below HB.out hx250_1; replace hx250_2 := pw_cell_below HB.out hx250_2; replace p250 := eq_true p250; replace q250 := eq_true q250; refine start_ (n := 35) (S := fun w' => w'.cell? ⟨gb244, 0, none⟩ = some (.int .i64 a0_0) ∧ w'.cell? ⟨gb244, 1, none⟩ = some (.slice A0_1 l0_1.length c0_1) ∧ w'.cell? ⟨gb244, 2, none⟩ = some (.slice (some ad250) l0_2.length c0_2) ∧ w'.cell? ⟨gb244, 3, none⟩ = some (.slice A0_3 l0_3.length c0_3) ∧ w'.cell? (ad250.add ((x5_3).toNat * 3)) = some (.int .i64 ((rd_T55 l0_2 x5_3).f0)) ∧ w'.cell? ⟨(ad250.add ((x5_3).toNat * 3)).block, (ad250.add ((x5_3).toNat * 3)).off + 1, none⟩ = some (.int .i64 ((rd_T55 l0_2 x5_3).f1)) ∧ w'.cell? ⟨(ad250.add ((x5_3).toNat * 3)).block, (ad250.add ((x5_3).toNat * 3)).off + 2, none⟩ = some (.bool ((rd_T55 l0_2 x5_3).f2))) (ds := []) A8_0 (by kernel_rfl) rfl rfl ⟨(blk_cell BK244.out 0).trans rfl, (blk_cell BK244.out 1).trans rfl, (blk_cell BK244.out 2).trans rfl, (blk_cell BK244.out 3).trans rfl, (pw_cell_below HB.out hw250_0), (pw_cell_below HB.out hw250_1), (pw_cell_below HB.out hw250_2)⟩ (fun hHeld => ?_); refine with_tabW spec_NetOk.tab12 spec_NetOk.bits12 (fun HT_ HW_ => ?_); generalize wr.drew = w39 at BK244 HB hx250_0 hx250_1 hx250_2 hHeld ⊢; refine pz 0 65 A8_1 HT_.out ?_; refine pz 2 67 A8_2 HT_.out ?_; refine pz 6 71 A8_3 HT_.out ?_; refine tz 1 66 A8_4 HT_.out HW_.out hHeld ?_
            refine pz 3 68 A8_5 HT_.out ?_; refine pz 4 69 A8_6 HT_.out ?_; refine tz 5 70 A8_7 HT_.out HW_.out hHeld ?_
            refine one_ (i := 7) (N := some 72) A8_8 rfl rfl (one_of HT_.out (by kernel_rfl)) (by decide) (fun K hK => ?_); refine goes_ Try.func33 (by kernel_rfl) rfl #[.int .i64 ((rd_T55 l0_2 x5_3).f0), .int .i64 0, .int .i64 (wrap64 (a0_0 - 1))] (by rfl) rfl rfl (by (try simp only [List.map_toArray, List.map_cons, List.map_nil]); first | done | rfl) ?_
            with_reducible refine (spec_l1In.calls ((rd_T55 l0_2 x5_3).f0) 0 (wrap64 (a0_0 - 1)) false _ A29.out).mono ?_
            rintro e w' ⟨rfl, ⟨nd, rfl⟩⟩; refine ⟨_, rfl, ?_⟩; refine hK.out _ _ ⟨(blk_cell BK244.out 0).trans rfl, (blk_cell BK244.out 1).trans rfl, (blk_cell BK244.out 2).trans rfl, (blk_cell BK244.out 3).trans rfl, (pw_cell_below HB.out hw250_0), (pw_cell_below HB.out hw250_1), (pw_cell_below HB.out hw250_2)⟩ (fun hHeld => ?_); clear hK K; refine norm_ (a' := ?_) ?_ ?_; rotate_left
            ·
             show Act.put _ (some 72) _ = _
             simp only [Act.put, sA, sB, sC, i64_w, i32_w]
             rfl
            refine pz 8 73 A8_9 HT_.out ?_; refine pz 9 74 A8_10 HT_.out ?_; refine pu 10 75 A8_11 HT_.out ?_
            refine pu 11 76 A8_43 HT_.out ?_
            refine pu 12 77 A8_44 HT_.out ?_
            refine pu 13 78 A8_45 HT_.out ?_
            refine pu 14 79 A8_46 HT_.out ?_
            refine pu 15 80 A8_47 HT_.out ?_
            refine pu 16 81 A8_17 HT_.out ?_
            refine pu 17 82 A8_18 HT_.out ?_
            refine pu 18 83 A8_19 HT_.out ?_
            refine pz 19 84 A8_20 HT_.out ?_; refine pz 20 85 A8_21 HT_.out ?_; refine pu 21 86 A8_22 HT_.out ?_
            refine pu 22 87 A8_36 HT_.out ?_
            refine pu 23 88 A8_37 HT_.out ?_
            refine pu 24 89 A8_38 HT_.out ?_
            refine pu 25 90 A8_39 HT_.out ?_
            refine pu 26 91 A8_40 HT_.out ?_
            refine pu 27 92 A8_41 HT_.out ?_
            refine pu 28 93 A8_42 HT_.out ?_
            refine pu 29 94 A8_30 HT_.out ?_
            refine pu 30 95 A8_31 HT_.out ?_
            refine pu 31 96 A8_32 HT_.out ?_
            refine pu 32 97 A8_33 HT_.out ?_
            refine pu 33 98 A8_34 HT_.out ?_
            refine pz 34 99 A8_35 HT_.out ?_; refine done_ (done_of HT_.out (by kernel_rfl)) ?_
            go_upto_if 99 with (fail)
            have H := HC38.out; clear HC38; obtain rfl := Option.some.inj H
            go_wp2
            go_ret
            exact ⟨rz, bz⟩
          ·
           rw [if_neg c28] at H; exact absurd H (by simp)
         ·
          rw [if_neg c27] at H; have c27b0 : decide (x5_3 < (l0_2.length : Int)) = false := decide_eq_false c27; clear c27
          (first | rw [c27b0] | (simp only [i64_w, i32_w]; rw [c27b0]) | skip)
          have H' := Az H; clear H
          go_wp2
          go_loopg [6] k3 (fun kq v6 w' => ∃ (x6_4 : Int), v6 = .int .i64 x6_4 ∧ Aside0 (spec_NetOk.l2 kq (wrap64 (a0_0 - 1)) x6_4 a0_0 l0_1 l0_2 l0_3 = some r) ∧ Aside0 (kq ≤ k3) ∧ Aside0 (w'.heap[gb244]? = some (.cells #[.int .i64 a0_0, (.slice A0_1 l0_1.length c0_1), (.slice A0_2 l0_2.length c0_2), (.slice A0_3 l0_3.length c0_3)] 41 (0, 0))) ∧ Aside0 (Below w.heap.size w w'))
          case atStart => exact ⟨(0), (by first | rfl | (simp; done) | (simp [*]; done)), H', ⟨Nat.le_refl _⟩, ⟨by refine bu ?_; exact BK244.out⟩, ⟨bz⟩⟩
          case round =>
           clear H'; (try clear c2); (try clear p2); (try clear q2); (try clear hx2); (try clear c3); (try clear p6); (try clear p25); (try clear q25); (try clear hx25); (try clear c27); (try clear c27b0); (try clear c28); (try clear c30); (try clear c32); (try clear c33); (try clear c35); (try clear c35b0); (try clear c35b1); (try clear hx250_0); (try clear hx250_1); (try clear hx250_2); (try clear hx252_0); (try clear hx252_1); (try clear hx252_2); (try clear p250); (try clear p252); (try clear q250); (try clear q252); obtain ⟨x6_4, rfl, HA, HK4, BK244, HB⟩ := hrel
           cases gk with
           | zero => exact absurd HA.out (by simp [spec_NetOk.l2])
           | succ k4 =>
            have H := HA.out; clear HA; simp only [spec_NetOk.l2] at H
            by_cases c40 : x6_4 < (l0_3.length : Int)
            ·
             rw [if_pos c40] at H; have c40b0 : decide (x6_4 < (l0_3.length : Int)) = true := decide_eq_true c40; clear c40
             by_cases c41 : 0 ≤ x6_4
             ·
              rw [if_pos c41] at H; have c41b0 : decide (0 ≤ x6_4) = true := decide_eq_true c41; clear c41; replace H := Option.bind_eq_some_iff.mp H; obtain ⟨t257, A420, H⟩ := H; replace H : (if t257 = true then ((spec_l1In.f ((rd_T59 l0_3 x6_4).f1) 1 100000).bind fun t259 => (if t259 = true then ((spec_l1In.f ((rd_T59 l0_3 x6_4).f2) 0 9).bind fun t261 => (if t261 = true then (spec_NetOk.l2 k4 (wrap64 (a0_0 - 1)) (wrap64 (x6_4 + 1)) a0_0 l0_1 l0_2 l0_3) else (some false))) else (some false))) else (some false)) = some r := H; have A42 := Az A420; clear A420
              by_cases c43 : t257 = true
              ·
               subst c43
               have H1 : ((spec_l1In.f ((rd_T59 l0_3 x6_4).f1) 1 100000).bind fun t259 => (if t259 = true then ((spec_l1In.f ((rd_T59 l0_3 x6_4).f2) 0 9).bind fun t261 => (if t261 = true then (spec_NetOk.l2 k4 (wrap64 (a0_0 - 1)) (wrap64 (x6_4 + 1)) a0_0 l0_1 l0_2 l0_3) else (some false))) else (some false))) = some r := by rw [if_pos rfl] at H; exact H
               clear H; have H := H1; clear H1; replace H := Option.bind_eq_some_iff.mp H; obtain ⟨t259, A440, H⟩ := H; replace H : (if t259 = true then ((spec_l1In.f ((rd_T59 l0_3 x6_4).f2) 0 9).bind fun t261 => (if t261 = true then (spec_NetOk.l2 k4 (wrap64 (a0_0 - 1)) (wrap64 (x6_4 + 1)) a0_0 l0_1 l0_2 l0_3) else (some false))) else (some false)) = some r := H; have A44 := Az A440; clear A440
               by_cases c45 : t259 = true
               ·
                subst c45
                have H1 : ((spec_l1In.f ((rd_T59 l0_3 x6_4).f2) 0 9).bind fun t261 => (if t261 = true then (spec_NetOk.l2 k4 (wrap64 (a0_0 - 1)) (wrap64 (x6_4 + 1)) a0_0 l0_1 l0_2 l0_3) else (some false))) = some r := by rw [if_pos rfl] at H; exact H
                clear H; have H := H1; clear H1; replace H := Option.bind_eq_some_iff.mp H; obtain ⟨t261, A460, H⟩ := H; replace H : (if t261 = true then (spec_NetOk.l2 k4 (wrap64 (a0_0 - 1)) (wrap64 (x6_4 + 1)) a0_0 l0_1 l0_2 l0_3) else (some false)) = some r := H; have A46 := Az A460; clear A460; have HC47 := Az H; clear H; obtain ⟨hcz48_0, hcz48_1, hcz48_2, hcz48_3⟩ := bc4 BK244.out; obtain ⟨hfz48_0, hfz48_1, hfz48_2, hfz48_3⟩ := bf4_ BK244.out; have p256 : 0 ≤ (x6_4 : Int) := oz; have q256 : x6_4 < (l0_3.length : Int) := oz; obtain ⟨ad256, e256, hx256_0, hx256_1, hx256_2⟩ := at_T59 HR0_3.out x6_4 p256 q256
                cases e256
                replace hx256_0 := pw_cell_below HB.out hx256_0; replace hx256_1 := pw_cell_below HB.out hx256_1; replace hx256_2 := pw_cell_below HB.out hx256_2; replace p256 := eq_true p256; replace q256 := eq_true q256
                go_upto_if 135 with (first | ((with_reducible refine gate_callee (f := 33) rfl ?_); refine goesL_ (some 114) rfl rfl Try.func33 (by kernel_rfl) rfl #[.int .i64 ((rd_T59 l0_3 x6_4).f0), .int .i64 0, .int .i64 (wrap64 (a0_0 - 1))] rfl (by (try simp only [List.map_toArray, List.map_cons, List.map_nil]); first | done | rfl) ?_; (with_reducible refine (spec_l1In.calls ((rd_T59 l0_3 x6_4).f0) 0 (wrap64 (a0_0 - 1)) true _ A42.out).mono ?_); rintro e w' ⟨rfl, ⟨nd, rfl⟩⟩; refine ⟨_, rfl, ?_⟩; have p258 : 0 ≤ (x6_4 : Int) := oz; have q258 : x6_4 < (l0_3.length : Int) := oz; obtain ⟨ad258, e258, hx258_0, hx258_1, hx258_2⟩ := at_T59 HR0_3.out x6_4 p258 q258; obtain rfl : ad256 = ad258 := (by injection e258); replace hx258_0 := pw_cell_below HB.out hx258_0; replace hx258_1 := pw_cell_below HB.out hx258_1; replace hx258_2 := pw_cell_below HB.out hx258_2; replace p258 := eq_true p258; replace q258 := eq_true q258) | (go_at_call 33; (with_reducible refine (spec_l1In.calls ((rd_T59 l0_3 x6_4).f1) 1 100000 true _ A44.out).mono ?_); rintro e w' ⟨rfl, ⟨nd, rfl⟩⟩; have p260 : 0 ≤ (x6_4 : Int) := oz; have q260 : x6_4 < (l0_3.length : Int) := oz; obtain ⟨ad260, e260, hx260_0, hx260_1, hx260_2⟩ := at_T59 HR0_3.out x6_4 p260 q260; obtain rfl : ad256 = ad260 := (by injection e260); replace hx260_0 := pw_cell_below HB.out hx260_0; replace hx260_1 := pw_cell_below HB.out hx260_1; replace hx260_2 := pw_cell_below HB.out hx260_2; replace p260 := eq_true p260; replace q260 := eq_true q260) | (go_at_call 33; (with_reducible refine (spec_l1In.calls ((rd_T59 l0_3 x6_4).f2) 0 9 t261 _ A46.out).mono ?_); rintro e w' ⟨rfl, ⟨nd, rfl⟩⟩))
                (try simp only [Act.put, sA, sB, sC])
                have H := HC47.out; clear HC47
                by_cases c49 : t261 = true
                ·
                 subst c49
                 have H1 : (spec_NetOk.l2 k4 (wrap64 (a0_0 - 1)) (wrap64 (x6_4 + 1)) a0_0 l0_1 l0_2 l0_3) = some r := by rw [if_pos rfl] at H; exact H
                 clear H; have H := H1; clear H1; have H' := Az H; clear H
                 go_wp2
                 go_roundg k4
                 case measure => have := HJ1.out; have := HK2.out; have := HK3.out; have := HK4.out; omega
                 case rel => exact ⟨(wrap64 (x6_4 + 1)), (by first | rfl | (simp; done) | (simp [*]; done)), H', ⟨by have := HJ1.out; have := HK2.out; have := HK3.out; have := HK4.out; omega⟩, ⟨by refine bu ?_; exact BK244.out⟩, ⟨bz⟩⟩
                ·
                 replace c49 := Bool.eq_false_iff.mpr c49; subst c49
                 have H1 : (some false) = some r := by rw [if_neg (show ¬ (false = true) by decide)] at H; exact H
                 clear H; have H := H1; clear H1; obtain rfl := Option.some.inj H
                 go_wp2
                 go_ret
                 exact ⟨rz, bz⟩
               ·
                replace c45 := Bool.eq_false_iff.mpr c45; subst c45
                have H1 : (some false) = some r := by rw [if_neg (show ¬ (false = true) by decide)] at H; exact H
                clear H; have H := H1; clear H1; have HC50 := Az H; clear H; obtain ⟨hcz51_0, hcz51_1, hcz51_2, hcz51_3⟩ := bc4 BK244.out; obtain ⟨hfz51_0, hfz51_1, hfz51_2, hfz51_3⟩ := bf4_ BK244.out; have p256 : 0 ≤ (x6_4 : Int) := oz; have q256 : x6_4 < (l0_3.length : Int) := oz; obtain ⟨ad256, e256, hx256_0, hx256_1, hx256_2⟩ := at_T59 HR0_3.out x6_4 p256 q256
                cases e256
                replace hx256_0 := pw_cell_below HB.out hx256_0; replace hx256_1 := pw_cell_below HB.out hx256_1; replace hx256_2 := pw_cell_below HB.out hx256_2; replace p256 := eq_true p256; replace q256 := eq_true q256
                go_upto_if 135 with (first | ((with_reducible refine gate_callee (f := 33) rfl ?_); refine goesL_ (some 114) rfl rfl Try.func33 (by kernel_rfl) rfl #[.int .i64 ((rd_T59 l0_3 x6_4).f0), .int .i64 0, .int .i64 (wrap64 (a0_0 - 1))] rfl (by (try simp only [List.map_toArray, List.map_cons, List.map_nil]); first | done | rfl) ?_; (with_reducible refine (spec_l1In.calls ((rd_T59 l0_3 x6_4).f0) 0 (wrap64 (a0_0 - 1)) true _ A42.out).mono ?_); rintro e w' ⟨rfl, ⟨nd, rfl⟩⟩; refine ⟨_, rfl, ?_⟩; have p258 : 0 ≤ (x6_4 : Int) := oz; have q258 : x6_4 < (l0_3.length : Int) := oz; obtain ⟨ad258, e258, hx258_0, hx258_1, hx258_2⟩ := at_T59 HR0_3.out x6_4 p258 q258; obtain rfl : ad256 = ad258 := (by injection e258); replace hx258_0 := pw_cell_below HB.out hx258_0; replace hx258_1 := pw_cell_below HB.out hx258_1; replace hx258_2 := pw_cell_below HB.out hx258_2; replace p258 := eq_true p258; replace q258 := eq_true q258) | (go_at_call 33; (with_reducible refine (spec_l1In.calls ((rd_T59 l0_3 x6_4).f1) 1 100000 false _ A44.out).mono ?_); rintro e w' ⟨rfl, ⟨nd, rfl⟩⟩))
                (try simp only [Act.put, sA, sB, sC])
                have H := HC50.out; clear HC50; obtain rfl := Option.some.inj H
                go_wp2
                go_ret
                exact ⟨rz, bz⟩
              ·
               replace c43 := Bool.eq_false_iff.mpr c43; subst c43
               have H1 : (some false) = some r := by rw [if_neg (show ¬ (false = true) by decide)] at H; exact H
               clear H; have H := H1; clear H1; have HC52 := Az H; clear H; obtain ⟨hcz53_0, hcz53_1, hcz53_2, hcz53_3⟩ := bc4 BK244.out; obtain ⟨hfz53_0, hfz53_1, hfz53_2, hfz53_3⟩ := bf4_ BK244.out; have p256 : 0 ≤ (x6_4 : Int) := oz; have q256 : x6_4 < (l0_3.length : Int) := oz; obtain ⟨ad256, e256, hx256_0, hx256_1, hx256_2⟩ := at_T59 HR0_3.out x6_4 p256 q256
               cases e256
               replace hx256_0 := pw_cell_below HB.out hx256_0; replace hx256_1 := pw_cell_below HB.out hx256_1; replace hx256_2 := pw_cell_below HB.out hx256_2; replace p256 := eq_true p256; replace q256 := eq_true q256
               go_upto_if 135 with (first | ((with_reducible refine gate_callee (f := 33) rfl ?_); refine goesL_ (some 114) rfl rfl Try.func33 (by kernel_rfl) rfl #[.int .i64 ((rd_T59 l0_3 x6_4).f0), .int .i64 0, .int .i64 (wrap64 (a0_0 - 1))] rfl (by (try simp only [List.map_toArray, List.map_cons, List.map_nil]); first | done | rfl) ?_; (with_reducible refine (spec_l1In.calls ((rd_T59 l0_3 x6_4).f0) 0 (wrap64 (a0_0 - 1)) false _ A42.out).mono ?_); rintro e w' ⟨rfl, ⟨nd, rfl⟩⟩; refine ⟨_, rfl, ?_⟩))
               (try simp only [Act.put, sA, sB, sC])
               have H := HC52.out; clear HC52; obtain rfl := Option.some.inj H
               go_wp2
               go_ret
               exact ⟨rz, bz⟩
             ·
              rw [if_neg c41] at H; exact absurd H (by simp)
            ·
             rw [if_neg c40] at H; have c40b0 : decide (x6_4 < (l0_3.length : Int)) = false := decide_eq_false c40; clear c40; obtain rfl := Option.some.inj H; obtain ⟨hcz54_0, hcz54_1, hcz54_2, hcz54_3⟩ := bc4 BK244.out; obtain ⟨hfz54_0, hfz54_1, hfz54_2, hfz54_3⟩ := bf4_ BK244.out
             go_wp2
             go_ret
             exact ⟨rz, bz⟩

end Go.Proofs.Ytbbfibokedlkkaa.PFnTied
