/- Walks of the functions named below, by a program of the session over the kit's printer. -/
import Derived.Test.YtjndpoofjidamaaPFnExactTake14x0
import Derived.Test.YtjndpoofjidamaaPFnExactTake14x6
import Derived.Test.YtjndpoofjidamaaPFnExactTake14x7
namespace Go.Proofs.Ytjndpoofjidamaa.PFnExactTake14
open Go.RowKit Go.Proofs.YtjndpoofjidamaaW.PrintWords Go.Proofs.YtjndpoofjidamaaW.PrintLast Go.Proofs.YtjndpoofjidamaaW.PrintMore
attribute [local go_sem] max2_int min2_int max_two min_two max_three min_three max_four min_four   -- for this text's walks alone
set_option linter.unusedVariables false
set_option linter.unusedSimpArgs false
abbrev A8_0 := #[O,O,O,O,O,O,O,O,O,O,O,O,O,O,O,O,O,O,O,O,O,O,O,O,O,O,O,O,O,O,O,O,O,O,O,O,O]
abbrev A8_1 := #[I,O,O,O,O,O,O,O,O,O,O,O,O,O,O,O,O,O,O,O,O,O,O,O,O,O,O,O,O,O,O,O,O,O,O,O,O]
abbrev A8_2 := #[I,I,O,O,O,O,O,O,O,O,O,O,O,O,O,O,O,O,O,O,O,O,O,O,O,O,O,O,O,O,O,O,O,O,O,O,O]
abbrev A8_3 := #[I,I,I,O,O,O,O,O,O,O,O,O,O,O,O,O,O,O,O,O,O,O,O,O,O,O,O,O,O,O,O,O,O,O,O,O,O]
abbrev A8_4 := #[I,I,I,I,O,O,O,O,O,O,O,O,O,O,O,O,O,O,O,O,O,O,O,O,O,O,O,O,O,O,O,O,O,O,O,O,O]
abbrev A8_5 := #[I,I,I,I,I,O,O,O,O,O,O,O,O,O,O,O,O,O,O,O,O,O,O,O,O,O,O,O,O,O,O,O,O,O,O,O,O]
abbrev A8_6 := #[I,I,I,I,I,I,O,O,O,O,O,O,O,O,O,O,O,O,O,O,O,O,O,O,O,O,O,O,O,O,O,O,O,O,O,O,O]
abbrev A8_7 := #[I,I,I,I,I,I,I,O,O,O,O,O,O,O,O,O,O,O,O,O,O,O,O,O,O,O,O,O,O,O,O,O,O,O,O,O,O]
abbrev A8_8 := #[I,I,I,I,I,I,I,I,O,O,O,O,O,O,O,O,O,O,O,O,O,O,O,O,O,O,O,O,O,O,O,O,O,O,O,O,O]
abbrev A8_9 := #[I,I,I,I,I,I,I,I,I,O,O,O,O,O,O,O,O,O,O,O,O,O,O,O,O,O,O,O,O,O,O,O,O,O,O,O,O]
abbrev A8_10 := #[I,I,I,I,I,I,I,I,I,I,O,O,O,O,O,O,O,O,O,O,O,O,O,O,O,O,O,O,O,O,O,O,O,O,O,O,O]
abbrev A8_11 := #[I,I,I,I,I,I,I,I,I,I,I,O,O,O,O,O,O,O,O,O,O,O,O,O,O,O,O,O,O,O,O,O,O,O,O,O,O]
abbrev A8_12 := #[I,I,I,I,I,I,I,I,I,I,I,I,O,O,O,O,O,O,O,O,O,O,O,O,O,O,O,O,O,O,O,O,O,O,O,O,O]
abbrev A8_13 := #[I,I,I,I,I,I,I,I,I,I,I,I,I,O,O,O,O,O,O,O,O,O,O,O,O,O,O,O,O,O,O,O,O,O,O,O,O]
abbrev A8_14 := #[I,I,I,I,I,I,I,I,I,I,I,I,I,O,I,O,O,O,O,O,O,O,O,O,O,O,O,O,O,O,O,O,O,O,O,O,O]
abbrev A8_15 := #[I,I,I,I,I,I,I,I,I,I,I,I,I,I,I,O,O,O,O,O,O,O,O,O,O,O,O,O,O,O,O,O,O,O,O,O,O]
abbrev A8_16 := #[I,I,I,I,I,I,I,I,I,I,I,I,I,I,I,I,O,O,O,O,O,O,O,O,O,O,O,O,O,O,O,O,O,O,O,O,O]
abbrev A8_17 := #[I,I,I,I,I,I,I,I,I,I,I,I,I,I,I,I,I,O,O,O,O,O,O,O,O,O,O,O,O,O,O,O,O,O,O,O,O]
abbrev A8_18 := #[I,I,I,I,I,I,I,I,I,I,I,I,I,I,I,I,I,I,O,O,O,O,O,O,O,O,O,O,O,O,O,O,O,O,O,O,O]
abbrev A8_19 := #[I,I,I,I,I,I,I,I,I,I,I,I,I,I,I,I,I,I,I,O,O,O,O,O,O,O,O,O,O,O,O,O,O,O,O,O,O]
abbrev A8_20 := #[I,I,I,I,I,I,I,I,I,I,I,I,I,I,I,I,I,I,I,I,O,O,O,O,O,O,O,O,O,O,O,O,O,O,O,O,O]
abbrev A8_21 := #[I,I,I,I,I,I,I,I,I,I,I,I,I,I,I,I,I,I,I,I,I,O,O,O,O,O,O,O,O,O,O,O,O,O,O,O,O]
abbrev A8_22 := #[I,I,I,I,I,I,I,I,I,I,I,I,I,I,I,I,I,I,I,I,I,I,O,O,O,O,O,O,O,O,O,O,O,O,O,O,O]
abbrev A8_23 := #[I,I,I,I,I,I,I,I,I,I,I,I,I,I,I,I,I,I,I,I,I,I,I,O,O,O,O,O,O,O,O,O,O,O,O,O,O]
abbrev A8_24 := #[I,I,I,I,I,I,I,I,I,I,I,I,I,I,I,I,I,I,I,I,I,I,I,I,O,O,O,O,O,O,O,O,O,O,O,O,O]
abbrev A8_25 := #[I,I,I,I,I,I,I,I,I,I,I,I,I,I,I,I,I,I,I,I,I,I,I,I,I,O,O,O,O,O,O,O,O,O,O,O,O]
abbrev A8_26 := #[I,I,I,I,I,I,I,I,I,I,I,I,I,I,I,I,I,I,I,I,I,I,I,I,I,I,O,O,O,O,O,O,O,O,O,O,O]
abbrev A8_27 := #[I,I,I,I,I,I,I,I,I,I,I,I,I,I,I,I,I,I,I,I,I,I,I,I,I,I,I,O,O,O,O,O,O,O,O,O,O]
abbrev A8_28 := #[I,I,I,I,I,I,I,I,I,I,I,I,I,I,I,I,I,I,I,I,I,I,I,I,I,I,I,I,O,O,O,O,O,O,O,O,O]
abbrev A8_29 := #[I,I,I,I,I,I,I,I,I,I,I,I,I,I,I,I,I,I,I,I,I,I,I,I,I,I,I,I,I,O,O,O,O,O,O,O,O]
abbrev A8_30 := #[I,I,I,I,I,I,I,I,I,I,I,I,I,I,I,I,I,I,I,I,I,I,I,I,I,I,I,I,I,I,O,O,O,O,O,O,O]
abbrev A8_31 := #[I,I,I,I,I,I,I,I,I,I,I,I,I,I,I,I,I,I,I,I,I,I,I,I,I,I,I,I,I,I,I,O,O,O,O,O,O]
abbrev A8_32 := #[I,I,I,I,I,I,I,I,I,I,I,I,I,I,I,I,I,I,I,I,I,I,I,I,I,I,I,I,I,I,I,I,O,O,O,O,O]
abbrev A8_33 := #[I,I,I,I,I,I,I,I,I,I,I,I,I,I,I,I,I,I,I,I,I,I,I,I,I,I,I,I,I,I,I,I,I,O,O,O,O]
abbrev A8_34 := #[I,I,I,I,I,I,I,I,I,I,I,I,I,I,I,I,I,I,I,I,I,I,I,I,I,I,I,I,I,I,I,I,I,I,O,O,O]
abbrev A8_35 := #[I,I,I,I,I,I,I,I,I,I,I,I,I,I,I,I,I,I,I,I,I,I,I,I,I,I,I,I,I,I,I,I,I,I,I,O,O]
abbrev A8_36 := #[I,I,I,I,I,I,I,I,I,I,I,I,I,I,I,I,I,I,I,I,I,I,I,I,I,I,I,I,I,I,I,I,I,I,I,I,O]
abbrev A8_37 := #[I,I,I,I,I,I,I,I,I,I,I,I,I,I,I,I,I,I,I,I,I,I,I,I,I,I,I,I,I,I,I,I,I,I,I,I,I]
abbrev A8_38 := #[I,I,I,I,I,I,I,I,I,I,I,I,I,I,O,O,O,O,O,O,O,O,O,O,O,O,O,O,O,O,O,O,O,O,O,O,O]

/-! ### spec_RulesOk: function 10 -/
mutual
def spec_RulesOk.l0 : Nat → List (S63) → Int → Option (Bool)
 | 0, _, _ => none
 | k + 1, x0, x3 => if x3 < (x0.length : Int) then (if 0 ≤ x3 then ((spec_l1Name.f k ((rd_T63 x0 x3).f0)).bind fun t205 => (if t205 = true then (if x3 > 0 then (if 0 ≤ (wrap64 (x3 - 1)) then (if (wrap64 (x3 - 1)) < (x0.length : Int) then (if ((Op.bytesLess (((rd_T63 x0 (wrap64 (x3 - 1))).f0).toList) (((rd_T63 x0 x3).f0).toList)) = true) then ((spec_l1In.f ((rd_T63 x0 x3).f1) 1 3).bind fun t207 => (if t207 = true then ((spec_l1Rise.f k ((rd_T63 x0 x3).f2)).bind fun t208 => (if t208 = true then ((spec_l1All.f k ((rd_T63 x0 x3).f2) 0 9).bind fun t209 => (spec_RulesOk.j1 k x0 x3 (!t209) ((rd_T63 x0 x3).f0) ((rd_T63 x0 x3).f1) ((rd_T63 x0 x3).f2) ((rd_T63 x0 x3).f3) ((rd_T63 x0 x3).f4))) else (spec_RulesOk.j1 k x0 x3 true ((rd_T63 x0 x3).f0) ((rd_T63 x0 x3).f1) ((rd_T63 x0 x3).f2) ((rd_T63 x0 x3).f3) ((rd_T63 x0 x3).f4)))) else (spec_RulesOk.j1 k x0 x3 true ((rd_T63 x0 x3).f0) ((rd_T63 x0 x3).f1) ((rd_T63 x0 x3).f2) ((rd_T63 x0 x3).f3) ((rd_T63 x0 x3).f4)))) else (spec_RulesOk.j1 k x0 x3 true ((rd_T63 x0 x3).f0) ((rd_T63 x0 x3).f1) ((rd_T63 x0 x3).f2) ((rd_T63 x0 x3).f3) ((rd_T63 x0 x3).f4))) else (none)) else (none)) else ((spec_l1In.f ((rd_T63 x0 x3).f1) 1 3).bind fun t210 => (if t210 = true then ((spec_l1Rise.f k ((rd_T63 x0 x3).f2)).bind fun t211 => (if t211 = true then ((spec_l1All.f k ((rd_T63 x0 x3).f2) 0 9).bind fun t212 => (spec_RulesOk.j1 k x0 x3 (!t212) ((rd_T63 x0 x3).f0) ((rd_T63 x0 x3).f1) ((rd_T63 x0 x3).f2) ((rd_T63 x0 x3).f3) ((rd_T63 x0 x3).f4))) else (spec_RulesOk.j1 k x0 x3 true ((rd_T63 x0 x3).f0) ((rd_T63 x0 x3).f1) ((rd_T63 x0 x3).f2) ((rd_T63 x0 x3).f3) ((rd_T63 x0 x3).f4)))) else (spec_RulesOk.j1 k x0 x3 true ((rd_T63 x0 x3).f0) ((rd_T63 x0 x3).f1) ((rd_T63 x0 x3).f2) ((rd_T63 x0 x3).f3) ((rd_T63 x0 x3).f4))))) else (spec_RulesOk.j1 k x0 x3 true ((rd_T63 x0 x3).f0) ((rd_T63 x0 x3).f1) ((rd_T63 x0 x3).f2) ((rd_T63 x0 x3).f3) ((rd_T63 x0 x3).f4)))) else (none)) else (some (decide ((x0.length : Int) ≤ 30)))
def spec_RulesOk.j1 : Nat → List (S63) → Int → Bool → ByteArray → Int → List Int → Bool → ByteArray → Option (Bool)
 | 0, _, _, _, _, _, _, _, _ => none
 | k + 1, x0, x3, x52, x205000, x205001, x205002, x205003, x205004 => if x52 = true then (some false) else (if x205004.toList = ([] : List UInt8) then (spec_RulesOk.l0 k x0 (wrap64 (x3 + 1))) else ((spec_l14Find.f k x0 x205004).bind fun t213 => (if t213 < 0 then (some false) else (if t213 = x3 then (some false) else (if 0 ≤ t213 then (if t213 < (x0.length : Int) then (if ((rd_T63 x0 t213).f4).toList = ([] : List UInt8) then (spec_RulesOk.l0 k x0 (wrap64 (x3 + 1))) else (some false)) else (none)) else (none))))))
end
def spec_RulesOk.f (k : Nat) (l0 : List (S63)) : Option (Bool) := spec_RulesOk.l0 k l0 0
def spec_RulesOk.T5 : Bool × List (List Nat × List Nat) := (true, [([], []), ([0], [0]), ([1], [1]), ([2], [2]), ([3, 2], [3]), ([4], [4]), ([5, 4], [4, 5]), ([6, 4, 4], [4, 6]), ([7], [7]), ([7], [7]), ([9, 7], [7, 9]), ([8, 10, 7], [7, 8, 10]), ([11, 7], [7, 11]), ([12, 7], [7, 12]), ([7], [7]), ([14, 7], [7, 14]), ([13, 15, 7], [7, 13, 15]), ([7, 16, 4], [4, 7, 16]), ([4, 17], [4, 17]), ([18, 7], [18]), ([19], [19]), ([20, 19], [19, 20]), ([21, 19, 19], [19, 21]), ([22, 19], [19, 22]), ([19, 23], [19, 23]), ([24, 22], [24]), ([25], [25]), ([26, 25], [25, 26]), ([27, 25, 25], [25, 27]), ([28, 25], [25, 28]), ([25, 29], [25, 29]), ([30, 28], [30]), ([31], [31]), ([32, 31], [31, 32]), ([33, 31, 31], [31, 33]), ([34, 31], [31, 34]), ([31, 35], [31, 35])])
def spec_RulesOk.B5 : List Nat := [0, 1, 3, 7, 15, 31, 63, 127, 255, 255, 767, 2047, 4095, 8191, 255, 16639, 65535, 131071, 262143, 524287, 1048575, 2097151, 4194303, 8388607, 16777215, 33554431, 67108863, 134217727, 268435455, 536870911, 1073741823, 2147483647, 4294967295, 8589934591, 17179869183, 34359738367, 68719476735]
theorem spec_RulesOk.tab5 : rtab .any (opsOf Try.f10 5) = spec_RulesOk.T5 := by kernel_rfl
theorem spec_RulesOk.bits5 : waitsOk spec_RulesOk.T5.2 spec_RulesOk.B5 = true := by kernel_rfl
set_option maxHeartbeats 8000000 in
set_option maxRecDepth 100000 in
theorem spec_RulesOk.calls (k : Nat) (A0 : Option Addr) (c0 : Nat) (l0 : List (S63)) (r : Bool) (w : World) (hr0 : Kd.C k63 w A0 l0.length l0) (hc0 : l0.length ≤ c0) (h : spec_RulesOk.f k l0 = some r) :
  Calls Try.prog 10 #[.slice A0 l0.length c0] w fun e w' => e = .returned (.bool r) ∧ Below w.heap.size w w' := by
 have hu63 := Try.underlying63; have HR0 := Az hr0; have HC0 := Az hc0; clear hr0 hc0; have HB := Az (Below.refl w.heap.size w); have H : (spec_RulesOk.l0 k l0 0) = some r := h; clear h; have H' := Az H; clear H
 go_enter Try.func10, Try.ntmps10
 go_wp2
 go_loopg [3] k (fun kq v3 w' => ∃ (x3_1 : Int), v3 = .int .i64 x3_1 ∧ Aside0 (spec_RulesOk.l0 kq l0 x3_1 = some r) ∧ Aside0 (kq ≤ k) ∧ Aside0 (Below w.heap.size w w'))
 case atStart => exact ⟨(0), (by first | rfl | (simp; done) | (simp [*]; done)), H', ⟨Nat.le_refl _⟩, ⟨bz⟩⟩
 case round =>
  clear H'; (try clear c1); obtain ⟨x3_1, rfl, HA, HK1, HB⟩ := hrel
  cases gk with
  | zero => exact absurd HA.out (by simp [spec_RulesOk.l0])
  | succ k1 =>
   have H := HA.out; clear HA; simp only [spec_RulesOk.l0] at H
   by_cases c2 : x3_1 < (l0.length : Int)
   ·
    rw [if_pos c2] at H; have c2b0 : decide (x3_1 < (l0.length : Int)) = true := decide_eq_true c2; clear c2
    by_cases c3 : 0 ≤ x3_1
    ·
     rw [if_pos c3] at H; have c3b0 : decide (0 ≤ x3_1) = true := decide_eq_true c3; clear c3; have HC4 := Az H; clear H; have p203 : 0 ≤ (x3_1 : Int) := oz; have q203 : x3_1 < (l0.length : Int) := oz; obtain ⟨ad203, A203_2, c203_2, e203, hx203_0, hx203_1, hx203_2, hx203_3, hx203_4, hl203_2, hi203_2⟩ := at_T63 HR0.out x3_1 p203 q203
     cases e203
     replace hx203_0 := pw_cell_below HB.out hx203_0; replace hx203_1 := pw_cell_below HB.out hx203_1; replace hx203_2 := pw_cell_below HB.out hx203_2; replace hx203_3 := pw_cell_below HB.out hx203_3; replace hx203_4 := pw_cell_below HB.out hx203_4; have HR203_2 := Az hi203_2; have HC203_2 := Az hl203_2; clear hi203_2 hl203_2; replace p203 := eq_true p203; replace q203 := eq_true q203
     go_upto_region 5 with (first | ((with_reducible refine gate_dst (N := 4) rfl ?_); refine box_event ?hg (N := 4) ?hd (cs := #[.string (⟨#[]⟩ : ByteArray), .int .i64 0, .slice none 0 0, .bool false, .string (⟨#[]⟩ : ByteArray)]) (t := 63) ?hr ?_; (case hd => rfl); (case hg => rfl); (case hr => first | (go_simp; done) | (go_simp; rfl)); intro gb204 hg w5 hbox hb; have BK204 := Az (hbox); have GW204 := Az ((by rw [hg]; exact (below_size bz) : w.heap.size ≤ gb204)); replace HB := Az (below_step bz hb); have GE204 := GW204; clear hb hbox hg; obtain ⟨hcz6_0, hcz6_1, hcz6_2, hcz6_3, hcz6_4⟩ := bc5 BK204.out; obtain ⟨hfz6_0, hfz6_1, hfz6_2, hfz6_3, hfz6_4⟩ := bf5_ BK204.out))
     (try simp only [Act.put, sA, sB, sC])
     go_cut [52, 9] (fun v52 v9 wc => ∃ (kq : Nat) (x52_3 : Bool), v52 = .bool x52_3 ∧ Aside0 (spec_RulesOk.j1 kq l0 x3_1 x52_3 ((rd_T63 l0 x3_1).f0) ((rd_T63 l0 x3_1).f1) ((rd_T63 l0 x3_1).f2) ((rd_T63 l0 x3_1).f3) ((rd_T63 l0 x3_1).f4) = some r) ∧ Aside0 (kq ≤ k1) ∧ Aside0 (wc.heap[gb204]? = some (.cells #[.string ((rd_T63 l0 x3_1).f0), .int .i64 ((rd_T63 l0 x3_1).f1), (.slice A203_2 ((rd_T63 l0 x3_1).f2).length c203_2), .bool ((rd_T63 l0 x3_1).f3), .string ((rd_T63 l0 x3_1).f4)] 63 (0, 0))) ∧ Aside0 (Below w.heap.size w wc))
     case first =>
      have H := HC4.out; clear HC4; replace H := Option.bind_eq_some_iff.mp H; obtain ⟨t205, A70, H⟩ := H; replace H : (if t205 = true then (if x3_1 > 0 then (if 0 ≤ (wrap64 (x3_1 - 1)) then (if (wrap64 (x3_1 - 1)) < (l0.length : Int) then (if ((Op.bytesLess (((rd_T63 l0 (wrap64 (x3_1 - 1))).f0).toList) (((rd_T63 l0 x3_1).f0).toList)) = true) then ((spec_l1In.f ((rd_T63 l0 x3_1).f1) 1 3).bind fun t207 => (if t207 = true then ((spec_l1Rise.f k1 ((rd_T63 l0 x3_1).f2)).bind fun t208 => (if t208 = true then ((spec_l1All.f k1 ((rd_T63 l0 x3_1).f2) 0 9).bind fun t209 => (spec_RulesOk.j1 k1 l0 x3_1 (!t209) ((rd_T63 l0 x3_1).f0) ((rd_T63 l0 x3_1).f1) ((rd_T63 l0 x3_1).f2) ((rd_T63 l0 x3_1).f3) ((rd_T63 l0 x3_1).f4))) else (spec_RulesOk.j1 k1 l0 x3_1 true ((rd_T63 l0 x3_1).f0) ((rd_T63 l0 x3_1).f1) ((rd_T63 l0 x3_1).f2) ((rd_T63 l0 x3_1).f3) ((rd_T63 l0 x3_1).f4)))) else (spec_RulesOk.j1 k1 l0 x3_1 true ((rd_T63 l0 x3_1).f0) ((rd_T63 l0 x3_1).f1) ((rd_T63 l0 x3_1).f2) ((rd_T63 l0 x3_1).f3) ((rd_T63 l0 x3_1).f4)))) else (spec_RulesOk.j1 k1 l0 x3_1 true ((rd_T63 l0 x3_1).f0) ((rd_T63 l0 x3_1).f1) ((rd_T63 l0 x3_1).f2) ((rd_T63 l0 x3_1).f3) ((rd_T63 l0 x3_1).f4))) else (none)) else (none)) else ((spec_l1In.f ((rd_T63 l0 x3_1).f1) 1 3).bind fun t210 => (if t210 = true then ((spec_l1Rise.f k1 ((rd_T63 l0 x3_1).f2)).bind fun t211 => (if t211 = true then ((spec_l1All.f k1 ((rd_T63 l0 x3_1).f2) 0 9).bind fun t212 => (spec_RulesOk.j1 k1 l0 x3_1 (!t212) ((rd_T63 l0 x3_1).f0) ((rd_T63 l0 x3_1).f1) ((rd_T63 l0 x3_1).f2) ((rd_T63 l0 x3_1).f3) ((rd_T63 l0 x3_1).f4))) else (spec_RulesOk.j1 k1 l0 x3_1 true ((rd_T63 l0 x3_1).f0) ((rd_T63 l0 x3_1).f1) ((rd_T63 l0 x3_1).f2) ((rd_T63 l0 x3_1).f3) ((rd_T63 l0 x3_1).f4)))) else (spec_RulesOk.j1 k1 l0 x3_1 true ((rd_T63 l0 x3_1).f0) ((rd_T63 l0 x3_1).f1) ((rd_T63 l0 x3_1).f2) ((rd_T63 l0 x3_1).f3) ((rd_T63 l0 x3_1).f4))))) else (spec_RulesOk.j1 k1 l0 x3_1 true ((rd_T63 l0 x3_1).f0) ((rd_T63 l0 x3_1).f1) ((rd_T63 l0 x3_1).f2) ((rd_T63 l0 x3_1).f3) ((rd_T63 l0 x3_1).f4))) = some r := H; have A7 := Az A70; clear A70
      by_cases c8 : t205 = true
      ·
       subst c8
       have H1 : (if x3_1 > 0 then (if 0 ≤ (wrap64 (x3_1 - 1)) then (if (wrap64 (x3_1 - 1)) < (l0.length : Int) then (if ((Op.bytesLess (((rd_T63 l0 (wrap64 (x3_1 - 1))).f0).toList) (((rd_T63 l0 x3_1).f0).toList)) = true) then ((spec_l1In.f ((rd_T63 l0 x3_1).f1) 1 3).bind fun t207 => (if t207 = true then ((spec_l1Rise.f k1 ((rd_T63 l0 x3_1).f2)).bind fun t208 => (if t208 = true then ((spec_l1All.f k1 ((rd_T63 l0 x3_1).f2) 0 9).bind fun t209 => (spec_RulesOk.j1 k1 l0 x3_1 (!t209) ((rd_T63 l0 x3_1).f0) ((rd_T63 l0 x3_1).f1) ((rd_T63 l0 x3_1).f2) ((rd_T63 l0 x3_1).f3) ((rd_T63 l0 x3_1).f4))) else (spec_RulesOk.j1 k1 l0 x3_1 true ((rd_T63 l0 x3_1).f0) ((rd_T63 l0 x3_1).f1) ((rd_T63 l0 x3_1).f2) ((rd_T63 l0 x3_1).f3) ((rd_T63 l0 x3_1).f4)))) else (spec_RulesOk.j1 k1 l0 x3_1 true ((rd_T63 l0 x3_1).f0) ((rd_T63 l0 x3_1).f1) ((rd_T63 l0 x3_1).f2) ((rd_T63 l0 x3_1).f3) ((rd_T63 l0 x3_1).f4)))) else (spec_RulesOk.j1 k1 l0 x3_1 true ((rd_T63 l0 x3_1).f0) ((rd_T63 l0 x3_1).f1) ((rd_T63 l0 x3_1).f2) ((rd_T63 l0 x3_1).f3) ((rd_T63 l0 x3_1).f4))) else (none)) else (none)) else ((spec_l1In.f ((rd_T63 l0 x3_1).f1) 1 3).bind fun t210 => (if t210 = true then ((spec_l1Rise.f k1 ((rd_T63 l0 x3_1).f2)).bind fun t211 => (if t211 = true then ((spec_l1All.f k1 ((rd_T63 l0 x3_1).f2) 0 9).bind fun t212 => (spec_RulesOk.j1 k1 l0 x3_1 (!t212) ((rd_T63 l0 x3_1).f0) ((rd_T63 l0 x3_1).f1) ((rd_T63 l0 x3_1).f2) ((rd_T63 l0 x3_1).f3) ((rd_T63 l0 x3_1).f4))) else (spec_RulesOk.j1 k1 l0 x3_1 true ((rd_T63 l0 x3_1).f0) ((rd_T63 l0 x3_1).f1) ((rd_T63 l0 x3_1).f2) ((rd_T63 l0 x3_1).f3) ((rd_T63 l0 x3_1).f4)))) else (spec_RulesOk.j1 k1 l0 x3_1 true ((rd_T63 l0 x3_1).f0) ((rd_T63 l0 x3_1).f1) ((rd_T63 l0 x3_1).f2) ((rd_T63 l0 x3_1).f3) ((rd_T63 l0 x3_1).f4))))) = some r := by rw [if_pos rfl] at H; exact H
       clear H; have H := H1; clear H1
       by_cases c9 : x3_1 > 0
       ·
        rw [if_pos c9] at H; have c9b0 : decide (0 < x3_1) = true := decide_eq_true c9; clear c9
        (first | rw [c9b0] | (simp only [i64_w, i32_w]; rw [c9b0]) | skip)
        obtain ⟨ji10, hji10⟩ : ∃ j_ : Int, (wrap64 (x3_1 - 1)) = j_ := ⟨_, rfl⟩
        replace H : (if 0 ≤ (ji10) then (if (ji10) < (l0.length : Int) then (if ((Op.bytesLess (((rd_T63 l0 (ji10)).f0).toList) (((rd_T63 l0 x3_1).f0).toList)) = true) then ((spec_l1In.f ((rd_T63 l0 x3_1).f1) 1 3).bind fun t207 => (if t207 = true then ((spec_l1Rise.f k1 ((rd_T63 l0 x3_1).f2)).bind fun t208 => (if t208 = true then ((spec_l1All.f k1 ((rd_T63 l0 x3_1).f2) 0 9).bind fun t209 => (spec_RulesOk.j1 k1 l0 x3_1 (!t209) ((rd_T63 l0 x3_1).f0) ((rd_T63 l0 x3_1).f1) ((rd_T63 l0 x3_1).f2) ((rd_T63 l0 x3_1).f3) ((rd_T63 l0 x3_1).f4))) else (spec_RulesOk.j1 k1 l0 x3_1 true ((rd_T63 l0 x3_1).f0) ((rd_T63 l0 x3_1).f1) ((rd_T63 l0 x3_1).f2) ((rd_T63 l0 x3_1).f3) ((rd_T63 l0 x3_1).f4)))) else (spec_RulesOk.j1 k1 l0 x3_1 true ((rd_T63 l0 x3_1).f0) ((rd_T63 l0 x3_1).f1) ((rd_T63 l0 x3_1).f2) ((rd_T63 l0 x3_1).f3) ((rd_T63 l0 x3_1).f4)))) else (spec_RulesOk.j1 k1 l0 x3_1 true ((rd_T63 l0 x3_1).f0) ((rd_T63 l0 x3_1).f1) ((rd_T63 l0 x3_1).f2) ((rd_T63 l0 x3_1).f3) ((rd_T63 l0 x3_1).f4))) else (none)) else (none)) = some r := by first | (rw [hji10] at H; exact H) | (simp only [hji10] at H ⊢; exact H)
        (try rw [hji10] at A7)
        have hji10w : (IntKind.i64.wrap (x3_1 - 1)) = ji10 := (i64_w _).trans hji10
        by_cases c11 : 0 ≤ (ji10)
        ·
         rw [if_pos c11] at H; have c11b0 : decide (0 ≤ (ji10)) = true := decide_eq_true c11; clear c11
         by_cases c12 : (ji10) < (l0.length : Int)
         ·
          rw [if_pos c12] at H; have c12b0 : decide ((ji10) < (l0.length : Int)) = true := decide_eq_true c12; clear c12
          by_cases c13 : ((Op.bytesLess (((rd_T63 l0 (ji10)).f0).toList) (((rd_T63 l0 x3_1).f0).toList)) = true)
          ·
           rw [if_pos c13] at H; have c13b0 : (Op.bytesLess (((rd_T63 l0 (ji10)).f0).toList) (((rd_T63 l0 x3_1).f0).toList)) = true := c13; clear c13; replace H := Option.bind_eq_some_iff.mp H; obtain ⟨t207, A140, H⟩ := H; replace H : (if t207 = true then ((spec_l1Rise.f k1 ((rd_T63 l0 x3_1).f2)).bind fun t208 => (if t208 = true then ((spec_l1All.f k1 ((rd_T63 l0 x3_1).f2) 0 9).bind fun t209 => (spec_RulesOk.j1 k1 l0 x3_1 (!t209) ((rd_T63 l0 x3_1).f0) ((rd_T63 l0 x3_1).f1) ((rd_T63 l0 x3_1).f2) ((rd_T63 l0 x3_1).f3) ((rd_T63 l0 x3_1).f4))) else (spec_RulesOk.j1 k1 l0 x3_1 true ((rd_T63 l0 x3_1).f0) ((rd_T63 l0 x3_1).f1) ((rd_T63 l0 x3_1).f2) ((rd_T63 l0 x3_1).f3) ((rd_T63 l0 x3_1).f4)))) else (spec_RulesOk.j1 k1 l0 x3_1 true ((rd_T63 l0 x3_1).f0) ((rd_T63 l0 x3_1).f1) ((rd_T63 l0 x3_1).f2) ((rd_T63 l0 x3_1).f3) ((rd_T63 l0 x3_1).f4))) = some r := H; have A14 := Az A140; clear A140
           by_cases c15 : t207 = true
           ·
            subst c15
            have H1 : ((spec_l1Rise.f k1 ((rd_T63 l0 x3_1).f2)).bind fun t208 => (if t208 = true then ((spec_l1All.f k1 ((rd_T63 l0 x3_1).f2) 0 9).bind fun t209 => (spec_RulesOk.j1 k1 l0 x3_1 (!t209) ((rd_T63 l0 x3_1).f0) ((rd_T63 l0 x3_1).f1) ((rd_T63 l0 x3_1).f2) ((rd_T63 l0 x3_1).f3) ((rd_T63 l0 x3_1).f4))) else (spec_RulesOk.j1 k1 l0 x3_1 true ((rd_T63 l0 x3_1).f0) ((rd_T63 l0 x3_1).f1) ((rd_T63 l0 x3_1).f2) ((rd_T63 l0 x3_1).f3) ((rd_T63 l0 x3_1).f4)))) = some r := by rw [if_pos rfl] at H; exact H
            clear H; have H := H1; clear H1; replace H := Option.bind_eq_some_iff.mp H; obtain ⟨t208, A160, H⟩ := H; replace H : (if t208 = true then ((spec_l1All.f k1 ((rd_T63 l0 x3_1).f2) 0 9).bind fun t209 => (spec_RulesOk.j1 k1 l0 x3_1 (!t209) ((rd_T63 l0 x3_1).f0) ((rd_T63 l0 x3_1).f1) ((rd_T63 l0 x3_1).f2) ((rd_T63 l0 x3_1).f3) ((rd_T63 l0 x3_1).f4))) else (spec_RulesOk.j1 k1 l0 x3_1 true ((rd_T63 l0 x3_1).f0) ((rd_T63 l0 x3_1).f1) ((rd_T63 l0 x3_1).f2) ((rd_T63 l0 x3_1).f3) ((rd_T63 l0 x3_1).f4))) = some r := H; have A16 := Az A160; clear A160
            by_cases c17 : t208 = true
            ·
             subst c17
             have H1 : ((spec_l1All.f k1 ((rd_T63 l0 x3_1).f2) 0 9).bind fun t209 => (spec_RulesOk.j1 k1 l0 x3_1 (!t209) ((rd_T63 l0 x3_1).f0) ((rd_T63 l0 x3_1).f1) ((rd_T63 l0 x3_1).f2) ((rd_T63 l0 x3_1).f3) ((rd_T63 l0 x3_1).f4))) = some r := by rw [if_pos rfl] at H; exact H
             clear H; have H := H1; clear H1; replace H := Option.bind_eq_some_iff.mp H; obtain ⟨t209, A180, H⟩ := H; replace H : (spec_RulesOk.j1 k1 l0 x3_1 (!t209) ((rd_T63 l0 x3_1).f0) ((rd_T63 l0 x3_1).f1) ((rd_T63 l0 x3_1).f2) ((rd_T63 l0 x3_1).f3) ((rd_T63 l0 x3_1).f4)) = some r := H; have A18 := Az A180; clear A180; have H' := Az H; clear H
             try go_wp2
             have n0_ : Aside0 ((((((w5.setCell ⟨gb204, 0, none⟩ (.string ((rd_T63 l0 x3_1).f0))).setCell ⟨gb204, 1, none⟩ (.int .i64 ((rd_T63 l0 x3_1).f1))).setCell ⟨gb204, 2, none⟩ (.slice A203_2 ((rd_T63 l0 x3_1).f2).length c203_2)).setCell ⟨gb204, 3, none⟩ (.bool ((rd_T63 l0 x3_1).f3))).setCell ⟨gb204, 4, none⟩ (.string ((rd_T63 l0 x3_1).f4))).heap[gb204]? = some (.cells #[.string ((rd_T63 l0 x3_1).f0), .int .i64 ((rd_T63 l0 x3_1).f1), .slice A203_2 ((rd_T63 l0 x3_1).f2).length c203_2, .bool ((rd_T63 l0 x3_1).f3), .string ((rd_T63 l0 x3_1).f4)] 63 (0, 0))) := ⟨by refine bu ?_; refine blk_put (cs := #[.string ((rd_T63 l0 x3_1).f0), .int .i64 ((rd_T63 l0 x3_1).f1), .slice A203_2 ((rd_T63 l0 x3_1).f2).length c203_2, .bool ((rd_T63 l0 x3_1).f3), .string (⟨#[]⟩ : ByteArray)]) ?_ 4 _ rfl; refine bu ?_; refine blk_put (cs := #[.string ((rd_T63 l0 x3_1).f0), .int .i64 ((rd_T63 l0 x3_1).f1), .slice A203_2 ((rd_T63 l0 x3_1).f2).length c203_2, .bool false, .string (⟨#[]⟩ : ByteArray)]) ?_ 3 _ rfl; refine bu ?_; refine blk_put (cs := #[.string ((rd_T63 l0 x3_1).f0), .int .i64 ((rd_T63 l0 x3_1).f1), .slice none 0 0, .bool false, .string (⟨#[]⟩ : ByteArray)]) ?_ 2 _ rfl; refine bu ?_; refine blk_put (cs := #[.string ((rd_T63 l0 x3_1).f0), .int .i64 0, .slice none 0 0, .bool false, .string (⟨#[]⟩ : ByteArray)]) ?_ 1 _ rfl; refine bu ?_; refine blk_put (cs := #[.string (⟨#[]⟩ : ByteArray), .int .i64 0, .slice none 0 0, .bool false, .string (⟨#[]⟩ : ByteArray)]) ?_ 0 _ rfl; refine bu ?_; exact BK204.out⟩; have n1_ : Aside0 (Below w.heap.size w (((((w5.setCell ⟨gb204, 0, none⟩ (.string ((rd_T63 l0 x3_1).f0))).setCell ⟨gb204, 1, none⟩ (.int .i64 ((rd_T63 l0 x3_1).f1))).setCell ⟨gb204, 2, none⟩ (.slice A203_2 ((rd_T63 l0 x3_1).f2).length c203_2)).setCell ⟨gb204, 3, none⟩ (.bool ((rd_T63 l0 x3_1).f3))).setCell ⟨gb204, 4, none⟩ (.string ((rd_T63 l0 x3_1).f4)))) := ⟨bz⟩
             (try (have hsd_ : ∀ (W_ : World) (n_ : Nat) (a_ : Addr) (v_ : Value), (W_.drewN n_).setCell a_ v_ = (W_.setCell a_ v_).drewN n_ := fun _ _ _ _ => rfl); simp only [hsd_]; clear hsd_)
             (try clear BK204); (try clear HB); generalize (((((w5.setCell ⟨gb204, 0, none⟩ (.string ((rd_T63 l0 x3_1).f0))).setCell ⟨gb204, 1, none⟩ (.int .i64 ((rd_T63 l0 x3_1).f1))).setCell ⟨gb204, 2, none⟩ (.slice A203_2 ((rd_T63 l0 x3_1).f2).length c203_2)).setCell ⟨gb204, 3, none⟩ (.bool ((rd_T63 l0 x3_1).f3))).setCell ⟨gb204, 4, none⟩ (.string ((rd_T63 l0 x3_1).f4))) = w19 at n0_ n1_ ⊢; have BK204 := n0_; have HB := n1_; clear n0_ n1_; replace BK204 := Az (blk_drew BK204.out); replace HB := Az (below_drew1 HB.out); have p206 : 0 ≤ ((ji10) : Int) := oz; have q206 : (ji10) < (l0.length : Int) := oz; obtain ⟨ad206, A206_2, c206_2, e206, hx206_0, hx206_1, hx206_2, hx206_3, hx206_4, hl206_2, hi206_2⟩ := at_T63 HR0.out (ji10) p206 q206; have hw206_4 := hx206_4; have hw206_3 := hx206_3; have hw206_2 := hx206_2; have hw206_1 := hx206_1; have hw206_0 := hx206_0; obtain rfl : ad203 = ad206 := (by injection e206); replace hx206_0 := pw_cell_below HB.out hx206_0; replace hx206_1 := pw_cell_below HB.out hx206_1; replace hx206_2 := pw_cell_below HB.out hx206_2; replace hx206_3 := pw_cell_below HB.out hx206_3; replace hx206_4 := pw_cell_below HB.out hx206_4; have HR206_2 := Az hi206_2; have HC206_2 := Az hl206_2; clear hi206_2 hl206_2; replace p206 := eq_true p206; replace q206 := eq_true q206; refine start_ (n := 37) (S := fun w' => w'.cell? ⟨gb204, 0, none⟩ = some (.string ((rd_T63 l0 x3_1).f0)) ∧ w'.cell? ⟨gb204, 1, none⟩ = some (.int .i64 ((rd_T63 l0 x3_1).f1)) ∧ w'.cell? ⟨gb204, 2, none⟩ = some (.slice A203_2 ((rd_T63 l0 x3_1).f2).length c203_2) ∧ w'.cell? ⟨gb204, 3, none⟩ = some (.bool ((rd_T63 l0 x3_1).f3)) ∧ w'.cell? ⟨gb204, 4, none⟩ = some (.string ((rd_T63 l0 x3_1).f4)) ∧ w'.cell? (ad203.add (((ji10)).toNat * 5)) = some (.string ((rd_T63 l0 (ji10)).f0)) ∧ w'.cell? ⟨(ad203.add (((ji10)).toNat * 5)).block, (ad203.add (((ji10)).toNat * 5)).off + 1, none⟩ = some (.int .i64 ((rd_T63 l0 (ji10)).f1)) ∧ w'.cell? ⟨(ad203.add (((ji10)).toNat * 5)).block, (ad203.add (((ji10)).toNat * 5)).off + 2, none⟩ = some (.slice A206_2 ((rd_T63 l0 (ji10)).f2).length c206_2) ∧ w'.cell? ⟨(ad203.add (((ji10)).toNat * 5)).block, (ad203.add (((ji10)).toNat * 5)).off + 3, none⟩ = some (.bool ((rd_T63 l0 (ji10)).f3)) ∧ w'.cell? ⟨(ad203.add (((ji10)).toNat * 5)).block, (ad203.add (((ji10)).toNat * 5)).off + 4, none⟩ = some (.string ((rd_T63 l0 (ji10)).f4))) (ds := []) A8_0 (by kernel_rfl) rfl rfl ⟨(blk_cell BK204.out 0).trans rfl, (blk_cell BK204.out 1).trans rfl, (blk_cell BK204.out 2).trans rfl, (blk_cell BK204.out 3).trans rfl, (blk_cell BK204.out 4).trans rfl, (pw_cell_below HB.out hw206_0), (pw_cell_below HB.out hw206_1), (pw_cell_below HB.out hw206_2), (pw_cell_below HB.out hw206_3), (pw_cell_below HB.out hw206_4)⟩ (fun hHeld => ?_); refine with_tabW spec_RulesOk.tab5 spec_RulesOk.bits5 (fun HT_ HW_ => ?_); generalize w19.drew = w20 at BK204 HB HR206_2 hx206_0 hx206_1 hx206_2 hx206_3 hx206_4 hHeld ⊢; refine pz 0 16 A8_1 HT_.out ?_
             refine tz 1 17 A8_2 HT_.out HW_.out hHeld ?_
             refine one_ (i := 2) (N := some 18) A8_3 rfl rfl (one_of HT_.out (by kernel_rfl)) (by decide) (fun K hK => ?_); refine goes_ Try.func37 (by kernel_rfl) rfl #[.string ((rd_T63 l0 x3_1).f0)] (by rfl) rfl rfl (by (try simp only [List.map_toArray, List.map_cons, List.map_nil]); first | done | rfl) ?_
             with_reducible refine (spec_l1Name.calls k1 ((rd_T63 l0 x3_1).f0) true _ A7.out).mono ?_
             rintro e w' ⟨rfl, ⟨nd, rfl⟩⟩; refine ⟨_, rfl, ?_⟩; refine hK.out _ _ ⟨(blk_cell BK204.out 0).trans rfl, (blk_cell BK204.out 1).trans rfl, (blk_cell BK204.out 2).trans rfl, (blk_cell BK204.out 3).trans rfl, (blk_cell BK204.out 4).trans rfl, (pw_cell_below HB.out hw206_0), (pw_cell_below HB.out hw206_1), (pw_cell_below HB.out hw206_2), (pw_cell_below HB.out hw206_3), (pw_cell_below HB.out hw206_4)⟩ (fun hHeld => ?_); clear hK K; refine norm_ (a' := ?_) ?_ ?_; rotate_left
             ·
              show Act.put _ (some 18) _ = _
              simp only [Act.put, sA, sB, sC, i64_w, i32_w]
              rfl
             refine pz 3 19 A8_4 HT_.out ?_; refine pz 4 20 A8_5 HT_.out ?_; refine pz 5 21 A8_6 HT_.out ?_; refine pz 6 22 A8_7 HT_.out ?_; refine pz 7 23 A8_8 HT_.out ?_; refine pz 8 24 A8_9 HT_.out ?_; refine pz 9 25 A8_10 HT_.out ?_; refine pz 10 26 A8_11 HT_.out ?_; refine pz 11 27 A8_12 HT_.out ?_; refine pz 12 28 A8_13 HT_.out ?_; refine pz 14 30 A8_14 HT_.out ?_; refine tz 13 29 A8_15 HT_.out HW_.out hHeld ?_
             refine tz 15 31 A8_16 HT_.out HW_.out hHeld ?_
             refine pz 16 32 A8_17 HT_.out ?_; refine pz 17 33 A8_18 HT_.out ?_; refine pz 18 34 A8_19 HT_.out ?_; refine pz 19 35 A8_20 HT_.out ?_; refine pz 20 36 A8_21 HT_.out ?_; refine tz 21 37 A8_22 HT_.out HW_.out hHeld ?_
             refine one_ (i := 22) (N := some 38) A8_23 rfl rfl (one_of HT_.out (by kernel_rfl)) (by decide) (fun K hK => ?_); refine goes_ Try.func38 (by kernel_rfl) rfl #[.int .i64 ((rd_T63 l0 x3_1).f1), .int .i64 1, .int .i64 3] (by rfl) rfl rfl (by (try simp only [List.map_toArray, List.map_cons, List.map_nil]); first | done | rfl) ?_
             with_reducible refine (spec_l1In.calls ((rd_T63 l0 x3_1).f1) 1 3 true _ A14.out).mono ?_
             rintro e w' ⟨rfl, ⟨nd, rfl⟩⟩; refine ⟨_, rfl, ?_⟩; refine hK.out _ _ ⟨(blk_cell BK204.out 0).trans rfl, (blk_cell BK204.out 1).trans rfl, (blk_cell BK204.out 2).trans rfl, (blk_cell BK204.out 3).trans rfl, (blk_cell BK204.out 4).trans rfl, (pw_cell_below HB.out hw206_0), (pw_cell_below HB.out hw206_1), (pw_cell_below HB.out hw206_2), (pw_cell_below HB.out hw206_3), (pw_cell_below HB.out hw206_4)⟩ (fun hHeld => ?_); clear hK K; refine norm_ (a' := ?_) ?_ ?_; rotate_left
             ·
              show Act.put _ (some 38) _ = _
              simp only [Act.put, sA, sB, sC, i64_w, i32_w]
              rfl
             refine pz 23 39 A8_24 HT_.out ?_; refine pz 24 40 A8_25 HT_.out ?_; refine pz 25 41 A8_26 HT_.out ?_; refine pz 26 42 A8_27 HT_.out ?_; refine tz 27 43 A8_28 HT_.out HW_.out hHeld ?_
             refine one_ (i := 28) (N := some 44) A8_29 rfl rfl (one_of HT_.out (by kernel_rfl)) (by decide) (fun K hK => ?_); refine goes_ Try.func39 (by kernel_rfl) rfl #[.slice A203_2 ((rd_T63 l0 x3_1).f2).length c203_2] (by rfl) rfl rfl (by (try simp only [List.map_toArray, List.map_cons, List.map_nil]); first | done | rfl) ?_
             with_reducible refine (spec_l1Rise.calls k1 _ _ ((rd_T63 l0 x3_1).f2) true _ ?side1 ?side2 A16.out).mono ?_
             (case side1 => repeat (first | exact (Kd.C_below HR203_2.out bz) | (with_reducible refine Kd.C_alloc ?_ _) | (with_reducible refine Kd.C_drewN ?_ _) | (with_reducible refine Kd.C_drew ?_)))
             (case side2 => exact HC203_2.out)
             rintro e w' ⟨rfl, ⟨nd, rfl⟩⟩; refine ⟨_, rfl, ?_⟩; refine hK.out _ _ ⟨(blk_cell BK204.out 0).trans rfl, (blk_cell BK204.out 1).trans rfl, (blk_cell BK204.out 2).trans rfl, (blk_cell BK204.out 3).trans rfl, (blk_cell BK204.out 4).trans rfl, (pw_cell_below HB.out hw206_0), (pw_cell_below HB.out hw206_1), (pw_cell_below HB.out hw206_2), (pw_cell_below HB.out hw206_3), (pw_cell_below HB.out hw206_4)⟩ (fun hHeld => ?_); clear hK K; refine norm_ (a' := ?_) ?_ ?_; rotate_left
             ·
              show Act.put _ (some 44) _ = _
              simp only [Act.put, sA, sB, sC, i64_w, i32_w]
              rfl
             refine pz 29 45 A8_30 HT_.out ?_; refine pz 30 46 A8_31 HT_.out ?_; refine pz 31 47 A8_32 HT_.out ?_; refine pz 32 48 A8_33 HT_.out ?_; refine tz 33 49 A8_34 HT_.out HW_.out hHeld ?_
             refine one_ (i := 34) (N := some 50) A8_35 rfl rfl (one_of HT_.out (by kernel_rfl)) (by decide) (fun K hK => ?_); refine goes_ Try.func40 (by kernel_rfl) rfl #[.slice A203_2 ((rd_T63 l0 x3_1).f2).length c203_2, .int .i64 0, .int .i64 9] (by rfl) rfl rfl (by (try simp only [List.map_toArray, List.map_cons, List.map_nil]); first | done | rfl) ?_
             with_reducible refine (spec_l1All.calls k1 _ _ ((rd_T63 l0 x3_1).f2) 0 9 t209 _ ?side1 ?side2 A18.out).mono ?_
             (case side1 => repeat (first | exact (Kd.C_below HR203_2.out bz) | (with_reducible refine Kd.C_alloc ?_ _) | (with_reducible refine Kd.C_drewN ?_ _) | (with_reducible refine Kd.C_drew ?_)))
             (case side2 => exact HC203_2.out)
             rintro e w' ⟨rfl, ⟨nd, rfl⟩⟩; refine ⟨_, rfl, ?_⟩; refine hK.out _ _ ⟨(blk_cell BK204.out 0).trans rfl, (blk_cell BK204.out 1).trans rfl, (blk_cell BK204.out 2).trans rfl, (blk_cell BK204.out 3).trans rfl, (blk_cell BK204.out 4).trans rfl, (pw_cell_below HB.out hw206_0), (pw_cell_below HB.out hw206_1), (pw_cell_below HB.out hw206_2), (pw_cell_below HB.out hw206_3), (pw_cell_below HB.out hw206_4)⟩ (fun hHeld => ?_); clear hK K; refine norm_ (a' := ?_) ?_ ?_; rotate_left
             ·
              show Act.put _ (some 50) _ = _
              simp only [Act.put, sA, sB, sC, i64_w, i32_w]
              rfl
             refine pz 35 51 A8_36 HT_.out ?_; refine pz 36 52 A8_37 HT_.out ?_; refine done_ (done_of HT_.out (by kernel_rfl)) ?_
             try go_wp2
             go_meet
             case rel => exact ⟨_, (!t209), (by first | rfl | (simp; done) | (simp [*]; done)), H', ⟨by have := HK1.out; first | omega | exact Nat.le_refl _⟩, ⟨by refine bu ?_; exact BK204.out⟩, ⟨bz⟩⟩
            ·
             replace c17 := Bool.eq_false_iff.mpr c17; subst c17
             have H1 : (spec_RulesOk.j1 k1 l0 x3_1 true ((rd_T63 l0 x3_1).f0) ((rd_T63 l0 x3_1).f1) ((rd_T63 l0 x3_1).f2) ((rd_T63 l0 x3_1).f3) ((rd_T63 l0 x3_1).f4)) = some r := by rw [if_neg (show ¬ (false = true) by decide)] at H; exact H
             clear H; have H := H1; clear H1; have H' := Az H; clear H
             try go_wp2
             have n0_ : Aside0 ((((((w5.setCell ⟨gb204, 0, none⟩ (.string ((rd_T63 l0 x3_1).f0))).setCell ⟨gb204, 1, none⟩ (.int .i64 ((rd_T63 l0 x3_1).f1))).setCell ⟨gb204, 2, none⟩ (.slice A203_2 ((rd_T63 l0 x3_1).f2).length c203_2)).setCell ⟨gb204, 3, none⟩ (.bool ((rd_T63 l0 x3_1).f3))).setCell ⟨gb204, 4, none⟩ (.string ((rd_T63 l0 x3_1).f4))).heap[gb204]? = some (.cells #[.string ((rd_T63 l0 x3_1).f0), .int .i64 ((rd_T63 l0 x3_1).f1), .slice A203_2 ((rd_T63 l0 x3_1).f2).length c203_2, .bool ((rd_T63 l0 x3_1).f3), .string ((rd_T63 l0 x3_1).f4)] 63 (0, 0))) := ⟨by refine bu ?_; refine blk_put (cs := #[.string ((rd_T63 l0 x3_1).f0), .int .i64 ((rd_T63 l0 x3_1).f1), .slice A203_2 ((rd_T63 l0 x3_1).f2).length c203_2, .bool ((rd_T63 l0 x3_1).f3), .string (⟨#[]⟩ : ByteArray)]) ?_ 4 _ rfl; refine bu ?_; refine blk_put (cs := #[.string ((rd_T63 l0 x3_1).f0), .int .i64 ((rd_T63 l0 x3_1).f1), .slice A203_2 ((rd_T63 l0 x3_1).f2).length c203_2, .bool false, .string (⟨#[]⟩ : ByteArray)]) ?_ 3 _ rfl; refine bu ?_; refine blk_put (cs := #[.string ((rd_T63 l0 x3_1).f0), .int .i64 ((rd_T63 l0 x3_1).f1), .slice none 0 0, .bool false, .string (⟨#[]⟩ : ByteArray)]) ?_ 2 _ rfl; refine bu ?_; refine blk_put (cs := #[.string ((rd_T63 l0 x3_1).f0), .int .i64 0, .slice none 0 0, .bool false, .string (⟨#[]⟩ : ByteArray)]) ?_ 1 _ rfl; refine bu ?_; refine blk_put (cs := #[.string (⟨#[]⟩ : ByteArray), .int .i64 0, .slice none 0 0, .bool false, .string (⟨#[]⟩ : ByteArray)]) ?_ 0 _ rfl; refine bu ?_; exact BK204.out⟩; have n1_ : Aside0 (Below w.heap.size w (((((w5.setCell ⟨gb204, 0, none⟩ (.string ((rd_T63 l0 x3_1).f0))).setCell ⟨gb204, 1, none⟩ (.int .i64 ((rd_T63 l0 x3_1).f1))).setCell ⟨gb204, 2, none⟩ (.slice A203_2 ((rd_T63 l0 x3_1).f2).length c203_2)).setCell ⟨gb204, 3, none⟩ (.bool ((rd_T63 l0 x3_1).f3))).setCell ⟨gb204, 4, none⟩ (.string ((rd_T63 l0 x3_1).f4)))) := ⟨bz⟩
             (try (have hsd_ : ∀ (W_ : World) (n_ : Nat) (a_ : Addr) (v_ : Value), (W_.drewN n_).setCell a_ v_ = (W_.setCell a_ v_).drewN n_ := fun _ _ _ _ => rfl); simp only [hsd_]; clear hsd_)
             (try clear BK204); (try clear HB); generalize (((((w5.setCell ⟨gb204, 0, none⟩ (.string ((rd_T63 l0 x3_1).f0))).setCell ⟨gb204, 1, none⟩ (.int .i64 ((rd_T63 l0 x3_1).f1))).setCell ⟨gb204, 2, none⟩ (.slice A203_2 ((rd_T63 l0 x3_1).f2).length c203_2)).setCell ⟨gb204, 3, none⟩ (.bool ((rd_T63 l0 x3_1).f3))).setCell ⟨gb204, 4, none⟩ (.string ((rd_T63 l0 x3_1).f4))) = w21 at n0_ n1_ ⊢; have BK204 := n0_; have HB := n1_; clear n0_ n1_; replace BK204 := Az (blk_drew BK204.out); replace HB := Az (below_drew1 HB.out); have p206 : 0 ≤ ((ji10) : Int) := oz; have q206 : (ji10) < (l0.length : Int) := oz; obtain ⟨ad206, A206_2, c206_2, e206, hx206_0, hx206_1, hx206_2, hx206_3, hx206_4, hl206_2, hi206_2⟩ := at_T63 HR0.out (ji10) p206 q206; have hw206_4 := hx206_4; have hw206_3 := hx206_3; have hw206_2 := hx206_2; have hw206_1 := hx206_1; have hw206_0 := hx206_0; obtain rfl : ad203 = ad206 := (by injection e206); replace hx206_0 := pw_cell_below HB.out hx206_0; replace hx206_1 := pw_cell_below HB.out hx206_1; replace hx206_2 := pw_cell_below HB.out hx206_2; replace hx206_3 := pw_cell_below HB.out hx206_3; replace hx206_4 := pw_cell_below HB.out hx206_4; have HR206_2 := Az hi206_2; have HC206_2 := Az hl206_2; clear hi206_2 hl206_2; replace p206 := eq_true p206; replace q206 := eq_true q206; refine start_ (n := 37) (S := fun w' => w'.cell? ⟨gb204, 0, none⟩ = some (.string ((rd_T63 l0 x3_1).f0)) ∧ w'.cell? ⟨gb204, 1, none⟩ = some (.int .i64 ((rd_T63 l0 x3_1).f1)) ∧ w'.cell? ⟨gb204, 2, none⟩ = some (.slice A203_2 ((rd_T63 l0 x3_1).f2).length c203_2) ∧ w'.cell? ⟨gb204, 3, none⟩ = some (.bool ((rd_T63 l0 x3_1).f3)) ∧ w'.cell? ⟨gb204, 4, none⟩ = some (.string ((rd_T63 l0 x3_1).f4)) ∧ w'.cell? (ad203.add (((ji10)).toNat * 5)) = some (.string ((rd_T63 l0 (ji10)).f0)) ∧ w'.cell? ⟨(ad203.add (((ji10)).toNat * 5)).block, (ad203.add (((ji10)).toNat * 5)).off + 1, none⟩ = some (.int .i64 ((rd_T63 l0 (ji10)).f1)) ∧ w'.cell? ⟨(ad203.add (((ji10)).toNat * 5)).block, (ad203.add (((ji10)).toNat * 5)).off + 2, none⟩ = some (.slice A206_2 ((rd_T63 l0 (ji10)).f2).length c206_2) ∧ w'.cell? ⟨(ad203.add (((ji10)).toNat * 5)).block, (ad203.add (((ji10)).toNat * 5)).off + 3, none⟩ = some (.bool ((rd_T63 l0 (ji10)).f3)) ∧ w'.cell? ⟨(ad203.add (((ji10)).toNat * 5)).block, (ad203.add (((ji10)).toNat * 5)).off + 4, none⟩ = some (.string ((rd_T63 l0 (ji10)).f4))) (ds := []) A8_0 (by kernel_rfl) rfl rfl ⟨(blk_cell BK204.out 0).trans rfl, (blk_cell BK204.out 1).trans rfl, (blk_cell BK204.out 2).trans rfl, (blk_cell BK204.out 3).trans rfl, (blk_cell BK204.out 4).trans rfl, (pw_cell_below HB.out hw206_0), (pw_cell_below HB.out hw206_1), (pw_cell_below HB.out hw206_2), (pw_cell_below HB.out hw206_3), (pw_cell_below HB.out hw206_4)⟩ (fun hHeld => ?_); refine with_tabW spec_RulesOk.tab5 spec_RulesOk.bits5 (fun HT_ HW_ => ?_); generalize w21.drew = w22 at BK204 HB HR206_2 hx206_0 hx206_1 hx206_2 hx206_3 hx206_4 hHeld ⊢; refine pz 0 16 A8_1 HT_.out ?_
             refine tz 1 17 A8_2 HT_.out HW_.out hHeld ?_
             refine one_ (i := 2) (N := some 18) A8_3 rfl rfl (one_of HT_.out (by kernel_rfl)) (by decide) (fun K hK => ?_); refine goes_ Try.func37 (by kernel_rfl) rfl #[.string ((rd_T63 l0 x3_1).f0)] (by rfl) rfl rfl (by (try simp only [List.map_toArray, List.map_cons, List.map_nil]); first | done | rfl) ?_
             with_reducible refine (spec_l1Name.calls k1 ((rd_T63 l0 x3_1).f0) true _ A7.out).mono ?_
             rintro e w' ⟨rfl, ⟨nd, rfl⟩⟩; refine ⟨_, rfl, ?_⟩; refine hK.out _ _ ⟨(blk_cell BK204.out 0).trans rfl, (blk_cell BK204.out 1).trans rfl, (blk_cell BK204.out 2).trans rfl, (blk_cell BK204.out 3).trans rfl, (blk_cell BK204.out 4).trans rfl, (pw_cell_below HB.out hw206_0), (pw_cell_below HB.out hw206_1), (pw_cell_below HB.out hw206_2), (pw_cell_below HB.out hw206_3), (pw_cell_below HB.out hw206_4)⟩ (fun hHeld => ?_); clear hK K; refine norm_ (a' := ?_) ?_ ?_; rotate_left
             ·
              show Act.put _ (some 18) _ = _
              simp only [Act.put, sA, sB, sC, i64_w, i32_w]
              rfl
             refine pz 3 19 A8_4 HT_.out ?_; refine pz 4 20 A8_5 HT_.out ?_; refine pz 5 21 A8_6 HT_.out ?_; refine pz 6 22 A8_7 HT_.out ?_; refine pz 7 23 A8_8 HT_.out ?_; refine pz 8 24 A8_9 HT_.out ?_; refine pz 9 25 A8_10 HT_.out ?_; refine pz 10 26 A8_11 HT_.out ?_; refine pz 11 27 A8_12 HT_.out ?_; refine pz 12 28 A8_13 HT_.out ?_; refine pz 14 30 A8_14 HT_.out ?_; refine tz 13 29 A8_15 HT_.out HW_.out hHeld ?_
             refine tz 15 31 A8_16 HT_.out HW_.out hHeld ?_
             refine pz 16 32 A8_17 HT_.out ?_; refine pz 17 33 A8_18 HT_.out ?_; refine pz 18 34 A8_19 HT_.out ?_; refine pz 19 35 A8_20 HT_.out ?_; refine pz 20 36 A8_21 HT_.out ?_; refine tz 21 37 A8_22 HT_.out HW_.out hHeld ?_
             refine one_ (i := 22) (N := some 38) A8_23 rfl rfl (one_of HT_.out (by kernel_rfl)) (by decide) (fun K hK => ?_); refine goes_ Try.func38 (by kernel_rfl) rfl #[.int .i64 ((rd_T63 l0 x3_1).f1), .int .i64 1, .int .i64 3] (by rfl) rfl rfl (by (try simp only [List.map_toArray, List.map_cons, List.map_nil]); first | done | rfl) ?_
             with_reducible refine (spec_l1In.calls ((rd_T63 l0 x3_1).f1) 1 3 true _ A14.out).mono ?_
             rintro e w' ⟨rfl, ⟨nd, rfl⟩⟩; refine ⟨_, rfl, ?_⟩; refine hK.out _ _ ⟨(blk_cell BK204.out 0).trans rfl, (blk_cell BK204.out 1).trans rfl, (blk_cell BK204.out 2).trans rfl, (blk_cell BK204.out 3).trans rfl, (blk_cell BK204.out 4).trans rfl, (pw_cell_below HB.out hw206_0), (pw_cell_below HB.out hw206_1), (pw_cell_below HB.out hw206_2), (pw_cell_below HB.out hw206_3), (pw_cell_below HB.out hw206_4)⟩ (fun hHeld => ?_); clear hK K; refine norm_ (a' := ?_) ?_ ?_; rotate_left
             ·
              show Act.put _ (some 38) _ = _
              simp only [Act.put, sA, sB, sC, i64_w, i32_w]
              rfl
             refine pz 23 39 A8_24 HT_.out ?_; refine pz 24 40 A8_25 HT_.out ?_; refine pz 25 41 A8_26 HT_.out ?_; refine pz 26 42 A8_27 HT_.out ?_; refine tz 27 43 A8_28 HT_.out HW_.out hHeld ?_
             refine one_ (i := 28) (N := some 44) A8_29 rfl rfl (one_of HT_.out (by kernel_rfl)) (by decide) (fun K hK => ?_); refine goes_ Try.func39 (by kernel_rfl) rfl #[.slice A203_2 ((rd_T63 l0 x3_1).f2).length c203_2] (by rfl) rfl rfl (by (try simp only [List.map_toArray, List.map_cons, List.map_nil]); first | done | rfl) ?_
             with_reducible refine (spec_l1Rise.calls k1 _ _ ((rd_T63 l0 x3_1).f2) false _ ?side1 ?side2 A16.out).mono ?_
             (case side1 => repeat (first | exact (Kd.C_below HR203_2.out bz) | (with_reducible refine Kd.C_alloc ?_ _) | (with_reducible refine Kd.C_drewN ?_ _) | (with_reducible refine Kd.C_drew ?_)))
             (case side2 => exact HC203_2.out)
             rintro e w' ⟨rfl, ⟨nd, rfl⟩⟩; refine ⟨_, rfl, ?_⟩; refine hK.out _ _ ⟨(blk_cell BK204.out 0).trans rfl, (blk_cell BK204.out 1).trans rfl, (blk_cell BK204.out 2).trans rfl, (blk_cell BK204.out 3).trans rfl, (blk_cell BK204.out 4).trans rfl, (pw_cell_below HB.out hw206_0), (pw_cell_below HB.out hw206_1), (pw_cell_below HB.out hw206_2), (pw_cell_below HB.out hw206_3), (pw_cell_below HB.out hw206_4)⟩ (fun hHeld => ?_); clear hK K; refine norm_ (a' := ?_) ?_ ?_; rotate_left
             ·
              show Act.put _ (some 44) _ = _
              simp only [Act.put, sA, sB, sC, i64_w, i32_w]
              rfl
             refine pz 29 45 A8_30 HT_.out ?_; refine pz 30 46 A8_31 HT_.out ?_; refine pz 31 47 A8_32 HT_.out ?_; refine pu 32 48 A8_33 HT_.out ?_
             refine pu 33 49 A8_34 HT_.out ?_
             refine pu 34 50 A8_35 HT_.out ?_
             refine pu 35 51 A8_36 HT_.out ?_
             refine pz 36 52 A8_37 HT_.out ?_; refine done_ (done_of HT_.out (by kernel_rfl)) ?_
             try go_wp2
             go_meet
             case rel => exact ⟨_, (true), (by first | rfl | (simp; done) | (simp [*]; done)), H', ⟨by have := HK1.out; first | omega | exact Nat.le_refl _⟩, ⟨by refine bu ?_; exact BK204.out⟩, ⟨bz⟩⟩
           ·
            replace c15 := Bool.eq_false_iff.mpr c15; subst c15
            have H1 : (spec_RulesOk.j1 k1 l0 x3_1 true ((rd_T63 l0 x3_1).f0) ((rd_T63 l0 x3_1).f1) ((rd_T63 l0 x3_1).f2) ((rd_T63 l0 x3_1).f3) ((rd_T63 l0 x3_1).f4)) = some r := by rw [if_neg (show ¬ (false = true) by decide)] at H; exact H
            clear H; have H := H1; clear H1; have H' := Az H; clear H
            try go_wp2
            have n0_ : Aside0 ((((((w5.setCell ⟨gb204, 0, none⟩ (.string ((rd_T63 l0 x3_1).f0))).setCell ⟨gb204, 1, none⟩ (.int .i64 ((rd_T63 l0 x3_1).f1))).setCell ⟨gb204, 2, none⟩ (.slice A203_2 ((rd_T63 l0 x3_1).f2).length c203_2)).setCell ⟨gb204, 3, none⟩ (.bool ((rd_T63 l0 x3_1).f3))).setCell ⟨gb204, 4, none⟩ (.string ((rd_T63 l0 x3_1).f4))).heap[gb204]? = some (.cells #[.string ((rd_T63 l0 x3_1).f0), .int .i64 ((rd_T63 l0 x3_1).f1), .slice A203_2 ((rd_T63 l0 x3_1).f2).length c203_2, .bool ((rd_T63 l0 x3_1).f3), .string ((rd_T63 l0 x3_1).f4)] 63 (0, 0))) := ⟨by refine bu ?_; refine blk_put (cs := #[.string ((rd_T63 l0 x3_1).f0), .int .i64 ((rd_T63 l0 x3_1).f1), .slice A203_2 ((rd_T63 l0 x3_1).f2).length c203_2, .bool ((rd_T63 l0 x3_1).f3), .string (⟨#[]⟩ : ByteArray)]) ?_ 4 _ rfl; refine bu ?_; refine blk_put (cs := #[.string ((rd_T63 l0 x3_1).f0), .int .i64 ((rd_T63 l0 x3_1).f1), .slice A203_2 ((rd_T63 l0 x3_1).f2).length c203_2, .bool false, .string (⟨#[]⟩ : ByteArray)]) ?_ 3 _ rfl; refine bu ?_; refine blk_put (cs := #[.string ((rd_T63 l0 x3_1).f0), .int .i64 ((rd_T63 l0 x3_1).f1), .slice none 0 0, .bool false, .string (⟨#[]⟩ : ByteArray)]) ?_ 2 _ rfl; refine bu ?_; refine blk_put (cs := #[.string ((rd_T63 l0 x3_1).f0), .int .i64 0, .slice none 0 0, .bool false, .string (⟨#[]⟩ : ByteArray)]) ?_ 1 _ rfl; refine bu ?_; refine blk_put (cs := #[.string (⟨#[]⟩ : ByteArray), .int .i64 0, .slice none 0 0, .bool false, .string (⟨#[]⟩ : ByteArray)]) ?_ 0 _ rfl; refine bu ?_; exact BK204.out⟩; have n1_ : Aside0 (Below w.heap.size w (((((w5.setCell ⟨gb204, 0, none⟩ (.string ((rd_T63 l0 x3_1).f0))).setCell ⟨gb204, 1, none⟩ (.int .i64 ((rd_T63 l0 x3_1).f1))).setCell ⟨gb204, 2, none⟩ (.slice A203_2 ((rd_T63 l0 x3_1).f2).length c203_2)).setCell ⟨gb204, 3, none⟩ (.bool ((rd_T63 l0 x3_1).f3))).setCell ⟨gb204, 4, none⟩ (.string ((rd_T63 l0 x3_1).f4)))) := ⟨bz⟩
            (try (have hsd_ : ∀ (W_ : World) (n_ : Nat) (a_ : Addr) (v_ : Value), (W_.drewN n_).setCell a_ v_ = (W_.setCell a_ v_).drewN n_ := fun _ _ _ _ => rfl); simp only [hsd_]; clear hsd_)
            (try clear BK204); (try clear HB); generalize (((((w5.setCell ⟨gb204, 0, none⟩ (.string ((rd_T63 l0 x3_1).f0))).setCell ⟨gb204, 1, none⟩ (.int .i64 ((rd_T63 l0 x3_1).f1))).setCell ⟨gb204, 2, none⟩ (.slice A203_2 ((rd_T63 l0 x3_1).f2).length c203_2)).setCell ⟨gb204, 3, none⟩ (.bool ((rd_T63 l0 x3_1).f3))).setCell ⟨gb204, 4, none⟩ (.string ((rd_T63 l0 x3_1).f4))) = w23 at n0_ n1_ ⊢; have BK204 := n0_; have HB := n1_; clear n0_ n1_; replace BK204 := Az (blk_drew BK204.out); replace HB := Az (below_drew1 HB.out); have p206 : 0 ≤ ((ji10) : Int) := oz; have q206 : (ji10) < (l0.length : Int) := oz; obtain ⟨ad206, A206_2, c206_2, e206, hx206_0, hx206_1, hx206_2, hx206_3, hx206_4, hl206_2, hi206_2⟩ := at_T63 HR0.out (ji10) p206 q206; have hw206_4 := hx206_4; have hw206_3 := hx206_3; have hw206_2 := hx206_2; have hw206_1 := hx206_1; have hw206_0 := hx206_0; obtain rfl : ad203 = ad206 := (by injection e206); replace hx206_0 := pw_cell_below HB.out hx206_0; replace hx206_1 := pw_cell_below HB.out hx206_1; replace hx206_2 := pw_cell_below HB.out hx206_2; replace hx206_3 := pw_cell_below HB.out hx206_3; replace hx206_4 := pw_cell_below HB.out hx206_4; have HR206_2 := Az hi206_2; have HC206_2 := Az hl206_2; clear hi206_2 hl206_2; replace p206 := eq_true p206; replace q206 := eq_true q206; refine start_ (n := 37) (S := fun w' => w'.cell? ⟨gb204, 0, none⟩ = some (.string ((rd_T63 l0 x3_1).f0)) ∧ w'.cell? ⟨gb204, 1, none⟩ = some (.int .i64 ((rd_T63 l0 x3_1).f1)) ∧ w'.cell? ⟨gb204, 2, none⟩ = some (.slice A203_2 ((rd_T63 l0 x3_1).f2).length c203_2) ∧ w'.cell? ⟨gb204, 3, none⟩ = some (.bool ((rd_T63 l0 x3_1).f3)) ∧ w'.cell? ⟨gb204, 4, none⟩ = some (.string ((rd_T63 l0 x3_1).f4)) ∧ w'.cell? (ad203.add (((ji10)).toNat * 5)) = some (.string ((rd_T63 l0 (ji10)).f0)) ∧ w'.cell? ⟨(ad203.add (((ji10)).toNat * 5)).block, (ad203.add (((ji10)).toNat * 5)).off + 1, none⟩ = some (.int .i64 ((rd_T63 l0 (ji10)).f1)) ∧ w'.cell? ⟨(ad203.add (((ji10)).toNat * 5)).block, (ad203.add (((ji10)).toNat * 5)).off + 2, none⟩ = some (.slice A206_2 ((rd_T63 l0 (ji10)).f2).length c206_2) ∧ w'.cell? ⟨(ad203.add (((ji10)).toNat * 5)).block, (ad203.add (((ji10)).toNat * 5)).off + 3, none⟩ = some (.bool ((rd_T63 l0 (ji10)).f3)) ∧ w'.cell? ⟨(ad203.add (((ji10)).toNat * 5)).block, (ad203.add (((ji10)).toNat * 5)).off + 4, none⟩ = some (.string ((rd_T63 l0 (ji10)).f4))) (ds := []) A8_0 (by kernel_rfl) rfl rfl ⟨(blk_cell BK204.out 0).trans rfl, (blk_cell BK204.out 1).trans rfl, (blk_cell BK204.out 2).trans rfl, (blk_cell BK204.out 3).trans rfl, (blk_cell BK204.out 4).trans rfl, (pw_cell_below HB.out hw206_0), (pw_cell_below HB.out hw206_1), (pw_cell_below HB.out hw206_2), (pw_cell_below HB.out hw206_3), (pw_cell_below HB.out hw206_4)⟩ (fun hHeld => ?_); refine with_tabW spec_RulesOk.tab5 spec_RulesOk.bits5 (fun HT_ HW_ => ?_); generalize w23.drew = w24 at BK204 HB HR206_2 hx206_0 hx206_1 hx206_2 hx206_3 hx206_4 hHeld ⊢; refine pz 0 16 A8_1 HT_.out ?_; refine take_ (i := 1) (N := some 17) (v := ?_) (a' := ?_) A8_2 rfl rfl (take_ofW HT_.out HW_.out (by kernel_rfl)) (fun _ _ _ h => h) (Or.inl ⟨by rfl, ?_⟩) hHeld ?_ ?_
            rotate_left
            ·
             rintro w' ⟨s0, s1, s2, s3, s4, s5, s6, s7, s8, s9⟩; go_simp; with_reducible rfl
            rotate_left
            ·
             simp only [Act.put, sA, sB, sC, i64_w, i32_w]
             rfl
            refine one_ (i := 2) (N := some 18) A8_3 rfl rfl (one_of HT_.out (by kernel_rfl)) (by decide) (fun K hK => ?_); refine goes_ Try.func37 (by kernel_rfl) rfl #[.string ((rd_T63 l0 x3_1).f0)] (by rfl) rfl rfl (by (try simp only [List.map_toArray, List.map_cons, List.map_nil]); first | done | rfl) ?_
            with_reducible refine (spec_l1Name.calls k1 ((rd_T63 l0 x3_1).f0) true _ A7.out).mono ?_
            rintro e w' ⟨rfl, ⟨nd, rfl⟩⟩; refine ⟨_, rfl, ?_⟩; refine hK.out _ _ ⟨(blk_cell BK204.out 0).trans rfl, (blk_cell BK204.out 1).trans rfl, (blk_cell BK204.out 2).trans rfl, (blk_cell BK204.out 3).trans rfl, (blk_cell BK204.out 4).trans rfl, (pw_cell_below HB.out hw206_0), (pw_cell_below HB.out hw206_1), (pw_cell_below HB.out hw206_2), (pw_cell_below HB.out hw206_3), (pw_cell_below HB.out hw206_4)⟩ (fun hHeld => ?_); clear hK K; refine norm_ (a' := ?_) ?_ ?_; rotate_left
            ·
             show Act.put _ (some 18) _ = _
             simp only [Act.put, sA, sB, sC, i64_w, i32_w]
             rfl
            refine pz 3 19 A8_4 HT_.out ?_; refine pz 4 20 A8_5 HT_.out ?_; refine pz 5 21 A8_6 HT_.out ?_; refine pz 6 22 A8_7 HT_.out ?_; refine pz 7 23 A8_8 HT_.out ?_; refine pz 8 24 A8_9 HT_.out ?_; refine pz 9 25 A8_10 HT_.out ?_; refine pz 10 26 A8_11 HT_.out ?_; refine pz 11 27 A8_12 HT_.out ?_; refine pz 12 28 A8_13 HT_.out ?_; refine pz 14 30 A8_14 HT_.out ?_; refine tz 13 29 A8_15 HT_.out HW_.out hHeld ?_
            refine tz 15 31 A8_16 HT_.out HW_.out hHeld ?_
            refine pz 16 32 A8_17 HT_.out ?_; refine pz 17 33 A8_18 HT_.out ?_; refine pz 18 34 A8_19 HT_.out ?_; refine pz 19 35 A8_20 HT_.out ?_; refine pz 20 36 A8_21 HT_.out ?_; refine tz 21 37 A8_22 HT_.out HW_.out hHeld ?_
            refine one_ (i := 22) (N := some 38) A8_23 rfl rfl (one_of HT_.out (by kernel_rfl)) (by decide) (fun K hK => ?_); refine goes_ Try.func38 (by kernel_rfl) rfl #[.int .i64 ((rd_T63 l0 x3_1).f1), .int .i64 1, .int .i64 3] (by rfl) rfl rfl (by (try simp only [List.map_toArray, List.map_cons, List.map_nil]); first | done | rfl) ?_
            with_reducible refine (spec_l1In.calls ((rd_T63 l0 x3_1).f1) 1 3 false _ A14.out).mono ?_
            rintro e w' ⟨rfl, ⟨nd, rfl⟩⟩; refine ⟨_, rfl, ?_⟩; refine hK.out _ _ ⟨(blk_cell BK204.out 0).trans rfl, (blk_cell BK204.out 1).trans rfl, (blk_cell BK204.out 2).trans rfl, (blk_cell BK204.out 3).trans rfl, (blk_cell BK204.out 4).trans rfl, (pw_cell_below HB.out hw206_0), (pw_cell_below HB.out hw206_1), (pw_cell_below HB.out hw206_2), (pw_cell_below HB.out hw206_3), (pw_cell_below HB.out hw206_4)⟩ (fun hHeld => ?_); clear hK K; refine norm_ (a' := ?_) ?_ ?_; rotate_left
            ·
             show Act.put _ (some 38) _ = _
             simp only [Act.put, sA, sB, sC, i64_w, i32_w]
             rfl
            refine pz 23 39 A8_24 HT_.out ?_; refine pz 24 40 A8_25 HT_.out ?_; refine pz 25 41 A8_26 HT_.out ?_; refine pu 26 42 A8_27 HT_.out ?_
            refine pu 27 43 A8_28 HT_.out ?_
            refine pu 28 44 A8_29 HT_.out ?_
            refine pu 29 45 A8_30 HT_.out ?_
            refine pz 30 46 A8_31 HT_.out ?_; refine pz 31 47 A8_32 HT_.out ?_; refine pu 32 48 A8_33 HT_.out ?_
            refine pu 33 49 A8_34 HT_.out ?_
            refine pu 34 50 A8_35 HT_.out ?_
            refine pu 35 51 A8_36 HT_.out ?_
            refine pz 36 52 A8_37 HT_.out ?_; refine done_ (done_of HT_.out (by kernel_rfl)) ?_
            try go_wp2
            go_meet
            case rel => exact ⟨_, (true), (by first | rfl | (simp; done) | (simp [*]; done)), H', ⟨by have := HK1.out; first | omega | exact Nat.le_refl _⟩, ⟨by refine bu ?_; exact BK204.out⟩, ⟨bz⟩⟩
          ·
           rw [if_neg c13] at H
           have c13b0 : (Op.bytesLess (((rd_T63 l0 (ji10)).f0).toList) (((rd_T63 l0 x3_1).f0).toList)) = false := by simpa using c13
           clear c13; have H' := Az H; clear H
           try go_wp2
           have n0_ : Aside0 ((((((w5.setCell ⟨gb204, 0, none⟩ (.string ((rd_T63 l0 x3_1).f0))).setCell ⟨gb204, 1, none⟩ (.int .i64 ((rd_T63 l0 x3_1).f1))).setCell ⟨gb204, 2, none⟩ (.slice A203_2 ((rd_T63 l0 x3_1).f2).length c203_2)).setCell ⟨gb204, 3, none⟩ (.bool ((rd_T63 l0 x3_1).f3))).setCell ⟨gb204, 4, none⟩ (.string ((rd_T63 l0 x3_1).f4))).heap[gb204]? = some (.cells #[.string ((rd_T63 l0 x3_1).f0), .int .i64 ((rd_T63 l0 x3_1).f1), .slice A203_2 ((rd_T63 l0 x3_1).f2).length c203_2, .bool ((rd_T63 l0 x3_1).f3), .string ((rd_T63 l0 x3_1).f4)] 63 (0, 0))) := ⟨by refine bu ?_; refine blk_put (cs := #[.string ((rd_T63 l0 x3_1).f0), .int .i64 ((rd_T63 l0 x3_1).f1), .slice A203_2 ((rd_T63 l0 x3_1).f2).length c203_2, .bool ((rd_T63 l0 x3_1).f3), .string (⟨#[]⟩ : ByteArray)]) ?_ 4 _ rfl; refine bu ?_; refine blk_put (cs := #[.string ((rd_T63 l0 x3_1).f0), .int .i64 ((rd_T63 l0 x3_1).f1), .slice A203_2 ((rd_T63 l0 x3_1).f2).length c203_2, .bool false, .string (⟨#[]⟩ : ByteArray)]) ?_ 3 _ rfl; refine bu ?_; refine blk_put (cs := #[.string ((rd_T63 l0 x3_1).f0), .int .i64 ((rd_T63 l0 x3_1).f1), .slice none 0 0, .bool false, .string (⟨#[]⟩ : ByteArray)]) ?_ 2 _ rfl; refine bu ?_; refine blk_put (cs := #[.string ((rd_T63 l0 x3_1).f0), .int .i64 0, .slice none 0 0, .bool false, .string (⟨#[]⟩ : ByteArray)]) ?_ 1 _ rfl; refine bu ?_; refine blk_put (cs := #[.string (⟨#[]⟩ : ByteArray), .int .i64 0, .slice none 0 0, .bool false, .string (⟨#[]⟩ : ByteArray)]) ?_ 0 _ rfl; refine bu ?_; exact BK204.out⟩; have n1_ : Aside0 (Below w.heap.size w (((((w5.setCell ⟨gb204, 0, none⟩ (.string ((rd_T63 l0 x3_1).f0))).setCell ⟨gb204, 1, none⟩ (.int .i64 ((rd_T63 l0 x3_1).f1))).setCell ⟨gb204, 2, none⟩ (.slice A203_2 ((rd_T63 l0 x3_1).f2).length c203_2)).setCell ⟨gb204, 3, none⟩ (.bool ((rd_T63 l0 x3_1).f3))).setCell ⟨gb204, 4, none⟩ (.string ((rd_T63 l0 x3_1).f4)))) := ⟨bz⟩
           (try (have hsd_ : ∀ (W_ : World) (n_ : Nat) (a_ : Addr) (v_ : Value), (W_.drewN n_).setCell a_ v_ = (W_.setCell a_ v_).drewN n_ := fun _ _ _ _ => rfl); simp only [hsd_]; clear hsd_)
           (try clear BK204); (try clear HB); generalize (((((w5.setCell ⟨gb204, 0, none⟩ (.string ((rd_T63 l0 x3_1).f0))).setCell ⟨gb204, 1, none⟩ (.int .i64 ((rd_T63 l0 x3_1).f1))).setCell ⟨gb204, 2, none⟩ (.slice A203_2 ((rd_T63 l0 x3_1).f2).length c203_2)).setCell ⟨gb204, 3, none⟩ (.bool ((rd_T63 l0 x3_1).f3))).setCell ⟨gb204, 4, none⟩ (.string ((rd_T63 l0 x3_1).f4))) = w25 at n0_ n1_ ⊢; have BK204 := n0_; have HB := n1_; clear n0_ n1_; replace BK204 := Az (blk_drew BK204.out); replace HB := Az (below_drew1 HB.out); have p206 : 0 ≤ ((ji10) : Int) := oz; have q206 : (ji10) < (l0.length : Int) := oz; obtain ⟨ad206, A206_2, c206_2, e206, hx206_0, hx206_1, hx206_2, hx206_3, hx206_4, hl206_2, hi206_2⟩ := at_T63 HR0.out (ji10) p206 q206; have hw206_4 := hx206_4; have hw206_3 := hx206_3; have hw206_2 := hx206_2; have hw206_1 := hx206_1; have hw206_0 := hx206_0; obtain rfl : ad203 = ad206 := (by injection e206); replace hx206_0 := pw_cell_below HB.out hx206_0; replace hx206_1 := pw_cell_below HB.out hx206_1; replace hx206_2 := pw_cell_below HB.out hx206_2; replace hx206_3 := pw_cell_below HB.out hx206_3; replace hx206_4 := pw_cell_below HB.out hx206_4; have HR206_2 := Az hi206_2; have HC206_2 := Az hl206_2; clear hi206_2 hl206_2; replace p206 := eq_true p206; replace q206 := eq_true q206; refine start_ (n := 37) (S := fun w' => w'.cell? ⟨gb204, 0, none⟩ = some (.string ((rd_T63 l0 x3_1).f0)) ∧ w'.cell? ⟨gb204, 1, none⟩ = some (.int .i64 ((rd_T63 l0 x3_1).f1)) ∧ w'.cell? ⟨gb204, 2, none⟩ = some (.slice A203_2 ((rd_T63 l0 x3_1).f2).length c203_2) ∧ w'.cell? ⟨gb204, 3, none⟩ = some (.bool ((rd_T63 l0 x3_1).f3)) ∧ w'.cell? ⟨gb204, 4, none⟩ = some (.string ((rd_T63 l0 x3_1).f4)) ∧ w'.cell? (ad203.add (((ji10)).toNat * 5)) = some (.string ((rd_T63 l0 (ji10)).f0)) ∧ w'.cell? ⟨(ad203.add (((ji10)).toNat * 5)).block, (ad203.add (((ji10)).toNat * 5)).off + 1, none⟩ = some (.int .i64 ((rd_T63 l0 (ji10)).f1)) ∧ w'.cell? ⟨(ad203.add (((ji10)).toNat * 5)).block, (ad203.add (((ji10)).toNat * 5)).off + 2, none⟩ = some (.slice A206_2 ((rd_T63 l0 (ji10)).f2).length c206_2) ∧ w'.cell? ⟨(ad203.add (((ji10)).toNat * 5)).block, (ad203.add (((ji10)).toNat * 5)).off + 3, none⟩ = some (.bool ((rd_T63 l0 (ji10)).f3)) ∧ w'.cell? ⟨(ad203.add (((ji10)).toNat * 5)).block, (ad203.add (((ji10)).toNat * 5)).off + 4, none⟩ = some (.string ((rd_T63 l0 (ji10)).f4))) (ds := []) A8_0 (by kernel_rfl) rfl rfl ⟨(blk_cell BK204.out 0).trans rfl, (blk_cell BK204.out 1).trans rfl, (blk_cell BK204.out 2).trans rfl, (blk_cell BK204.out 3).trans rfl, (blk_cell BK204.out 4).trans rfl, (pw_cell_below HB.out hw206_0), (pw_cell_below HB.out hw206_1), (pw_cell_below HB.out hw206_2), (pw_cell_below HB.out hw206_3), (pw_cell_below HB.out hw206_4)⟩ (fun hHeld => ?_); refine with_tabW spec_RulesOk.tab5 spec_RulesOk.bits5 (fun HT_ HW_ => ?_); generalize w25.drew = w26 at BK204 HB HR206_2 hx206_0 hx206_1 hx206_2 hx206_3 hx206_4 hHeld ⊢; refine pz 0 16 A8_1 HT_.out ?_; refine take_ (i := 1) (N := some 17) (v := ?_) (a' := ?_) A8_2 rfl rfl (take_ofW HT_.out HW_.out (by kernel_rfl)) (fun _ _ _ h => h) (Or.inl ⟨by rfl, ?_⟩) hHeld ?_ ?_
           rotate_left
           ·
            rintro w' ⟨s0, s1, s2, s3, s4, s5, s6, s7, s8, s9⟩; go_simp; with_reducible rfl
           rotate_left
           ·
            simp only [Act.put, sA, sB, sC, i64_w, i32_w]
            rfl
           refine one_ (i := 2) (N := some 18) A8_3 rfl rfl (one_of HT_.out (by kernel_rfl)) (by decide) (fun K hK => ?_); refine goes_ Try.func37 (by kernel_rfl) rfl #[.string ((rd_T63 l0 x3_1).f0)] (by rfl) rfl rfl (by (try simp only [List.map_toArray, List.map_cons, List.map_nil]); first | done | rfl) ?_
           with_reducible refine (spec_l1Name.calls k1 ((rd_T63 l0 x3_1).f0) true _ A7.out).mono ?_
           rintro e w' ⟨rfl, ⟨nd, rfl⟩⟩; refine ⟨_, rfl, ?_⟩; refine hK.out _ _ ⟨(blk_cell BK204.out 0).trans rfl, (blk_cell BK204.out 1).trans rfl, (blk_cell BK204.out 2).trans rfl, (blk_cell BK204.out 3).trans rfl, (blk_cell BK204.out 4).trans rfl, (pw_cell_below HB.out hw206_0), (pw_cell_below HB.out hw206_1), (pw_cell_below HB.out hw206_2), (pw_cell_below HB.out hw206_3), (pw_cell_below HB.out hw206_4)⟩ (fun hHeld => ?_); clear hK K; refine norm_ (a' := ?_) ?_ ?_; rotate_left
           ·
            show Act.put _ (some 18) _ = _
            simp only [Act.put, sA, sB, sC, i64_w, i32_w]
            rfl
           refine pz 3 19 A8_4 HT_.out ?_; refine pz 4 20 A8_5 HT_.out ?_; refine pz 5 21 A8_6 HT_.out ?_; refine pz 6 22 A8_7 HT_.out ?_; refine pz 7 23 A8_8 HT_.out ?_; refine pz 8 24 A8_9 HT_.out ?_; refine pz 9 25 A8_10 HT_.out ?_; refine pz 10 26 A8_11 HT_.out ?_; refine pz 11 27 A8_12 HT_.out ?_; refine pz 12 28 A8_13 HT_.out ?_; refine pz 14 30 A8_14 HT_.out ?_; refine tz 13 29 A8_15 HT_.out HW_.out hHeld ?_
           refine tz 15 31 A8_16 HT_.out HW_.out hHeld ?_
           refine pz 16 32 A8_17 HT_.out ?_; refine pz 17 33 A8_18 HT_.out ?_; refine pz 18 34 A8_19 HT_.out ?_; refine pz 19 35 A8_20 HT_.out ?_; refine pu 20 36 A8_21 HT_.out ?_
           refine pu 21 37 A8_22 HT_.out ?_
           refine pu 22 38 A8_23 HT_.out ?_
           refine pu 23 39 A8_24 HT_.out ?_
           refine pz 24 40 A8_25 HT_.out ?_; refine pz 25 41 A8_26 HT_.out ?_; refine pu 26 42 A8_27 HT_.out ?_
           refine pu 27 43 A8_28 HT_.out ?_
           refine pu 28 44 A8_29 HT_.out ?_
           refine pu 29 45 A8_30 HT_.out ?_
           refine pz 30 46 A8_31 HT_.out ?_; refine pz 31 47 A8_32 HT_.out ?_; refine pu 32 48 A8_33 HT_.out ?_
           refine pu 33 49 A8_34 HT_.out ?_
           refine pu 34 50 A8_35 HT_.out ?_
           refine pu 35 51 A8_36 HT_.out ?_
           refine pz 36 52 A8_37 HT_.out ?_; refine done_ (done_of HT_.out (by kernel_rfl)) ?_
           try go_wp2
           go_meet
           case rel => exact ⟨_, (true), (by first | rfl | (simp; done) | (simp [*]; done)), H', ⟨by have := HK1.out; first | omega | exact Nat.le_refl _⟩, ⟨by refine bu ?_; exact BK204.out⟩, ⟨bz⟩⟩
         ·
          rw [if_neg c12] at H; exact absurd H (by simp)
        ·
         rw [if_neg c11] at H; exact absurd H (by simp)
       ·
        rw [if_neg c9] at H; have c9b0 : decide (0 < x3_1) = false := decide_eq_false c9; clear c9
        (first | rw [c9b0] | (simp only [i64_w, i32_w]; rw [c9b0]) | skip)
        replace H := Option.bind_eq_some_iff.mp H; obtain ⟨t210, A270, H⟩ := H; replace H : (if t210 = true then ((spec_l1Rise.f k1 ((rd_T63 l0 x3_1).f2)).bind fun t211 => (if t211 = true then ((spec_l1All.f k1 ((rd_T63 l0 x3_1).f2) 0 9).bind fun t212 => (spec_RulesOk.j1 k1 l0 x3_1 (!t212) ((rd_T63 l0 x3_1).f0) ((rd_T63 l0 x3_1).f1) ((rd_T63 l0 x3_1).f2) ((rd_T63 l0 x3_1).f3) ((rd_T63 l0 x3_1).f4))) else (spec_RulesOk.j1 k1 l0 x3_1 true ((rd_T63 l0 x3_1).f0) ((rd_T63 l0 x3_1).f1) ((rd_T63 l0 x3_1).f2) ((rd_T63 l0 x3_1).f3) ((rd_T63 l0 x3_1).f4)))) else (spec_RulesOk.j1 k1 l0 x3_1 true ((rd_T63 l0 x3_1).f0) ((rd_T63 l0 x3_1).f1) ((rd_T63 l0 x3_1).f2) ((rd_T63 l0 x3_1).f3) ((rd_T63 l0 x3_1).f4))) = some r := H; have A27 := Az A270; clear A270
        by_cases c28 : t210 = true
        ·
         subst c28
         have H1 : ((spec_l1Rise.f k1 ((rd_T63 l0 x3_1).f2)).bind fun t211 => (if t211 = true then ((spec_l1All.f k1 ((rd_T63 l0 x3_1).f2) 0 9).bind fun t212 => (spec_RulesOk.j1 k1 l0 x3_1 (!t212) ((rd_T63 l0 x3_1).f0) ((rd_T63 l0 x3_1).f1) ((rd_T63 l0 x3_1).f2) ((rd_T63 l0 x3_1).f3) ((rd_T63 l0 x3_1).f4))) else (spec_RulesOk.j1 k1 l0 x3_1 true ((rd_T63 l0 x3_1).f0) ((rd_T63 l0 x3_1).f1) ((rd_T63 l0 x3_1).f2) ((rd_T63 l0 x3_1).f3) ((rd_T63 l0 x3_1).f4)))) = some r := by rw [if_pos rfl] at H; exact H
         clear H; have H := H1; clear H1; replace H := Option.bind_eq_some_iff.mp H; obtain ⟨t211, A290, H⟩ := H; replace H : (if t211 = true then ((spec_l1All.f k1 ((rd_T63 l0 x3_1).f2) 0 9).bind fun t212 => (spec_RulesOk.j1 k1 l0 x3_1 (!t212) ((rd_T63 l0 x3_1).f0) ((rd_T63 l0 x3_1).f1) ((rd_T63 l0 x3_1).f2) ((rd_T63 l0 x3_1).f3) ((rd_T63 l0 x3_1).f4))) else (spec_RulesOk.j1 k1 l0 x3_1 true ((rd_T63 l0 x3_1).f0) ((rd_T63 l0 x3_1).f1) ((rd_T63 l0 x3_1).f2) ((rd_T63 l0 x3_1).f3) ((rd_T63 l0 x3_1).f4))) = some r := H; have A29 := Az A290; clear A290
         by_cases c30 : t211 = true
         ·
          subst c30
          have H1 : ((spec_l1All.f k1 ((rd_T63 l0 x3_1).f2) 0 9).bind fun t212 => (spec_RulesOk.j1 k1 l0 x3_1 (!t212) ((rd_T63 l0 x3_1).f0) ((rd_T63 l0 x3_1).f1) ((rd_T63 l0 x3_1).f2) ((rd_T63 l0 x3_1).f3) ((rd_T63 l0 x3_1).f4))) = some r := by rw [if_pos rfl] at H; exact H
          clear H; have H := H1; clear H1; replace H := Option.bind_eq_some_iff.mp H; obtain ⟨t212, A310, H⟩ := H; replace H : (spec_RulesOk.j1 k1 l0 x3_1 (!t212) ((rd_T63 l0 x3_1).f0) ((rd_T63 l0 x3_1).f1) ((rd_T63 l0 x3_1).f2) ((rd_T63 l0 x3_1).f3) ((rd_T63 l0 x3_1).f4)) = some r := H; have A31 := Az A310; clear A310; have H' := Az H; clear H
          try go_wp2
          have n0_ : Aside0 ((((((w5.setCell ⟨gb204, 0, none⟩ (.string ((rd_T63 l0 x3_1).f0))).setCell ⟨gb204, 1, none⟩ (.int .i64 ((rd_T63 l0 x3_1).f1))).setCell ⟨gb204, 2, none⟩ (.slice A203_2 ((rd_T63 l0 x3_1).f2).length c203_2)).setCell ⟨gb204, 3, none⟩ (.bool ((rd_T63 l0 x3_1).f3))).setCell ⟨gb204, 4, none⟩ (.string ((rd_T63 l0 x3_1).f4))).heap[gb204]? = some (.cells #[.string ((rd_T63 l0 x3_1).f0), .int .i64 ((rd_T63 l0 x3_1).f1), .slice A203_2 ((rd_T63 l0 x3_1).f2).length c203_2, .bool ((rd_T63 l0 x3_1).f3), .string ((rd_T63 l0 x3_1).f4)] 63 (0, 0))) := ⟨by refine bu ?_; refine blk_put (cs := #[.string ((rd_T63 l0 x3_1).f0), .int .i64 ((rd_T63 l0 x3_1).f1), .slice A203_2 ((rd_T63 l0 x3_1).f2).length c203_2, .bool ((rd_T63 l0 x3_1).f3), .string (⟨#[]⟩ : ByteArray)]) ?_ 4 _ rfl; refine bu ?_; refine blk_put (cs := #[.string ((rd_T63 l0 x3_1).f0), .int .i64 ((rd_T63 l0 x3_1).f1), .slice A203_2 ((rd_T63 l0 x3_1).f2).length c203_2, .bool false, .string (⟨#[]⟩ : ByteArray)]) ?_ 3 _ rfl; refine bu ?_; refine blk_put (cs := #[.string ((rd_T63 l0 x3_1).f0), .int .i64 ((rd_T63 l0 x3_1).f1), .slice none 0 0, .bool false, .string (⟨#[]⟩ : ByteArray)]) ?_ 2 _ rfl; refine bu ?_; refine blk_put (cs := #[.string ((rd_T63 l0 x3_1).f0), .int .i64 0, .slice none 0 0, .bool false, .string (⟨#[]⟩ : ByteArray)]) ?_ 1 _ rfl; refine bu ?_; refine blk_put (cs := #[.string (⟨#[]⟩ : ByteArray), .int .i64 0, .slice none 0 0, .bool false, .string (⟨#[]⟩ : ByteArray)]) ?_ 0 _ rfl; refine bu ?_; exact BK204.out⟩; have n1_ : Aside0 (Below w.heap.size w (((((w5.setCell ⟨gb204, 0, none⟩ (.string ((rd_T63 l0 x3_1).f0))).setCell ⟨gb204, 1, none⟩ (.int .i64 ((rd_T63 l0 x3_1).f1))).setCell ⟨gb204, 2, none⟩ (.slice A203_2 ((rd_T63 l0 x3_1).f2).length c203_2)).setCell ⟨gb204, 3, none⟩ (.bool ((rd_T63 l0 x3_1).f3))).setCell ⟨gb204, 4, none⟩ (.string ((rd_T63 l0 x3_1).f4)))) := ⟨bz⟩
          (try (have hsd_ : ∀ (W_ : World) (n_ : Nat) (a_ : Addr) (v_ : Value), (W_.drewN n_).setCell a_ v_ = (W_.setCell a_ v_).drewN n_ := fun _ _ _ _ => rfl); simp only [hsd_]; clear hsd_)
          (try clear BK204); (try clear HB); generalize (((((w5.setCell ⟨gb204, 0, none⟩ (.string ((rd_T63 l0 x3_1).f0))).setCell ⟨gb204, 1, none⟩ (.int .i64 ((rd_T63 l0 x3_1).f1))).setCell ⟨gb204, 2, none⟩ (.slice A203_2 ((rd_T63 l0 x3_1).f2).length c203_2)).setCell ⟨gb204, 3, none⟩ (.bool ((rd_T63 l0 x3_1).f3))).setCell ⟨gb204, 4, none⟩ (.string ((rd_T63 l0 x3_1).f4))) = w32 at n0_ n1_ ⊢; have BK204 := n0_; have HB := n1_; clear n0_ n1_; replace BK204 := Az (blk_drew BK204.out); replace HB := Az (below_drew1 HB.out); refine start_ (n := 37) (S := fun w' => w'.cell? ⟨gb204, 0, none⟩ = some (.string ((rd_T63 l0 x3_1).f0)) ∧ w'.cell? ⟨gb204, 1, none⟩ = some (.int .i64 ((rd_T63 l0 x3_1).f1)) ∧ w'.cell? ⟨gb204, 2, none⟩ = some (.slice A203_2 ((rd_T63 l0 x3_1).f2).length c203_2) ∧ w'.cell? ⟨gb204, 3, none⟩ = some (.bool ((rd_T63 l0 x3_1).f3)) ∧ w'.cell? ⟨gb204, 4, none⟩ = some (.string ((rd_T63 l0 x3_1).f4))) (ds := []) A8_0 (by kernel_rfl) rfl rfl (bc5 BK204.out) (fun hHeld => ?_); refine with_tabW spec_RulesOk.tab5 spec_RulesOk.bits5 (fun HT_ HW_ => ?_); generalize w32.drew = w33 at BK204 HB hHeld ⊢; refine pz 0 16 A8_1 HT_.out ?_; refine tz 1 17 A8_2 HT_.out HW_.out hHeld ?_
          refine one_ (i := 2) (N := some 18) A8_3 rfl rfl (one_of HT_.out (by kernel_rfl)) (by decide) (fun K hK => ?_); refine goes_ Try.func37 (by kernel_rfl) rfl #[.string ((rd_T63 l0 x3_1).f0)] (by rfl) rfl rfl (by (try simp only [List.map_toArray, List.map_cons, List.map_nil]); first | done | rfl) ?_
          with_reducible refine (spec_l1Name.calls k1 ((rd_T63 l0 x3_1).f0) true _ A7.out).mono ?_
          rintro e w' ⟨rfl, ⟨nd, rfl⟩⟩; refine ⟨_, rfl, ?_⟩; refine hK.out _ _ (bc5 BK204.out) (fun hHeld => ?_); clear hK K; refine norm_ (a' := ?_) ?_ ?_; rotate_left
          ·
           show Act.put _ (some 18) _ = _
           simp only [Act.put, sA, sB, sC, i64_w, i32_w]
           rfl
          refine pz 3 19 A8_4 HT_.out ?_; refine pz 4 20 A8_5 HT_.out ?_; refine pz 5 21 A8_6 HT_.out ?_; refine pz 6 22 A8_7 HT_.out ?_; refine pz 7 23 A8_8 HT_.out ?_; refine pu 8 24 A8_9 HT_.out ?_
          refine pu 9 25 A8_10 HT_.out ?_
          refine pu 10 26 A8_11 HT_.out ?_
          refine pu 11 27 A8_12 HT_.out ?_
          refine pu 12 28 A8_13 HT_.out ?_
          refine pu 13 29 A8_38 HT_.out ?_
          refine pu 14 30 A8_15 HT_.out ?_
          refine pu 15 31 A8_16 HT_.out ?_
          refine pu 16 32 A8_17 HT_.out ?_
          refine pz 17 33 A8_18 HT_.out ?_; refine pz 18 34 A8_19 HT_.out ?_; refine pz 19 35 A8_20 HT_.out ?_; refine pz 20 36 A8_21 HT_.out ?_; refine tz 21 37 A8_22 HT_.out HW_.out hHeld ?_
          refine one_ (i := 22) (N := some 38) A8_23 rfl rfl (one_of HT_.out (by kernel_rfl)) (by decide) (fun K hK => ?_); refine goes_ Try.func38 (by kernel_rfl) rfl #[.int .i64 ((rd_T63 l0 x3_1).f1), .int .i64 1, .int .i64 3] (by rfl) rfl rfl (by (try simp only [List.map_toArray, List.map_cons, List.map_nil]); first | done | rfl) ?_
          with_reducible refine (spec_l1In.calls ((rd_T63 l0 x3_1).f1) 1 3 true _ A27.out).mono ?_
          rintro e w' ⟨rfl, ⟨nd, rfl⟩⟩; refine ⟨_, rfl, ?_⟩; refine hK.out _ _ (bc5 BK204.out) (fun hHeld => ?_); clear hK K; refine norm_ (a' := ?_) ?_ ?_; rotate_left
          ·
           show Act.put _ (some 38) _ = _
           simp only [Act.put, sA, sB, sC, i64_w, i32_w]
           rfl
          refine pz 23 39 A8_24 HT_.out ?_; refine pz 24 40 A8_25 HT_.out ?_; refine pz 25 41 A8_26 HT_.out ?_; refine pz 26 42 A8_27 HT_.out ?_; refine tz 27 43 A8_28 HT_.out HW_.out hHeld ?_
          refine one_ (i := 28) (N := some 44) A8_29 rfl rfl (one_of HT_.out (by kernel_rfl)) (by decide) (fun K hK => ?_); refine goes_ Try.func39 (by kernel_rfl) rfl #[.slice A203_2 ((rd_T63 l0 x3_1).f2).length c203_2] (by rfl) rfl rfl (by (try simp only [List.map_toArray, List.map_cons, List.map_nil]); first | done | rfl) ?_
          with_reducible refine (spec_l1Rise.calls k1 _ _ ((rd_T63 l0 x3_1).f2) true _ ?side1 ?side2 A29.out).mono ?_
          (case side1 => repeat (first | exact (Kd.C_below HR203_2.out bz) | (with_reducible refine Kd.C_alloc ?_ _) | (with_reducible refine Kd.C_drewN ?_ _) | (with_reducible refine Kd.C_drew ?_)))
          (case side2 => exact HC203_2.out)
          rintro e w' ⟨rfl, ⟨nd, rfl⟩⟩; refine ⟨_, rfl, ?_⟩; refine hK.out _ _ (bc5 BK204.out) (fun hHeld => ?_); clear hK K; refine norm_ (a' := ?_) ?_ ?_; rotate_left
          ·
           show Act.put _ (some 44) _ = _
           simp only [Act.put, sA, sB, sC, i64_w, i32_w]
           rfl
          refine pz 29 45 A8_30 HT_.out ?_; refine pz 30 46 A8_31 HT_.out ?_; refine pz 31 47 A8_32 HT_.out ?_; refine pz 32 48 A8_33 HT_.out ?_; refine tz 33 49 A8_34 HT_.out HW_.out hHeld ?_
          refine one_ (i := 34) (N := some 50) A8_35 rfl rfl (one_of HT_.out (by kernel_rfl)) (by decide) (fun K hK => ?_); refine goes_ Try.func40 (by kernel_rfl) rfl #[.slice A203_2 ((rd_T63 l0 x3_1).f2).length c203_2, .int .i64 0, .int .i64 9] (by rfl) rfl rfl (by (try simp only [List.map_toArray, List.map_cons, List.map_nil]); first | done | rfl) ?_
          with_reducible refine (spec_l1All.calls k1 _ _ ((rd_T63 l0 x3_1).f2) 0 9 t212 _ ?side1 ?side2 A31.out).mono ?_
          (case side1 => repeat (first | exact (Kd.C_below HR203_2.out bz) | (with_reducible refine Kd.C_alloc ?_ _) | (with_reducible refine Kd.C_drewN ?_ _) | (with_reducible refine Kd.C_drew ?_)))
          (case side2 => exact HC203_2.out)
          rintro e w' ⟨rfl, ⟨nd, rfl⟩⟩; refine ⟨_, rfl, ?_⟩; refine hK.out _ _ (bc5 BK204.out) (fun hHeld => ?_); clear hK K; refine norm_ (a' := ?_) ?_ ?_; rotate_left
          ·
           show Act.put _ (some 50) _ = _
           simp only [Act.put, sA, sB, sC, i64_w, i32_w]
           rfl
          refine pz 35 51 A8_36 HT_.out ?_; refine pz 36 52 A8_37 HT_.out ?_; refine done_ (done_of HT_.out (by kernel_rfl)) ?_
          try go_wp2
          go_meet
          case rel => exact ⟨_, (!t212), (by first | rfl | (simp; done) | (simp [*]; done)), H', ⟨by have := HK1.out; first | omega | exact Nat.le_refl _⟩, ⟨by refine bu ?_; exact BK204.out⟩, ⟨bz⟩⟩
         ·
          replace c30 := Bool.eq_false_iff.mpr c30; subst c30
          have H1 : (spec_RulesOk.j1 k1 l0 x3_1 true ((rd_T63 l0 x3_1).f0) ((rd_T63 l0 x3_1).f1) ((rd_T63 l0 x3_1).f2) ((rd_T63 l0 x3_1).f3) ((rd_T63 l0 x3_1).f4)) = some r := by rw [if_neg (show ¬ (false = true) by decide)] at H; exact H
          clear H; have H := H1; clear H1; have H' := Az H; clear H
          try go_wp2
          have n0_ : Aside0 ((((((w5.setCell ⟨gb204, 0, none⟩ (.string ((rd_T63 l0 x3_1).f0))).setCell ⟨gb204, 1, none⟩ (.int .i64 ((rd_T63 l0 x3_1).f1))).setCell ⟨gb204, 2, none⟩ (.slice A203_2 ((rd_T63 l0 x3_1).f2).length c203_2)).setCell ⟨gb204, 3, none⟩ (.bool ((rd_T63 l0 x3_1).f3))).setCell ⟨gb204, 4, none⟩ (.string ((rd_T63 l0 x3_1).f4))).heap[gb204]? = some (.cells #[.string ((rd_T63 l0 x3_1).f0), .int .i64 ((rd_T63 l0 x3_1).f1), .slice A203_2 ((rd_T63 l0 x3_1).f2).length c203_2, .bool ((rd_T63 l0 x3_1).f3), .string ((rd_T63 l0 x3_1).f4)] 63 (0, 0))) := ⟨by refine bu ?_; refine blk_put (cs := #[.string ((rd_T63 l0 x3_1).f0), .int .i64 ((rd_T63 l0 x3_1).f1), .slice A203_2 ((rd_T63 l0 x3_1).f2).length c203_2, .bool ((rd_T63 l0 x3_1).f3), .string (⟨#[]⟩ : ByteArray)]) ?_ 4 _ rfl; refine bu ?_; refine blk_put (cs := #[.string ((rd_T63 l0 x3_1).f0), .int .i64 ((rd_T63 l0 x3_1).f1), .slice A203_2 ((rd_T63 l0 x3_1).f2).length c203_2, .bool false, .string (⟨#[]⟩ : ByteArray)]) ?_ 3 _ rfl; refine bu ?_; refine blk_put (cs := #[.string ((rd_T63 l0 x3_1).f0), .int .i64 ((rd_T63 l0 x3_1).f1), .slice none 0 0, .bool false, .string (⟨#[]⟩ : ByteArray)]) ?_ 2 _ rfl; refine bu ?_; refine blk_put (cs := #[.string ((rd_T63 l0 x3_1).f0), .int .i64 0, .slice none 0 0, .bool false, .string (⟨#[]⟩ : ByteArray)]) ?_ 1 _ rfl; refine bu ?_; refine blk_put (cs := #[.string (⟨#[]⟩ : ByteArray), .int .i64 0, .slice none 0 0, .bool false, .string (⟨#[]⟩ : ByteArray)]) ?_ 0 _ rfl; refine bu ?_; exact BK204.out⟩; have n1_ : Aside0 (Below w.heap.size w (((((w5.setCell ⟨gb204, 0, none⟩ (.string ((rd_T63 l0 x3_1).f0))).setCell ⟨gb204, 1, none⟩ (.int .i64 ((rd_T63 l0 x3_1).f1))).setCell ⟨gb204, 2, none⟩ (.slice A203_2 ((rd_T63 l0 x3_1).f2).length c203_2)).setCell ⟨gb204, 3, none⟩ (.bool ((rd_T63 l0 x3_1).f3))).setCell ⟨gb204, 4, none⟩ (.string ((rd_T63 l0 x3_1).f4)))) := ⟨bz⟩
          (try (have hsd_ : ∀ (W_ : World) (n_ : Nat) (a_ : Addr) (v_ : Value), (W_.drewN n_).setCell a_ v_ = (W_.setCell a_ v_).drewN n_ := fun _ _ _ _ => rfl); simp only [hsd_]; clear hsd_)
          (try clear BK204); (try clear HB); generalize (((((w5.setCell ⟨gb204, 0, none⟩ (.string ((rd_T63 l0 x3_1).f0))).setCell ⟨gb204, 1, none⟩ (.int .i64 ((rd_T63 l0 x3_1).f1))).setCell ⟨gb204, 2, none⟩ (.slice A203_2 ((rd_T63 l0 x3_1).f2).length c203_2)).setCell ⟨gb204, 3, none⟩ (.bool ((rd_T63 l0 x3_1).f3))).setCell ⟨gb204, 4, none⟩ (.string ((rd_T63 l0 x3_1).f4))) = w34 at n0_ n1_ ⊢; have BK204 := n0_; have HB := n1_; clear n0_ n1_; replace BK204 := Az (blk_drew BK204.out); replace HB := Az (below_drew1 HB.out); refine start_ (n := 37) (S := fun w' => w'.cell? ⟨gb204, 0, none⟩ = some (.string ((rd_T63 l0 x3_1).f0)) ∧ w'.cell? ⟨gb204, 1, none⟩ = some (.int .i64 ((rd_T63 l0 x3_1).f1)) ∧ w'.cell? ⟨gb204, 2, none⟩ = some (.slice A203_2 ((rd_T63 l0 x3_1).f2).length c203_2) ∧ w'.cell? ⟨gb204, 3, none⟩ = some (.bool ((rd_T63 l0 x3_1).f3)) ∧ w'.cell? ⟨gb204, 4, none⟩ = some (.string ((rd_T63 l0 x3_1).f4))) (ds := []) A8_0 (by kernel_rfl) rfl rfl (bc5 BK204.out) (fun hHeld => ?_); refine with_tabW spec_RulesOk.tab5 spec_RulesOk.bits5 (fun HT_ HW_ => ?_); generalize w34.drew = w35 at BK204 HB hHeld ⊢; refine pz 0 16 A8_1 HT_.out ?_; refine tz 1 17 A8_2 HT_.out HW_.out hHeld ?_
          refine one_ (i := 2) (N := some 18) A8_3 rfl rfl (one_of HT_.out (by kernel_rfl)) (by decide) (fun K hK => ?_); refine goes_ Try.func37 (by kernel_rfl) rfl #[.string ((rd_T63 l0 x3_1).f0)] (by rfl) rfl rfl (by (try simp only [List.map_toArray, List.map_cons, List.map_nil]); first | done | rfl) ?_
          with_reducible refine (spec_l1Name.calls k1 ((rd_T63 l0 x3_1).f0) true _ A7.out).mono ?_
          rintro e w' ⟨rfl, ⟨nd, rfl⟩⟩; refine ⟨_, rfl, ?_⟩; refine hK.out _ _ (bc5 BK204.out) (fun hHeld => ?_); clear hK K; refine norm_ (a' := ?_) ?_ ?_; rotate_left
          ·
           show Act.put _ (some 18) _ = _
           simp only [Act.put, sA, sB, sC, i64_w, i32_w]
           rfl
          refine pz 3 19 A8_4 HT_.out ?_; refine pz 4 20 A8_5 HT_.out ?_; refine pz 5 21 A8_6 HT_.out ?_; refine pz 6 22 A8_7 HT_.out ?_; refine pz 7 23 A8_8 HT_.out ?_; refine pu 8 24 A8_9 HT_.out ?_
          refine pu 9 25 A8_10 HT_.out ?_
          refine pu 10 26 A8_11 HT_.out ?_
          refine pu 11 27 A8_12 HT_.out ?_
          refine pu 12 28 A8_13 HT_.out ?_
          refine pu 13 29 A8_38 HT_.out ?_
          refine pu 14 30 A8_15 HT_.out ?_
          refine pu 15 31 A8_16 HT_.out ?_
          refine pu 16 32 A8_17 HT_.out ?_
          refine pz 17 33 A8_18 HT_.out ?_; refine pz 18 34 A8_19 HT_.out ?_; refine pz 19 35 A8_20 HT_.out ?_; refine pz 20 36 A8_21 HT_.out ?_; refine tz 21 37 A8_22 HT_.out HW_.out hHeld ?_
          refine one_ (i := 22) (N := some 38) A8_23 rfl rfl (one_of HT_.out (by kernel_rfl)) (by decide) (fun K hK => ?_); refine goes_ Try.func38 (by kernel_rfl) rfl #[.int .i64 ((rd_T63 l0 x3_1).f1), .int .i64 1, .int .i64 3] (by rfl) rfl rfl (by (try simp only [List.map_toArray, List.map_cons, List.map_nil]); first | done | rfl) ?_
          with_reducible refine (spec_l1In.calls ((rd_T63 l0 x3_1).f1) 1 3 true _ A27.out).mono ?_
          rintro e w' ⟨rfl, ⟨nd, rfl⟩⟩; refine ⟨_, rfl, ?_⟩; refine hK.out _ _ (bc5 BK204.out) (fun hHeld => ?_); clear hK K; refine norm_ (a' := ?_) ?_ ?_; rotate_left
          ·
           show Act.put _ (some 38) _ = _
           simp only [Act.put, sA, sB, sC, i64_w, i32_w]
           rfl
          refine pz 23 39 A8_24 HT_.out ?_; refine pz 24 40 A8_25 HT_.out ?_; refine pz 25 41 A8_26 HT_.out ?_; refine pz 26 42 A8_27 HT_.out ?_; refine tz 27 43 A8_28 HT_.out HW_.out hHeld ?_
          refine one_ (i := 28) (N := some 44) A8_29 rfl rfl (one_of HT_.out (by kernel_rfl)) (by decide) (fun K hK => ?_); refine goes_ Try.func39 (by kernel_rfl) rfl #[.slice A203_2 ((rd_T63 l0 x3_1).f2).length c203_2] (by rfl) rfl rfl (by (try simp only [List.map_toArray, List.map_cons, List.map_nil]); first | done | rfl) ?_
          with_reducible refine (spec_l1Rise.calls k1 _ _ ((rd_T63 l0 x3_1).f2) false _ ?side1 ?side2 A29.out).mono ?_
          (case side1 => repeat (first | exact (Kd.C_below HR203_2.out bz) | (with_reducible refine Kd.C_alloc ?_ _) | (with_reducible refine Kd.C_drewN ?_ _) | (with_reducible refine Kd.C_drew ?_)))
          (case side2 => exact HC203_2.out)
          rintro e w' ⟨rfl, ⟨nd, rfl⟩⟩; refine ⟨_, rfl, ?_⟩; refine hK.out _ _ (bc5 BK204.out) (fun hHeld => ?_); clear hK K; refine norm_ (a' := ?_) ?_ ?_; rotate_left
          ·
           show Act.put _ (some 44) _ = _
           simp only [Act.put, sA, sB, sC, i64_w, i32_w]
           rfl
          refine pz 29 45 A8_30 HT_.out ?_; refine pz 30 46 A8_31 HT_.out ?_; refine pz 31 47 A8_32 HT_.out ?_; refine pu 32 48 A8_33 HT_.out ?_
          refine pu 33 49 A8_34 HT_.out ?_
          refine pu 34 50 A8_35 HT_.out ?_
          refine pu 35 51 A8_36 HT_.out ?_
          refine pz 36 52 A8_37 HT_.out ?_; refine done_ (done_of HT_.out (by kernel_rfl)) ?_
          try go_wp2
          go_meet
          case rel => exact ⟨_, (true), (by first | rfl | (simp; done) | (simp [*]; done)), H', ⟨by have := HK1.out; first | omega | exact Nat.le_refl _⟩, ⟨by refine bu ?_; exact BK204.out⟩, ⟨bz⟩⟩
        ·
         replace c28 := Bool.eq_false_iff.mpr c28; subst c28
         have H1 : (spec_RulesOk.j1 k1 l0 x3_1 true ((rd_T63 l0 x3_1).f0) ((rd_T63 l0 x3_1).f1) ((rd_T63 l0 x3_1).f2) ((rd_T63 l0 x3_1).f3) ((rd_T63 l0 x3_1).f4)) = some r := by rw [if_neg (show ¬ (false = true) by decide)] at H; exact H
         clear H; have H := H1; clear H1; have H' := Az H; clear H
         try go_wp2
         have n0_ : Aside0 ((((((w5.setCell ⟨gb204, 0, none⟩ (.string ((rd_T63 l0 x3_1).f0))).setCell ⟨gb204, 1, none⟩ (.int .i64 ((rd_T63 l0 x3_1).f1))).setCell ⟨gb204, 2, none⟩ (.slice A203_2 ((rd_T63 l0 x3_1).f2).length c203_2)).setCell ⟨gb204, 3, none⟩ (.bool ((rd_T63 l0 x3_1).f3))).setCell ⟨gb204, 4, none⟩ (.string ((rd_T63 l0 x3_1).f4))).heap[gb204]? = some (.cells #[.string ((rd_T63 l0 x3_1).f0), .int .i64 ((rd_T63 l0 x3_1).f1), .slice A203_2 ((rd_T63 l0 x3_1).f2).length c203_2, .bool ((rd_T63 l0 x3_1).f3), .string ((rd_T63 l0 x3_1).f4)] 63 (0, 0))) := ⟨by refine bu ?_; refine blk_put (cs := #[.string ((rd_T63 l0 x3_1).f0), .int .i64 ((rd_T63 l0 x3_1).f1), .slice A203_2 ((rd_T63 l0 x3_1).f2).length c203_2, .bool ((rd_T63 l0 x3_1).f3), .string (⟨#[]⟩ : ByteArray)]) ?_ 4 _ rfl; refine bu ?_; refine blk_put (cs := #[.string ((rd_T63 l0 x3_1).f0), .int .i64 ((rd_T63 l0 x3_1).f1), .slice A203_2 ((rd_T63 l0 x3_1).f2).length c203_2, .bool false, .string (⟨#[]⟩ : ByteArray)]) ?_ 3 _ rfl; refine bu ?_; refine blk_put (cs := #[.string ((rd_T63 l0 x3_1).f0), .int .i64 ((rd_T63 l0 x3_1).f1), .slice none 0 0, .bool false, .string (⟨#[]⟩ : ByteArray)]) ?_ 2 _ rfl; refine bu ?_; refine blk_put (cs := #[.string ((rd_T63 l0 x3_1).f0), .int .i64 0, .slice none 0 0, .bool false, .string (⟨#[]⟩ : ByteArray)]) ?_ 1 _ rfl; refine bu ?_; refine blk_put (cs := #[.string (⟨#[]⟩ : ByteArray), .int .i64 0, .slice none 0 0, .bool false, .string (⟨#[]⟩ : ByteArray)]) ?_ 0 _ rfl; refine bu ?_; exact BK204.out⟩; have n1_ : Aside0 (Below w.heap.size w (((((w5.setCell ⟨gb204, 0, none⟩ (.string ((rd_T63 l0 x3_1).f0))).setCell ⟨gb204, 1, none⟩ (.int .i64 ((rd_T63 l0 x3_1).f1))).setCell ⟨gb204, 2, none⟩ (.slice A203_2 ((rd_T63 l0 x3_1).f2).length c203_2)).setCell ⟨gb204, 3, none⟩ (.bool ((rd_T63 l0 x3_1).f3))).setCell ⟨gb204, 4, none⟩ (.string ((rd_T63 l0 x3_1).f4)))) := ⟨bz⟩
         (try (have hsd_ : ∀ (W_ : World) (n_ : Nat) (a_ : Addr) (v_ : Value), (W_.drewN n_).setCell a_ v_ = (W_.setCell a_ v_).drewN n_ := fun _ _ _ _ => rfl); simp only [hsd_]; clear hsd_)
         (try clear BK204); (try clear HB); generalize (((((w5.setCell ⟨gb204, 0, none⟩ (.string ((rd_T63 l0 x3_1).f0))).setCell ⟨gb204, 1, none⟩ (.int .i64 ((rd_T63 l0 x3_1).f1))).setCell ⟨gb204, 2, none⟩ (.slice A203_2 ((rd_T63 l0 x3_1).f2).length c203_2)).setCell ⟨gb204, 3, none⟩ (.bool ((rd_T63 l0 x3_1).f3))).setCell ⟨gb204, 4, none⟩ (.string ((rd_T63 l0 x3_1).f4))) = w36 at n0_ n1_ ⊢; have BK204 := n0_; have HB := n1_; clear n0_ n1_; replace BK204 := Az (blk_drew BK204.out); replace HB := Az (below_drew1 HB.out); refine start_ (n := 37) (S := fun w' => w'.cell? ⟨gb204, 0, none⟩ = some (.string ((rd_T63 l0 x3_1).f0)) ∧ w'.cell? ⟨gb204, 1, none⟩ = some (.int .i64 ((rd_T63 l0 x3_1).f1)) ∧ w'.cell? ⟨gb204, 2, none⟩ = some (.slice A203_2 ((rd_T63 l0 x3_1).f2).length c203_2) ∧ w'.cell? ⟨gb204, 3, none⟩ = some (.bool ((rd_T63 l0 x3_1).f3)) ∧ w'.cell? ⟨gb204, 4, none⟩ = some (.string ((rd_T63 l0 x3_1).f4))) (ds := []) A8_0 (by kernel_rfl) rfl rfl (bc5 BK204.out) (fun hHeld => ?_); refine with_tabW spec_RulesOk.tab5 spec_RulesOk.bits5 (fun HT_ HW_ => ?_); generalize w36.drew = w37 at BK204 HB hHeld ⊢; refine pz 0 16 A8_1 HT_.out ?_; refine tz 1 17 A8_2 HT_.out HW_.out hHeld ?_
         refine one_ (i := 2) (N := some 18) A8_3 rfl rfl (one_of HT_.out (by kernel_rfl)) (by decide) (fun K hK => ?_); refine goes_ Try.func37 (by kernel_rfl) rfl #[.string ((rd_T63 l0 x3_1).f0)] (by rfl) rfl rfl (by (try simp only [List.map_toArray, List.map_cons, List.map_nil]); first | done | rfl) ?_
         with_reducible refine (spec_l1Name.calls k1 ((rd_T63 l0 x3_1).f0) true _ A7.out).mono ?_
         rintro e w' ⟨rfl, ⟨nd, rfl⟩⟩; refine ⟨_, rfl, ?_⟩; refine hK.out _ _ (bc5 BK204.out) (fun hHeld => ?_); clear hK K; refine norm_ (a' := ?_) ?_ ?_; rotate_left
         ·
          show Act.put _ (some 18) _ = _
          simp only [Act.put, sA, sB, sC, i64_w, i32_w]
          rfl
         refine pz 3 19 A8_4 HT_.out ?_; refine pz 4 20 A8_5 HT_.out ?_; refine pz 5 21 A8_6 HT_.out ?_; refine pz 6 22 A8_7 HT_.out ?_; refine pz 7 23 A8_8 HT_.out ?_; refine pu 8 24 A8_9 HT_.out ?_
         refine pu 9 25 A8_10 HT_.out ?_
         refine pu 10 26 A8_11 HT_.out ?_
         refine pu 11 27 A8_12 HT_.out ?_
         refine pu 12 28 A8_13 HT_.out ?_
         refine pu 13 29 A8_38 HT_.out ?_
         refine pu 14 30 A8_15 HT_.out ?_
         refine pu 15 31 A8_16 HT_.out ?_
         refine pu 16 32 A8_17 HT_.out ?_
         refine pz 17 33 A8_18 HT_.out ?_; refine pz 18 34 A8_19 HT_.out ?_; refine pz 19 35 A8_20 HT_.out ?_; refine pz 20 36 A8_21 HT_.out ?_; refine tz 21 37 A8_22 HT_.out HW_.out hHeld ?_
         refine one_ (i := 22) (N := some 38) A8_23 rfl rfl (one_of HT_.out (by kernel_rfl)) (by decide) (fun K hK => ?_); refine goes_ Try.func38 (by kernel_rfl) rfl #[.int .i64 ((rd_T63 l0 x3_1).f1), .int .i64 1, .int .i64 3] (by rfl) rfl rfl (by (try simp only [List.map_toArray, List.map_cons, List.map_nil]); first | done | rfl) ?_
         with_reducible refine (spec_l1In.calls ((rd_T63 l0 x3_1).f1) 1 3 false _ A27.out).mono ?_
         rintro e w' ⟨rfl, ⟨nd, rfl⟩⟩; refine ⟨_, rfl, ?_⟩; refine hK.out _ _ (bc5 BK204.out) (fun hHeld => ?_); clear hK K; refine norm_ (a' := ?_) ?_ ?_; rotate_left
         ·
          show Act.put _ (some 38) _ = _
          simp only [Act.put, sA, sB, sC, i64_w, i32_w]
          rfl
         refine pz 23 39 A8_24 HT_.out ?_; refine pz 24 40 A8_25 HT_.out ?_; refine pz 25 41 A8_26 HT_.out ?_; refine pu 26 42 A8_27 HT_.out ?_
         refine pu 27 43 A8_28 HT_.out ?_
         refine pu 28 44 A8_29 HT_.out ?_
         refine pu 29 45 A8_30 HT_.out ?_
         refine pz 30 46 A8_31 HT_.out ?_; refine pz 31 47 A8_32 HT_.out ?_; refine pu 32 48 A8_33 HT_.out ?_
         refine pu 33 49 A8_34 HT_.out ?_
         refine pu 34 50 A8_35 HT_.out ?_
         refine pu 35 51 A8_36 HT_.out ?_
         refine pz 36 52 A8_37 HT_.out ?_; refine done_ (done_of HT_.out (by kernel_rfl)) ?_
         try go_wp2
         go_meet
         case rel => exact ⟨_, (true), (by first | rfl | (simp; done) | (simp [*]; done)), H', ⟨by have := HK1.out; first | omega | exact Nat.le_refl _⟩, ⟨by refine bu ?_; exact BK204.out⟩, ⟨bz⟩⟩
      ·
       replace c8 := Bool.eq_false_iff.mpr c8; subst c8
       have H1 : (spec_RulesOk.j1 k1 l0 x3_1 true ((rd_T63 l0 x3_1).f0) ((rd_T63 l0 x3_1).f1) ((rd_T63 l0 x3_1).f2) ((rd_T63 l0 x3_1).f3) ((rd_T63 l0 x3_1).f4)) = some r := by rw [if_neg (show ¬ (false = true) by decide)] at H; exact H
       clear H; have H := H1; clear H1; have H' := Az H; clear H
       try go_wp2
       have n0_ : Aside0 ((((((w5.setCell ⟨gb204, 0, none⟩ (.string ((rd_T63 l0 x3_1).f0))).setCell ⟨gb204, 1, none⟩ (.int .i64 ((rd_T63 l0 x3_1).f1))).setCell ⟨gb204, 2, none⟩ (.slice A203_2 ((rd_T63 l0 x3_1).f2).length c203_2)).setCell ⟨gb204, 3, none⟩ (.bool ((rd_T63 l0 x3_1).f3))).setCell ⟨gb204, 4, none⟩ (.string ((rd_T63 l0 x3_1).f4))).heap[gb204]? = some (.cells #[.string ((rd_T63 l0 x3_1).f0), .int .i64 ((rd_T63 l0 x3_1).f1), .slice A203_2 ((rd_T63 l0 x3_1).f2).length c203_2, .bool ((rd_T63 l0 x3_1).f3), .string ((rd_T63 l0 x3_1).f4)] 63 (0, 0))) := ⟨by refine bu ?_; refine blk_put (cs := #[.string ((rd_T63 l0 x3_1).f0), .int .i64 ((rd_T63 l0 x3_1).f1), .slice A203_2 ((rd_T63 l0 x3_1).f2).length c203_2, .bool ((rd_T63 l0 x3_1).f3), .string (⟨#[]⟩ : ByteArray)]) ?_ 4 _ rfl; refine bu ?_; refine blk_put (cs := #[.string ((rd_T63 l0 x3_1).f0), .int .i64 ((rd_T63 l0 x3_1).f1), .slice A203_2 ((rd_T63 l0 x3_1).f2).length c203_2, .bool false, .string (⟨#[]⟩ : ByteArray)]) ?_ 3 _ rfl; refine bu ?_; refine blk_put (cs := #[.string ((rd_T63 l0 x3_1).f0), .int .i64 ((rd_T63 l0 x3_1).f1), .slice none 0 0, .bool false, .string (⟨#[]⟩ : ByteArray)]) ?_ 2 _ rfl; refine bu ?_; refine blk_put (cs := #[.string ((rd_T63 l0 x3_1).f0), .int .i64 0, .slice none 0 0, .bool false, .string (⟨#[]⟩ : ByteArray)]) ?_ 1 _ rfl; refine bu ?_; refine blk_put (cs := #[.string (⟨#[]⟩ : ByteArray), .int .i64 0, .slice none 0 0, .bool false, .string (⟨#[]⟩ : ByteArray)]) ?_ 0 _ rfl; refine bu ?_; exact BK204.out⟩; have n1_ : Aside0 (Below w.heap.size w (((((w5.setCell ⟨gb204, 0, none⟩ (.string ((rd_T63 l0 x3_1).f0))).setCell ⟨gb204, 1, none⟩ (.int .i64 ((rd_T63 l0 x3_1).f1))).setCell ⟨gb204, 2, none⟩ (.slice A203_2 ((rd_T63 l0 x3_1).f2).length c203_2)).setCell ⟨gb204, 3, none⟩ (.bool ((rd_T63 l0 x3_1).f3))).setCell ⟨gb204, 4, none⟩ (.string ((rd_T63 l0 x3_1).f4)))) := ⟨bz⟩
       (try (have hsd_ : ∀ (W_ : World) (n_ : Nat) (a_ : Addr) (v_ : Value), (W_.drewN n_).setCell a_ v_ = (W_.setCell a_ v_).drewN n_ := fun _ _ _ _ => rfl); simp only [hsd_]; clear hsd_)
       (try clear BK204); (try clear HB); generalize (((((w5.setCell ⟨gb204, 0, none⟩ (.string ((rd_T63 l0 x3_1).f0))).setCell ⟨gb204, 1, none⟩ (.int .i64 ((rd_T63 l0 x3_1).f1))).setCell ⟨gb204, 2, none⟩ (.slice A203_2 ((rd_T63 l0 x3_1).f2).length c203_2)).setCell ⟨gb204, 3, none⟩ (.bool ((rd_T63 l0 x3_1).f3))).setCell ⟨gb204, 4, none⟩ (.string ((rd_T63 l0 x3_1).f4))) = w38 at n0_ n1_ ⊢; have BK204 := n0_; have HB := n1_; clear n0_ n1_; replace BK204 := Az (blk_drew BK204.out); replace HB := Az (below_drew1 HB.out); refine start_ (n := 37) (S := fun w' => w'.cell? ⟨gb204, 0, none⟩ = some (.string ((rd_T63 l0 x3_1).f0)) ∧ w'.cell? ⟨gb204, 1, none⟩ = some (.int .i64 ((rd_T63 l0 x3_1).f1)) ∧ w'.cell? ⟨gb204, 2, none⟩ = some (.slice A203_2 ((rd_T63 l0 x3_1).f2).length c203_2) ∧ w'.cell? ⟨gb204, 3, none⟩ = some (.bool ((rd_T63 l0 x3_1).f3)) ∧ w'.cell? ⟨gb204, 4, none⟩ = some (.string ((rd_T63 l0 x3_1).f4))) (ds := []) A8_0 (by kernel_rfl) rfl rfl (bc5 BK204.out) (fun hHeld => ?_); refine with_tabW spec_RulesOk.tab5 spec_RulesOk.bits5 (fun HT_ HW_ => ?_); generalize w38.drew = w39 at BK204 HB hHeld ⊢; refine pz 0 16 A8_1 HT_.out ?_; refine tz 1 17 A8_2 HT_.out HW_.out hHeld ?_
       refine one_ (i := 2) (N := some 18) A8_3 rfl rfl (one_of HT_.out (by kernel_rfl)) (by decide) (fun K hK => ?_); refine goes_ Try.func37 (by kernel_rfl) rfl #[.string ((rd_T63 l0 x3_1).f0)] (by rfl) rfl rfl (by (try simp only [List.map_toArray, List.map_cons, List.map_nil]); first | done | rfl) ?_
       with_reducible refine (spec_l1Name.calls k1 ((rd_T63 l0 x3_1).f0) false _ A7.out).mono ?_
       rintro e w' ⟨rfl, ⟨nd, rfl⟩⟩; refine ⟨_, rfl, ?_⟩; refine hK.out _ _ (bc5 BK204.out) (fun hHeld => ?_); clear hK K; refine norm_ (a' := ?_) ?_ ?_; rotate_left
       ·
        show Act.put _ (some 18) _ = _
        simp only [Act.put, sA, sB, sC, i64_w, i32_w]
        rfl
       refine pz 3 19 A8_4 HT_.out ?_; refine pz 4 20 A8_5 HT_.out ?_; refine pu 5 21 A8_6 HT_.out ?_
       refine pu 6 22 A8_7 HT_.out ?_
       refine pu 7 23 A8_8 HT_.out ?_
       refine pu 8 24 A8_9 HT_.out ?_
       refine pu 9 25 A8_10 HT_.out ?_
       refine pu 10 26 A8_11 HT_.out ?_
       refine pu 11 27 A8_12 HT_.out ?_
       refine pu 12 28 A8_13 HT_.out ?_
       refine pu 13 29 A8_38 HT_.out ?_
       refine pu 14 30 A8_15 HT_.out ?_
       refine pu 15 31 A8_16 HT_.out ?_
       refine pu 16 32 A8_17 HT_.out ?_
       refine pu 17 33 A8_18 HT_.out ?_
       refine pz 18 34 A8_19 HT_.out ?_; refine pz 19 35 A8_20 HT_.out ?_; refine pu 20 36 A8_21 HT_.out ?_
       refine pu 21 37 A8_22 HT_.out ?_
       refine pu 22 38 A8_23 HT_.out ?_
       refine pu 23 39 A8_24 HT_.out ?_
       refine pz 24 40 A8_25 HT_.out ?_; refine pz 25 41 A8_26 HT_.out ?_; refine pu 26 42 A8_27 HT_.out ?_
       refine pu 27 43 A8_28 HT_.out ?_
       refine pu 28 44 A8_29 HT_.out ?_
       refine pu 29 45 A8_30 HT_.out ?_
       refine pz 30 46 A8_31 HT_.out ?_; refine pz 31 47 A8_32 HT_.out ?_; refine pu 32 48 A8_33 HT_.out ?_
       refine pu 33 49 A8_34 HT_.out ?_
       refine pu 34 50 A8_35 HT_.out ?_
       refine pu 35 51 A8_36 HT_.out ?_
       refine pz 36 52 A8_37 HT_.out ?_; refine done_ (done_of HT_.out (by kernel_rfl)) ?_
       try go_wp2
       go_meet
       case rel => exact ⟨_, (true), (by first | rfl | (simp; done) | (simp [*]; done)), H', ⟨by have := HK1.out; first | omega | exact Nat.le_refl _⟩, ⟨by refine bu ?_; exact BK204.out⟩, ⟨bz⟩⟩
     case rest =>
      clear HC4; (try clear c2); (try clear p2); (try clear c3); (try clear c8); (try clear c20); (try clear c28); (try clear c37); (try clear c38); (try clear c39); obtain ⟨kq, x52_3, rfl, HA, HJ3, BK204, HB⟩ := hcut
      cases kq with
      | zero => exact absurd HA.out (by simp [spec_RulesOk.j1])
      | succ kj3 =>
       have H := HA.out; clear HA; simp only [spec_RulesOk.j1] at H
       by_cases c40 : x52_3 = true
       ·
        subst c40
        have H1 : (some false) = some r := by rw [if_pos rfl] at H; exact H
        clear H; have H := H1; clear H1; obtain rfl := Option.some.inj H
        go_wp2
        go_ret
        exact ⟨rz, bz⟩
       ·
        replace c40 := Bool.eq_false_iff.mpr c40; subst c40
        have H1 : (if ((rd_T63 l0 x3_1).f4).toList = ([] : List UInt8) then (spec_RulesOk.l0 kj3 l0 (wrap64 (x3_1 + 1))) else ((spec_l14Find.f kj3 l0 ((rd_T63 l0 x3_1).f4)).bind fun t213 => (if t213 < 0 then (some false) else (if t213 = x3_1 then (some false) else (if 0 ≤ t213 then (if t213 < (l0.length : Int) then (if ((rd_T63 l0 t213).f4).toList = ([] : List UInt8) then (spec_RulesOk.l0 kj3 l0 (wrap64 (x3_1 + 1))) else (some false)) else (none)) else (none)))))) = some r := by rw [if_neg (show ¬ (false = true) by decide)] at H; exact H
        clear H; have H := H1; clear H1
        by_cases c41 : ((rd_T63 l0 x3_1).f4).toList = ([] : List UInt8)
        ·
         rw [if_pos c41] at H; have c41b0 : (((rd_T63 l0 x3_1).f4).toList == ([] : List UInt8)) = true := beq_iff_eq.mpr c41; have c41b1 : (((rd_T63 l0 x3_1).f4).toList != ([] : List UInt8)) = false := bne_eq_false_iff_eq.mpr c41; clear c41; have H' := Az H; clear H; obtain ⟨hcz42_0, hcz42_1, hcz42_2, hcz42_3, hcz42_4⟩ := bc5 BK204.out; obtain ⟨hfz42_0, hfz42_1, hfz42_2, hfz42_3, hfz42_4⟩ := bf5_ BK204.out
         go_wp2
         go_roundg kj3
         case measure => have := HK1.out; have := HJ3.out; omega
         case rel => exact ⟨(wrap64 (x3_1 + 1)), (by first | rfl | (simp; done) | (simp [*]; done)), H', ⟨by have := HK1.out; have := HJ3.out; omega⟩, ⟨bz⟩⟩
        ·
         rw [if_neg c41] at H; have c41b0 : (((rd_T63 l0 x3_1).f4).toList == ([] : List UInt8)) = false := beq_eq_false_iff_ne.mpr c41; have c41b1 : (((rd_T63 l0 x3_1).f4).toList != ([] : List UInt8)) = true := bne_iff_ne.mpr c41; replace H := Option.bind_eq_some_iff.mp H; obtain ⟨t213, A430, H⟩ := H; replace H : (if t213 < 0 then (some false) else (if t213 = x3_1 then (some false) else (if 0 ≤ t213 then (if t213 < (l0.length : Int) then (if ((rd_T63 l0 t213).f4).toList = ([] : List UInt8) then (spec_RulesOk.l0 kj3 l0 (wrap64 (x3_1 + 1))) else (some false)) else (none)) else (none)))) = some r := H; have A43 := Az A430; clear A430
         by_cases c44 : t213 < 0
         ·
          rw [if_pos c44] at H; have c44b0 : decide (t213 < 0) = true := decide_eq_true c44; clear c44; obtain rfl := Option.some.inj H; obtain ⟨hcz45_0, hcz45_1, hcz45_2, hcz45_3, hcz45_4⟩ := bc5 BK204.out; obtain ⟨hfz45_0, hfz45_1, hfz45_2, hfz45_3, hfz45_4⟩ := bf5_ BK204.out
          go_wp2_with (first | ((with_reducible refine gate_callee (f := 41) rfl ?_); refine goesL_ (some 59) rfl rfl Try.func41 (by kernel_rfl) rfl #[.slice (some ad203) l0.length c0, .string ((rd_T63 l0 x3_1).f4)] rfl (by (try simp only [List.map_toArray, List.map_cons, List.map_nil]); first | done | rfl) ?_; (with_reducible refine (spec_l14Find.calls kj3 _ _ l0 ((rd_T63 l0 x3_1).f4) t213 _ ?side1 ?side2 A43.out).mono ?_); (case side1 => exact cu HR0.out HB.out); (case side2 => exact HC0.out); rintro e w' ⟨rfl, ⟨nd, rfl⟩⟩; refine ⟨_, rfl, ?_⟩))
          go_ret
          exact ⟨rz, bz⟩
         ·
          rw [if_neg c44] at H; have c44b0 : decide (t213 < 0) = false := decide_eq_false c44; clear c44
          by_cases c46 : t213 = x3_1
          ·
           rw [if_pos c46] at H; have c46b0 : (t213 == x3_1) = true := beq_iff_eq.mpr c46; have c46b1 : (t213 != x3_1) = false := bne_eq_false_iff_eq.mpr c46; clear c46; obtain rfl := Option.some.inj H; obtain ⟨hcz47_0, hcz47_1, hcz47_2, hcz47_3, hcz47_4⟩ := bc5 BK204.out; obtain ⟨hfz47_0, hfz47_1, hfz47_2, hfz47_3, hfz47_4⟩ := bf5_ BK204.out
           go_wp2_with (first | ((with_reducible refine gate_callee (f := 41) rfl ?_); refine goesL_ (some 59) rfl rfl Try.func41 (by kernel_rfl) rfl #[.slice (some ad203) l0.length c0, .string ((rd_T63 l0 x3_1).f4)] rfl (by (try simp only [List.map_toArray, List.map_cons, List.map_nil]); first | done | rfl) ?_; (with_reducible refine (spec_l14Find.calls kj3 _ _ l0 ((rd_T63 l0 x3_1).f4) t213 _ ?side1 ?side2 A43.out).mono ?_); (case side1 => exact cu HR0.out HB.out); (case side2 => exact HC0.out); rintro e w' ⟨rfl, ⟨nd, rfl⟩⟩; refine ⟨_, rfl, ?_⟩))
           go_ret
           exact ⟨rz, bz⟩
          ·
           rw [if_neg c46] at H; have c46b0 : (t213 == x3_1) = false := beq_eq_false_iff_ne.mpr c46; have c46b1 : (t213 != x3_1) = true := bne_iff_ne.mpr c46
           by_cases c48 : 0 ≤ t213
           ·
            rw [if_pos c48] at H; have c48b0 : decide (0 ≤ t213) = true := decide_eq_true c48; clear c48
            by_cases c49 : t213 < (l0.length : Int)
            ·
             rw [if_pos c49] at H; have c49b0 : decide (t213 < (l0.length : Int)) = true := decide_eq_true c49; clear c49
             by_cases c50 : ((rd_T63 l0 t213).f4).toList = ([] : List UInt8)
             ·
              rw [if_pos c50] at H; have c50b0 : (((rd_T63 l0 t213).f4).toList == ([] : List UInt8)) = true := beq_iff_eq.mpr c50; have c50b1 : (((rd_T63 l0 t213).f4).toList != ([] : List UInt8)) = false := bne_eq_false_iff_eq.mpr c50; clear c50; have H' := Az H; clear H; obtain ⟨hcz51_0, hcz51_1, hcz51_2, hcz51_3, hcz51_4⟩ := bc5 BK204.out; obtain ⟨hfz51_0, hfz51_1, hfz51_2, hfz51_3, hfz51_4⟩ := bf5_ BK204.out
              go_wp2_with (first | ((with_reducible refine gate_callee (f := 41) rfl ?_); refine goesL_ (some 59) rfl rfl Try.func41 (by kernel_rfl) rfl #[.slice (some ad203) l0.length c0, .string ((rd_T63 l0 x3_1).f4)] rfl (by (try simp only [List.map_toArray, List.map_cons, List.map_nil]); first | done | rfl) ?_; (with_reducible refine (spec_l14Find.calls kj3 _ _ l0 ((rd_T63 l0 x3_1).f4) t213 _ ?side1 ?side2 A43.out).mono ?_); (case side1 => exact cu HR0.out HB.out); (case side2 => exact HC0.out); rintro e w' ⟨rfl, ⟨nd, rfl⟩⟩; refine ⟨_, rfl, ?_⟩; have p214 : 0 ≤ (t213 : Int) := oz; have q214 : t213 < (l0.length : Int) := oz; obtain ⟨ad214, A214_2, c214_2, e214, hx214_0, hx214_1, hx214_2, hx214_3, hx214_4, hl214_2, hi214_2⟩ := at_T63 HR0.out t213 p214 q214; obtain rfl : ad203 = ad214 := (by injection e214); replace hx214_0 := pw_cell_below HB.out hx214_0; replace hx214_1 := pw_cell_below HB.out hx214_1; replace hx214_2 := pw_cell_below HB.out hx214_2; replace hx214_3 := pw_cell_below HB.out hx214_3; replace hx214_4 := pw_cell_below HB.out hx214_4; have HR214_2 := Az hi214_2; have HC214_2 := Az hl214_2; clear hi214_2 hl214_2; replace p214 := eq_true p214; replace q214 := eq_true q214))
              go_roundg kj3
              case measure => have := HK1.out; have := HJ3.out; omega
              case rel => exact ⟨(wrap64 (x3_1 + 1)), (by first | rfl | (simp; done) | (simp [*]; done)), H', ⟨by have := HK1.out; have := HJ3.out; omega⟩, ⟨bz⟩⟩
             ·
              rw [if_neg c50] at H; have c50b0 : (((rd_T63 l0 t213).f4).toList == ([] : List UInt8)) = false := beq_eq_false_iff_ne.mpr c50; have c50b1 : (((rd_T63 l0 t213).f4).toList != ([] : List UInt8)) = true := bne_iff_ne.mpr c50; obtain rfl := Option.some.inj H; obtain ⟨hcz52_0, hcz52_1, hcz52_2, hcz52_3, hcz52_4⟩ := bc5 BK204.out; obtain ⟨hfz52_0, hfz52_1, hfz52_2, hfz52_3, hfz52_4⟩ := bf5_ BK204.out
              go_wp2_with (first | ((with_reducible refine gate_callee (f := 41) rfl ?_); refine goesL_ (some 59) rfl rfl Try.func41 (by kernel_rfl) rfl #[.slice (some ad203) l0.length c0, .string ((rd_T63 l0 x3_1).f4)] rfl (by (try simp only [List.map_toArray, List.map_cons, List.map_nil]); first | done | rfl) ?_; (with_reducible refine (spec_l14Find.calls kj3 _ _ l0 ((rd_T63 l0 x3_1).f4) t213 _ ?side1 ?side2 A43.out).mono ?_); (case side1 => exact cu HR0.out HB.out); (case side2 => exact HC0.out); rintro e w' ⟨rfl, ⟨nd, rfl⟩⟩; refine ⟨_, rfl, ?_⟩; have p214 : 0 ≤ (t213 : Int) := oz; have q214 : t213 < (l0.length : Int) := oz; obtain ⟨ad214, A214_2, c214_2, e214, hx214_0, hx214_1, hx214_2, hx214_3, hx214_4, hl214_2, hi214_2⟩ := at_T63 HR0.out t213 p214 q214; obtain rfl : ad203 = ad214 := (by injection e214); replace hx214_0 := pw_cell_below HB.out hx214_0; replace hx214_1 := pw_cell_below HB.out hx214_1; replace hx214_2 := pw_cell_below HB.out hx214_2; replace hx214_3 := pw_cell_below HB.out hx214_3; replace hx214_4 := pw_cell_below HB.out hx214_4; have HR214_2 := Az hi214_2; have HC214_2 := Az hl214_2; clear hi214_2 hl214_2; replace p214 := eq_true p214; replace q214 := eq_true q214))
              go_ret
              exact ⟨rz, bz⟩
            ·
             rw [if_neg c49] at H; exact absurd H (by simp)
           ·
            rw [if_neg c48] at H; exact absurd H (by simp)
    ·
     rw [if_neg c3] at H; exact absurd H (by simp)
   ·
    rw [if_neg c2] at H; have c2b0 : decide (x3_1 < (l0.length : Int)) = false := decide_eq_false c2; clear c2; obtain rfl := Option.some.inj H
    go_wp2
    go_ret
    exact ⟨rz, bz⟩

end Go.Proofs.Ytjndpoofjidamaa.PFnExactTake14
