/- Walks of the functions named below, by a program of the session over the kit's printer. -/
import Derived.Test.YtjndpoofjidamaaPFnExactTake14x0
import Derived.Test.YtjndpoofjidamaaPFnExactTake14x3
namespace Go.Proofs.Ytjndpoofjidamaa.PFnExactTake14
open Go.RowKit Go.Proofs.YtjndpoofjidamaaW.PrintWords Go.Proofs.YtjndpoofjidamaaW.PrintLast Go.Proofs.YtjndpoofjidamaaW.PrintMore
attribute [local go_sem] max2_int min2_int max_two min_two max_three min_three max_four min_four   -- for this text's walks alone
set_option linter.unusedVariables false
set_option linter.unusedSimpArgs false
abbrev A4_0 := #[O,O,O,O,O,O,O,O,O,O,O,O,O,O,O,O,O,O,O,O,O,O,O,O,O,O,O,O,O,O,O]
abbrev A4_1 := #[I,O,O,O,O,O,O,O,O,O,O,O,O,O,O,O,O,O,O,O,O,O,O,O,O,O,O,O,O,O,O]
abbrev A4_2 := #[I,I,O,O,O,O,O,O,O,O,O,O,O,O,O,O,O,O,O,O,O,O,O,O,O,O,O,O,O,O,O]
abbrev A4_3 := #[I,I,I,O,O,O,O,O,O,O,O,O,O,O,O,O,O,O,O,O,O,O,O,O,O,O,O,O,O,O,O]
abbrev A4_4 := #[I,I,I,I,O,O,O,O,O,O,O,O,O,O,O,O,O,O,O,O,O,O,O,O,O,O,O,O,O,O,O]
abbrev A4_5 := #[I,I,I,I,I,O,O,O,O,O,O,O,O,O,O,O,O,O,O,O,O,O,O,O,O,O,O,O,O,O,O]
abbrev A4_6 := #[I,I,I,I,I,I,O,O,O,O,O,O,O,O,O,O,O,O,O,O,O,O,O,O,O,O,O,O,O,O,O]
abbrev A4_7 := #[I,I,I,I,I,I,I,O,O,O,O,O,O,O,O,O,O,O,O,O,O,O,O,O,O,O,O,O,O,O,O]
abbrev A4_8 := #[I,I,I,I,I,I,I,I,O,O,O,O,O,O,O,O,O,O,O,O,O,O,O,O,O,O,O,O,O,O,O]
abbrev A4_9 := #[I,I,I,I,I,I,I,I,I,O,O,O,O,O,O,O,O,O,O,O,O,O,O,O,O,O,O,O,O,O,O]
abbrev A4_10 := #[I,I,I,I,I,I,I,I,I,I,O,O,O,O,O,O,O,O,O,O,O,O,O,O,O,O,O,O,O,O,O]
abbrev A4_11 := #[I,I,I,I,I,I,I,I,I,I,I,O,O,O,O,O,O,O,O,O,O,O,O,O,O,O,O,O,O,O,O]
abbrev A4_12 := #[I,I,I,I,I,I,I,I,I,I,I,I,O,O,O,O,O,O,O,O,O,O,O,O,O,O,O,O,O,O,O]
abbrev A4_13 := #[I,I,I,I,I,I,I,I,I,I,I,I,I,O,O,O,O,O,O,O,O,O,O,O,O,O,O,O,O,O,O]
abbrev A4_14 := #[I,I,I,I,I,I,I,I,I,I,I,I,I,O,I,O,O,O,O,O,O,O,O,O,O,O,O,O,O,O,O]
abbrev A4_15 := #[I,I,I,I,I,I,I,I,I,I,I,I,I,I,I,O,O,O,O,O,O,O,O,O,O,O,O,O,O,O,O]
abbrev A4_16 := #[I,I,I,I,I,I,I,I,I,I,I,I,I,I,I,I,O,O,O,O,O,O,O,O,O,O,O,O,O,O,O]
abbrev A4_17 := #[I,I,I,I,I,I,I,I,I,I,I,I,I,I,I,I,I,O,O,O,O,O,O,O,O,O,O,O,O,O,O]
abbrev A4_18 := #[I,I,I,I,I,I,I,I,I,I,I,I,I,I,I,I,I,I,O,O,O,O,O,O,O,O,O,O,O,O,O]
abbrev A4_19 := #[I,I,I,I,I,I,I,I,I,I,I,I,I,I,I,I,I,I,I,O,O,O,O,O,O,O,O,O,O,O,O]
abbrev A4_20 := #[I,I,I,I,I,I,I,I,I,I,I,I,I,I,I,I,I,I,I,I,O,O,O,O,O,O,O,O,O,O,O]
abbrev A4_21 := #[I,I,I,I,I,I,I,I,I,I,I,I,I,I,I,I,I,I,I,I,I,O,O,O,O,O,O,O,O,O,O]
abbrev A4_22 := #[I,I,I,I,I,I,I,I,I,I,I,I,I,I,I,I,I,I,I,I,I,I,O,O,O,O,O,O,O,O,O]
abbrev A4_23 := #[I,I,I,I,I,I,I,I,I,I,I,I,I,I,I,I,I,I,I,I,I,I,I,O,O,O,O,O,O,O,O]
abbrev A4_24 := #[I,I,I,I,I,I,I,I,I,I,I,I,I,I,I,I,I,I,I,I,I,I,I,I,O,O,O,O,O,O,O]
abbrev A4_25 := #[I,I,I,I,I,I,I,I,I,I,I,I,I,I,I,I,I,I,I,I,I,I,I,I,I,O,O,O,O,O,O]
abbrev A4_26 := #[I,I,I,I,I,I,I,I,I,I,I,I,I,I,I,I,I,I,I,I,I,I,I,I,I,I,O,O,O,O,O]
abbrev A4_27 := #[I,I,I,I,I,I,I,I,I,I,I,I,I,I,I,I,I,I,I,I,I,I,I,I,I,I,I,O,O,O,O]
abbrev A4_28 := #[I,I,I,I,I,I,I,I,I,I,I,I,I,I,I,I,I,I,I,I,I,I,I,I,I,I,I,I,O,O,O]
abbrev A4_29 := #[I,I,I,I,I,I,I,I,I,I,I,I,I,I,I,I,I,I,I,I,I,I,I,I,I,I,I,I,I,O,O]
abbrev A4_30 := #[I,I,I,I,I,I,I,I,I,I,I,I,I,I,I,I,I,I,I,I,I,I,I,I,I,I,I,I,I,I,O]
abbrev A4_31 := #[I,I,I,I,I,I,I,I,I,I,I,I,I,I,I,I,I,I,I,I,I,I,I,I,I,I,I,I,I,I,I]
abbrev A4_32 := #[I,I,I,I,I,I,I,I,I,I,I,I,I,I,O,O,O,O,O,O,O,O,O,O,O,O,O,O,O,O,O]

/-! ### impl_RulesOk: function 12 -/
mutual
def impl_RulesOk.l0 : Nat → List (S63) → List (S63) → Int → Int → Option (Bool)
 | 0, _, _, _, _ => none
 | k + 1, x0, x6, x7, x8 => if x8 < x7 then (if 0 ≤ x8 then (if x8 < (x6.length : Int) then ((impl_isName.f k ((rd_T63 x6 x8).f0)).bind fun t148 => (if t148 = true then (if x8 > 0 then (if 0 ≤ (wrap64 (x8 - 1)) then (if (wrap64 (x8 - 1)) < (x0.length : Int) then (if ((Op.bytesLess (((rd_T63 x0 (wrap64 (x8 - 1))).f0).toList) (((rd_T63 x6 x8).f0).toList)) = true) then ((impl_in.f ((rd_T63 x6 x8).f1) 1 3).bind fun t150 => (if t150 = true then ((impl_ascends.f k ((rd_T63 x6 x8).f2) 0 9).bind fun t151 => (impl_RulesOk.j1 k x0 x8 x6 x7 x8 (!t151) ((rd_T63 x6 x8).f0) ((rd_T63 x6 x8).f1) ((rd_T63 x6 x8).f2) ((rd_T63 x6 x8).f3) ((rd_T63 x6 x8).f4))) else (impl_RulesOk.j1 k x0 x8 x6 x7 x8 true ((rd_T63 x6 x8).f0) ((rd_T63 x6 x8).f1) ((rd_T63 x6 x8).f2) ((rd_T63 x6 x8).f3) ((rd_T63 x6 x8).f4)))) else (impl_RulesOk.j1 k x0 x8 x6 x7 x8 true ((rd_T63 x6 x8).f0) ((rd_T63 x6 x8).f1) ((rd_T63 x6 x8).f2) ((rd_T63 x6 x8).f3) ((rd_T63 x6 x8).f4))) else (none)) else (none)) else ((impl_in.f ((rd_T63 x6 x8).f1) 1 3).bind fun t152 => (if t152 = true then ((impl_ascends.f k ((rd_T63 x6 x8).f2) 0 9).bind fun t153 => (impl_RulesOk.j1 k x0 x8 x6 x7 x8 (!t153) ((rd_T63 x6 x8).f0) ((rd_T63 x6 x8).f1) ((rd_T63 x6 x8).f2) ((rd_T63 x6 x8).f3) ((rd_T63 x6 x8).f4))) else (impl_RulesOk.j1 k x0 x8 x6 x7 x8 true ((rd_T63 x6 x8).f0) ((rd_T63 x6 x8).f1) ((rd_T63 x6 x8).f2) ((rd_T63 x6 x8).f3) ((rd_T63 x6 x8).f4))))) else (impl_RulesOk.j1 k x0 x8 x6 x7 x8 true ((rd_T63 x6 x8).f0) ((rd_T63 x6 x8).f1) ((rd_T63 x6 x8).f2) ((rd_T63 x6 x8).f3) ((rd_T63 x6 x8).f4)))) else (none)) else (none)) else (some (decide ((x0.length : Int) ≤ 30)))
def impl_RulesOk.j1 : Nat → List (S63) → Int → List (S63) → Int → Int → Bool → ByteArray → Int → List Int → Bool → ByteArray → Option (Bool)
 | 0, _, _, _, _, _, _, _, _, _, _, _ => none
 | k + 1, x0, x3, x6, x7, x8, x43, x148000, x148001, x148002, x148003, x148004 => if x43 = true then (some false) else (if x148004.toList = ([] : List UInt8) then (impl_RulesOk.l0 k x0 x6 x7 (wrap64 (x8 + 1))) else ((impl_ruleAt.f x0 x148004).bind fun t154 => (if t154 < 0 then (some false) else (if t154 = x3 then (some false) else (if 0 ≤ t154 then (if t154 < (x0.length : Int) then (if ((rd_T63 x0 t154).f4).toList = ([] : List UInt8) then (impl_RulesOk.l0 k x0 x6 x7 (wrap64 (x8 + 1))) else (some false)) else (none)) else (none))))))
end
def impl_RulesOk.f (k : Nat) (l0 : List (S63)) : Option (Bool) := impl_RulesOk.l0 k l0 l0 (l0.length : Int) 0
def impl_RulesOk.T4 : Bool × List (List Nat × List Nat) := (true, [([], []), ([0], [0]), ([1], [1]), ([2], [2]), ([3, 2], [3]), ([4], [4]), ([5, 4], [4, 5]), ([6, 4, 4], [4, 6]), ([7], [7]), ([7], [7]), ([9, 7], [7, 9]), ([8, 10, 7], [7, 8, 10]), ([11, 7], [7, 11]), ([12, 7], [7, 12]), ([7], [7]), ([14, 7], [7, 14]), ([13, 15, 7], [7, 13, 15]), ([7, 16, 4], [4, 7, 16]), ([4, 17], [4, 17]), ([18, 7], [18]), ([19], [19]), ([20, 19], [19, 20]), ([21, 19, 19], [19, 21]), ([22, 19], [19, 22]), ([19, 23], [19, 23]), ([24, 22], [24]), ([25], [25]), ([26, 25], [25, 26]), ([27, 25, 25], [25, 27]), ([28, 25], [25, 28]), ([25, 29], [25, 29])])
def impl_RulesOk.B4 : List Nat := [0, 1, 3, 7, 15, 31, 63, 127, 255, 255, 767, 2047, 4095, 8191, 255, 16639, 65535, 131071, 262143, 524287, 1048575, 2097151, 4194303, 8388607, 16777215, 33554431, 67108863, 134217727, 268435455, 536870911, 1073741823]
theorem impl_RulesOk.tab4 : rtab .any (opsOf Try.f12 4) = impl_RulesOk.T4 := by kernel_rfl
theorem impl_RulesOk.bits4 : waitsOk impl_RulesOk.T4.2 impl_RulesOk.B4 = true := by kernel_rfl
set_option maxHeartbeats 8000000 in
set_option maxRecDepth 100000 in
theorem impl_RulesOk.calls (k : Nat) (A0 : Option Addr) (c0 : Nat) (l0 : List (S63)) (r : Bool) (w : World) (hr0 : Kd.C k63 w A0 l0.length l0) (hc0 : l0.length ≤ c0) (h : impl_RulesOk.f k l0 = some r) :
  Calls Try.prog 12 #[.slice A0 l0.length c0] w fun e w' => e = .returned (.bool r) ∧ Below w.heap.size w w' := by
 have hu63 := Try.underlying63; have HR0 := Az hr0; have HC0 := Az hc0; clear hr0 hc0; have HB := Az (Below.refl w.heap.size w); have H : (impl_RulesOk.l0 k l0 l0 (l0.length : Int) 0) = some r := h; clear h; have H' := Az H; clear H
 go_enter Try.func12, Try.ntmps12
 go_wp2
 go_loopg [8] k (fun kq v8 w' => ∃ (x8_1 : Int), v8 = .int .i64 x8_1 ∧ Aside0 (impl_RulesOk.l0 kq l0 l0 (l0.length : Int) x8_1 = some r) ∧ Aside0 (kq ≤ k) ∧ Aside0 (Below w.heap.size w w'))
 case atStart => exact ⟨(0), (by first | rfl | (simp; done) | (simp [*]; done)), H', ⟨Nat.le_refl _⟩, ⟨bz⟩⟩
 case round =>
  clear H'; (try clear c1); obtain ⟨x8_1, rfl, HA, HK1, HB⟩ := hrel
  cases gk with
  | zero => exact absurd HA.out (by simp [impl_RulesOk.l0])
  | succ k1 =>
   have H := HA.out; clear HA; simp only [impl_RulesOk.l0] at H
   by_cases c2 : x8_1 < (l0.length : Int)
   ·
    rw [if_pos c2] at H; have c2b0 : decide (x8_1 < (l0.length : Int)) = true := decide_eq_true c2; clear c2
    by_cases c3 : 0 ≤ x8_1
    ·
     rw [if_pos c3] at H; have c3b0 : decide (0 ≤ x8_1) = true := decide_eq_true c3; clear c3
     by_cases c4 : x8_1 < (l0.length : Int)
     ·
      rw [if_pos c4] at H; have c4b0 : decide (x8_1 < (l0.length : Int)) = true := decide_eq_true c4; clear c4; have HC5 := Az H; clear H; have p146 : 0 ≤ (x8_1 : Int) := oz; have q146 : x8_1 < (l0.length : Int) := oz; obtain ⟨ad146, A146_2, c146_2, e146, hx146_0, hx146_1, hx146_2, hx146_3, hx146_4, hl146_2, hi146_2⟩ := at_T63 HR0.out x8_1 p146 q146
      cases e146
      replace hx146_0 := pw_cell_below HB.out hx146_0; replace hx146_1 := pw_cell_below HB.out hx146_1; replace hx146_2 := pw_cell_below HB.out hx146_2; replace hx146_3 := pw_cell_below HB.out hx146_3; replace hx146_4 := pw_cell_below HB.out hx146_4; have HR146_2 := Az hi146_2; have HC146_2 := Az hl146_2; clear hi146_2 hl146_2; replace p146 := eq_true p146; replace q146 := eq_true q146
      go_upto_region 4 with (first | ((with_reducible refine gate_dst (N := 4) rfl ?_); refine box_event ?hg (N := 4) ?hd (cs := #[.string (⟨#[]⟩ : ByteArray), .int .i64 0, .slice none 0 0, .bool false, .string (⟨#[]⟩ : ByteArray)]) (t := 63) ?hr ?_; (case hd => rfl); (case hg => rfl); (case hr => first | (go_simp; done) | (go_simp; rfl)); intro gb147 hg w6 hbox hb; have BK147 := Az (hbox); have GW147 := Az ((by rw [hg]; exact (below_size bz) : w.heap.size ≤ gb147)); replace HB := Az (below_step bz hb); have GE147 := GW147; clear hb hbox hg; obtain ⟨hcz7_0, hcz7_1, hcz7_2, hcz7_3, hcz7_4⟩ := bc5 BK147.out; obtain ⟨hfz7_0, hfz7_1, hfz7_2, hfz7_3, hfz7_4⟩ := bf5_ BK147.out))
      (try simp only [Act.put, sA, sB, sC])
      go_cut [43, 9] (fun v43 v9 wc => ∃ (kq : Nat) (x43_4 : Bool), v43 = .bool x43_4 ∧ Aside0 (impl_RulesOk.j1 kq l0 x8_1 l0 (l0.length : Int) x8_1 x43_4 ((rd_T63 l0 x8_1).f0) ((rd_T63 l0 x8_1).f1) ((rd_T63 l0 x8_1).f2) ((rd_T63 l0 x8_1).f3) ((rd_T63 l0 x8_1).f4) = some r) ∧ Aside0 (kq ≤ k1) ∧ Aside0 (wc.heap[gb147]? = some (.cells #[.string ((rd_T63 l0 x8_1).f0), .int .i64 ((rd_T63 l0 x8_1).f1), (.slice A146_2 ((rd_T63 l0 x8_1).f2).length c146_2), .bool ((rd_T63 l0 x8_1).f3), .string ((rd_T63 l0 x8_1).f4)] 63 (0, 0))) ∧ Aside0 (Below w.heap.size w wc))
      case first =>
       have H := HC5.out; clear HC5; replace H := Option.bind_eq_some_iff.mp H; obtain ⟨t148, A80, H⟩ := H; replace H : (if t148 = true then (if x8_1 > 0 then (if 0 ≤ (wrap64 (x8_1 - 1)) then (if (wrap64 (x8_1 - 1)) < (l0.length : Int) then (if ((Op.bytesLess (((rd_T63 l0 (wrap64 (x8_1 - 1))).f0).toList) (((rd_T63 l0 x8_1).f0).toList)) = true) then ((impl_in.f ((rd_T63 l0 x8_1).f1) 1 3).bind fun t150 => (if t150 = true then ((impl_ascends.f k1 ((rd_T63 l0 x8_1).f2) 0 9).bind fun t151 => (impl_RulesOk.j1 k1 l0 x8_1 l0 (l0.length : Int) x8_1 (!t151) ((rd_T63 l0 x8_1).f0) ((rd_T63 l0 x8_1).f1) ((rd_T63 l0 x8_1).f2) ((rd_T63 l0 x8_1).f3) ((rd_T63 l0 x8_1).f4))) else (impl_RulesOk.j1 k1 l0 x8_1 l0 (l0.length : Int) x8_1 true ((rd_T63 l0 x8_1).f0) ((rd_T63 l0 x8_1).f1) ((rd_T63 l0 x8_1).f2) ((rd_T63 l0 x8_1).f3) ((rd_T63 l0 x8_1).f4)))) else (impl_RulesOk.j1 k1 l0 x8_1 l0 (l0.length : Int) x8_1 true ((rd_T63 l0 x8_1).f0) ((rd_T63 l0 x8_1).f1) ((rd_T63 l0 x8_1).f2) ((rd_T63 l0 x8_1).f3) ((rd_T63 l0 x8_1).f4))) else (none)) else (none)) else ((impl_in.f ((rd_T63 l0 x8_1).f1) 1 3).bind fun t152 => (if t152 = true then ((impl_ascends.f k1 ((rd_T63 l0 x8_1).f2) 0 9).bind fun t153 => (impl_RulesOk.j1 k1 l0 x8_1 l0 (l0.length : Int) x8_1 (!t153) ((rd_T63 l0 x8_1).f0) ((rd_T63 l0 x8_1).f1) ((rd_T63 l0 x8_1).f2) ((rd_T63 l0 x8_1).f3) ((rd_T63 l0 x8_1).f4))) else (impl_RulesOk.j1 k1 l0 x8_1 l0 (l0.length : Int) x8_1 true ((rd_T63 l0 x8_1).f0) ((rd_T63 l0 x8_1).f1) ((rd_T63 l0 x8_1).f2) ((rd_T63 l0 x8_1).f3) ((rd_T63 l0 x8_1).f4))))) else (impl_RulesOk.j1 k1 l0 x8_1 l0 (l0.length : Int) x8_1 true ((rd_T63 l0 x8_1).f0) ((rd_T63 l0 x8_1).f1) ((rd_T63 l0 x8_1).f2) ((rd_T63 l0 x8_1).f3) ((rd_T63 l0 x8_1).f4))) = some r := H; have A8 := Az A80; clear A80
       by_cases c9 : t148 = true
       ·
        subst c9
        have H1 : (if x8_1 > 0 then (if 0 ≤ (wrap64 (x8_1 - 1)) then (if (wrap64 (x8_1 - 1)) < (l0.length : Int) then (if ((Op.bytesLess (((rd_T63 l0 (wrap64 (x8_1 - 1))).f0).toList) (((rd_T63 l0 x8_1).f0).toList)) = true) then ((impl_in.f ((rd_T63 l0 x8_1).f1) 1 3).bind fun t150 => (if t150 = true then ((impl_ascends.f k1 ((rd_T63 l0 x8_1).f2) 0 9).bind fun t151 => (impl_RulesOk.j1 k1 l0 x8_1 l0 (l0.length : Int) x8_1 (!t151) ((rd_T63 l0 x8_1).f0) ((rd_T63 l0 x8_1).f1) ((rd_T63 l0 x8_1).f2) ((rd_T63 l0 x8_1).f3) ((rd_T63 l0 x8_1).f4))) else (impl_RulesOk.j1 k1 l0 x8_1 l0 (l0.length : Int) x8_1 true ((rd_T63 l0 x8_1).f0) ((rd_T63 l0 x8_1).f1) ((rd_T63 l0 x8_1).f2) ((rd_T63 l0 x8_1).f3) ((rd_T63 l0 x8_1).f4)))) else (impl_RulesOk.j1 k1 l0 x8_1 l0 (l0.length : Int) x8_1 true ((rd_T63 l0 x8_1).f0) ((rd_T63 l0 x8_1).f1) ((rd_T63 l0 x8_1).f2) ((rd_T63 l0 x8_1).f3) ((rd_T63 l0 x8_1).f4))) else (none)) else (none)) else ((impl_in.f ((rd_T63 l0 x8_1).f1) 1 3).bind fun t152 => (if t152 = true then ((impl_ascends.f k1 ((rd_T63 l0 x8_1).f2) 0 9).bind fun t153 => (impl_RulesOk.j1 k1 l0 x8_1 l0 (l0.length : Int) x8_1 (!t153) ((rd_T63 l0 x8_1).f0) ((rd_T63 l0 x8_1).f1) ((rd_T63 l0 x8_1).f2) ((rd_T63 l0 x8_1).f3) ((rd_T63 l0 x8_1).f4))) else (impl_RulesOk.j1 k1 l0 x8_1 l0 (l0.length : Int) x8_1 true ((rd_T63 l0 x8_1).f0) ((rd_T63 l0 x8_1).f1) ((rd_T63 l0 x8_1).f2) ((rd_T63 l0 x8_1).f3) ((rd_T63 l0 x8_1).f4))))) = some r := by rw [if_pos rfl] at H; exact H
        clear H; have H := H1; clear H1
        by_cases c10 : x8_1 > 0
        ·
         rw [if_pos c10] at H; have c10b0 : decide (0 < x8_1) = true := decide_eq_true c10; clear c10
         (first | rw [c10b0] | (simp only [i64_w, i32_w]; rw [c10b0]) | skip)
         obtain ⟨ji11, hji11⟩ : ∃ j_ : Int, (wrap64 (x8_1 - 1)) = j_ := ⟨_, rfl⟩
         replace H : (if 0 ≤ (ji11) then (if (ji11) < (l0.length : Int) then (if ((Op.bytesLess (((rd_T63 l0 (ji11)).f0).toList) (((rd_T63 l0 x8_1).f0).toList)) = true) then ((impl_in.f ((rd_T63 l0 x8_1).f1) 1 3).bind fun t150 => (if t150 = true then ((impl_ascends.f k1 ((rd_T63 l0 x8_1).f2) 0 9).bind fun t151 => (impl_RulesOk.j1 k1 l0 x8_1 l0 (l0.length : Int) x8_1 (!t151) ((rd_T63 l0 x8_1).f0) ((rd_T63 l0 x8_1).f1) ((rd_T63 l0 x8_1).f2) ((rd_T63 l0 x8_1).f3) ((rd_T63 l0 x8_1).f4))) else (impl_RulesOk.j1 k1 l0 x8_1 l0 (l0.length : Int) x8_1 true ((rd_T63 l0 x8_1).f0) ((rd_T63 l0 x8_1).f1) ((rd_T63 l0 x8_1).f2) ((rd_T63 l0 x8_1).f3) ((rd_T63 l0 x8_1).f4)))) else (impl_RulesOk.j1 k1 l0 x8_1 l0 (l0.length : Int) x8_1 true ((rd_T63 l0 x8_1).f0) ((rd_T63 l0 x8_1).f1) ((rd_T63 l0 x8_1).f2) ((rd_T63 l0 x8_1).f3) ((rd_T63 l0 x8_1).f4))) else (none)) else (none)) = some r := by first | (rw [hji11] at H; exact H) | (simp only [hji11] at H ⊢; exact H)
         (try rw [hji11] at A8)
         have hji11w : (IntKind.i64.wrap (x8_1 - 1)) = ji11 := (i64_w _).trans hji11
         by_cases c12 : 0 ≤ (ji11)
         ·
          rw [if_pos c12] at H; have c12b0 : decide (0 ≤ (ji11)) = true := decide_eq_true c12; clear c12
          by_cases c13 : (ji11) < (l0.length : Int)
          ·
           rw [if_pos c13] at H; have c13b0 : decide ((ji11) < (l0.length : Int)) = true := decide_eq_true c13; clear c13
           by_cases c14 : ((Op.bytesLess (((rd_T63 l0 (ji11)).f0).toList) (((rd_T63 l0 x8_1).f0).toList)) = true)
           ·
            rw [if_pos c14] at H; have c14b0 : (Op.bytesLess (((rd_T63 l0 (ji11)).f0).toList) (((rd_T63 l0 x8_1).f0).toList)) = true := c14; clear c14; replace H := Option.bind_eq_some_iff.mp H; obtain ⟨t150, A150, H⟩ := H; replace H : (if t150 = true then ((impl_ascends.f k1 ((rd_T63 l0 x8_1).f2) 0 9).bind fun t151 => (impl_RulesOk.j1 k1 l0 x8_1 l0 (l0.length : Int) x8_1 (!t151) ((rd_T63 l0 x8_1).f0) ((rd_T63 l0 x8_1).f1) ((rd_T63 l0 x8_1).f2) ((rd_T63 l0 x8_1).f3) ((rd_T63 l0 x8_1).f4))) else (impl_RulesOk.j1 k1 l0 x8_1 l0 (l0.length : Int) x8_1 true ((rd_T63 l0 x8_1).f0) ((rd_T63 l0 x8_1).f1) ((rd_T63 l0 x8_1).f2) ((rd_T63 l0 x8_1).f3) ((rd_T63 l0 x8_1).f4))) = some r := H; have A15 := Az A150; clear A150
            by_cases c16 : t150 = true
            ·
             subst c16
             have H1 : ((impl_ascends.f k1 ((rd_T63 l0 x8_1).f2) 0 9).bind fun t151 => (impl_RulesOk.j1 k1 l0 x8_1 l0 (l0.length : Int) x8_1 (!t151) ((rd_T63 l0 x8_1).f0) ((rd_T63 l0 x8_1).f1) ((rd_T63 l0 x8_1).f2) ((rd_T63 l0 x8_1).f3) ((rd_T63 l0 x8_1).f4))) = some r := by rw [if_pos rfl] at H; exact H
             clear H; have H := H1; clear H1; replace H := Option.bind_eq_some_iff.mp H; obtain ⟨t151, A170, H⟩ := H; replace H : (impl_RulesOk.j1 k1 l0 x8_1 l0 (l0.length : Int) x8_1 (!t151) ((rd_T63 l0 x8_1).f0) ((rd_T63 l0 x8_1).f1) ((rd_T63 l0 x8_1).f2) ((rd_T63 l0 x8_1).f3) ((rd_T63 l0 x8_1).f4)) = some r := H; have A17 := Az A170; clear A170; have H' := Az H; clear H
             try go_wp2
             have n0_ : Aside0 ((((((w6.setCell ⟨gb147, 0, none⟩ (.string ((rd_T63 l0 x8_1).f0))).setCell ⟨gb147, 1, none⟩ (.int .i64 ((rd_T63 l0 x8_1).f1))).setCell ⟨gb147, 2, none⟩ (.slice A146_2 ((rd_T63 l0 x8_1).f2).length c146_2)).setCell ⟨gb147, 3, none⟩ (.bool ((rd_T63 l0 x8_1).f3))).setCell ⟨gb147, 4, none⟩ (.string ((rd_T63 l0 x8_1).f4))).heap[gb147]? = some (.cells #[.string ((rd_T63 l0 x8_1).f0), .int .i64 ((rd_T63 l0 x8_1).f1), .slice A146_2 ((rd_T63 l0 x8_1).f2).length c146_2, .bool ((rd_T63 l0 x8_1).f3), .string ((rd_T63 l0 x8_1).f4)] 63 (0, 0))) := ⟨by refine bu ?_; refine blk_put (cs := #[.string ((rd_T63 l0 x8_1).f0), .int .i64 ((rd_T63 l0 x8_1).f1), .slice A146_2 ((rd_T63 l0 x8_1).f2).length c146_2, .bool ((rd_T63 l0 x8_1).f3), .string (⟨#[]⟩ : ByteArray)]) ?_ 4 _ rfl; refine bu ?_; refine blk_put (cs := #[.string ((rd_T63 l0 x8_1).f0), .int .i64 ((rd_T63 l0 x8_1).f1), .slice A146_2 ((rd_T63 l0 x8_1).f2).length c146_2, .bool false, .string (⟨#[]⟩ : ByteArray)]) ?_ 3 _ rfl; refine bu ?_; refine blk_put (cs := #[.string ((rd_T63 l0 x8_1).f0), .int .i64 ((rd_T63 l0 x8_1).f1), .slice none 0 0, .bool false, .string (⟨#[]⟩ : ByteArray)]) ?_ 2 _ rfl; refine bu ?_; refine blk_put (cs := #[.string ((rd_T63 l0 x8_1).f0), .int .i64 0, .slice none 0 0, .bool false, .string (⟨#[]⟩ : ByteArray)]) ?_ 1 _ rfl; refine bu ?_; refine blk_put (cs := #[.string (⟨#[]⟩ : ByteArray), .int .i64 0, .slice none 0 0, .bool false, .string (⟨#[]⟩ : ByteArray)]) ?_ 0 _ rfl; refine bu ?_; exact BK147.out⟩; have n1_ : Aside0 (Below w.heap.size w (((((w6.setCell ⟨gb147, 0, none⟩ (.string ((rd_T63 l0 x8_1).f0))).setCell ⟨gb147, 1, none⟩ (.int .i64 ((rd_T63 l0 x8_1).f1))).setCell ⟨gb147, 2, none⟩ (.slice A146_2 ((rd_T63 l0 x8_1).f2).length c146_2)).setCell ⟨gb147, 3, none⟩ (.bool ((rd_T63 l0 x8_1).f3))).setCell ⟨gb147, 4, none⟩ (.string ((rd_T63 l0 x8_1).f4)))) := ⟨bz⟩
             (try (have hsd_ : ∀ (W_ : World) (n_ : Nat) (a_ : Addr) (v_ : Value), (W_.drewN n_).setCell a_ v_ = (W_.setCell a_ v_).drewN n_ := fun _ _ _ _ => rfl); simp only [hsd_]; clear hsd_)
             (try clear BK147); (try clear HB); generalize (((((w6.setCell ⟨gb147, 0, none⟩ (.string ((rd_T63 l0 x8_1).f0))).setCell ⟨gb147, 1, none⟩ (.int .i64 ((rd_T63 l0 x8_1).f1))).setCell ⟨gb147, 2, none⟩ (.slice A146_2 ((rd_T63 l0 x8_1).f2).length c146_2)).setCell ⟨gb147, 3, none⟩ (.bool ((rd_T63 l0 x8_1).f3))).setCell ⟨gb147, 4, none⟩ (.string ((rd_T63 l0 x8_1).f4))) = w18 at n0_ n1_ ⊢; have BK147 := n0_; have HB := n1_; clear n0_ n1_; replace BK147 := Az (blk_drew BK147.out); replace HB := Az (below_drew1 HB.out); have p149 : 0 ≤ ((ji11) : Int) := oz; have q149 : (ji11) < (l0.length : Int) := oz; obtain ⟨ad149, A149_2, c149_2, e149, hx149_0, hx149_1, hx149_2, hx149_3, hx149_4, hl149_2, hi149_2⟩ := at_T63 HR0.out (ji11) p149 q149; have hw149_4 := hx149_4; have hw149_3 := hx149_3; have hw149_2 := hx149_2; have hw149_1 := hx149_1; have hw149_0 := hx149_0; obtain rfl : ad146 = ad149 := (by injection e149); replace hx149_0 := pw_cell_below HB.out hx149_0; replace hx149_1 := pw_cell_below HB.out hx149_1; replace hx149_2 := pw_cell_below HB.out hx149_2; replace hx149_3 := pw_cell_below HB.out hx149_3; replace hx149_4 := pw_cell_below HB.out hx149_4; have HR149_2 := Az hi149_2; have HC149_2 := Az hl149_2; clear hi149_2 hl149_2; replace p149 := eq_true p149; replace q149 := eq_true q149; refine start_ (n := 31) (S := fun w' => w'.cell? ⟨gb147, 0, none⟩ = some (.string ((rd_T63 l0 x8_1).f0)) ∧ w'.cell? ⟨gb147, 1, none⟩ = some (.int .i64 ((rd_T63 l0 x8_1).f1)) ∧ w'.cell? ⟨gb147, 2, none⟩ = some (.slice A146_2 ((rd_T63 l0 x8_1).f2).length c146_2) ∧ w'.cell? ⟨gb147, 3, none⟩ = some (.bool ((rd_T63 l0 x8_1).f3)) ∧ w'.cell? ⟨gb147, 4, none⟩ = some (.string ((rd_T63 l0 x8_1).f4)) ∧ w'.cell? (ad146.add (((ji11)).toNat * 5)) = some (.string ((rd_T63 l0 (ji11)).f0)) ∧ w'.cell? ⟨(ad146.add (((ji11)).toNat * 5)).block, (ad146.add (((ji11)).toNat * 5)).off + 1, none⟩ = some (.int .i64 ((rd_T63 l0 (ji11)).f1)) ∧ w'.cell? ⟨(ad146.add (((ji11)).toNat * 5)).block, (ad146.add (((ji11)).toNat * 5)).off + 2, none⟩ = some (.slice A149_2 ((rd_T63 l0 (ji11)).f2).length c149_2) ∧ w'.cell? ⟨(ad146.add (((ji11)).toNat * 5)).block, (ad146.add (((ji11)).toNat * 5)).off + 3, none⟩ = some (.bool ((rd_T63 l0 (ji11)).f3)) ∧ w'.cell? ⟨(ad146.add (((ji11)).toNat * 5)).block, (ad146.add (((ji11)).toNat * 5)).off + 4, none⟩ = some (.string ((rd_T63 l0 (ji11)).f4))) (ds := []) A4_0 (by kernel_rfl) rfl rfl ⟨(blk_cell BK147.out 0).trans rfl, (blk_cell BK147.out 1).trans rfl, (blk_cell BK147.out 2).trans rfl, (blk_cell BK147.out 3).trans rfl, (blk_cell BK147.out 4).trans rfl, (pw_cell_below HB.out hw149_0), (pw_cell_below HB.out hw149_1), (pw_cell_below HB.out hw149_2), (pw_cell_below HB.out hw149_3), (pw_cell_below HB.out hw149_4)⟩ (fun hHeld => ?_); refine with_tabW impl_RulesOk.tab4 impl_RulesOk.bits4 (fun HT_ HW_ => ?_); generalize w18.drew = w19 at BK147 HB HR149_2 hx149_0 hx149_1 hx149_2 hx149_3 hx149_4 hHeld ⊢; refine pz 0 13 A4_1 HT_.out ?_
             refine tz 1 14 A4_2 HT_.out HW_.out hHeld ?_
             refine one_ (i := 2) (N := some 15) A4_3 rfl rfl (one_of HT_.out (by kernel_rfl)) (by decide) (fun K hK => ?_); refine goes_ Try.func43 (by kernel_rfl) rfl #[.string ((rd_T63 l0 x8_1).f0)] (by rfl) rfl rfl (by (try simp only [List.map_toArray, List.map_cons, List.map_nil]); first | done | rfl) ?_
             with_reducible refine (impl_isName.calls k1 ((rd_T63 l0 x8_1).f0) true _ A8.out).mono ?_
             rintro e w' ⟨rfl, ⟨nd, rfl⟩⟩; refine ⟨_, rfl, ?_⟩; refine hK.out _ _ ⟨(blk_cell BK147.out 0).trans rfl, (blk_cell BK147.out 1).trans rfl, (blk_cell BK147.out 2).trans rfl, (blk_cell BK147.out 3).trans rfl, (blk_cell BK147.out 4).trans rfl, (pw_cell_below HB.out hw149_0), (pw_cell_below HB.out hw149_1), (pw_cell_below HB.out hw149_2), (pw_cell_below HB.out hw149_3), (pw_cell_below HB.out hw149_4)⟩ (fun hHeld => ?_); clear hK K; refine norm_ (a' := ?_) ?_ ?_; rotate_left
             ·
              show Act.put _ (some 15) _ = _
              simp only [Act.put, sA, sB, sC, i64_w, i32_w]
              rfl
             refine pz 3 16 A4_4 HT_.out ?_; refine pz 4 17 A4_5 HT_.out ?_; refine pz 5 18 A4_6 HT_.out ?_; refine pz 6 19 A4_7 HT_.out ?_; refine pz 7 20 A4_8 HT_.out ?_; refine pz 8 21 A4_9 HT_.out ?_; refine pz 9 22 A4_10 HT_.out ?_; refine pz 10 23 A4_11 HT_.out ?_; refine pz 11 24 A4_12 HT_.out ?_; refine pz 12 25 A4_13 HT_.out ?_; refine pz 14 27 A4_14 HT_.out ?_; refine tz 13 26 A4_15 HT_.out HW_.out hHeld ?_
             refine tz 15 28 A4_16 HT_.out HW_.out hHeld ?_
             refine pz 16 29 A4_17 HT_.out ?_; refine pz 17 30 A4_18 HT_.out ?_; refine pz 18 31 A4_19 HT_.out ?_; refine pz 19 32 A4_20 HT_.out ?_; refine pz 20 33 A4_21 HT_.out ?_; refine tz 21 34 A4_22 HT_.out HW_.out hHeld ?_
             refine one_ (i := 22) (N := some 35) A4_23 rfl rfl (one_of HT_.out (by kernel_rfl)) (by decide) (fun K hK => ?_); refine goes_ Try.func44 (by kernel_rfl) rfl #[.int .i64 ((rd_T63 l0 x8_1).f1), .int .i64 1, .int .i64 3] (by rfl) rfl rfl (by (try simp only [List.map_toArray, List.map_cons, List.map_nil]); first | done | rfl) ?_
             with_reducible refine (impl_in.calls ((rd_T63 l0 x8_1).f1) 1 3 true _ A15.out).mono ?_
             rintro e w' ⟨rfl, ⟨nd, rfl⟩⟩; refine ⟨_, rfl, ?_⟩; refine hK.out _ _ ⟨(blk_cell BK147.out 0).trans rfl, (blk_cell BK147.out 1).trans rfl, (blk_cell BK147.out 2).trans rfl, (blk_cell BK147.out 3).trans rfl, (blk_cell BK147.out 4).trans rfl, (pw_cell_below HB.out hw149_0), (pw_cell_below HB.out hw149_1), (pw_cell_below HB.out hw149_2), (pw_cell_below HB.out hw149_3), (pw_cell_below HB.out hw149_4)⟩ (fun hHeld => ?_); clear hK K; refine norm_ (a' := ?_) ?_ ?_; rotate_left
             ·
              show Act.put _ (some 35) _ = _
              simp only [Act.put, sA, sB, sC, i64_w, i32_w]
              rfl
             refine pz 23 36 A4_24 HT_.out ?_; refine pz 24 37 A4_25 HT_.out ?_; refine pz 25 38 A4_26 HT_.out ?_; refine pz 26 39 A4_27 HT_.out ?_; refine tz 27 40 A4_28 HT_.out HW_.out hHeld ?_
             refine one_ (i := 28) (N := some 41) A4_29 rfl rfl (one_of HT_.out (by kernel_rfl)) (by decide) (fun K hK => ?_); refine goes_ Try.func45 (by kernel_rfl) rfl #[.slice A146_2 ((rd_T63 l0 x8_1).f2).length c146_2, .int .i64 0, .int .i64 9] (by rfl) rfl rfl (by (try simp only [List.map_toArray, List.map_cons, List.map_nil]); first | done | rfl) ?_
             with_reducible refine (impl_ascends.calls k1 _ _ ((rd_T63 l0 x8_1).f2) 0 9 t151 _ ?side1 ?side2 A17.out).mono ?_
             (case side1 => repeat (first | exact (Kd.C_below HR146_2.out bz) | (with_reducible refine Kd.C_alloc ?_ _) | (with_reducible refine Kd.C_drewN ?_ _) | (with_reducible refine Kd.C_drew ?_)))
             (case side2 => exact HC146_2.out)
             rintro e w' ⟨rfl, ⟨nd, rfl⟩⟩; refine ⟨_, rfl, ?_⟩; refine hK.out _ _ ⟨(blk_cell BK147.out 0).trans rfl, (blk_cell BK147.out 1).trans rfl, (blk_cell BK147.out 2).trans rfl, (blk_cell BK147.out 3).trans rfl, (blk_cell BK147.out 4).trans rfl, (pw_cell_below HB.out hw149_0), (pw_cell_below HB.out hw149_1), (pw_cell_below HB.out hw149_2), (pw_cell_below HB.out hw149_3), (pw_cell_below HB.out hw149_4)⟩ (fun hHeld => ?_); clear hK K; refine norm_ (a' := ?_) ?_ ?_; rotate_left
             ·
              show Act.put _ (some 41) _ = _
              simp only [Act.put, sA, sB, sC, i64_w, i32_w]
              rfl
             refine pz 29 42 A4_30 HT_.out ?_; refine pz 30 43 A4_31 HT_.out ?_; refine done_ (done_of HT_.out (by kernel_rfl)) ?_
             try go_wp2
             go_meet
             case rel => exact ⟨_, (!t151), (by first | rfl | (simp; done) | (simp [*]; done)), H', ⟨by have := HK1.out; first | omega | exact Nat.le_refl _⟩, ⟨by refine bu ?_; exact BK147.out⟩, ⟨bz⟩⟩
            ·
             replace c16 := Bool.eq_false_iff.mpr c16; subst c16
             have H1 : (impl_RulesOk.j1 k1 l0 x8_1 l0 (l0.length : Int) x8_1 true ((rd_T63 l0 x8_1).f0) ((rd_T63 l0 x8_1).f1) ((rd_T63 l0 x8_1).f2) ((rd_T63 l0 x8_1).f3) ((rd_T63 l0 x8_1).f4)) = some r := by rw [if_neg (show ¬ (false = true) by decide)] at H; exact H
             clear H; have H := H1; clear H1; have H' := Az H; clear H
             try go_wp2
             have n0_ : Aside0 ((((((w6.setCell ⟨gb147, 0, none⟩ (.string ((rd_T63 l0 x8_1).f0))).setCell ⟨gb147, 1, none⟩ (.int .i64 ((rd_T63 l0 x8_1).f1))).setCell ⟨gb147, 2, none⟩ (.slice A146_2 ((rd_T63 l0 x8_1).f2).length c146_2)).setCell ⟨gb147, 3, none⟩ (.bool ((rd_T63 l0 x8_1).f3))).setCell ⟨gb147, 4, none⟩ (.string ((rd_T63 l0 x8_1).f4))).heap[gb147]? = some (.cells #[.string ((rd_T63 l0 x8_1).f0), .int .i64 ((rd_T63 l0 x8_1).f1), .slice A146_2 ((rd_T63 l0 x8_1).f2).length c146_2, .bool ((rd_T63 l0 x8_1).f3), .string ((rd_T63 l0 x8_1).f4)] 63 (0, 0))) := ⟨by refine bu ?_; refine blk_put (cs := #[.string ((rd_T63 l0 x8_1).f0), .int .i64 ((rd_T63 l0 x8_1).f1), .slice A146_2 ((rd_T63 l0 x8_1).f2).length c146_2, .bool ((rd_T63 l0 x8_1).f3), .string (⟨#[]⟩ : ByteArray)]) ?_ 4 _ rfl; refine bu ?_; refine blk_put (cs := #[.string ((rd_T63 l0 x8_1).f0), .int .i64 ((rd_T63 l0 x8_1).f1), .slice A146_2 ((rd_T63 l0 x8_1).f2).length c146_2, .bool false, .string (⟨#[]⟩ : ByteArray)]) ?_ 3 _ rfl; refine bu ?_; refine blk_put (cs := #[.string ((rd_T63 l0 x8_1).f0), .int .i64 ((rd_T63 l0 x8_1).f1), .slice none 0 0, .bool false, .string (⟨#[]⟩ : ByteArray)]) ?_ 2 _ rfl; refine bu ?_; refine blk_put (cs := #[.string ((rd_T63 l0 x8_1).f0), .int .i64 0, .slice none 0 0, .bool false, .string (⟨#[]⟩ : ByteArray)]) ?_ 1 _ rfl; refine bu ?_; refine blk_put (cs := #[.string (⟨#[]⟩ : ByteArray), .int .i64 0, .slice none 0 0, .bool false, .string (⟨#[]⟩ : ByteArray)]) ?_ 0 _ rfl; refine bu ?_; exact BK147.out⟩; have n1_ : Aside0 (Below w.heap.size w (((((w6.setCell ⟨gb147, 0, none⟩ (.string ((rd_T63 l0 x8_1).f0))).setCell ⟨gb147, 1, none⟩ (.int .i64 ((rd_T63 l0 x8_1).f1))).setCell ⟨gb147, 2, none⟩ (.slice A146_2 ((rd_T63 l0 x8_1).f2).length c146_2)).setCell ⟨gb147, 3, none⟩ (.bool ((rd_T63 l0 x8_1).f3))).setCell ⟨gb147, 4, none⟩ (.string ((rd_T63 l0 x8_1).f4)))) := ⟨bz⟩
             (try (have hsd_ : ∀ (W_ : World) (n_ : Nat) (a_ : Addr) (v_ : Value), (W_.drewN n_).setCell a_ v_ = (W_.setCell a_ v_).drewN n_ := fun _ _ _ _ => rfl); simp only [hsd_]; clear hsd_)
             (try clear BK147); (try clear HB); generalize (((((w6.setCell ⟨gb147, 0, none⟩ (.string ((rd_T63 l0 x8_1).f0))).setCell ⟨gb147, 1, none⟩ (.int .i64 ((rd_T63 l0 x8_1).f1))).setCell ⟨gb147, 2, none⟩ (.slice A146_2 ((rd_T63 l0 x8_1).f2).length c146_2)).setCell ⟨gb147, 3, none⟩ (.bool ((rd_T63 l0 x8_1).f3))).setCell ⟨gb147, 4, none⟩ (.string ((rd_T63 l0 x8_1).f4))) = w20 at n0_ n1_ ⊢; have BK147 := n0_; have HB := n1_; clear n0_ n1_; replace BK147 := Az (blk_drew BK147.out); replace HB := Az (below_drew1 HB.out); have p149 : 0 ≤ ((ji11) : Int) := oz; have q149 : (ji11) < (l0.length : Int) := oz; obtain ⟨ad149, A149_2, c149_2, e149, hx149_0, hx149_1, hx149_2, hx149_3, hx149_4, hl149_2, hi149_2⟩ := at_T63 HR0.out (ji11) p149 q149; have hw149_4 := hx149_4; have hw149_3 := hx149_3; have hw149_2 := hx149_2; have hw149_1 := hx149_1; have hw149_0 := hx149_0; obtain rfl : ad146 = ad149 := (by injection e149); replace hx149_0 := pw_cell_below HB.out hx149_0; replace hx149_1 := pw_cell_below HB.out hx149_1; replace hx149_2 := pw_cell_below HB.out hx149_2; replace hx149_3 := pw_cell_below HB.out hx149_3; replace hx149_4 := pw_cell_below HB.out hx149_4; have HR149_2 := Az hi149_2; have HC149_2 := Az hl149_2; clear hi149_2 hl149_2; replace p149 := eq_true p149; replace q149 := eq_true q149; refine start_ (n := 31) (S := fun w' => w'.cell? ⟨gb147, 0, none⟩ = some (.string ((rd_T63 l0 x8_1).f0)) ∧ w'.cell? ⟨gb147, 1, none⟩ = some (.int .i64 ((rd_T63 l0 x8_1).f1)) ∧ w'.cell? ⟨gb147, 2, none⟩ = some (.slice A146_2 ((rd_T63 l0 x8_1).f2).length c146_2) ∧ w'.cell? ⟨gb147, 3, none⟩ = some (.bool ((rd_T63 l0 x8_1).f3)) ∧ w'.cell? ⟨gb147, 4, none⟩ = some (.string ((rd_T63 l0 x8_1).f4)) ∧ w'.cell? (ad146.add (((ji11)).toNat * 5)) = some (.string ((rd_T63 l0 (ji11)).f0)) ∧ w'.cell? ⟨(ad146.add (((ji11)).toNat * 5)).block, (ad146.add (((ji11)).toNat * 5)).off + 1, none⟩ = some (.int .i64 ((rd_T63 l0 (ji11)).f1)) ∧ w'.cell? ⟨(ad146.add (((ji11)).toNat * 5)).block, (ad146.add (((ji11)).toNat * 5)).off + 2, none⟩ = some (.slice A149_2 ((rd_T63 l0 (ji11)).f2).length c149_2) ∧ w'.cell? ⟨(ad146.add (((ji11)).toNat * 5)).block, (ad146.add (((ji11)).toNat * 5)).off + 3, none⟩ = some (.bool ((rd_T63 l0 (ji11)).f3)) ∧ w'.cell? ⟨(ad146.add (((ji11)).toNat * 5)).block, (ad146.add (((ji11)).toNat * 5)).off + 4, none⟩ = some (.string ((rd_T63 l0 (ji11)).f4))) (ds := []) A4_0 (by kernel_rfl) rfl rfl ⟨(blk_cell BK147.out 0).trans rfl, (blk_cell BK147.out 1).trans rfl, (blk_cell BK147.out 2).trans rfl, (blk_cell BK147.out 3).trans rfl, (blk_cell BK147.out 4).trans rfl, (pw_cell_below HB.out hw149_0), (pw_cell_below HB.out hw149_1), (pw_cell_below HB.out hw149_2), (pw_cell_below HB.out hw149_3), (pw_cell_below HB.out hw149_4)⟩ (fun hHeld => ?_); refine with_tabW impl_RulesOk.tab4 impl_RulesOk.bits4 (fun HT_ HW_ => ?_); generalize w20.drew = w21 at BK147 HB HR149_2 hx149_0 hx149_1 hx149_2 hx149_3 hx149_4 hHeld ⊢; refine pz 0 13 A4_1 HT_.out ?_
             refine tz 1 14 A4_2 HT_.out HW_.out hHeld ?_
             refine one_ (i := 2) (N := some 15) A4_3 rfl rfl (one_of HT_.out (by kernel_rfl)) (by decide) (fun K hK => ?_); refine goes_ Try.func43 (by kernel_rfl) rfl #[.string ((rd_T63 l0 x8_1).f0)] (by rfl) rfl rfl (by (try simp only [List.map_toArray, List.map_cons, List.map_nil]); first | done | rfl) ?_
             with_reducible refine (impl_isName.calls k1 ((rd_T63 l0 x8_1).f0) true _ A8.out).mono ?_
             rintro e w' ⟨rfl, ⟨nd, rfl⟩⟩; refine ⟨_, rfl, ?_⟩; refine hK.out _ _ ⟨(blk_cell BK147.out 0).trans rfl, (blk_cell BK147.out 1).trans rfl, (blk_cell BK147.out 2).trans rfl, (blk_cell BK147.out 3).trans rfl, (blk_cell BK147.out 4).trans rfl, (pw_cell_below HB.out hw149_0), (pw_cell_below HB.out hw149_1), (pw_cell_below HB.out hw149_2), (pw_cell_below HB.out hw149_3), (pw_cell_below HB.out hw149_4)⟩ (fun hHeld => ?_); clear hK K; refine norm_ (a' := ?_) ?_ ?_; rotate_left
             ·
              show Act.put _ (some 15) _ = _
              simp only [Act.put, sA, sB, sC, i64_w, i32_w]
              rfl
             refine pz 3 16 A4_4 HT_.out ?_; refine pz 4 17 A4_5 HT_.out ?_; refine pz 5 18 A4_6 HT_.out ?_; refine pz 6 19 A4_7 HT_.out ?_; refine pz 7 20 A4_8 HT_.out ?_; refine pz 8 21 A4_9 HT_.out ?_; refine pz 9 22 A4_10 HT_.out ?_; refine pz 10 23 A4_11 HT_.out ?_; refine pz 11 24 A4_12 HT_.out ?_; refine pz 12 25 A4_13 HT_.out ?_; refine pz 14 27 A4_14 HT_.out ?_; refine tz 13 26 A4_15 HT_.out HW_.out hHeld ?_
             refine tz 15 28 A4_16 HT_.out HW_.out hHeld ?_
             refine pz 16 29 A4_17 HT_.out ?_; refine pz 17 30 A4_18 HT_.out ?_; refine pz 18 31 A4_19 HT_.out ?_; refine pz 19 32 A4_20 HT_.out ?_; refine pz 20 33 A4_21 HT_.out ?_; refine tz 21 34 A4_22 HT_.out HW_.out hHeld ?_
             refine one_ (i := 22) (N := some 35) A4_23 rfl rfl (one_of HT_.out (by kernel_rfl)) (by decide) (fun K hK => ?_); refine goes_ Try.func44 (by kernel_rfl) rfl #[.int .i64 ((rd_T63 l0 x8_1).f1), .int .i64 1, .int .i64 3] (by rfl) rfl rfl (by (try simp only [List.map_toArray, List.map_cons, List.map_nil]); first | done | rfl) ?_
             with_reducible refine (impl_in.calls ((rd_T63 l0 x8_1).f1) 1 3 false _ A15.out).mono ?_
             rintro e w' ⟨rfl, ⟨nd, rfl⟩⟩; refine ⟨_, rfl, ?_⟩; refine hK.out _ _ ⟨(blk_cell BK147.out 0).trans rfl, (blk_cell BK147.out 1).trans rfl, (blk_cell BK147.out 2).trans rfl, (blk_cell BK147.out 3).trans rfl, (blk_cell BK147.out 4).trans rfl, (pw_cell_below HB.out hw149_0), (pw_cell_below HB.out hw149_1), (pw_cell_below HB.out hw149_2), (pw_cell_below HB.out hw149_3), (pw_cell_below HB.out hw149_4)⟩ (fun hHeld => ?_); clear hK K; refine norm_ (a' := ?_) ?_ ?_; rotate_left
             ·
              show Act.put _ (some 35) _ = _
              simp only [Act.put, sA, sB, sC, i64_w, i32_w]
              rfl
             refine pz 23 36 A4_24 HT_.out ?_; refine pz 24 37 A4_25 HT_.out ?_; refine pz 25 38 A4_26 HT_.out ?_; refine pu 26 39 A4_27 HT_.out ?_
             refine pu 27 40 A4_28 HT_.out ?_
             refine pu 28 41 A4_29 HT_.out ?_
             refine pu 29 42 A4_30 HT_.out ?_
             refine pz 30 43 A4_31 HT_.out ?_; refine done_ (done_of HT_.out (by kernel_rfl)) ?_
             try go_wp2
             go_meet
             case rel => exact ⟨_, (true), (by first | rfl | (simp; done) | (simp [*]; done)), H', ⟨by have := HK1.out; first | omega | exact Nat.le_refl _⟩, ⟨by refine bu ?_; exact BK147.out⟩, ⟨bz⟩⟩
           ·
            rw [if_neg c14] at H
            have c14b0 : (Op.bytesLess (((rd_T63 l0 (ji11)).f0).toList) (((rd_T63 l0 x8_1).f0).toList)) = false := by simpa using c14
            clear c14; have H' := Az H; clear H
            try go_wp2
            have n0_ : Aside0 ((((((w6.setCell ⟨gb147, 0, none⟩ (.string ((rd_T63 l0 x8_1).f0))).setCell ⟨gb147, 1, none⟩ (.int .i64 ((rd_T63 l0 x8_1).f1))).setCell ⟨gb147, 2, none⟩ (.slice A146_2 ((rd_T63 l0 x8_1).f2).length c146_2)).setCell ⟨gb147, 3, none⟩ (.bool ((rd_T63 l0 x8_1).f3))).setCell ⟨gb147, 4, none⟩ (.string ((rd_T63 l0 x8_1).f4))).heap[gb147]? = some (.cells #[.string ((rd_T63 l0 x8_1).f0), .int .i64 ((rd_T63 l0 x8_1).f1), .slice A146_2 ((rd_T63 l0 x8_1).f2).length c146_2, .bool ((rd_T63 l0 x8_1).f3), .string ((rd_T63 l0 x8_1).f4)] 63 (0, 0))) := ⟨by refine bu ?_; refine blk_put (cs := #[.string ((rd_T63 l0 x8_1).f0), .int .i64 ((rd_T63 l0 x8_1).f1), .slice A146_2 ((rd_T63 l0 x8_1).f2).length c146_2, .bool ((rd_T63 l0 x8_1).f3), .string (⟨#[]⟩ : ByteArray)]) ?_ 4 _ rfl; refine bu ?_; refine blk_put (cs := #[.string ((rd_T63 l0 x8_1).f0), .int .i64 ((rd_T63 l0 x8_1).f1), .slice A146_2 ((rd_T63 l0 x8_1).f2).length c146_2, .bool false, .string (⟨#[]⟩ : ByteArray)]) ?_ 3 _ rfl; refine bu ?_; refine blk_put (cs := #[.string ((rd_T63 l0 x8_1).f0), .int .i64 ((rd_T63 l0 x8_1).f1), .slice none 0 0, .bool false, .string (⟨#[]⟩ : ByteArray)]) ?_ 2 _ rfl; refine bu ?_; refine blk_put (cs := #[.string ((rd_T63 l0 x8_1).f0), .int .i64 0, .slice none 0 0, .bool false, .string (⟨#[]⟩ : ByteArray)]) ?_ 1 _ rfl; refine bu ?_; refine blk_put (cs := #[.string (⟨#[]⟩ : ByteArray), .int .i64 0, .slice none 0 0, .bool false, .string (⟨#[]⟩ : ByteArray)]) ?_ 0 _ rfl; refine bu ?_; exact BK147.out⟩; have n1_ : Aside0 (Below w.heap.size w (((((w6.setCell ⟨gb147, 0, none⟩ (.string ((rd_T63 l0 x8_1).f0))).setCell ⟨gb147, 1, none⟩ (.int .i64 ((rd_T63 l0 x8_1).f1))).setCell ⟨gb147, 2, none⟩ (.slice A146_2 ((rd_T63 l0 x8_1).f2).length c146_2)).setCell ⟨gb147, 3, none⟩ (.bool ((rd_T63 l0 x8_1).f3))).setCell ⟨gb147, 4, none⟩ (.string ((rd_T63 l0 x8_1).f4)))) := ⟨bz⟩
            (try (have hsd_ : ∀ (W_ : World) (n_ : Nat) (a_ : Addr) (v_ : Value), (W_.drewN n_).setCell a_ v_ = (W_.setCell a_ v_).drewN n_ := fun _ _ _ _ => rfl); simp only [hsd_]; clear hsd_)
            (try clear BK147); (try clear HB); generalize (((((w6.setCell ⟨gb147, 0, none⟩ (.string ((rd_T63 l0 x8_1).f0))).setCell ⟨gb147, 1, none⟩ (.int .i64 ((rd_T63 l0 x8_1).f1))).setCell ⟨gb147, 2, none⟩ (.slice A146_2 ((rd_T63 l0 x8_1).f2).length c146_2)).setCell ⟨gb147, 3, none⟩ (.bool ((rd_T63 l0 x8_1).f3))).setCell ⟨gb147, 4, none⟩ (.string ((rd_T63 l0 x8_1).f4))) = w22 at n0_ n1_ ⊢; have BK147 := n0_; have HB := n1_; clear n0_ n1_; replace BK147 := Az (blk_drew BK147.out); replace HB := Az (below_drew1 HB.out); have p149 : 0 ≤ ((ji11) : Int) := oz; have q149 : (ji11) < (l0.length : Int) := oz; obtain ⟨ad149, A149_2, c149_2, e149, hx149_0, hx149_1, hx149_2, hx149_3, hx149_4, hl149_2, hi149_2⟩ := at_T63 HR0.out (ji11) p149 q149; have hw149_4 := hx149_4; have hw149_3 := hx149_3; have hw149_2 := hx149_2; have hw149_1 := hx149_1; have hw149_0 := hx149_0; obtain rfl : ad146 = ad149 := (by injection e149); replace hx149_0 := pw_cell_below HB.out hx149_0; replace hx149_1 := pw_cell_below HB.out hx149_1; replace hx149_2 := pw_cell_below HB.out hx149_2; replace hx149_3 := pw_cell_below HB.out hx149_3; replace hx149_4 := pw_cell_below HB.out hx149_4; have HR149_2 := Az hi149_2; have HC149_2 := Az hl149_2; clear hi149_2 hl149_2; replace p149 := eq_true p149; replace q149 := eq_true q149; refine start_ (n := 31) (S := fun w' => w'.cell? ⟨gb147, 0, none⟩ = some (.string ((rd_T63 l0 x8_1).f0)) ∧ w'.cell? ⟨gb147, 1, none⟩ = some (.int .i64 ((rd_T63 l0 x8_1).f1)) ∧ w'.cell? ⟨gb147, 2, none⟩ = some (.slice A146_2 ((rd_T63 l0 x8_1).f2).length c146_2) ∧ w'.cell? ⟨gb147, 3, none⟩ = some (.bool ((rd_T63 l0 x8_1).f3)) ∧ w'.cell? ⟨gb147, 4, none⟩ = some (.string ((rd_T63 l0 x8_1).f4)) ∧ w'.cell? (ad146.add (((ji11)).toNat * 5)) = some (.string ((rd_T63 l0 (ji11)).f0)) ∧ w'.cell? ⟨(ad146.add (((ji11)).toNat * 5)).block, (ad146.add (((ji11)).toNat * 5)).off + 1, none⟩ = some (.int .i64 ((rd_T63 l0 (ji11)).f1)) ∧ w'.cell? ⟨(ad146.add (((ji11)).toNat * 5)).block, (ad146.add (((ji11)).toNat * 5)).off + 2, none⟩ = some (.slice A149_2 ((rd_T63 l0 (ji11)).f2).length c149_2) ∧ w'.cell? ⟨(ad146.add (((ji11)).toNat * 5)).block, (ad146.add (((ji11)).toNat * 5)).off + 3, none⟩ = some (.bool ((rd_T63 l0 (ji11)).f3)) ∧ w'.cell? ⟨(ad146.add (((ji11)).toNat * 5)).block, (ad146.add (((ji11)).toNat * 5)).off + 4, none⟩ = some (.string ((rd_T63 l0 (ji11)).f4))) (ds := []) A4_0 (by kernel_rfl) rfl rfl ⟨(blk_cell BK147.out 0).trans rfl, (blk_cell BK147.out 1).trans rfl, (blk_cell BK147.out 2).trans rfl, (blk_cell BK147.out 3).trans rfl, (blk_cell BK147.out 4).trans rfl, (pw_cell_below HB.out hw149_0), (pw_cell_below HB.out hw149_1), (pw_cell_below HB.out hw149_2), (pw_cell_below HB.out hw149_3), (pw_cell_below HB.out hw149_4)⟩ (fun hHeld => ?_); refine with_tabW impl_RulesOk.tab4 impl_RulesOk.bits4 (fun HT_ HW_ => ?_); generalize w22.drew = w23 at BK147 HB HR149_2 hx149_0 hx149_1 hx149_2 hx149_3 hx149_4 hHeld ⊢; refine pz 0 13 A4_1 HT_.out ?_; refine take_ (i := 1) (N := some 14) (v := ?_) (a' := ?_) A4_2 rfl rfl (take_ofW HT_.out HW_.out (by kernel_rfl)) (fun _ _ _ h => h) (Or.inl ⟨by rfl, ?_⟩) hHeld ?_ ?_
            rotate_left
            ·
             rintro w' ⟨s0, s1, s2, s3, s4, s5, s6, s7, s8, s9⟩; go_simp; with_reducible rfl
            rotate_left
            ·
             simp only [Act.put, sA, sB, sC, i64_w, i32_w]
             rfl
            refine one_ (i := 2) (N := some 15) A4_3 rfl rfl (one_of HT_.out (by kernel_rfl)) (by decide) (fun K hK => ?_); refine goes_ Try.func43 (by kernel_rfl) rfl #[.string ((rd_T63 l0 x8_1).f0)] (by rfl) rfl rfl (by (try simp only [List.map_toArray, List.map_cons, List.map_nil]); first | done | rfl) ?_
            with_reducible refine (impl_isName.calls k1 ((rd_T63 l0 x8_1).f0) true _ A8.out).mono ?_
            rintro e w' ⟨rfl, ⟨nd, rfl⟩⟩; refine ⟨_, rfl, ?_⟩; refine hK.out _ _ ⟨(blk_cell BK147.out 0).trans rfl, (blk_cell BK147.out 1).trans rfl, (blk_cell BK147.out 2).trans rfl, (blk_cell BK147.out 3).trans rfl, (blk_cell BK147.out 4).trans rfl, (pw_cell_below HB.out hw149_0), (pw_cell_below HB.out hw149_1), (pw_cell_below HB.out hw149_2), (pw_cell_below HB.out hw149_3), (pw_cell_below HB.out hw149_4)⟩ (fun hHeld => ?_); clear hK K; refine norm_ (a' := ?_) ?_ ?_; rotate_left
            ·
             show Act.put _ (some 15) _ = _
             simp only [Act.put, sA, sB, sC, i64_w, i32_w]
             rfl
            refine pz 3 16 A4_4 HT_.out ?_; refine pz 4 17 A4_5 HT_.out ?_; refine pz 5 18 A4_6 HT_.out ?_; refine pz 6 19 A4_7 HT_.out ?_; refine pz 7 20 A4_8 HT_.out ?_; refine pz 8 21 A4_9 HT_.out ?_; refine pz 9 22 A4_10 HT_.out ?_; refine pz 10 23 A4_11 HT_.out ?_; refine pz 11 24 A4_12 HT_.out ?_; refine pz 12 25 A4_13 HT_.out ?_; refine pz 14 27 A4_14 HT_.out ?_; refine tz 13 26 A4_15 HT_.out HW_.out hHeld ?_
            refine tz 15 28 A4_16 HT_.out HW_.out hHeld ?_
            refine pz 16 29 A4_17 HT_.out ?_; refine pz 17 30 A4_18 HT_.out ?_; refine pz 18 31 A4_19 HT_.out ?_; refine pz 19 32 A4_20 HT_.out ?_; refine pu 20 33 A4_21 HT_.out ?_
            refine pu 21 34 A4_22 HT_.out ?_
            refine pu 22 35 A4_23 HT_.out ?_
            refine pu 23 36 A4_24 HT_.out ?_
            refine pz 24 37 A4_25 HT_.out ?_; refine pz 25 38 A4_26 HT_.out ?_; refine pu 26 39 A4_27 HT_.out ?_
            refine pu 27 40 A4_28 HT_.out ?_
            refine pu 28 41 A4_29 HT_.out ?_
            refine pu 29 42 A4_30 HT_.out ?_
            refine pz 30 43 A4_31 HT_.out ?_; refine done_ (done_of HT_.out (by kernel_rfl)) ?_
            try go_wp2
            go_meet
            case rel => exact ⟨_, (true), (by first | rfl | (simp; done) | (simp [*]; done)), H', ⟨by have := HK1.out; first | omega | exact Nat.le_refl _⟩, ⟨by refine bu ?_; exact BK147.out⟩, ⟨bz⟩⟩
          ·
           rw [if_neg c13] at H; exact absurd H (by simp)
         ·
          rw [if_neg c12] at H; exact absurd H (by simp)
        ·
         rw [if_neg c10] at H; have c10b0 : decide (0 < x8_1) = false := decide_eq_false c10; clear c10
         (first | rw [c10b0] | (simp only [i64_w, i32_w]; rw [c10b0]) | skip)
         replace H := Option.bind_eq_some_iff.mp H; obtain ⟨t152, A240, H⟩ := H; replace H : (if t152 = true then ((impl_ascends.f k1 ((rd_T63 l0 x8_1).f2) 0 9).bind fun t153 => (impl_RulesOk.j1 k1 l0 x8_1 l0 (l0.length : Int) x8_1 (!t153) ((rd_T63 l0 x8_1).f0) ((rd_T63 l0 x8_1).f1) ((rd_T63 l0 x8_1).f2) ((rd_T63 l0 x8_1).f3) ((rd_T63 l0 x8_1).f4))) else (impl_RulesOk.j1 k1 l0 x8_1 l0 (l0.length : Int) x8_1 true ((rd_T63 l0 x8_1).f0) ((rd_T63 l0 x8_1).f1) ((rd_T63 l0 x8_1).f2) ((rd_T63 l0 x8_1).f3) ((rd_T63 l0 x8_1).f4))) = some r := H; have A24 := Az A240; clear A240
         by_cases c25 : t152 = true
         ·
          subst c25
          have H1 : ((impl_ascends.f k1 ((rd_T63 l0 x8_1).f2) 0 9).bind fun t153 => (impl_RulesOk.j1 k1 l0 x8_1 l0 (l0.length : Int) x8_1 (!t153) ((rd_T63 l0 x8_1).f0) ((rd_T63 l0 x8_1).f1) ((rd_T63 l0 x8_1).f2) ((rd_T63 l0 x8_1).f3) ((rd_T63 l0 x8_1).f4))) = some r := by rw [if_pos rfl] at H; exact H
          clear H; have H := H1; clear H1; replace H := Option.bind_eq_some_iff.mp H; obtain ⟨t153, A260, H⟩ := H; replace H : (impl_RulesOk.j1 k1 l0 x8_1 l0 (l0.length : Int) x8_1 (!t153) ((rd_T63 l0 x8_1).f0) ((rd_T63 l0 x8_1).f1) ((rd_T63 l0 x8_1).f2) ((rd_T63 l0 x8_1).f3) ((rd_T63 l0 x8_1).f4)) = some r := H; have A26 := Az A260; clear A260; have H' := Az H; clear H
          try go_wp2
          have n0_ : Aside0 ((((((w6.setCell ⟨gb147, 0, none⟩ (.string ((rd_T63 l0 x8_1).f0))).setCell ⟨gb147, 1, none⟩ (.int .i64 ((rd_T63 l0 x8_1).f1))).setCell ⟨gb147, 2, none⟩ (.slice A146_2 ((rd_T63 l0 x8_1).f2).length c146_2)).setCell ⟨gb147, 3, none⟩ (.bool ((rd_T63 l0 x8_1).f3))).setCell ⟨gb147, 4, none⟩ (.string ((rd_T63 l0 x8_1).f4))).heap[gb147]? = some (.cells #[.string ((rd_T63 l0 x8_1).f0), .int .i64 ((rd_T63 l0 x8_1).f1), .slice A146_2 ((rd_T63 l0 x8_1).f2).length c146_2, .bool ((rd_T63 l0 x8_1).f3), .string ((rd_T63 l0 x8_1).f4)] 63 (0, 0))) := ⟨by refine bu ?_; refine blk_put (cs := #[.string ((rd_T63 l0 x8_1).f0), .int .i64 ((rd_T63 l0 x8_1).f1), .slice A146_2 ((rd_T63 l0 x8_1).f2).length c146_2, .bool ((rd_T63 l0 x8_1).f3), .string (⟨#[]⟩ : ByteArray)]) ?_ 4 _ rfl; refine bu ?_; refine blk_put (cs := #[.string ((rd_T63 l0 x8_1).f0), .int .i64 ((rd_T63 l0 x8_1).f1), .slice A146_2 ((rd_T63 l0 x8_1).f2).length c146_2, .bool false, .string (⟨#[]⟩ : ByteArray)]) ?_ 3 _ rfl; refine bu ?_; refine blk_put (cs := #[.string ((rd_T63 l0 x8_1).f0), .int .i64 ((rd_T63 l0 x8_1).f1), .slice none 0 0, .bool false, .string (⟨#[]⟩ : ByteArray)]) ?_ 2 _ rfl; refine bu ?_; refine blk_put (cs := #[.string ((rd_T63 l0 x8_1).f0), .int .i64 0, .slice none 0 0, .bool false, .string (⟨#[]⟩ : ByteArray)]) ?_ 1 _ rfl; refine bu ?_; refine blk_put (cs := #[.string (⟨#[]⟩ : ByteArray), .int .i64 0, .slice none 0 0, .bool false, .string (⟨#[]⟩ : ByteArray)]) ?_ 0 _ rfl; refine bu ?_; exact BK147.out⟩; have n1_ : Aside0 (Below w.heap.size w (((((w6.setCell ⟨gb147, 0, none⟩ (.string ((rd_T63 l0 x8_1).f0))).setCell ⟨gb147, 1, none⟩ (.int .i64 ((rd_T63 l0 x8_1).f1))).setCell ⟨gb147, 2, none⟩ (.slice A146_2 ((rd_T63 l0 x8_1).f2).length c146_2)).setCell ⟨gb147, 3, none⟩ (.bool ((rd_T63 l0 x8_1).f3))).setCell ⟨gb147, 4, none⟩ (.string ((rd_T63 l0 x8_1).f4)))) := ⟨bz⟩
          (try (have hsd_ : ∀ (W_ : World) (n_ : Nat) (a_ : Addr) (v_ : Value), (W_.drewN n_).setCell a_ v_ = (W_.setCell a_ v_).drewN n_ := fun _ _ _ _ => rfl); simp only [hsd_]; clear hsd_)
          (try clear BK147); (try clear HB); generalize (((((w6.setCell ⟨gb147, 0, none⟩ (.string ((rd_T63 l0 x8_1).f0))).setCell ⟨gb147, 1, none⟩ (.int .i64 ((rd_T63 l0 x8_1).f1))).setCell ⟨gb147, 2, none⟩ (.slice A146_2 ((rd_T63 l0 x8_1).f2).length c146_2)).setCell ⟨gb147, 3, none⟩ (.bool ((rd_T63 l0 x8_1).f3))).setCell ⟨gb147, 4, none⟩ (.string ((rd_T63 l0 x8_1).f4))) = w27 at n0_ n1_ ⊢; have BK147 := n0_; have HB := n1_; clear n0_ n1_; replace BK147 := Az (blk_drew BK147.out); replace HB := Az (below_drew1 HB.out); refine start_ (n := 31) (S := fun w' => w'.cell? ⟨gb147, 0, none⟩ = some (.string ((rd_T63 l0 x8_1).f0)) ∧ w'.cell? ⟨gb147, 1, none⟩ = some (.int .i64 ((rd_T63 l0 x8_1).f1)) ∧ w'.cell? ⟨gb147, 2, none⟩ = some (.slice A146_2 ((rd_T63 l0 x8_1).f2).length c146_2) ∧ w'.cell? ⟨gb147, 3, none⟩ = some (.bool ((rd_T63 l0 x8_1).f3)) ∧ w'.cell? ⟨gb147, 4, none⟩ = some (.string ((rd_T63 l0 x8_1).f4))) (ds := []) A4_0 (by kernel_rfl) rfl rfl (bc5 BK147.out) (fun hHeld => ?_); refine with_tabW impl_RulesOk.tab4 impl_RulesOk.bits4 (fun HT_ HW_ => ?_); generalize w27.drew = w28 at BK147 HB hHeld ⊢; refine pz 0 13 A4_1 HT_.out ?_; refine tz 1 14 A4_2 HT_.out HW_.out hHeld ?_
          refine one_ (i := 2) (N := some 15) A4_3 rfl rfl (one_of HT_.out (by kernel_rfl)) (by decide) (fun K hK => ?_); refine goes_ Try.func43 (by kernel_rfl) rfl #[.string ((rd_T63 l0 x8_1).f0)] (by rfl) rfl rfl (by (try simp only [List.map_toArray, List.map_cons, List.map_nil]); first | done | rfl) ?_
          with_reducible refine (impl_isName.calls k1 ((rd_T63 l0 x8_1).f0) true _ A8.out).mono ?_
          rintro e w' ⟨rfl, ⟨nd, rfl⟩⟩; refine ⟨_, rfl, ?_⟩; refine hK.out _ _ (bc5 BK147.out) (fun hHeld => ?_); clear hK K; refine norm_ (a' := ?_) ?_ ?_; rotate_left
          ·
           show Act.put _ (some 15) _ = _
           simp only [Act.put, sA, sB, sC, i64_w, i32_w]
           rfl
          refine pz 3 16 A4_4 HT_.out ?_; refine pz 4 17 A4_5 HT_.out ?_; refine pz 5 18 A4_6 HT_.out ?_; refine pz 6 19 A4_7 HT_.out ?_; refine pz 7 20 A4_8 HT_.out ?_; refine pu 8 21 A4_9 HT_.out ?_
          refine pu 9 22 A4_10 HT_.out ?_
          refine pu 10 23 A4_11 HT_.out ?_
          refine pu 11 24 A4_12 HT_.out ?_
          refine pu 12 25 A4_13 HT_.out ?_
          refine pu 13 26 A4_32 HT_.out ?_
          refine pu 14 27 A4_15 HT_.out ?_
          refine pu 15 28 A4_16 HT_.out ?_
          refine pu 16 29 A4_17 HT_.out ?_
          refine pz 17 30 A4_18 HT_.out ?_; refine pz 18 31 A4_19 HT_.out ?_; refine pz 19 32 A4_20 HT_.out ?_; refine pz 20 33 A4_21 HT_.out ?_; refine tz 21 34 A4_22 HT_.out HW_.out hHeld ?_
          refine one_ (i := 22) (N := some 35) A4_23 rfl rfl (one_of HT_.out (by kernel_rfl)) (by decide) (fun K hK => ?_); refine goes_ Try.func44 (by kernel_rfl) rfl #[.int .i64 ((rd_T63 l0 x8_1).f1), .int .i64 1, .int .i64 3] (by rfl) rfl rfl (by (try simp only [List.map_toArray, List.map_cons, List.map_nil]); first | done | rfl) ?_
          with_reducible refine (impl_in.calls ((rd_T63 l0 x8_1).f1) 1 3 true _ A24.out).mono ?_
          rintro e w' ⟨rfl, ⟨nd, rfl⟩⟩; refine ⟨_, rfl, ?_⟩; refine hK.out _ _ (bc5 BK147.out) (fun hHeld => ?_); clear hK K; refine norm_ (a' := ?_) ?_ ?_; rotate_left
          ·
           show Act.put _ (some 35) _ = _
           simp only [Act.put, sA, sB, sC, i64_w, i32_w]
           rfl
          refine pz 23 36 A4_24 HT_.out ?_; refine pz 24 37 A4_25 HT_.out ?_; refine pz 25 38 A4_26 HT_.out ?_; refine pz 26 39 A4_27 HT_.out ?_; refine tz 27 40 A4_28 HT_.out HW_.out hHeld ?_
          refine one_ (i := 28) (N := some 41) A4_29 rfl rfl (one_of HT_.out (by kernel_rfl)) (by decide) (fun K hK => ?_); refine goes_ Try.func45 (by kernel_rfl) rfl #[.slice A146_2 ((rd_T63 l0 x8_1).f2).length c146_2, .int .i64 0, .int .i64 9] (by rfl) rfl rfl (by (try simp only [List.map_toArray, List.map_cons, List.map_nil]); first | done | rfl) ?_
          with_reducible refine (impl_ascends.calls k1 _ _ ((rd_T63 l0 x8_1).f2) 0 9 t153 _ ?side1 ?side2 A26.out).mono ?_
          (case side1 => repeat (first | exact (Kd.C_below HR146_2.out bz) | (with_reducible refine Kd.C_alloc ?_ _) | (with_reducible refine Kd.C_drewN ?_ _) | (with_reducible refine Kd.C_drew ?_)))
          (case side2 => exact HC146_2.out)
          rintro e w' ⟨rfl, ⟨nd, rfl⟩⟩; refine ⟨_, rfl, ?_⟩; refine hK.out _ _ (bc5 BK147.out) (fun hHeld => ?_); clear hK K; refine norm_ (a' := ?_) ?_ ?_; rotate_left
          ·
           show Act.put _ (some 41) _ = _
           simp only [Act.put, sA, sB, sC, i64_w, i32_w]
           rfl
          refine pz 29 42 A4_30 HT_.out ?_; refine pz 30 43 A4_31 HT_.out ?_; refine done_ (done_of HT_.out (by kernel_rfl)) ?_
          try go_wp2
          go_meet
          case rel => exact ⟨_, (!t153), (by first | rfl | (simp; done) | (simp [*]; done)), H', ⟨by have := HK1.out; first | omega | exact Nat.le_refl _⟩, ⟨by refine bu ?_; exact BK147.out⟩, ⟨bz⟩⟩
         ·
          replace c25 := Bool.eq_false_iff.mpr c25; subst c25
          have H1 : (impl_RulesOk.j1 k1 l0 x8_1 l0 (l0.length : Int) x8_1 true ((rd_T63 l0 x8_1).f0) ((rd_T63 l0 x8_1).f1) ((rd_T63 l0 x8_1).f2) ((rd_T63 l0 x8_1).f3) ((rd_T63 l0 x8_1).f4)) = some r := by rw [if_neg (show ¬ (false = true) by decide)] at H; exact H
          clear H; have H := H1; clear H1; have H' := Az H; clear H
          try go_wp2
          have n0_ : Aside0 ((((((w6.setCell ⟨gb147, 0, none⟩ (.string ((rd_T63 l0 x8_1).f0))).setCell ⟨gb147, 1, none⟩ (.int .i64 ((rd_T63 l0 x8_1).f1))).setCell ⟨gb147, 2, none⟩ (.slice A146_2 ((rd_T63 l0 x8_1).f2).length c146_2)).setCell ⟨gb147, 3, none⟩ (.bool ((rd_T63 l0 x8_1).f3))).setCell ⟨gb147, 4, none⟩ (.string ((rd_T63 l0 x8_1).f4))).heap[gb147]? = some (.cells #[.string ((rd_T63 l0 x8_1).f0), .int .i64 ((rd_T63 l0 x8_1).f1), .slice A146_2 ((rd_T63 l0 x8_1).f2).length c146_2, .bool ((rd_T63 l0 x8_1).f3), .string ((rd_T63 l0 x8_1).f4)] 63 (0, 0))) := ⟨by refine bu ?_; refine blk_put (cs := #[.string ((rd_T63 l0 x8_1).f0), .int .i64 ((rd_T63 l0 x8_1).f1), .slice A146_2 ((rd_T63 l0 x8_1).f2).length c146_2, .bool ((rd_T63 l0 x8_1).f3), .string (⟨#[]⟩ : ByteArray)]) ?_ 4 _ rfl; refine bu ?_; refine blk_put (cs := #[.string ((rd_T63 l0 x8_1).f0), .int .i64 ((rd_T63 l0 x8_1).f1), .slice A146_2 ((rd_T63 l0 x8_1).f2).length c146_2, .bool false, .string (⟨#[]⟩ : ByteArray)]) ?_ 3 _ rfl; refine bu ?_; refine blk_put (cs := #[.string ((rd_T63 l0 x8_1).f0), .int .i64 ((rd_T63 l0 x8_1).f1), .slice none 0 0, .bool false, .string (⟨#[]⟩ : ByteArray)]) ?_ 2 _ rfl; refine bu ?_; refine blk_put (cs := #[.string ((rd_T63 l0 x8_1).f0), .int .i64 0, .slice none 0 0, .bool false, .string (⟨#[]⟩ : ByteArray)]) ?_ 1 _ rfl; refine bu ?_; refine blk_put (cs := #[.string (⟨#[]⟩ : ByteArray), .int .i64 0, .slice none 0 0, .bool false, .string (⟨#[]⟩ : ByteArray)]) ?_ 0 _ rfl; refine bu ?_; exact BK147.out⟩; have n1_ : Aside0 (Below w.heap.size w (((((w6.setCell ⟨gb147, 0, none⟩ (.string ((rd_T63 l0 x8_1).f0))).setCell ⟨gb147, 1, none⟩ (.int .i64 ((rd_T63 l0 x8_1).f1))).setCell ⟨gb147, 2, none⟩ (.slice A146_2 ((rd_T63 l0 x8_1).f2).length c146_2)).setCell ⟨gb147, 3, none⟩ (.bool ((rd_T63 l0 x8_1).f3))).setCell ⟨gb147, 4, none⟩ (.string ((rd_T63 l0 x8_1).f4)))) := ⟨bz⟩
          (try (have hsd_ : ∀ (W_ : World) (n_ : Nat) (a_ : Addr) (v_ : Value), (W_.drewN n_).setCell a_ v_ = (W_.setCell a_ v_).drewN n_ := fun _ _ _ _ => rfl); simp only [hsd_]; clear hsd_)
          (try clear BK147); (try clear HB); generalize (((((w6.setCell ⟨gb147, 0, none⟩ (.string ((rd_T63 l0 x8_1).f0))).setCell ⟨gb147, 1, none⟩ (.int .i64 ((rd_T63 l0 x8_1).f1))).setCell ⟨gb147, 2, none⟩ (.slice A146_2 ((rd_T63 l0 x8_1).f2).length c146_2)).setCell ⟨gb147, 3, none⟩ (.bool ((rd_T63 l0 x8_1).f3))).setCell ⟨gb147, 4, none⟩ (.string ((rd_T63 l0 x8_1).f4))) = w29 at n0_ n1_ ⊢; have BK147 := n0_; have HB := n1_; clear n0_ n1_; replace BK147 := Az (blk_drew BK147.out); replace HB := Az (below_drew1 HB.out); refine start_ (n := 31) (S := fun w' => w'.cell? ⟨gb147, 0, none⟩ = some (.string ((rd_T63 l0 x8_1).f0)) ∧ w'.cell? ⟨gb147, 1, none⟩ = some (.int .i64 ((rd_T63 l0 x8_1).f1)) ∧ w'.cell? ⟨gb147, 2, none⟩ = some (.slice A146_2 ((rd_T63 l0 x8_1).f2).length c146_2) ∧ w'.cell? ⟨gb147, 3, none⟩ = some (.bool ((rd_T63 l0 x8_1).f3)) ∧ w'.cell? ⟨gb147, 4, none⟩ = some (.string ((rd_T63 l0 x8_1).f4))) (ds := []) A4_0 (by kernel_rfl) rfl rfl (bc5 BK147.out) (fun hHeld => ?_); refine with_tabW impl_RulesOk.tab4 impl_RulesOk.bits4 (fun HT_ HW_ => ?_); generalize w29.drew = w30 at BK147 HB hHeld ⊢; refine pz 0 13 A4_1 HT_.out ?_; refine tz 1 14 A4_2 HT_.out HW_.out hHeld ?_
          refine one_ (i := 2) (N := some 15) A4_3 rfl rfl (one_of HT_.out (by kernel_rfl)) (by decide) (fun K hK => ?_); refine goes_ Try.func43 (by kernel_rfl) rfl #[.string ((rd_T63 l0 x8_1).f0)] (by rfl) rfl rfl (by (try simp only [List.map_toArray, List.map_cons, List.map_nil]); first | done | rfl) ?_
          with_reducible refine (impl_isName.calls k1 ((rd_T63 l0 x8_1).f0) true _ A8.out).mono ?_
          rintro e w' ⟨rfl, ⟨nd, rfl⟩⟩; refine ⟨_, rfl, ?_⟩; refine hK.out _ _ (bc5 BK147.out) (fun hHeld => ?_); clear hK K; refine norm_ (a' := ?_) ?_ ?_; rotate_left
          ·
           show Act.put _ (some 15) _ = _
           simp only [Act.put, sA, sB, sC, i64_w, i32_w]
           rfl
          refine pz 3 16 A4_4 HT_.out ?_; refine pz 4 17 A4_5 HT_.out ?_; refine pz 5 18 A4_6 HT_.out ?_; refine pz 6 19 A4_7 HT_.out ?_; refine pz 7 20 A4_8 HT_.out ?_; refine pu 8 21 A4_9 HT_.out ?_
          refine pu 9 22 A4_10 HT_.out ?_
          refine pu 10 23 A4_11 HT_.out ?_
          refine pu 11 24 A4_12 HT_.out ?_
          refine pu 12 25 A4_13 HT_.out ?_
          refine pu 13 26 A4_32 HT_.out ?_
          refine pu 14 27 A4_15 HT_.out ?_
          refine pu 15 28 A4_16 HT_.out ?_
          refine pu 16 29 A4_17 HT_.out ?_
          refine pz 17 30 A4_18 HT_.out ?_; refine pz 18 31 A4_19 HT_.out ?_; refine pz 19 32 A4_20 HT_.out ?_; refine pz 20 33 A4_21 HT_.out ?_; refine tz 21 34 A4_22 HT_.out HW_.out hHeld ?_
          refine one_ (i := 22) (N := some 35) A4_23 rfl rfl (one_of HT_.out (by kernel_rfl)) (by decide) (fun K hK => ?_); refine goes_ Try.func44 (by kernel_rfl) rfl #[.int .i64 ((rd_T63 l0 x8_1).f1), .int .i64 1, .int .i64 3] (by rfl) rfl rfl (by (try simp only [List.map_toArray, List.map_cons, List.map_nil]); first | done | rfl) ?_
          with_reducible refine (impl_in.calls ((rd_T63 l0 x8_1).f1) 1 3 false _ A24.out).mono ?_
          rintro e w' ⟨rfl, ⟨nd, rfl⟩⟩; refine ⟨_, rfl, ?_⟩; refine hK.out _ _ (bc5 BK147.out) (fun hHeld => ?_); clear hK K; refine norm_ (a' := ?_) ?_ ?_; rotate_left
          ·
           show Act.put _ (some 35) _ = _
           simp only [Act.put, sA, sB, sC, i64_w, i32_w]
           rfl
          refine pz 23 36 A4_24 HT_.out ?_; refine pz 24 37 A4_25 HT_.out ?_; refine pz 25 38 A4_26 HT_.out ?_; refine pu 26 39 A4_27 HT_.out ?_
          refine pu 27 40 A4_28 HT_.out ?_
          refine pu 28 41 A4_29 HT_.out ?_
          refine pu 29 42 A4_30 HT_.out ?_
          refine pz 30 43 A4_31 HT_.out ?_; refine done_ (done_of HT_.out (by kernel_rfl)) ?_
          try go_wp2
          go_meet
          case rel => exact ⟨_, (true), (by first | rfl | (simp; done) | (simp [*]; done)), H', ⟨by have := HK1.out; first | omega | exact Nat.le_refl _⟩, ⟨by refine bu ?_; exact BK147.out⟩, ⟨bz⟩⟩
       ·
        replace c9 := Bool.eq_false_iff.mpr c9; subst c9
        have H1 : (impl_RulesOk.j1 k1 l0 x8_1 l0 (l0.length : Int) x8_1 true ((rd_T63 l0 x8_1).f0) ((rd_T63 l0 x8_1).f1) ((rd_T63 l0 x8_1).f2) ((rd_T63 l0 x8_1).f3) ((rd_T63 l0 x8_1).f4)) = some r := by rw [if_neg (show ¬ (false = true) by decide)] at H; exact H
        clear H; have H := H1; clear H1; have H' := Az H; clear H
        try go_wp2
        have n0_ : Aside0 ((((((w6.setCell ⟨gb147, 0, none⟩ (.string ((rd_T63 l0 x8_1).f0))).setCell ⟨gb147, 1, none⟩ (.int .i64 ((rd_T63 l0 x8_1).f1))).setCell ⟨gb147, 2, none⟩ (.slice A146_2 ((rd_T63 l0 x8_1).f2).length c146_2)).setCell ⟨gb147, 3, none⟩ (.bool ((rd_T63 l0 x8_1).f3))).setCell ⟨gb147, 4, none⟩ (.string ((rd_T63 l0 x8_1).f4))).heap[gb147]? = some (.cells #[.string ((rd_T63 l0 x8_1).f0), .int .i64 ((rd_T63 l0 x8_1).f1), .slice A146_2 ((rd_T63 l0 x8_1).f2).length c146_2, .bool ((rd_T63 l0 x8_1).f3), .string ((rd_T63 l0 x8_1).f4)] 63 (0, 0))) := ⟨by refine bu ?_; refine blk_put (cs := #[.string ((rd_T63 l0 x8_1).f0), .int .i64 ((rd_T63 l0 x8_1).f1), .slice A146_2 ((rd_T63 l0 x8_1).f2).length c146_2, .bool ((rd_T63 l0 x8_1).f3), .string (⟨#[]⟩ : ByteArray)]) ?_ 4 _ rfl; refine bu ?_; refine blk_put (cs := #[.string ((rd_T63 l0 x8_1).f0), .int .i64 ((rd_T63 l0 x8_1).f1), .slice A146_2 ((rd_T63 l0 x8_1).f2).length c146_2, .bool false, .string (⟨#[]⟩ : ByteArray)]) ?_ 3 _ rfl; refine bu ?_; refine blk_put (cs := #[.string ((rd_T63 l0 x8_1).f0), .int .i64 ((rd_T63 l0 x8_1).f1), .slice none 0 0, .bool false, .string (⟨#[]⟩ : ByteArray)]) ?_ 2 _ rfl; refine bu ?_; refine blk_put (cs := #[.string ((rd_T63 l0 x8_1).f0), .int .i64 0, .slice none 0 0, .bool false, .string (⟨#[]⟩ : ByteArray)]) ?_ 1 _ rfl; refine bu ?_; refine blk_put (cs := #[.string (⟨#[]⟩ : ByteArray), .int .i64 0, .slice none 0 0, .bool false, .string (⟨#[]⟩ : ByteArray)]) ?_ 0 _ rfl; refine bu ?_; exact BK147.out⟩; have n1_ : Aside0 (Below w.heap.size w (((((w6.setCell ⟨gb147, 0, none⟩ (.string ((rd_T63 l0 x8_1).f0))).setCell ⟨gb147, 1, none⟩ (.int .i64 ((rd_T63 l0 x8_1).f1))).setCell ⟨gb147, 2, none⟩ (.slice A146_2 ((rd_T63 l0 x8_1).f2).length c146_2)).setCell ⟨gb147, 3, none⟩ (.bool ((rd_T63 l0 x8_1).f3))).setCell ⟨gb147, 4, none⟩ (.string ((rd_T63 l0 x8_1).f4)))) := ⟨bz⟩
        (try (have hsd_ : ∀ (W_ : World) (n_ : Nat) (a_ : Addr) (v_ : Value), (W_.drewN n_).setCell a_ v_ = (W_.setCell a_ v_).drewN n_ := fun _ _ _ _ => rfl); simp only [hsd_]; clear hsd_)
        (try clear BK147); (try clear HB); generalize (((((w6.setCell ⟨gb147, 0, none⟩ (.string ((rd_T63 l0 x8_1).f0))).setCell ⟨gb147, 1, none⟩ (.int .i64 ((rd_T63 l0 x8_1).f1))).setCell ⟨gb147, 2, none⟩ (.slice A146_2 ((rd_T63 l0 x8_1).f2).length c146_2)).setCell ⟨gb147, 3, none⟩ (.bool ((rd_T63 l0 x8_1).f3))).setCell ⟨gb147, 4, none⟩ (.string ((rd_T63 l0 x8_1).f4))) = w31 at n0_ n1_ ⊢; have BK147 := n0_; have HB := n1_; clear n0_ n1_; replace BK147 := Az (blk_drew BK147.out); replace HB := Az (below_drew1 HB.out); refine start_ (n := 31) (S := fun w' => w'.cell? ⟨gb147, 0, none⟩ = some (.string ((rd_T63 l0 x8_1).f0)) ∧ w'.cell? ⟨gb147, 1, none⟩ = some (.int .i64 ((rd_T63 l0 x8_1).f1)) ∧ w'.cell? ⟨gb147, 2, none⟩ = some (.slice A146_2 ((rd_T63 l0 x8_1).f2).length c146_2) ∧ w'.cell? ⟨gb147, 3, none⟩ = some (.bool ((rd_T63 l0 x8_1).f3)) ∧ w'.cell? ⟨gb147, 4, none⟩ = some (.string ((rd_T63 l0 x8_1).f4))) (ds := []) A4_0 (by kernel_rfl) rfl rfl (bc5 BK147.out) (fun hHeld => ?_); refine with_tabW impl_RulesOk.tab4 impl_RulesOk.bits4 (fun HT_ HW_ => ?_); generalize w31.drew = w32 at BK147 HB hHeld ⊢; refine pz 0 13 A4_1 HT_.out ?_; refine tz 1 14 A4_2 HT_.out HW_.out hHeld ?_
        refine one_ (i := 2) (N := some 15) A4_3 rfl rfl (one_of HT_.out (by kernel_rfl)) (by decide) (fun K hK => ?_); refine goes_ Try.func43 (by kernel_rfl) rfl #[.string ((rd_T63 l0 x8_1).f0)] (by rfl) rfl rfl (by (try simp only [List.map_toArray, List.map_cons, List.map_nil]); first | done | rfl) ?_
        with_reducible refine (impl_isName.calls k1 ((rd_T63 l0 x8_1).f0) false _ A8.out).mono ?_
        rintro e w' ⟨rfl, ⟨nd, rfl⟩⟩; refine ⟨_, rfl, ?_⟩; refine hK.out _ _ (bc5 BK147.out) (fun hHeld => ?_); clear hK K; refine norm_ (a' := ?_) ?_ ?_; rotate_left
        ·
         show Act.put _ (some 15) _ = _
         simp only [Act.put, sA, sB, sC, i64_w, i32_w]
         rfl
        refine pz 3 16 A4_4 HT_.out ?_; refine pz 4 17 A4_5 HT_.out ?_; refine pu 5 18 A4_6 HT_.out ?_
        refine pu 6 19 A4_7 HT_.out ?_
        refine pu 7 20 A4_8 HT_.out ?_
        refine pu 8 21 A4_9 HT_.out ?_
        refine pu 9 22 A4_10 HT_.out ?_
        refine pu 10 23 A4_11 HT_.out ?_
        refine pu 11 24 A4_12 HT_.out ?_
        refine pu 12 25 A4_13 HT_.out ?_
        refine pu 13 26 A4_32 HT_.out ?_
        refine pu 14 27 A4_15 HT_.out ?_
        refine pu 15 28 A4_16 HT_.out ?_
        refine pu 16 29 A4_17 HT_.out ?_
        refine pu 17 30 A4_18 HT_.out ?_
        refine pz 18 31 A4_19 HT_.out ?_; refine pz 19 32 A4_20 HT_.out ?_; refine pu 20 33 A4_21 HT_.out ?_
        refine pu 21 34 A4_22 HT_.out ?_
        refine pu 22 35 A4_23 HT_.out ?_
        refine pu 23 36 A4_24 HT_.out ?_
        refine pz 24 37 A4_25 HT_.out ?_; refine pz 25 38 A4_26 HT_.out ?_; refine pu 26 39 A4_27 HT_.out ?_
        refine pu 27 40 A4_28 HT_.out ?_
        refine pu 28 41 A4_29 HT_.out ?_
        refine pu 29 42 A4_30 HT_.out ?_
        refine pz 30 43 A4_31 HT_.out ?_; refine done_ (done_of HT_.out (by kernel_rfl)) ?_
        try go_wp2
        go_meet
        case rel => exact ⟨_, (true), (by first | rfl | (simp; done) | (simp [*]; done)), H', ⟨by have := HK1.out; first | omega | exact Nat.le_refl _⟩, ⟨by refine bu ?_; exact BK147.out⟩, ⟨bz⟩⟩
      case rest =>
       clear HC5; (try clear c1); (try clear c2); (try clear p2); (try clear c4); (try clear c9); (try clear c14); (try clear c25); obtain ⟨kq, x43_4, rfl, HA, HJ4, BK147, HB⟩ := hcut
       cases kq with
       | zero => exact absurd HA.out (by simp [impl_RulesOk.j1])
       | succ kj4 =>
        have H := HA.out; clear HA; simp only [impl_RulesOk.j1] at H
        by_cases c33 : x43_4 = true
        ·
         subst c33
         have H1 : (some false) = some r := by rw [if_pos rfl] at H; exact H
         clear H; have H := H1; clear H1; obtain rfl := Option.some.inj H
         go_wp2
         go_ret
         exact ⟨rz, bz⟩
        ·
         replace c33 := Bool.eq_false_iff.mpr c33; subst c33
         have H1 : (if ((rd_T63 l0 x8_1).f4).toList = ([] : List UInt8) then (impl_RulesOk.l0 kj4 l0 l0 (l0.length : Int) (wrap64 (x8_1 + 1))) else ((impl_ruleAt.f l0 ((rd_T63 l0 x8_1).f4)).bind fun t154 => (if t154 < 0 then (some false) else (if t154 = x8_1 then (some false) else (if 0 ≤ t154 then (if t154 < (l0.length : Int) then (if ((rd_T63 l0 t154).f4).toList = ([] : List UInt8) then (impl_RulesOk.l0 kj4 l0 l0 (l0.length : Int) (wrap64 (x8_1 + 1))) else (some false)) else (none)) else (none)))))) = some r := by rw [if_neg (show ¬ (false = true) by decide)] at H; exact H
         clear H; have H := H1; clear H1
         by_cases c34 : ((rd_T63 l0 x8_1).f4).toList = ([] : List UInt8)
         ·
          rw [if_pos c34] at H; have c34b0 : (((rd_T63 l0 x8_1).f4).toList == ([] : List UInt8)) = true := beq_iff_eq.mpr c34; have c34b1 : (((rd_T63 l0 x8_1).f4).toList != ([] : List UInt8)) = false := bne_eq_false_iff_eq.mpr c34; clear c34; have H' := Az H; clear H; obtain ⟨hcz35_0, hcz35_1, hcz35_2, hcz35_3, hcz35_4⟩ := bc5 BK147.out; obtain ⟨hfz35_0, hfz35_1, hfz35_2, hfz35_3, hfz35_4⟩ := bf5_ BK147.out
          go_wp2
          go_roundg kj4
          case measure => have := HK1.out; have := HJ4.out; omega
          case rel => exact ⟨(wrap64 (x8_1 + 1)), (by first | rfl | (simp; done) | (simp [*]; done)), H', ⟨by have := HK1.out; have := HJ4.out; omega⟩, ⟨bz⟩⟩
         ·
          rw [if_neg c34] at H; have c34b0 : (((rd_T63 l0 x8_1).f4).toList == ([] : List UInt8)) = false := beq_eq_false_iff_ne.mpr c34; have c34b1 : (((rd_T63 l0 x8_1).f4).toList != ([] : List UInt8)) = true := bne_iff_ne.mpr c34; replace H := Option.bind_eq_some_iff.mp H; obtain ⟨t154, A360, H⟩ := H; replace H : (if t154 < 0 then (some false) else (if t154 = x8_1 then (some false) else (if 0 ≤ t154 then (if t154 < (l0.length : Int) then (if ((rd_T63 l0 t154).f4).toList = ([] : List UInt8) then (impl_RulesOk.l0 kj4 l0 l0 (l0.length : Int) (wrap64 (x8_1 + 1))) else (some false)) else (none)) else (none)))) = some r := H; have A36 := Az A360; clear A360
          by_cases c37 : t154 < 0
          ·
           rw [if_pos c37] at H; have c37b0 : decide (t154 < 0) = true := decide_eq_true c37; clear c37; obtain rfl := Option.some.inj H; obtain ⟨hcz38_0, hcz38_1, hcz38_2, hcz38_3, hcz38_4⟩ := bc5 BK147.out; obtain ⟨hfz38_0, hfz38_1, hfz38_2, hfz38_3, hfz38_4⟩ := bf5_ BK147.out
           go_wp2_with (first | ((with_reducible refine gate_callee (f := 46) rfl ?_); refine goesL_ (some 50) rfl rfl Try.func46 (by kernel_rfl) rfl #[.slice (some ad146) l0.length c0, .string ((rd_T63 l0 x8_1).f4)] rfl (by (try simp only [List.map_toArray, List.map_cons, List.map_nil]); first | done | rfl) ?_; (with_reducible refine (impl_ruleAt.calls _ _ l0 ((rd_T63 l0 x8_1).f4) t154 _ ?side1 ?side2 A36.out).mono ?_); (case side1 => exact cu HR0.out HB.out); (case side2 => exact HC0.out); rintro e w39 ⟨rfl, hb⟩; refine ⟨_, rfl, ?_⟩; replace BK147 := Az (blk_below (bu BK147.out) hb); replace HB := Az (below_step bz hb); (try clear hb); (try clear hb2); (try clear hk); (try clear hi)))
           go_ret
           exact ⟨rz, bz⟩
          ·
           rw [if_neg c37] at H; have c37b0 : decide (t154 < 0) = false := decide_eq_false c37; clear c37
           by_cases c40 : t154 = x8_1
           ·
            rw [if_pos c40] at H; have c40b0 : (t154 == x8_1) = true := beq_iff_eq.mpr c40; have c40b1 : (t154 != x8_1) = false := bne_eq_false_iff_eq.mpr c40; clear c40; obtain rfl := Option.some.inj H; obtain ⟨hcz41_0, hcz41_1, hcz41_2, hcz41_3, hcz41_4⟩ := bc5 BK147.out; obtain ⟨hfz41_0, hfz41_1, hfz41_2, hfz41_3, hfz41_4⟩ := bf5_ BK147.out
            go_wp2_with (first | ((with_reducible refine gate_callee (f := 46) rfl ?_); refine goesL_ (some 50) rfl rfl Try.func46 (by kernel_rfl) rfl #[.slice (some ad146) l0.length c0, .string ((rd_T63 l0 x8_1).f4)] rfl (by (try simp only [List.map_toArray, List.map_cons, List.map_nil]); first | done | rfl) ?_; (with_reducible refine (impl_ruleAt.calls _ _ l0 ((rd_T63 l0 x8_1).f4) t154 _ ?side1 ?side2 A36.out).mono ?_); (case side1 => exact cu HR0.out HB.out); (case side2 => exact HC0.out); rintro e w42 ⟨rfl, hb⟩; refine ⟨_, rfl, ?_⟩; replace BK147 := Az (blk_below (bu BK147.out) hb); replace HB := Az (below_step bz hb); (try clear hb); (try clear hb2); (try clear hk); (try clear hi)))
            go_ret
            exact ⟨rz, bz⟩
           ·
            rw [if_neg c40] at H; have c40b0 : (t154 == x8_1) = false := beq_eq_false_iff_ne.mpr c40; have c40b1 : (t154 != x8_1) = true := bne_iff_ne.mpr c40
            by_cases c43 : 0 ≤ t154
            ·
             rw [if_pos c43] at H; have c43b0 : decide (0 ≤ t154) = true := decide_eq_true c43; clear c43
             by_cases c44 : t154 < (l0.length : Int)
             ·
              rw [if_pos c44] at H; have c44b0 : decide (t154 < (l0.length : Int)) = true := decide_eq_true c44; clear c44
              by_cases c45 : ((rd_T63 l0 t154).f4).toList = ([] : List UInt8)
              ·
               rw [if_pos c45] at H; have c45b0 : (((rd_T63 l0 t154).f4).toList == ([] : List UInt8)) = true := beq_iff_eq.mpr c45; have c45b1 : (((rd_T63 l0 t154).f4).toList != ([] : List UInt8)) = false := bne_eq_false_iff_eq.mpr c45; clear c45; have H' := Az H; clear H; obtain ⟨hcz46_0, hcz46_1, hcz46_2, hcz46_3, hcz46_4⟩ := bc5 BK147.out; obtain ⟨hfz46_0, hfz46_1, hfz46_2, hfz46_3, hfz46_4⟩ := bf5_ BK147.out
               go_wp2_with (first | ((with_reducible refine gate_callee (f := 46) rfl ?_); refine goesL_ (some 50) rfl rfl Try.func46 (by kernel_rfl) rfl #[.slice (some ad146) l0.length c0, .string ((rd_T63 l0 x8_1).f4)] rfl (by (try simp only [List.map_toArray, List.map_cons, List.map_nil]); first | done | rfl) ?_; (with_reducible refine (impl_ruleAt.calls _ _ l0 ((rd_T63 l0 x8_1).f4) t154 _ ?side1 ?side2 A36.out).mono ?_); (case side1 => exact cu HR0.out HB.out); (case side2 => exact HC0.out); rintro e w47 ⟨rfl, hb⟩; refine ⟨_, rfl, ?_⟩; replace BK147 := Az (blk_below (bu BK147.out) hb); replace HB := Az (below_step bz hb); (try clear hb); (try clear hb2); (try clear hk); (try clear hi); have p155 : 0 ≤ (t154 : Int) := oz; have q155 : t154 < (l0.length : Int) := oz; obtain ⟨ad155, A155_2, c155_2, e155, hx155_0, hx155_1, hx155_2, hx155_3, hx155_4, hl155_2, hi155_2⟩ := at_T63 HR0.out t154 p155 q155; obtain rfl : ad146 = ad155 := (by injection e155); replace hx155_0 := pw_cell_below HB.out hx155_0; replace hx155_1 := pw_cell_below HB.out hx155_1; replace hx155_2 := pw_cell_below HB.out hx155_2; replace hx155_3 := pw_cell_below HB.out hx155_3; replace hx155_4 := pw_cell_below HB.out hx155_4; have HR155_2 := Az hi155_2; have HC155_2 := Az hl155_2; clear hi155_2 hl155_2; replace p155 := eq_true p155; replace q155 := eq_true q155))
               go_roundg kj4
               case measure => have := HK1.out; have := HJ4.out; omega
               case rel => exact ⟨(wrap64 (x8_1 + 1)), (by first | rfl | (simp; done) | (simp [*]; done)), H', ⟨by have := HK1.out; have := HJ4.out; omega⟩, ⟨bz⟩⟩
              ·
               rw [if_neg c45] at H; have c45b0 : (((rd_T63 l0 t154).f4).toList == ([] : List UInt8)) = false := beq_eq_false_iff_ne.mpr c45; have c45b1 : (((rd_T63 l0 t154).f4).toList != ([] : List UInt8)) = true := bne_iff_ne.mpr c45; obtain rfl := Option.some.inj H; obtain ⟨hcz48_0, hcz48_1, hcz48_2, hcz48_3, hcz48_4⟩ := bc5 BK147.out; obtain ⟨hfz48_0, hfz48_1, hfz48_2, hfz48_3, hfz48_4⟩ := bf5_ BK147.out
               go_wp2_with (first | ((with_reducible refine gate_callee (f := 46) rfl ?_); refine goesL_ (some 50) rfl rfl Try.func46 (by kernel_rfl) rfl #[.slice (some ad146) l0.length c0, .string ((rd_T63 l0 x8_1).f4)] rfl (by (try simp only [List.map_toArray, List.map_cons, List.map_nil]); first | done | rfl) ?_; (with_reducible refine (impl_ruleAt.calls _ _ l0 ((rd_T63 l0 x8_1).f4) t154 _ ?side1 ?side2 A36.out).mono ?_); (case side1 => exact cu HR0.out HB.out); (case side2 => exact HC0.out); rintro e w49 ⟨rfl, hb⟩; refine ⟨_, rfl, ?_⟩; replace BK147 := Az (blk_below (bu BK147.out) hb); replace HB := Az (below_step bz hb); (try clear hb); (try clear hb2); (try clear hk); (try clear hi); have p155 : 0 ≤ (t154 : Int) := oz; have q155 : t154 < (l0.length : Int) := oz; obtain ⟨ad155, A155_2, c155_2, e155, hx155_0, hx155_1, hx155_2, hx155_3, hx155_4, hl155_2, hi155_2⟩ := at_T63 HR0.out t154 p155 q155; obtain rfl : ad146 = ad155 := (by injection e155); replace hx155_0 := pw_cell_below HB.out hx155_0; replace hx155_1 := pw_cell_below HB.out hx155_1; replace hx155_2 := pw_cell_below HB.out hx155_2; replace hx155_3 := pw_cell_below HB.out hx155_3; replace hx155_4 := pw_cell_below HB.out hx155_4; have HR155_2 := Az hi155_2; have HC155_2 := Az hl155_2; clear hi155_2 hl155_2; replace p155 := eq_true p155; replace q155 := eq_true q155))
               go_ret
               exact ⟨rz, bz⟩
             ·
              rw [if_neg c44] at H; exact absurd H (by simp)
            ·
             rw [if_neg c43] at H; exact absurd H (by simp)
     ·
      rw [if_neg c4] at H; exact absurd H (by simp)
    ·
     rw [if_neg c3] at H; exact absurd H (by simp)
   ·
    rw [if_neg c2] at H; have c2b0 : decide (x8_1 < (l0.length : Int)) = false := decide_eq_false c2; clear c2; obtain rfl := Option.some.inj H
    go_wp2
    go_ret
    exact ⟨rz, bz⟩

end Go.Proofs.Ytjndpoofjidamaa.PFnExactTake14
