/- Walks of the functions named below, by a program of the session over the kit's printer. -/
import Derived.Test.YtjndpoofjidamaaPFnExactTake14x0
import Derived.Test.YtjndpoofjidamaaPFnExactTake14x3
import Derived.Test.YtjndpoofjidamaaPFnExactTake14x4
namespace Go.Proofs.Ytjndpoofjidamaa.PFnExactTake14
open Go.RowKit Go.Proofs.YtjndpoofjidamaaW.PrintWords Go.Proofs.YtjndpoofjidamaaW.PrintLast Go.Proofs.YtjndpoofjidamaaW.PrintMore
attribute [local go_sem] max2_int min2_int max_two min_two max_three min_three max_four min_four   -- for this text's walks alone
set_option linter.unusedVariables false
set_option linter.unusedSimpArgs false
abbrev A5_0 := #[O,O,O,O,O,O,O,O,O,O,O]
abbrev A5_1 := #[I,O,O,O,O,O,O,O,O,O,O]
abbrev A5_2 := #[I,O,O,I,O,O,O,O,O,O,O]
abbrev A5_3 := #[I,O,O,I,O,O,I,O,O,O,O]
abbrev A5_4 := #[I,I,O,I,O,O,I,O,O,O,O]
abbrev A5_5 := #[I,I,O,I,I,O,I,O,O,O,O]
abbrev A5_6 := #[I,I,O,I,I,O,I,I,O,O,O]
abbrev A5_7 := #[I,I,I,I,I,O,I,I,O,O,O]
abbrev A5_8 := #[I,I,I,I,I,I,I,I,O,O,O]
abbrev A5_9 := #[I,I,I,I,I,I,I,I,I,O,O]
abbrev A5_10 := #[I,I,I,I,I,I,I,I,I,I,O]
abbrev A5_11 := #[I,I,I,I,I,I,I,I,I,I,I]

/-! ### impl_namesOk: function 59 -/
def impl_namesOk.l0 : Nat → List (S63) → List ByteArray → List ByteArray → Int → Int → Option (Bool)
 | 0, _, _, _, _, _ => none
 | k + 1, x0, x1, x7, x8, x9 => if x9 < x8 then (if 0 ≤ x9 then (if x9 < (x7.length : Int) then ((impl_ruleAt.f x0 (rdOf ByteArray.empty x7 x9)).bind fun t157 => (if t157 < 0 then (some false) else (if x9 > 0 then (if 0 ≤ (wrap64 (x9 - 1)) then (if (wrap64 (x9 - 1)) < (x1.length : Int) then (if ((Op.bytesLess ((rdOf ByteArray.empty x1 (wrap64 (x9 - 1))).toList) ((rdOf ByteArray.empty x7 x9).toList)) = true) then (impl_namesOk.l0 k x0 x1 x7 x8 (wrap64 (x9 + 1))) else (some false)) else (none)) else (none)) else (impl_namesOk.l0 k x0 x1 x7 x8 (wrap64 (x9 + 1)))))) else (none)) else (none)) else (some true)
def impl_namesOk.f (k : Nat) (l0 : List (S63)) (l1 : List ByteArray) : Option (Bool) := impl_namesOk.l0 k l0 l1 l1 (l1.length : Int) 0
set_option maxHeartbeats 8000000 in
set_option maxRecDepth 100000 in
theorem impl_namesOk.calls (k : Nat) (A0 : Option Addr) (c0 : Nat) (l0 : List (S63)) (A1 : Option Addr) (c1 : Nat) (l1 : List ByteArray) (r : Bool) (w : World) (hr0 : Kd.C k63 w A0 l0.length l0) (hc0 : l0.length ≤ c0) (hr1 : Kd.C Kd.string w A1 l1.length l1) (hc1 : l1.length ≤ c1) (h : impl_namesOk.f k l0 l1 = some r) :
  Calls Try.prog 59 #[.slice A0 l0.length c0, .slice A1 l1.length c1] w fun e w' => e = .returned (.bool r) ∧ Below w.heap.size w w' := by
 have HR0 := Az hr0; have HC0 := Az hc0; clear hr0 hc0; have HR1 := Az hr1; have HC1 := Az hc1; clear hr1 hc1; have HB := Az (Below.refl w.heap.size w); have H : (impl_namesOk.l0 k l0 l1 l1 (l1.length : Int) 0) = some r := h; clear h; have H' := Az H; clear H
 go_enter Try.func59, Try.ntmps59
 go_wp2
 go_loopg [9] k (fun kq v9 w' => ∃ (x9_1 : Int), v9 = .int .i64 x9_1 ∧ Aside0 (impl_namesOk.l0 kq l0 l1 l1 (l1.length : Int) x9_1 = some r) ∧ Aside0 (kq ≤ k) ∧ Aside0 (Below w.heap.size w w'))
 case atStart => exact ⟨(0), (by first | rfl | (simp; done) | (simp [*]; done)), H', ⟨Nat.le_refl _⟩, ⟨bz⟩⟩
 case round =>
  clear H'; (try clear c1); (try clear p2); obtain ⟨x9_1, rfl, HA, HK1, HB⟩ := hrel
  cases gk with
  | zero => exact absurd HA.out (by simp [impl_namesOk.l0])
  | succ k1 =>
   have H := HA.out; clear HA; simp only [impl_namesOk.l0] at H
   by_cases c3 : x9_1 < (l1.length : Int)
   ·
    rw [if_pos c3] at H; have c3b0 : decide (x9_1 < (l1.length : Int)) = true := decide_eq_true c3; clear c3
    by_cases c4 : 0 ≤ x9_1
    ·
     rw [if_pos c4] at H; have c4b0 : decide (0 ≤ x9_1) = true := decide_eq_true c4; clear c4
     by_cases c5 : x9_1 < (l1.length : Int)
     ·
      rw [if_pos c5] at H; have c5b0 : decide (x9_1 < (l1.length : Int)) = true := decide_eq_true c5; clear c5; replace H := Option.bind_eq_some_iff.mp H; obtain ⟨t157, A60, H⟩ := H; replace H : (if t157 < 0 then (some false) else (if x9_1 > 0 then (if 0 ≤ (wrap64 (x9_1 - 1)) then (if (wrap64 (x9_1 - 1)) < (l1.length : Int) then (if ((Op.bytesLess ((rdOf ByteArray.empty l1 (wrap64 (x9_1 - 1))).toList) ((rdOf ByteArray.empty l1 x9_1).toList)) = true) then (impl_namesOk.l0 k1 l0 l1 l1 (l1.length : Int) (wrap64 (x9_1 + 1))) else (some false)) else (none)) else (none)) else (impl_namesOk.l0 k1 l0 l1 l1 (l1.length : Int) (wrap64 (x9_1 + 1))))) = some r := H; have A6 := Az A60; clear A60
      by_cases c7 : t157 < 0
      ·
       rw [if_pos c7] at H; have c7b0 : decide (t157 < 0) = true := decide_eq_true c7; clear c7; obtain rfl := Option.some.inj H; have p156 : 0 ≤ (x9_1 : Int) := oz; have q156 : x9_1 < (l1.length : Int) := oz; obtain ⟨ad156, e156, hx156_0⟩ := Kd.at_string HR1.out x9_1 p156 q156
       cases e156
       replace hx156_0 := pw_cell_below HB.out hx156_0; replace p156 := eq_true p156; replace q156 := eq_true q156
       go_wp2_with (first | ((with_reducible refine gate_callee (f := 46) rfl ?_); refine goesL_ (some 16) rfl rfl Try.func46 (by kernel_rfl) rfl #[.slice A0 l0.length c0, .string (rdOf ByteArray.empty l1 x9_1)] rfl (by (try simp only [List.map_toArray, List.map_cons, List.map_nil]); first | done | rfl) ?_; (with_reducible refine (impl_ruleAt.calls _ _ l0 (rdOf ByteArray.empty l1 x9_1) t157 _ ?side1 ?side2 A6.out).mono ?_); (case side1 => exact cu HR0.out HB.out); (case side2 => exact HC0.out); rintro e w8 ⟨rfl, hb⟩; refine ⟨_, rfl, ?_⟩; replace HB := Az (below_step bz hb); (try clear hb); (try clear hb2); (try clear hk); (try clear hi)))
       go_ret
       exact ⟨rz, bz⟩
      ·
       rw [if_neg c7] at H; have c7b0 : decide (t157 < 0) = false := decide_eq_false c7; clear c7
       by_cases c9 : x9_1 > 0
       ·
        rw [if_pos c9] at H; have c9b0 : decide (0 < x9_1) = true := decide_eq_true c9; clear c9; obtain ⟨ji10, hji10⟩ : ∃ j_ : Int, (wrap64 (x9_1 - 1)) = j_ := ⟨_, rfl⟩
        replace H : (if 0 ≤ (ji10) then (if (ji10) < (l1.length : Int) then (if ((Op.bytesLess ((rdOf ByteArray.empty l1 (ji10)).toList) ((rdOf ByteArray.empty l1 x9_1).toList)) = true) then (impl_namesOk.l0 k1 l0 l1 l1 (l1.length : Int) (wrap64 (x9_1 + 1))) else (some false)) else (none)) else (none)) = some r := by first | (rw [hji10] at H; exact H) | (simp only [hji10] at H ⊢; exact H)
        (try rw [hji10] at A6)
        have hji10w : (IntKind.i64.wrap (x9_1 - 1)) = ji10 := (i64_w _).trans hji10
        by_cases c11 : 0 ≤ (ji10)
        ·
         rw [if_pos c11] at H; have c11b0 : decide (0 ≤ (ji10)) = true := decide_eq_true c11; clear c11
         by_cases c12 : (ji10) < (l1.length : Int)
         ·
          rw [if_pos c12] at H; have c12b0 : decide ((ji10) < (l1.length : Int)) = true := decide_eq_true c12; clear c12
          by_cases c13 : ((Op.bytesLess ((rdOf ByteArray.empty l1 (ji10)).toList) ((rdOf ByteArray.empty l1 x9_1).toList)) = true)
          ·
           rw [if_pos c13] at H; have c13b0 : (Op.bytesLess ((rdOf ByteArray.empty l1 (ji10)).toList) ((rdOf ByteArray.empty l1 x9_1).toList)) = true := c13; clear c13; have H' := Az H; clear H; have p156 : 0 ≤ (x9_1 : Int) := oz; have q156 : x9_1 < (l1.length : Int) := oz; obtain ⟨ad156, e156, hx156_0⟩ := Kd.at_string HR1.out x9_1 p156 q156
           cases e156
           replace hx156_0 := pw_cell_below HB.out hx156_0; replace p156 := eq_true p156; replace q156 := eq_true q156
           go_wp2_with (first | ((with_reducible refine gate_callee (f := 46) rfl ?_); refine goesL_ (some 16) rfl rfl Try.func46 (by kernel_rfl) rfl #[.slice A0 l0.length c0, .string (rdOf ByteArray.empty l1 x9_1)] rfl (by (try simp only [List.map_toArray, List.map_cons, List.map_nil]); first | done | rfl) ?_; (with_reducible refine (impl_ruleAt.calls _ _ l0 (rdOf ByteArray.empty l1 x9_1) t157 _ ?side1 ?side2 A6.out).mono ?_); (case side1 => exact cu HR0.out HB.out); (case side2 => exact HC0.out); rintro e w14 ⟨rfl, hb⟩; refine ⟨_, rfl, ?_⟩; replace HB := Az (below_step bz hb); (try clear hb); (try clear hb2); (try clear hk); (try clear hi); have p158 : 0 ≤ ((ji10) : Int) := oz; have q158 : (ji10) < (l1.length : Int) := oz; obtain ⟨ad158, e158, hx158_0⟩ := Kd.at_string HR1.out (ji10) p158 q158; obtain rfl : ad156 = ad158 := (by injection e158); replace hx158_0 := pw_cell_below HB.out hx158_0; replace p158 := eq_true p158; replace q158 := eq_true q158))
           go_roundg k1
           case measure => have := HK1.out; omega
           case rel => exact ⟨(wrap64 (x9_1 + 1)), (by first | rfl | (simp; done) | (simp [*]; done)), H', ⟨by have := HK1.out; omega⟩, ⟨bz⟩⟩
          ·
           rw [if_neg c13] at H
           have c13b0 : (Op.bytesLess ((rdOf ByteArray.empty l1 (ji10)).toList) ((rdOf ByteArray.empty l1 x9_1).toList)) = false := by simpa using c13
           clear c13; obtain rfl := Option.some.inj H; have p156 : 0 ≤ (x9_1 : Int) := oz; have q156 : x9_1 < (l1.length : Int) := oz; obtain ⟨ad156, e156, hx156_0⟩ := Kd.at_string HR1.out x9_1 p156 q156
           cases e156
           replace hx156_0 := pw_cell_below HB.out hx156_0; replace p156 := eq_true p156; replace q156 := eq_true q156
           go_wp2_with (first | ((with_reducible refine gate_callee (f := 46) rfl ?_); refine goesL_ (some 16) rfl rfl Try.func46 (by kernel_rfl) rfl #[.slice A0 l0.length c0, .string (rdOf ByteArray.empty l1 x9_1)] rfl (by (try simp only [List.map_toArray, List.map_cons, List.map_nil]); first | done | rfl) ?_; (with_reducible refine (impl_ruleAt.calls _ _ l0 (rdOf ByteArray.empty l1 x9_1) t157 _ ?side1 ?side2 A6.out).mono ?_); (case side1 => exact cu HR0.out HB.out); (case side2 => exact HC0.out); rintro e w15 ⟨rfl, hb⟩; refine ⟨_, rfl, ?_⟩; replace HB := Az (below_step bz hb); (try clear hb); (try clear hb2); (try clear hk); (try clear hi); have p158 : 0 ≤ ((ji10) : Int) := oz; have q158 : (ji10) < (l1.length : Int) := oz; obtain ⟨ad158, e158, hx158_0⟩ := Kd.at_string HR1.out (ji10) p158 q158; obtain rfl : ad156 = ad158 := (by injection e158); replace hx158_0 := pw_cell_below HB.out hx158_0; replace p158 := eq_true p158; replace q158 := eq_true q158))
           go_ret
           exact ⟨by first | rfl | (simp [errW_none, errW_some] <;> rfl) | (simp only [← hji10]; first | rfl | (simp [errW_none, errW_some] <;> rfl)) | (simp [*, errW_none, errW_some] <;> rfl), bz⟩
         ·
          rw [if_neg c12] at H; exact absurd H (by simp)
        ·
         rw [if_neg c11] at H; exact absurd H (by simp)
       ·
        rw [if_neg c9] at H; have c9b0 : decide (0 < x9_1) = false := decide_eq_false c9; clear c9; have H' := Az H; clear H; have p156 : 0 ≤ (x9_1 : Int) := oz; have q156 : x9_1 < (l1.length : Int) := oz; obtain ⟨ad156, e156, hx156_0⟩ := Kd.at_string HR1.out x9_1 p156 q156
        cases e156
        replace hx156_0 := pw_cell_below HB.out hx156_0; replace p156 := eq_true p156; replace q156 := eq_true q156
        go_wp2_with (first | ((with_reducible refine gate_callee (f := 46) rfl ?_); refine goesL_ (some 16) rfl rfl Try.func46 (by kernel_rfl) rfl #[.slice A0 l0.length c0, .string (rdOf ByteArray.empty l1 x9_1)] rfl (by (try simp only [List.map_toArray, List.map_cons, List.map_nil]); first | done | rfl) ?_; (with_reducible refine (impl_ruleAt.calls _ _ l0 (rdOf ByteArray.empty l1 x9_1) t157 _ ?side1 ?side2 A6.out).mono ?_); (case side1 => exact cu HR0.out HB.out); (case side2 => exact HC0.out); rintro e w16 ⟨rfl, hb⟩; refine ⟨_, rfl, ?_⟩; replace HB := Az (below_step bz hb); (try clear hb); (try clear hb2); (try clear hk); (try clear hi)))
        go_roundg k1
        case measure => have := HK1.out; omega
        case rel => exact ⟨(wrap64 (x9_1 + 1)), (by first | rfl | (simp; done) | (simp [*]; done)), H', ⟨by have := HK1.out; omega⟩, ⟨bz⟩⟩
     ·
      rw [if_neg c5] at H; exact absurd H (by simp)
    ·
     rw [if_neg c4] at H; exact absurd H (by simp)
   ·
    rw [if_neg c3] at H; have c3b0 : decide (x9_1 < (l1.length : Int)) = false := decide_eq_false c3; clear c3; obtain rfl := Option.some.inj H
    go_wp2
    go_ret
    exact ⟨rz, bz⟩

/-! ### impl_panelOk: function 58 -/
def impl_panelOk.f (k : Nat) (l0 : List (S63)) (l1_0 : List ByteArray) (l1_1 : List ByteArray) (l1_2 : List ByteArray) : Option (Bool) := (impl_RulesOk.f k l0).bind fun t160 => (if t160 = true then ((impl_namesOk.f k l0 l1_0).bind fun t161 => (if t161 = true then ((impl_namesOk.f k l0 l1_1).bind fun t162 => (if t162 = true then ((impl_namesOk.f k l0 l1_2).bind fun t163 => (some t163)) else (some false))) else (some false))) else (some false))
set_option maxHeartbeats 8000000 in
set_option maxRecDepth 100000 in
theorem impl_panelOk.calls (k : Nat) (A0 : Option Addr) (c0 : Nat) (l0 : List (S63)) (A1_0 : Option Addr) (c1_0 : Nat) (l1_0 : List ByteArray) (A1_1 : Option Addr) (c1_1 : Nat) (l1_1 : List ByteArray) (A1_2 : Option Addr) (c1_2 : Nat) (l1_2 : List ByteArray) (r : Bool) (w : World) (hr0 : Kd.C k63 w A0 l0.length l0) (hc0 : l0.length ≤ c0) (hr1_0 : Kd.C Kd.string w A1_0 l1_0.length l1_0) (hc1_0 : l1_0.length ≤ c1_0) (hr1_1 : Kd.C Kd.string w A1_1 l1_1.length l1_1) (hc1_1 : l1_1.length ≤ c1_1) (hr1_2 : Kd.C Kd.string w A1_2 l1_2.length l1_2) (hc1_2 : l1_2.length ≤ c1_2) (h : impl_panelOk.f k l0 l1_0 l1_1 l1_2 = some r) :
  Calls Try.prog 58 #[.slice A0 l0.length c0, .agg #[.slice A1_0 l1_0.length c1_0, .slice A1_1 l1_1.length c1_1, .slice A1_2 l1_2.length c1_2]] w fun e w' => e = .returned (.bool r) ∧ Below w.heap.size w w' := by
 have hu47 := Try.underlying47; have HR0 := Az hr0; have HC0 := Az hc0; clear hr0 hc0; have HR1_0 := Az hr1_0; have HC1_0 := Az hc1_0; clear hr1_0 hc1_0; have HR1_1 := Az hr1_1; have HC1_1 := Az hc1_1; clear hr1_1 hc1_1; have HR1_2 := Az hr1_2; have HC1_2 := Az hc1_2; clear hr1_2 hc1_2; have HB := Az (Below.refl w.heap.size w); have H : ((impl_RulesOk.f k l0).bind fun t160 => (if t160 = true then ((impl_namesOk.f k l0 l1_0).bind fun t161 => (if t161 = true then ((impl_namesOk.f k l0 l1_1).bind fun t162 => (if t162 = true then ((impl_namesOk.f k l0 l1_2).bind fun t163 => (some t163)) else (some false))) else (some false))) else (some false))) = some r := h; clear h; replace H := Option.bind_eq_some_iff.mp H; obtain ⟨t160, A30, H⟩ := H; replace H : (if t160 = true then ((impl_namesOk.f k l0 l1_0).bind fun t161 => (if t161 = true then ((impl_namesOk.f k l0 l1_1).bind fun t162 => (if t162 = true then ((impl_namesOk.f k l0 l1_2).bind fun t163 => (some t163)) else (some false))) else (some false))) else (some false)) = some r := H; have A3 := Az A30; clear A30
 by_cases c4 : t160 = true
 ·
  subst c4
  have H1 : ((impl_namesOk.f k l0 l1_0).bind fun t161 => (if t161 = true then ((impl_namesOk.f k l0 l1_1).bind fun t162 => (if t162 = true then ((impl_namesOk.f k l0 l1_2).bind fun t163 => (some t163)) else (some false))) else (some false))) = some r := by rw [if_pos rfl] at H; exact H
  clear H; have H := H1; clear H1; replace H := Option.bind_eq_some_iff.mp H; obtain ⟨t161, A50, H⟩ := H; replace H : (if t161 = true then ((impl_namesOk.f k l0 l1_1).bind fun t162 => (if t162 = true then ((impl_namesOk.f k l0 l1_2).bind fun t163 => (some t163)) else (some false))) else (some false)) = some r := H; have A5 := Az A50; clear A50
  by_cases c6 : t161 = true
  ·
   subst c6
   have H1 : ((impl_namesOk.f k l0 l1_1).bind fun t162 => (if t162 = true then ((impl_namesOk.f k l0 l1_2).bind fun t163 => (some t163)) else (some false))) = some r := by rw [if_pos rfl] at H; exact H
   clear H; have H := H1; clear H1; replace H := Option.bind_eq_some_iff.mp H; obtain ⟨t162, A70, H⟩ := H; replace H : (if t162 = true then ((impl_namesOk.f k l0 l1_2).bind fun t163 => (some t163)) else (some false)) = some r := H; have A7 := Az A70; clear A70
   by_cases c8 : t162 = true
   ·
    subst c8
    have H1 : ((impl_namesOk.f k l0 l1_2).bind fun t163 => (some t163)) = some r := by rw [if_pos rfl] at H; exact H
    clear H; have H := H1; clear H1; replace H := Option.bind_eq_some_iff.mp H; obtain ⟨t163, A90, H⟩ := H; replace H : (some t163) = some r := H; have A9 := Az A90; clear A90; obtain rfl := Option.some.inj H
    go_enter Try.func58, Try.ntmps58
    go_wp2_with (first | ((with_reducible refine gate_dst (N := 3) rfl ?_); refine box_event ?hg (N := 3) ?hd (cs := #[.slice A1_0 l1_0.length c1_0, .slice A1_1 l1_1.length c1_1, .slice A1_2 l1_2.length c1_2]) (t := 47) ?hr ?_; (case hd => rfl); (case hg => rfl); (case hr => first | (go_simp; done) | (go_simp; rfl)); intro gb159 hg w10 hbox hb; have BK159 := Az (hbox); have GW159 := Az ((by rw [hg]; exact (below_size bz) : w.heap.size ≤ gb159)); replace HB := Az (below_step bz hb); have GE159 := GW159; clear hb hbox hg) | ((with_reducible refine gate_callee (f := 12) rfl ?_); refine goesL_ (some 6) rfl rfl Try.func12 (by kernel_rfl) rfl #[.slice A0 l0.length c0] rfl (by (try simp only [List.map_toArray, List.map_cons, List.map_nil]); first | done | rfl) ?_; (with_reducible refine (impl_RulesOk.calls k _ _ l0 true _ ?side1 ?side2 A3.out).mono ?_); (case side1 => exact cu HR0.out HB.out); (case side2 => exact HC0.out); rintro e w11 ⟨rfl, hb⟩; refine ⟨_, rfl, ?_⟩; replace BK159 := Az (blk_below (bu BK159.out) hb); replace HB := Az (below_step bz hb); (try clear hb); (try clear hb2); (try clear hk); (try clear hi); obtain ⟨hcz12_0, hcz12_1, hcz12_2⟩ := bc3 BK159.out; obtain ⟨hfz12_0, hfz12_1, hfz12_2⟩ := bf3_ BK159.out) | (go_at_call 59; (with_reducible refine (impl_namesOk.calls k _ _ l0 _ _ l1_0 true _ ?side1 ?side2 ?side3 ?side4 A5.out).mono ?_); (case side1 => exact cu HR0.out HB.out); (case side2 => exact HC0.out); (case side3 => exact cu HR1_0.out HB.out); (case side4 => exact HC1_0.out); rintro e w13 ⟨rfl, hb⟩; replace BK159 := Az (blk_below (bu BK159.out) hb); replace HB := Az (below_step bz hb); (try clear hb); (try clear hb2); (try clear hk); (try clear hi); obtain ⟨hcz14_0, hcz14_1, hcz14_2⟩ := bc3 BK159.out; obtain ⟨hfz14_0, hfz14_1, hfz14_2⟩ := bf3_ BK159.out) | (go_at_call 59; (with_reducible refine (impl_namesOk.calls k _ _ l0 _ _ l1_1 true _ ?side1 ?side2 ?side3 ?side4 A7.out).mono ?_); (case side1 => exact cu HR0.out HB.out); (case side2 => exact HC0.out); (case side3 => exact cu HR1_1.out HB.out); (case side4 => exact HC1_1.out); rintro e w15 ⟨rfl, hb⟩; replace BK159 := Az (blk_below (bu BK159.out) hb); replace HB := Az (below_step bz hb); (try clear hb); (try clear hb2); (try clear hk); (try clear hi); obtain ⟨hcz16_0, hcz16_1, hcz16_2⟩ := bc3 BK159.out; obtain ⟨hfz16_0, hfz16_1, hfz16_2⟩ := bf3_ BK159.out) | (go_at_call 59; (with_reducible refine (impl_namesOk.calls k _ _ l0 _ _ l1_2 t163 _ ?side1 ?side2 ?side3 ?side4 A9.out).mono ?_); (case side1 => exact cu HR0.out HB.out); (case side2 => exact HC0.out); (case side3 => exact cu HR1_2.out HB.out); (case side4 => exact HC1_2.out); rintro e w17 ⟨rfl, hb⟩; replace BK159 := Az (blk_below (bu BK159.out) hb); replace HB := Az (below_step bz hb); (try clear hb); (try clear hb2); (try clear hk); (try clear hi)))
    go_ret
    exact ⟨rz, bz⟩
   ·
    replace c8 := Bool.eq_false_iff.mpr c8; subst c8
    have H1 : (some false) = some r := by rw [if_neg (show ¬ (false = true) by decide)] at H; exact H
    clear H; have H := H1; clear H1; obtain rfl := Option.some.inj H
    go_enter Try.func58, Try.ntmps58
    go_wp2_with (first | ((with_reducible refine gate_dst (N := 3) rfl ?_); refine box_event ?hg (N := 3) ?hd (cs := #[.slice A1_0 l1_0.length c1_0, .slice A1_1 l1_1.length c1_1, .slice A1_2 l1_2.length c1_2]) (t := 47) ?hr ?_; (case hd => rfl); (case hg => rfl); (case hr => first | (go_simp; done) | (go_simp; rfl)); intro gb159 hg w18 hbox hb; have BK159 := Az (hbox); have GW159 := Az ((by rw [hg]; exact (below_size bz) : w.heap.size ≤ gb159)); replace HB := Az (below_step bz hb); have GE159 := GW159; clear hb hbox hg) | ((with_reducible refine gate_callee (f := 12) rfl ?_); refine goesL_ (some 6) rfl rfl Try.func12 (by kernel_rfl) rfl #[.slice A0 l0.length c0] rfl (by (try simp only [List.map_toArray, List.map_cons, List.map_nil]); first | done | rfl) ?_; (with_reducible refine (impl_RulesOk.calls k _ _ l0 true _ ?side1 ?side2 A3.out).mono ?_); (case side1 => exact cu HR0.out HB.out); (case side2 => exact HC0.out); rintro e w19 ⟨rfl, hb⟩; refine ⟨_, rfl, ?_⟩; replace BK159 := Az (blk_below (bu BK159.out) hb); replace HB := Az (below_step bz hb); (try clear hb); (try clear hb2); (try clear hk); (try clear hi); obtain ⟨hcz20_0, hcz20_1, hcz20_2⟩ := bc3 BK159.out; obtain ⟨hfz20_0, hfz20_1, hfz20_2⟩ := bf3_ BK159.out) | (go_at_call 59; (with_reducible refine (impl_namesOk.calls k _ _ l0 _ _ l1_0 true _ ?side1 ?side2 ?side3 ?side4 A5.out).mono ?_); (case side1 => exact cu HR0.out HB.out); (case side2 => exact HC0.out); (case side3 => exact cu HR1_0.out HB.out); (case side4 => exact HC1_0.out); rintro e w21 ⟨rfl, hb⟩; replace BK159 := Az (blk_below (bu BK159.out) hb); replace HB := Az (below_step bz hb); (try clear hb); (try clear hb2); (try clear hk); (try clear hi); obtain ⟨hcz22_0, hcz22_1, hcz22_2⟩ := bc3 BK159.out; obtain ⟨hfz22_0, hfz22_1, hfz22_2⟩ := bf3_ BK159.out) | (go_at_call 59; (with_reducible refine (impl_namesOk.calls k _ _ l0 _ _ l1_1 false _ ?side1 ?side2 ?side3 ?side4 A7.out).mono ?_); (case side1 => exact cu HR0.out HB.out); (case side2 => exact HC0.out); (case side3 => exact cu HR1_1.out HB.out); (case side4 => exact HC1_1.out); rintro e w23 ⟨rfl, hb⟩; replace BK159 := Az (blk_below (bu BK159.out) hb); replace HB := Az (below_step bz hb); (try clear hb); (try clear hb2); (try clear hk); (try clear hi)))
    go_ret
    exact ⟨rz, bz⟩
  ·
   replace c6 := Bool.eq_false_iff.mpr c6; subst c6
   have H1 : (some false) = some r := by rw [if_neg (show ¬ (false = true) by decide)] at H; exact H
   clear H; have H := H1; clear H1; obtain rfl := Option.some.inj H
   go_enter Try.func58, Try.ntmps58
   go_wp2_with (first | ((with_reducible refine gate_dst (N := 3) rfl ?_); refine box_event ?hg (N := 3) ?hd (cs := #[.slice A1_0 l1_0.length c1_0, .slice A1_1 l1_1.length c1_1, .slice A1_2 l1_2.length c1_2]) (t := 47) ?hr ?_; (case hd => rfl); (case hg => rfl); (case hr => first | (go_simp; done) | (go_simp; rfl)); intro gb159 hg w24 hbox hb; have BK159 := Az (hbox); have GW159 := Az ((by rw [hg]; exact (below_size bz) : w.heap.size ≤ gb159)); replace HB := Az (below_step bz hb); have GE159 := GW159; clear hb hbox hg) | ((with_reducible refine gate_callee (f := 12) rfl ?_); refine goesL_ (some 6) rfl rfl Try.func12 (by kernel_rfl) rfl #[.slice A0 l0.length c0] rfl (by (try simp only [List.map_toArray, List.map_cons, List.map_nil]); first | done | rfl) ?_; (with_reducible refine (impl_RulesOk.calls k _ _ l0 true _ ?side1 ?side2 A3.out).mono ?_); (case side1 => exact cu HR0.out HB.out); (case side2 => exact HC0.out); rintro e w25 ⟨rfl, hb⟩; refine ⟨_, rfl, ?_⟩; replace BK159 := Az (blk_below (bu BK159.out) hb); replace HB := Az (below_step bz hb); (try clear hb); (try clear hb2); (try clear hk); (try clear hi); obtain ⟨hcz26_0, hcz26_1, hcz26_2⟩ := bc3 BK159.out; obtain ⟨hfz26_0, hfz26_1, hfz26_2⟩ := bf3_ BK159.out) | (go_at_call 59; (with_reducible refine (impl_namesOk.calls k _ _ l0 _ _ l1_0 false _ ?side1 ?side2 ?side3 ?side4 A5.out).mono ?_); (case side1 => exact cu HR0.out HB.out); (case side2 => exact HC0.out); (case side3 => exact cu HR1_0.out HB.out); (case side4 => exact HC1_0.out); rintro e w27 ⟨rfl, hb⟩; replace BK159 := Az (blk_below (bu BK159.out) hb); replace HB := Az (below_step bz hb); (try clear hb); (try clear hb2); (try clear hk); (try clear hi)))
   go_ret
   exact ⟨rz, bz⟩
 ·
  replace c4 := Bool.eq_false_iff.mpr c4; subst c4
  have H1 : (some false) = some r := by rw [if_neg (show ¬ (false = true) by decide)] at H; exact H
  clear H; have H := H1; clear H1; obtain rfl := Option.some.inj H
  go_enter Try.func58, Try.ntmps58
  go_wp2_with (first | ((with_reducible refine gate_dst (N := 3) rfl ?_); refine box_event ?hg (N := 3) ?hd (cs := #[.slice A1_0 l1_0.length c1_0, .slice A1_1 l1_1.length c1_1, .slice A1_2 l1_2.length c1_2]) (t := 47) ?hr ?_; (case hd => rfl); (case hg => rfl); (case hr => first | (go_simp; done) | (go_simp; rfl)); intro gb159 hg w28 hbox hb; have BK159 := Az (hbox); have GW159 := Az ((by rw [hg]; exact (below_size bz) : w.heap.size ≤ gb159)); replace HB := Az (below_step bz hb); have GE159 := GW159; clear hb hbox hg) | ((with_reducible refine gate_callee (f := 12) rfl ?_); refine goesL_ (some 6) rfl rfl Try.func12 (by kernel_rfl) rfl #[.slice A0 l0.length c0] rfl (by (try simp only [List.map_toArray, List.map_cons, List.map_nil]); first | done | rfl) ?_; (with_reducible refine (impl_RulesOk.calls k _ _ l0 false _ ?side1 ?side2 A3.out).mono ?_); (case side1 => exact cu HR0.out HB.out); (case side2 => exact HC0.out); rintro e w29 ⟨rfl, hb⟩; refine ⟨_, rfl, ?_⟩; replace BK159 := Az (blk_below (bu BK159.out) hb); replace HB := Az (below_step bz hb); (try clear hb); (try clear hb2); (try clear hk); (try clear hi)))
  go_ret
  exact ⟨rz, bz⟩

/-! ### slices_Clone_string_string: function 60 -/
def slices_Clone_string_string.f (l0 : List ByteArray) : Option (List ByteArray) := (some (([] : List ByteArray) : List ByteArray)).bind fun y164 => (if y164.length + l0.length < 8796093022208 then (some (y164 ++ l0)) else (none))
set_option maxHeartbeats 8000000 in
set_option maxRecDepth 100000 in
theorem slices_Clone_string_string.calls (A0 : Option Addr) (c0 : Nat) (l0 : List ByteArray) (r : List ByteArray) (w : World) (hr0 : Kd.C Kd.string w A0 l0.length l0) (hc0 : l0.length ≤ c0) (h : slices_Clone_string_string.f l0 = some r) :
  Calls Try.prog 60 #[.slice A0 l0.length c0] w fun e w' => ∃ v0_ : Value, e = .returned (v0_) ∧ Kd.R Kd.string 9 w' w.heap.size (fun _ => True) v0_ r ∧ Below w.heap.size w w' := by
 have HR0 := Az hr0; have HC0 := Az hc0; clear hr0 hc0; have HB := Az (Below.refl w.heap.size w); have H : ((some (([] : List ByteArray) : List ByteArray)).bind fun y164 => (if y164.length + l0.length < 8796093022208 then (some (y164 ++ l0)) else (none))) = some r := h; clear h
 have hnlc2 := fun (W_ : World) (a_ : Option Addr) (n_ c_ n2_ c2_ : Nat) => Go.Lib.run_eql_slice_nil (P := Try.prog) W_ 29 9 a_ n_ c_ n2_ c2_ Try.underlying29
 by_cases c2 : A0.isNone = true
 ·
  have c2l : l0 = [] := by
   cases l0 with
   | nil => rfl
   | cons x_ xs_ =>
    obtain ⟨ad_, ea_, _⟩ := HR0.out.2.2 (Nat.zero_lt_succ _); rw [ea_] at c2
    cases c2
  have c2b0 : A0.isNone = true := c2; subst c2l
  have H1 : (some ([] : List ByteArray)) = some r := by first | exact H | simpa using H
  clear H; have H := H1; clear H1; obtain rfl := Option.some.inj H
  go_enter Try.func60, Try.ntmps60
  go_wp2
  go_ret
  exact ⟨_, rz, by first | exact Kd.R_nil _ _ _ _ _ | exact Kd.N_nil _ _ _ _ _ | exact Kd.V_nil _ _ _ _ _ | exact Kd.Q_nil _ _ _ _ _ | exact Kd.S_nil _ _ _ _ _, bz⟩
 ·
  have c2b0 : A0.isNone = false := by cases A0 with | none => exact absurd rfl c2 | some _ => rfl
  obtain ⟨y164, hy164⟩ : ∃ y_ : List ByteArray, y_ = (([] : List ByteArray)) := ⟨_, rfl⟩
  replace H : (if y164.length + l0.length < 8796093022208 then (some (y164 ++ l0)) else (none)) = some r := by have hy_ := hy164; exact yz
  have Ny164 := Az hy164; clear hy164
  by_cases c3 : y164.length + l0.length < 8796093022208
  ·
   rw [if_pos c3] at H; have LMc3 := Az c3; clear c3; obtain ⟨y167, hy167⟩ : ∃ y_ : List ByteArray, y_ = (y164 ++ l0) := ⟨_, rfl⟩
   replace H : (some y167) = some r := by have hy_ := hy167; exact yz
   have Ny167 := Az hy167; clear hy167; obtain rfl := Option.some.inj H
   go_enter Try.func60, Try.ntmps60
   go_wp2_with (first | ((with_reducible refine gate_dst (N := 5) rfl ?_); refine Kd.R_lit Kd.string _ 9 ?hg (N := 5) ?hd (xs := ([] : List ByteArray)) (inner := []) (ok := fun _ => True) (okp := fun _ => True) ?hr ?hp (fun _ hk => hk) trivial (Below.refl _ _) (Nat.le_refl _) (by simp) ?_; (case hd => rfl); (case hg => rfl); (case hr => first | (go_simp; done) | (go_simp; rfl)); (case hp => exact (Reps.none _ _)); intro v165 w4 ho5 hb hg_ hnew_; clear hg_ hnew_; (first | rw [← Ny164.out] at ho5 | (simp only [Int.reduceToNat] at ho5; rw [← Ny164.out] at ho5)); have HO166 := Az (Kd.R_lower ho5 (below_size bz)); replace HB := Az (below_step bz hb); clear hb ho5) | ((with_reducible refine gate_builtin (b := .append) (xs := #[.tmp 5, .tmp 6]) rfl ?_); at_builtin; refine Kd.R_append_rows Kd.string (w0 := w) w.heap.size rfl (.tmp 5) (.tmp 6) 29 9 (.string ⟨#[]⟩) 16 rfl Try.underlying29 info9 rfl (by decide) (by omega) v165 y164 l0 _ _ _ (fun _ => True) (fun _ => False) rfl rfl ?aO ?aR (fun _ _ h => h) (fun _ h => h.elim) ?aF ?aB ?aS ?aL ?_; (case aR => exact cu HR0.out HB.out); (case aB => exact bz); (case aF => exact (fun _ _ => trivial)); (case aO => exact (ru HO166.out)); (case aS => exact (below_size bz)); (case aL => have := LMc3.out; omega); intro v168 w6 ho hb hg hat; rw [← Ny167.out] at ho; replace HB := Az (hb); have HO169 := Az (ho); clear HO166; clear ho hb hg hat))
   go_ret
   exact ⟨_, rz, ru HO169.out, bz⟩
  ·
   rw [if_neg c3] at H; exact absurd H (by simp)

/-! ### impl_clonePanel: function 71 -/
def impl_clonePanel.f (l0_0 : List ByteArray) (l0_1 : List ByteArray) (l0_2 : List ByteArray) : Option (List ByteArray × List ByteArray × List ByteArray) := (slices_Clone_string_string.f l0_0).bind fun t172 => ((slices_Clone_string_string.f l0_1).bind fun t175 => ((slices_Clone_string_string.f l0_2).bind fun t178 => (some (t172, t175, t178))))
def impl_clonePanel.T1 : Bool × List (List Nat × List Nat) := (true, [([], []), ([0], [0]), ([1], [1]), ([], []), ([3], [3]), ([4, 2], [4]), ([], []), ([6], [6]), ([7, 5], [7]), ([2, 5, 8], [2, 5, 8]), ([9, 8, 0, 1, 2, 3, 4, 5, 6, 7, 8, 9], [9])])
def impl_clonePanel.B1 : List Nat := [0, 1, 3, 0, 8, 31, 0, 64, 255, 511, 1023]
theorem impl_clonePanel.tab1 : rtab .any (opsOf Try.f71 1) = impl_clonePanel.T1 := by kernel_rfl
theorem impl_clonePanel.bits1 : waitsOk impl_clonePanel.T1.2 impl_clonePanel.B1 = true := by kernel_rfl
set_option maxHeartbeats 8000000 in
set_option maxRecDepth 100000 in
theorem impl_clonePanel.calls (A0_0 : Option Addr) (c0_0 : Nat) (l0_0 : List ByteArray) (A0_1 : Option Addr) (c0_1 : Nat) (l0_1 : List ByteArray) (A0_2 : Option Addr) (c0_2 : Nat) (l0_2 : List ByteArray) (r1 : List ByteArray) (r2 : List ByteArray) (r3 : List ByteArray) (w : World) (hr0_0 : Kd.C Kd.string w A0_0 l0_0.length l0_0) (hc0_0 : l0_0.length ≤ c0_0) (hr0_1 : Kd.C Kd.string w A0_1 l0_1.length l0_1) (hc0_1 : l0_1.length ≤ c0_1) (hr0_2 : Kd.C Kd.string w A0_2 l0_2.length l0_2) (hc0_2 : l0_2.length ≤ c0_2) (h : impl_clonePanel.f l0_0 l0_1 l0_2 = some (r1, r2, r3)) :
  Calls Try.prog 71 #[.agg #[.slice A0_0 l0_0.length c0_0, .slice A0_1 l0_1.length c0_1, .slice A0_2 l0_2.length c0_2]] w fun e w' => ∃ v0_ v1_ v2_ : Value, e = .returned (.agg #[v0_, v1_, v2_]) ∧ Kd.R Kd.string 9 w' w.heap.size (fun k_ => Nb (v1_) k_ ∧ Nb (v2_) k_) v0_ r1 ∧ Kd.R Kd.string 9 w' w.heap.size (fun k_ => Nb (v0_) k_ ∧ Nb (v2_) k_) v1_ r2 ∧ Kd.R Kd.string 9 w' w.heap.size (fun k_ => Nb (v0_) k_ ∧ Nb (v1_) k_) v2_ r3 ∧ Below w.heap.size w w' := by
 have hu47 := Try.underlying47; have HR0_0 := Az hr0_0; have HC0_0 := Az hc0_0; clear hr0_0 hc0_0; have HR0_1 := Az hr0_1; have HC0_1 := Az hc0_1; clear hr0_1 hc0_1; have HR0_2 := Az hr0_2; have HC0_2 := Az hc0_2; clear hr0_2 hc0_2; have HB := Az (Below.refl w.heap.size w); have H : ((slices_Clone_string_string.f l0_0).bind fun t172 => ((slices_Clone_string_string.f l0_1).bind fun t175 => ((slices_Clone_string_string.f l0_2).bind fun t178 => (some (t172, t175, t178))))) = some (r1, r2, r3) := h; clear h; replace H := Option.bind_eq_some_iff.mp H; obtain ⟨t172, A20, H⟩ := H; replace H : ((slices_Clone_string_string.f l0_1).bind fun t175 => ((slices_Clone_string_string.f l0_2).bind fun t178 => (some (t172, t175, t178)))) = some (r1, r2, r3) := H; have A2 := Az A20; clear A20; replace H := Option.bind_eq_some_iff.mp H; obtain ⟨t175, A30, H⟩ := H; replace H : ((slices_Clone_string_string.f l0_2).bind fun t178 => (some (t172, t175, t178))) = some (r1, r2, r3) := H; have A3 := Az A30; clear A30; replace H := Option.bind_eq_some_iff.mp H; obtain ⟨t178, A40, H⟩ := H; replace H : (some (t172, t175, t178)) = some (r1, r2, r3) := H; have A4 := Az A40; clear A40; simp only [Option.some.injEq, Prod.mk.injEq] at H; obtain ⟨rfl, rfl, rfl⟩ := H
 go_enter Try.func71, Try.ntmps71
 try go_wp2_with (first | ((with_reducible refine gate_dst (N := 1) rfl ?_); refine box_event ?hg (N := 1) ?hd (cs := #[.slice A0_0 l0_0.length c0_0, .slice A0_1 l0_1.length c0_1, .slice A0_2 l0_2.length c0_2]) (t := 47) ?hr ?_; (case hd => rfl); (case hg => rfl); (case hr => first | (go_simp; done) | (go_simp; rfl)); intro gb170 hg w5 hbox hb; have BK170 := Az (hbox); have GW170 := Az ((by rw [hg]; exact (below_size bz) : w.heap.size ≤ gb170)); replace HB := Az (below_step bz hb); have GE170 := GW170; clear hb hbox hg) | ((with_reducible refine gate_dst (N := 2) rfl ?_); refine box_event ?hg (N := 2) ?hd (cs := #[.slice none 0 0, .slice none 0 0, .slice none 0 0]) (t := 47) ?hr ?_; (case hd => rfl); (case hg => rfl); (case hr => first | (go_simp; done) | (go_simp; rfl)); intro gb171 hg w6 hbox hb; have n0_ := Az (blk_below (bu BK170.out) hb); have n1_ := Az (below_step bz hb); have n2_ := Az (hbox); have n3_ := Az ((by rw [hg]; exact (below_size bz) : w.heap.size ≤ gb171)); have n4_ := n3_; have n5_ := Az ((by rw [hg]; exact Nat.ne_of_lt (blk_lt (g := gb170) (o := .cells #[.slice A0_0 l0_0.length c0_0, .slice A0_1 l0_1.length c0_1, .slice A0_2 l0_2.length c0_2] 47 (0, 0)) (bu BK170.out)) : gb170 ≠ gb171)); have n6_ := Az n5_.out.symm; clear BK170; clear HB; have BK170 := n0_; have HB := n1_; have BK171 := n2_; have GW171 := n3_; have GE171 := n4_; have NB170_171 := n5_; have NB171_170 := n6_; clear n0_ n1_ n2_ n3_ n4_ n5_ n6_; clear hb hbox hg))
 replace BK170 := Az (blk_drew BK170.out); replace BK171 := Az (blk_drew BK171.out); replace HB := Az (below_drew1 HB.out); refine start_ (n := 11) (S := fun w' => w'.cell? ⟨gb170, 0, none⟩ = some (.slice A0_0 l0_0.length c0_0) ∧ w'.cell? ⟨gb170, 1, none⟩ = some (.slice A0_1 l0_1.length c0_1) ∧ w'.cell? ⟨gb170, 2, none⟩ = some (.slice A0_2 l0_2.length c0_2)) (ds := []) A5_0 (by kernel_rfl) rfl rfl (bc3 BK170.out) (fun hHeld => ?_); refine with_tabW impl_clonePanel.tab1 impl_clonePanel.bits1 (fun HT_ HW_ => ?_); generalize w6.drew = w7 at BK170 BK171 HB hHeld ⊢; refine pz 0 3 A5_1 HT_.out ?_; refine pz 3 6 A5_2 HT_.out ?_; refine pz 6 9 A5_3 HT_.out ?_; refine tz 1 4 A5_4 HT_.out HW_.out hHeld ?_
 refine tz 4 7 A5_5 HT_.out HW_.out hHeld ?_
 refine tz 7 10 A5_6 HT_.out HW_.out hHeld ?_
 refine one_ (i := 2) (N := some 5) A5_7 rfl rfl (one_of HT_.out (by kernel_rfl)) (by decide) (fun K hK => ?_); refine goes_ Try.func60 (by kernel_rfl) rfl #[.slice A0_0 l0_0.length c0_0] (by rfl) rfl rfl (by (try simp only [List.map_toArray, List.map_cons, List.map_nil]); first | done | rfl) ?_
 with_reducible refine (slices_Clone_string_string.calls _ _ l0_0 t172 _ ?side1 ?side2 A2.out).mono ?_
 (case side1 => exact cu HR0_0.out HB.out)
 (case side2 => exact HC0_0.out)
 rintro e w8 ⟨v173, rfl, ho0, hb⟩; refine ⟨_, rfl, ?_⟩; have HO174 := Az (Kd.R_lower ho0 (below_size bz)); replace BK170 := Az (blk_below (bu BK170.out) hb); replace BK171 := Az (blk_below (bu BK171.out) hb); replace HB := Az (below_step bz hb); (try clear hb); (try clear hb2); (try clear hk); (try clear hi); (try clear ho0); refine hK.out _ _ (bc3 BK170.out) (fun hHeld => ?_); clear hK K; refine norm_ (a' := ?_) ?_ ?_; rotate_left
 ·
  show Act.put _ (some 5) _ = _
  simp only [Act.put, sA, sB, sC, i64_w, i32_w]
  rfl
 refine one_ (i := 5) (N := some 8) A5_8 rfl rfl (one_of HT_.out (by kernel_rfl)) (by decide) (fun K hK => ?_); refine goes_ Try.func60 (by kernel_rfl) rfl #[.slice A0_1 l0_1.length c0_1] (by rfl) rfl rfl (by (try simp only [List.map_toArray, List.map_cons, List.map_nil]); first | done | rfl) ?_
 with_reducible refine (slices_Clone_string_string.calls _ _ l0_1 t175 _ ?side1 ?side2 A3.out).mono ?_
 (case side1 => exact cu HR0_1.out HB.out)
 (case side2 => exact HC0_1.out)
 rintro e w9 ⟨v176, rfl, ho0, hb⟩; refine ⟨_, rfl, ?_⟩; have HO177 := Az (Kd.R_lower (rn ho0 HO174) (below_size bz)); replace HO174 := Az (Kd.R_elder' (ru HO174.out) (Kd.R_base ho0) hb); replace BK170 := Az (blk_below (bu BK170.out) hb); replace BK171 := Az (blk_below (bu BK171.out) hb); replace HB := Az (below_step bz hb); (try clear hb); (try clear hb2); (try clear hk); (try clear hi); (try clear ho0); refine hK.out _ _ (bc3 BK170.out) (fun hHeld => ?_); clear hK K; refine norm_ (a' := ?_) ?_ ?_; rotate_left
 ·
  show Act.put _ (some 8) _ = _
  simp only [Act.put, sA, sB, sC, i64_w, i32_w]
  rfl
 refine one_ (i := 8) (N := some 11) A5_9 rfl rfl (one_of HT_.out (by kernel_rfl)) (by decide) (fun K hK => ?_); refine goes_ Try.func60 (by kernel_rfl) rfl #[.slice A0_2 l0_2.length c0_2] (by rfl) rfl rfl (by (try simp only [List.map_toArray, List.map_cons, List.map_nil]); first | done | rfl) ?_
 with_reducible refine (slices_Clone_string_string.calls _ _ l0_2 t178 _ ?side1 ?side2 A4.out).mono ?_
 (case side1 => exact cu HR0_2.out HB.out)
 (case side2 => exact HC0_2.out)
 rintro e w10 ⟨v179, rfl, ho0, hb⟩; refine ⟨_, rfl, ?_⟩; have HO180 := Az (Kd.R_lower (rn (rn ho0 HO174) HO177) (below_size bz)); replace HO174 := Az (Kd.R_elder' (ru HO174.out) (Kd.R_base ho0) hb); replace HO177 := Az (Kd.R_elder' (ru HO177.out) (Kd.R_base ho0) hb); replace BK170 := Az (blk_below (bu BK170.out) hb); replace BK171 := Az (blk_below (bu BK171.out) hb); replace HB := Az (below_step bz hb); (try clear hb); (try clear hb2); (try clear hk); (try clear hi); (try clear ho0); obtain ⟨Ao11, co11, eo11⟩ := Kd.R_slice HO180.out
 (first | subst eo11 | (injection eo11 with f1_ f2_ f3_; have f4_ := f1_.symm; have f5_ := f3_.symm; clear f1_ f2_ f3_; subst f4_; subst f5_))
 obtain ⟨Ao12, co12, eo12⟩ := Kd.R_slice HO177.out
 (first | subst eo12 | (injection eo12 with f1_ f2_ f3_; have f4_ := f1_.symm; have f5_ := f3_.symm; clear f1_ f2_ f3_; subst f4_; subst f5_))
 obtain ⟨Ao13, co13, eo13⟩ := Kd.R_slice HO174.out
 (first | subst eo13 | (injection eo13 with f1_ f2_ f3_; have f4_ := f1_.symm; have f5_ := f3_.symm; clear f1_ f2_ f3_; subst f4_; subst f5_))
 refine hK.out _ _ (bc3 BK170.out) (fun hHeld => ?_); clear hK K; refine norm_ (a' := ?_) ?_ ?_; rotate_left
 ·
  show Act.put _ (some 11) _ = _
  simp only [Act.put, sA, sB, sC, i64_w, i32_w]
  rfl
 refine pz 9 12 A5_10 HT_.out ?_; refine one_ (i := 10) (N := none) A5_11 rfl rfl (one_of HT_.out (by kernel_rfl)) (by decide) (fun K hK => ?_); have hs14 : w10.cell? ⟨gb171, 0, none⟩ = some (.slice none 0 0) := (blk_cell BK171.out 0).trans rfl; have hfs14 := blk_frozen BK171.out 0; have hns14_0 := NB170_171.out; have hms14_0 := NB171_170.out; have hs15 : w10.cell? ⟨gb171, 1, none⟩ = some (.slice none 0 0) := (blk_cell BK171.out 1).trans rfl; have hfs15 := blk_frozen BK171.out 1; have hns15_0 := NB170_171.out; have hms15_0 := NB171_170.out; have hs16 : w10.cell? ⟨gb171, 2, none⟩ = some (.slice none 0 0) := (blk_cell BK171.out 2).trans rfl; have hfs16 := blk_frozen BK171.out 2; have hns16_0 := NB170_171.out; have hms16_0 := NB171_170.out; refine skip_ (w1 := ?_) (by rfl) rfl ?_ ?_; rotate_left
 ·
  go_simp
  rfl
 refine hK.out _ _ ⟨((cell_far (p := ⟨gb171, _, none⟩) NB170_171.out _).trans (((cell_far (p := ⟨gb171, _, none⟩) NB170_171.out _).trans (((cell_far (p := ⟨gb171, _, none⟩) NB170_171.out _).trans (hHeld.1)))))), ((cell_far (p := ⟨gb171, _, none⟩) NB170_171.out _).trans (((cell_far (p := ⟨gb171, _, none⟩) NB170_171.out _).trans (((cell_far (p := ⟨gb171, _, none⟩) NB170_171.out _).trans (hHeld.2.1)))))), ((cell_far (p := ⟨gb171, _, none⟩) NB170_171.out _).trans (((cell_far (p := ⟨gb171, _, none⟩) NB170_171.out _).trans (((cell_far (p := ⟨gb171, _, none⟩) NB170_171.out _).trans (hHeld.2.2))))))⟩ (fun hHeld => ?_); clear hK K; refine done_ (done_of HT_.out (by kernel_rfl)) ?_
 try go_wp2
 refine bodyPost_ret (results_cell_row rfl _ _ gb171 47 #[.slice Ao13 t172.length co13, .slice Ao12 t175.length co12, .slice Ao11 t178.length co11] (0, 0) _ rfl (by refine bu ?_; refine blk_put (cs := #[.slice Ao13 t172.length co13, .slice Ao12 t175.length co12, .slice none 0 0]) ?_ 2 _ rfl; refine bu ?_; refine blk_put (cs := #[.slice Ao13 t172.length co13, .slice none 0 0, .slice none 0 0]) ?_ 1 _ rfl; refine bu ?_; refine blk_put (cs := #[.slice none 0 0, .slice none 0 0, .slice none 0 0]) ?_ 0 _ rfl; refine bu ?_; exact BK171.out) Try.underlying47 rfl (by kernel_rfl)) rfl ?_; exact ⟨_, _, _, rz, by (with_reducible repeat (first | apply Kd.R_alloc | apply Kd.R_drewN | apply Kd.R_drew)); exact Kd.R_mono (Kd.R_far (p := ⟨gb171, 2, none⟩) (Kd.R_far (p := ⟨gb171, 1, none⟩) (Kd.R_far (p := ⟨gb171, 0, none⟩) (Kd.R_types HO174.out BK171.out (by decide)) (fun _ hk => hk.2) (.slice Ao13 t172.length co13)) (fun _ hk => hk.2) (.slice Ao12 t175.length co12)) (fun _ hk => hk.2) (.slice Ao11 t178.length co11)) kz, by (with_reducible repeat (first | apply Kd.R_alloc | apply Kd.R_drewN | apply Kd.R_drew)); exact Kd.R_mono (Kd.R_far (p := ⟨gb171, 2, none⟩) (Kd.R_far (p := ⟨gb171, 1, none⟩) (Kd.R_far (p := ⟨gb171, 0, none⟩) (Kd.R_types HO177.out BK171.out (by decide)) (fun _ hk => hk.2) (.slice Ao13 t172.length co13)) (fun _ hk => hk.2) (.slice Ao12 t175.length co12)) (fun _ hk => hk.2) (.slice Ao11 t178.length co11)) kz, by (with_reducible repeat (first | apply Kd.R_alloc | apply Kd.R_drewN | apply Kd.R_drew)); exact Kd.R_mono (Kd.R_far (p := ⟨gb171, 2, none⟩) (Kd.R_far (p := ⟨gb171, 1, none⟩) (Kd.R_far (p := ⟨gb171, 0, none⟩) (Kd.R_types HO180.out BK171.out (by decide)) (fun _ hk => hk.2) (.slice Ao13 t172.length co13)) (fun _ hk => hk.2) (.slice Ao12 t175.length co12)) (fun _ hk => hk.2) (.slice Ao11 t178.length co11)) kz, bz⟩

/-! ### cmp_isNaN_string: function 102 -/
def cmp_isNaN_string.f (a0 : ByteArray) : Option (Bool) := some (a0.toList != a0.toList)
set_option maxHeartbeats 8000000 in
set_option maxRecDepth 100000 in
theorem cmp_isNaN_string.calls (a0 : ByteArray) (r : Bool) (w : World) (h : cmp_isNaN_string.f a0 = some r) :
  Calls Try.prog 102 #[.string a0] w fun e w' => e = .returned (.bool r) ∧ Drawn0 w w' := by
 have H : (some (a0.toList != a0.toList)) = some r := h; clear h; obtain rfl := Option.some.inj H
 go_enter Try.func102, Try.ntmps102
 go_wp2
 go_ret
 exact ⟨by first | rfl | (simp; done) | (simp [*]; done), by repeat (first | exact Drawn0.refl _ | apply Drawn0.step)⟩

/-! ### cmp_Less_string: function 97 -/
def cmp_Less_string.f (a0 : ByteArray) (a1 : ByteArray) : Option (Bool) := (cmp_isNaN_string.f a0).bind fun t181 => (if t181 = true then ((cmp_isNaN_string.f a1).bind fun t182 => (if t182 = true then (some (Op.bytesLess a0.toList a1.toList)) else (some true))) else (some (Op.bytesLess a0.toList a1.toList)))
set_option maxHeartbeats 8000000 in
set_option maxRecDepth 100000 in
theorem cmp_Less_string.calls (a0 : ByteArray) (a1 : ByteArray) (r : Bool) (w : World) (h : cmp_Less_string.f a0 a1 = some r) :
  Calls Try.prog 97 #[.string a0, .string a1] w fun e w' => e = .returned (.bool r) ∧ Drawn0 w w' := by
 have H : ((cmp_isNaN_string.f a0).bind fun t181 => (if t181 = true then ((cmp_isNaN_string.f a1).bind fun t182 => (if t182 = true then (some (Op.bytesLess a0.toList a1.toList)) else (some true))) else (some (Op.bytesLess a0.toList a1.toList)))) = some r := h; clear h; replace H := Option.bind_eq_some_iff.mp H; obtain ⟨t181, A30, H⟩ := H; replace H : (if t181 = true then ((cmp_isNaN_string.f a1).bind fun t182 => (if t182 = true then (some (Op.bytesLess a0.toList a1.toList)) else (some true))) else (some (Op.bytesLess a0.toList a1.toList))) = some r := H; have A3 := Az A30; clear A30
 by_cases c4 : t181 = true
 ·
  subst c4
  have H1 : ((cmp_isNaN_string.f a1).bind fun t182 => (if t182 = true then (some (Op.bytesLess a0.toList a1.toList)) else (some true))) = some r := by rw [if_pos rfl] at H; exact H
  clear H; have H := H1; clear H1; replace H := Option.bind_eq_some_iff.mp H; obtain ⟨t182, A50, H⟩ := H; replace H : (if t182 = true then (some (Op.bytesLess a0.toList a1.toList)) else (some true)) = some r := H; have A5 := Az A50; clear A50
  by_cases c6 : t182 = true
  ·
   subst c6
   have H1 : (some (Op.bytesLess a0.toList a1.toList)) = some r := by rw [if_pos rfl] at H; exact H
   clear H; have H := H1; clear H1; obtain rfl := Option.some.inj H
   go_enter Try.func97, Try.ntmps97
   go_wp2_with (first | ((with_reducible refine gate_callee (f := 102) rfl ?_); refine goesL_ (some 6) rfl rfl Try.func102 (by kernel_rfl) rfl #[.string a0] rfl (by (try simp only [List.map_toArray, List.map_cons, List.map_nil]); first | done | rfl) ?_; (with_reducible refine (cmp_isNaN_string.calls a0 true _ A3.out).mono ?_); rintro e w' ⟨rfl, ⟨nd, rfl⟩⟩; refine ⟨_, rfl, ?_⟩) | (go_at_call 102; (with_reducible refine (cmp_isNaN_string.calls a1 true _ A5.out).mono ?_); rintro e w' ⟨rfl, ⟨nd, rfl⟩⟩))
   go_ret
   exact ⟨by first | rfl | (simp; done) | (simp [*]; done), by repeat (first | exact Drawn0.refl _ | apply Drawn0.step)⟩
  ·
   replace c6 := Bool.eq_false_iff.mpr c6; subst c6
   have H1 : (some true) = some r := by rw [if_neg (show ¬ (false = true) by decide)] at H; exact H
   clear H; have H := H1; clear H1; obtain rfl := Option.some.inj H
   go_enter Try.func97, Try.ntmps97
   go_wp2_with (first | ((with_reducible refine gate_callee (f := 102) rfl ?_); refine goesL_ (some 6) rfl rfl Try.func102 (by kernel_rfl) rfl #[.string a0] rfl (by (try simp only [List.map_toArray, List.map_cons, List.map_nil]); first | done | rfl) ?_; (with_reducible refine (cmp_isNaN_string.calls a0 true _ A3.out).mono ?_); rintro e w' ⟨rfl, ⟨nd, rfl⟩⟩; refine ⟨_, rfl, ?_⟩) | (go_at_call 102; (with_reducible refine (cmp_isNaN_string.calls a1 false _ A5.out).mono ?_); rintro e w' ⟨rfl, ⟨nd, rfl⟩⟩))
   go_ret
   exact ⟨by first | rfl | (simp; done) | (simp [*]; done), by repeat (first | exact Drawn0.refl _ | apply Drawn0.step)⟩
 ·
  replace c4 := Bool.eq_false_iff.mpr c4; subst c4
  have H1 : (some (Op.bytesLess a0.toList a1.toList)) = some r := by rw [if_neg (show ¬ (false = true) by decide)] at H; exact H
  clear H; have H := H1; clear H1; obtain rfl := Option.some.inj H
  go_enter Try.func97, Try.ntmps97
  go_wp2_with (first | ((with_reducible refine gate_callee (f := 102) rfl ?_); refine goesL_ (some 6) rfl rfl Try.func102 (by kernel_rfl) rfl #[.string a0] rfl (by (try simp only [List.map_toArray, List.map_cons, List.map_nil]); first | done | rfl) ?_; (with_reducible refine (cmp_isNaN_string.calls a0 false _ A3.out).mono ?_); rintro e w' ⟨rfl, ⟨nd, rfl⟩⟩; refine ⟨_, rfl, ?_⟩))
  go_ret
  exact ⟨by first | rfl | (simp; done) | (simp [*]; done), by repeat (first | exact Drawn0.refl _ | apply Drawn0.step)⟩

/-! ### slices_isNaN_string: function 98 -/
def slices_isNaN_string.f (a0 : ByteArray) : Option (Bool) := some (a0.toList != a0.toList)
set_option maxHeartbeats 8000000 in
set_option maxRecDepth 100000 in
theorem slices_isNaN_string.calls (a0 : ByteArray) (r : Bool) (w : World) (h : slices_isNaN_string.f a0 = some r) :
  Calls Try.prog 98 #[.string a0] w fun e w' => e = .returned (.bool r) ∧ Drawn0 w w' := by
 have H : (some (a0.toList != a0.toList)) = some r := h; clear h; obtain rfl := Option.some.inj H
 go_enter Try.func98, Try.ntmps98
 go_wp2
 go_ret
 exact ⟨by first | rfl | (simp; done) | (simp [*]; done), by repeat (first | exact Drawn0.refl _ | apply Drawn0.step)⟩

/-! ### slices_BinarySearch_string_string: function 91 -/
def slices_BinarySearch_string_string.l0 : Nat → List ByteArray → ByteArray → Int → Int → Int → Option (Int × Bool)
 | 0, _, _, _, _, _ => none
 | k + 1, x0, x1, x6, x7, x8 => if x7 < x8 then (if 0 ≤ (wrap64 ((IntKind.u64.wrap (wrap64 (x7 + x8))) / 2)) then (if (wrap64 ((IntKind.u64.wrap (wrap64 (x7 + x8))) / 2)) < (x0.length : Int) then ((cmp_Less_string.f (rdOf ByteArray.empty x0 (wrap64 ((IntKind.u64.wrap (wrap64 (x7 + x8))) / 2))) x1).bind fun t184 => (if t184 = true then (slices_BinarySearch_string_string.l0 k x0 x1 x6 (wrap64 ((wrap64 ((IntKind.u64.wrap (wrap64 (x7 + x8))) / 2)) + 1)) x8) else (slices_BinarySearch_string_string.l0 k x0 x1 x6 x7 (wrap64 ((IntKind.u64.wrap (wrap64 (x7 + x8))) / 2))))) else (none)) else (none)) else (if x7 < x6 then (if 0 ≤ x7 then (if x7 < (x0.length : Int) then (if (rdOf ByteArray.empty x0 x7).toList = x1.toList then (some (x7, true)) else ((slices_isNaN_string.f (rdOf ByteArray.empty x0 x7)).bind fun t187 => (if t187 = true then ((slices_isNaN_string.f x1).bind fun t188 => (some (x7, t188))) else (some (x7, false))))) else (none)) else (none)) else (some (x7, false)))
def slices_BinarySearch_string_string.f (k : Nat) (l0 : List ByteArray) (a1 : ByteArray) : Option (Int × Bool) := slices_BinarySearch_string_string.l0 k l0 a1 (l0.length : Int) 0 (l0.length : Int)
set_option maxHeartbeats 8000000 in
set_option maxRecDepth 100000 in
theorem slices_BinarySearch_string_string.calls (k : Nat) (A0 : Option Addr) (c0 : Nat) (l0 : List ByteArray) (a1 : ByteArray) (r1 : Int) (r2 : Bool) (w : World) (hr0 : Kd.C Kd.string w A0 l0.length l0) (hc0 : l0.length ≤ c0) (h : slices_BinarySearch_string_string.f k l0 a1 = some (r1, r2)) :
  Calls Try.prog 91 #[.slice A0 l0.length c0, .string a1] w fun e w' => e = .returned (.tuple #[.int .i64 r1, .bool r2]) ∧ Drawn0 w w' := by
 have HR0 := Az hr0; have HC0 := Az hc0; clear hr0 hc0; have H : (slices_BinarySearch_string_string.l0 k l0 a1 (l0.length : Int) 0 (l0.length : Int)) = some (r1, r2) := h; clear h; have H' := Az H; clear H
 go_enter Try.func91, Try.ntmps91
 go_wp2
 go_loopg [7, 8] k (fun kq v7 v8 w' => ∃ (x7_1 : Int) (x8_1 : Int), v7 = .int .i64 x7_1 ∧ v8 = .int .i64 x8_1 ∧ Aside0 (slices_BinarySearch_string_string.l0 kq l0 a1 (l0.length : Int) x7_1 x8_1 = some (r1, r2)) ∧ Aside0 (kq ≤ k) ∧ Drawn0 w w')
 case atStart => exact ⟨(0), ((l0.length : Int)), (by first | rfl | (simp; done) | (simp [*]; done)), (by first | rfl | (simp; done) | (simp [*]; done)), H', ⟨Nat.le_refl _⟩, by repeat (first | exact Drawn0.refl _ | apply Drawn0.step)⟩
 case round =>
  clear H'; (try clear p2); obtain ⟨x7_1, x8_1, rfl, rfl, HA, HK1, ⟨m1, rfl⟩⟩ := hrel
  cases gk with
  | zero => exact absurd HA.out (by simp [slices_BinarySearch_string_string.l0])
  | succ k1 =>
   have H := HA.out; clear HA; simp only [slices_BinarySearch_string_string.l0] at H
   by_cases c3 : x7_1 < x8_1
   ·
    rw [if_pos c3] at H; have c3b0 : decide (x7_1 < x8_1) = true := decide_eq_true c3; clear c3; obtain ⟨ji4, hji4⟩ : ∃ j_ : Int, (wrap64 ((IntKind.u64.wrap (wrap64 (x7_1 + x8_1))) / 2)) = j_ := ⟨_, rfl⟩
    replace H : (if 0 ≤ (ji4) then (if (ji4) < (l0.length : Int) then ((cmp_Less_string.f (rdOf ByteArray.empty l0 (ji4)) a1).bind fun t184 => (if t184 = true then (slices_BinarySearch_string_string.l0 k1 l0 a1 (l0.length : Int) (wrap64 ((ji4) + 1)) x8_1) else (slices_BinarySearch_string_string.l0 k1 l0 a1 (l0.length : Int) x7_1 ji4))) else (none)) else (none)) = some (r1, r2) := by first | (rw [hji4] at H; exact H) | (simp only [hji4] at H ⊢; exact H)
    have hji4w : (IntKind.i64.wrap ((IntKind.u64.wrap (wrap64 (x7_1 + x8_1))) / 2)) = ji4 := (i64_w _).trans hji4
    by_cases c5 : 0 ≤ (ji4)
    ·
     rw [if_pos c5] at H; have c5b0 : decide (0 ≤ (ji4)) = true := decide_eq_true c5; clear c5
     by_cases c6 : (ji4) < (l0.length : Int)
     ·
      rw [if_pos c6] at H; have c6b0 : decide ((ji4) < (l0.length : Int)) = true := decide_eq_true c6; clear c6; replace H := Option.bind_eq_some_iff.mp H; obtain ⟨t184, A70, H⟩ := H; replace H : (if t184 = true then (slices_BinarySearch_string_string.l0 k1 l0 a1 (l0.length : Int) (wrap64 ((ji4) + 1)) x8_1) else (slices_BinarySearch_string_string.l0 k1 l0 a1 (l0.length : Int) x7_1 ji4)) = some (r1, r2) := H; have A7 := Az A70; clear A70
      by_cases c8 : t184 = true
      ·
       subst c8
       have H1 : (slices_BinarySearch_string_string.l0 k1 l0 a1 (l0.length : Int) (wrap64 ((ji4) + 1)) x8_1) = some (r1, r2) := by rw [if_pos rfl] at H; exact H
       clear H; have H := H1; clear H1; have H' := Az H; clear H; have p183 : 0 ≤ ((ji4) : Int) := oz; have q183 : (ji4) < (l0.length : Int) := oz; obtain ⟨ad183, e183, hx183_0⟩ := Kd.at_string HR0.out (ji4) p183 q183
       cases e183
       replace p183 := eq_true p183; replace q183 := eq_true q183
       go_wp2_with (first | ((with_reducible refine gate_callee (f := 97) rfl ?_); refine goesL_ (some 27) rfl rfl Try.func97 (by kernel_rfl) rfl #[.string (rdOf ByteArray.empty l0 (ji4)), .string a1] rfl (by (try simp only [List.map_toArray, List.map_cons, List.map_nil]); first | done | (simp only [hji4]; rfl) | rfl | (simp only [List.length_drop, List.length_take]; rfl)) ?_; (with_reducible refine (cmp_Less_string.calls (rdOf ByteArray.empty l0 (ji4)) a1 true _ A7.out).mono ?_); rintro e w' ⟨rfl, ⟨nd, rfl⟩⟩; refine ⟨_, rfl, ?_⟩))
       go_roundg k1
       case measure => have := HK1.out; omega
       case rel => exact ⟨(wrap64 ((ji4) + 1)), (x8_1), (by first | rfl | (simp; done) | (simp only [← hji4] <;> (first | rfl | simp)) | (simp [*]; done)), (by first | rfl | (simp; done) | (simp [*]; done)), H', ⟨by have := HK1.out; omega⟩, by repeat (first | exact Drawn0.refl _ | apply Drawn0.step)⟩
      ·
       replace c8 := Bool.eq_false_iff.mpr c8; subst c8
       have H1 : (slices_BinarySearch_string_string.l0 k1 l0 a1 (l0.length : Int) x7_1 ji4) = some (r1, r2) := by rw [if_neg (show ¬ (false = true) by decide)] at H; exact H
       clear H; have H := H1; clear H1; have H' := Az H; clear H; have p183 : 0 ≤ ((ji4) : Int) := oz; have q183 : (ji4) < (l0.length : Int) := oz; obtain ⟨ad183, e183, hx183_0⟩ := Kd.at_string HR0.out (ji4) p183 q183
       cases e183
       replace p183 := eq_true p183; replace q183 := eq_true q183
       go_wp2_with (first | ((with_reducible refine gate_callee (f := 97) rfl ?_); refine goesL_ (some 27) rfl rfl Try.func97 (by kernel_rfl) rfl #[.string (rdOf ByteArray.empty l0 (ji4)), .string a1] rfl (by (try simp only [List.map_toArray, List.map_cons, List.map_nil]); first | done | (simp only [hji4]; rfl) | rfl | (simp only [List.length_drop, List.length_take]; rfl)) ?_; (with_reducible refine (cmp_Less_string.calls (rdOf ByteArray.empty l0 (ji4)) a1 false _ A7.out).mono ?_); rintro e w' ⟨rfl, ⟨nd, rfl⟩⟩; refine ⟨_, rfl, ?_⟩))
       go_roundg k1
       case measure => have := HK1.out; omega
       case rel => exact ⟨(x7_1), (ji4), (by first | rfl | (simp; done) | (simp [*]; done)), (by first | rfl | (simp; done) | (simp only [← hji4] <;> (first | rfl | simp)) | (simp [*]; done)), H', ⟨by have := HK1.out; omega⟩, by repeat (first | exact Drawn0.refl _ | apply Drawn0.step)⟩
     ·
      rw [if_neg c6] at H; exact absurd H (by simp)
    ·
     rw [if_neg c5] at H; exact absurd H (by simp)
   ·
    rw [if_neg c3] at H; have c3b0 : decide (x7_1 < x8_1) = false := decide_eq_false c3; clear c3
    by_cases c9 : x7_1 < (l0.length : Int)
    ·
     rw [if_pos c9] at H; have c9b0 : decide (x7_1 < (l0.length : Int)) = true := decide_eq_true c9; clear c9
     by_cases c10 : 0 ≤ x7_1
     ·
      rw [if_pos c10] at H; have c10b0 : decide (0 ≤ x7_1) = true := decide_eq_true c10; clear c10
      by_cases c11 : x7_1 < (l0.length : Int)
      ·
       rw [if_pos c11] at H; have c11b0 : decide (x7_1 < (l0.length : Int)) = true := decide_eq_true c11; clear c11
       by_cases c12 : (rdOf ByteArray.empty l0 x7_1).toList = a1.toList
       ·
        rw [if_pos c12] at H; have c12b0 : ((rdOf ByteArray.empty l0 x7_1).toList == a1.toList) = true := beq_iff_eq.mpr c12; have c12b1 : ((rdOf ByteArray.empty l0 x7_1).toList != a1.toList) = false := bne_eq_false_iff_eq.mpr c12; clear c12; simp only [Option.some.injEq, Prod.mk.injEq] at H; obtain ⟨rfl, rfl⟩ := H; have p185 : 0 ≤ (x7_1 : Int) := oz; have q185 : x7_1 < (l0.length : Int) := oz; obtain ⟨ad185, e185, hx185_0⟩ := Kd.at_string HR0.out x7_1 p185 q185
        cases e185
        replace p185 := eq_true p185; replace q185 := eq_true q185
        go_wp2
        go_ret2
        exact ⟨by first | rfl | (simp; done) | (simp [*]; done), by repeat (first | exact Drawn0.refl _ | apply Drawn0.step)⟩
       ·
        rw [if_neg c12] at H; have c12b0 : ((rdOf ByteArray.empty l0 x7_1).toList == a1.toList) = false := beq_eq_false_iff_ne.mpr c12; have c12b1 : ((rdOf ByteArray.empty l0 x7_1).toList != a1.toList) = true := bne_iff_ne.mpr c12; replace H := Option.bind_eq_some_iff.mp H; obtain ⟨t187, A130, H⟩ := H; replace H : (if t187 = true then ((slices_isNaN_string.f a1).bind fun t188 => (some (x7_1, t188))) else (some (x7_1, false))) = some (r1, r2) := H; have A13 := Az A130; clear A130
        by_cases c14 : t187 = true
        ·
         subst c14
         have H1 : ((slices_isNaN_string.f a1).bind fun t188 => (some (x7_1, t188))) = some (r1, r2) := by rw [if_pos rfl] at H; exact H
         clear H; have H := H1; clear H1; replace H := Option.bind_eq_some_iff.mp H; obtain ⟨t188, A150, H⟩ := H; replace H : (some (x7_1, t188)) = some (r1, r2) := H; have A15 := Az A150; clear A150; simp only [Option.some.injEq, Prod.mk.injEq] at H; obtain ⟨rfl, rfl⟩ := H; have p185 : 0 ≤ (x7_1 : Int) := oz; have q185 : x7_1 < (l0.length : Int) := oz; obtain ⟨ad185, e185, hx185_0⟩ := Kd.at_string HR0.out x7_1 p185 q185
         cases e185
         replace p185 := eq_true p185; replace q185 := eq_true q185; have p186 : 0 ≤ (x7_1 : Int) := oz; have q186 : x7_1 < (l0.length : Int) := oz; obtain ⟨ad186, e186, hx186_0⟩ := Kd.at_string HR0.out x7_1 p186 q186; obtain rfl : ad185 = ad186 := (by injection e186); replace p186 := eq_true p186; replace q186 := eq_true q186
         go_wp2_with (first | (go_at_call 98; (with_reducible refine (slices_isNaN_string.calls (rdOf ByteArray.empty l0 x7_1) true _ A13.out).mono ?_); rintro e w' ⟨rfl, ⟨nd, rfl⟩⟩) | (go_at_call 98; (with_reducible refine (slices_isNaN_string.calls a1 t188 _ A15.out).mono ?_); rintro e w' ⟨rfl, ⟨nd, rfl⟩⟩))
         go_ret2
         exact ⟨by first | rfl | (simp; done) | (simp [*]; done), by repeat (first | exact Drawn0.refl _ | apply Drawn0.step)⟩
        ·
         replace c14 := Bool.eq_false_iff.mpr c14; subst c14
         have H1 : (some (x7_1, false)) = some (r1, r2) := by rw [if_neg (show ¬ (false = true) by decide)] at H; exact H
         clear H; have H := H1; clear H1; simp only [Option.some.injEq, Prod.mk.injEq] at H; obtain ⟨rfl, rfl⟩ := H; have p185 : 0 ≤ (x7_1 : Int) := oz; have q185 : x7_1 < (l0.length : Int) := oz; obtain ⟨ad185, e185, hx185_0⟩ := Kd.at_string HR0.out x7_1 p185 q185
         cases e185
         replace p185 := eq_true p185; replace q185 := eq_true q185; have p186 : 0 ≤ (x7_1 : Int) := oz; have q186 : x7_1 < (l0.length : Int) := oz; obtain ⟨ad186, e186, hx186_0⟩ := Kd.at_string HR0.out x7_1 p186 q186; obtain rfl : ad185 = ad186 := (by injection e186); replace p186 := eq_true p186; replace q186 := eq_true q186
         go_wp2_with (first | (go_at_call 98; (with_reducible refine (slices_isNaN_string.calls (rdOf ByteArray.empty l0 x7_1) false _ A13.out).mono ?_); rintro e w' ⟨rfl, ⟨nd, rfl⟩⟩))
         go_ret2
         exact ⟨by first | rfl | (simp; done) | (simp [*]; done), by repeat (first | exact Drawn0.refl _ | apply Drawn0.step)⟩
      ·
       rw [if_neg c11] at H; exact absurd H (by simp)
     ·
      rw [if_neg c10] at H; exact absurd H (by simp)
    ·
     rw [if_neg c9] at H; have c9b0 : decide (x7_1 < (l0.length : Int)) = false := decide_eq_false c9; clear c9; simp only [Option.some.injEq, Prod.mk.injEq] at H; obtain ⟨rfl, rfl⟩ := H
     go_wp2
     go_ret2
     exact ⟨by first | rfl | (simp; done) | (simp [*]; done), by repeat (first | exact Drawn0.refl _ | apply Drawn0.step)⟩

end Go.Proofs.Ytjndpoofjidamaa.PFnExactTake14
