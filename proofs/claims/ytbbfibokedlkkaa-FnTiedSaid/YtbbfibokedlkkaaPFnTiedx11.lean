/- Walks of the functions named below, by a program of the session over the kit's printer. -/
import Derived.Test.YtbbfibokedlkkaaPFnTiedx0
import Derived.Test.YtbbfibokedlkkaaPFnTiedx10
namespace Go.Proofs.Ytbbfibokedlkkaa.PFnTied
open Go.RowKit Go.Proofs.YtbbfibokedlkkaaW.PrintWords Go.Proofs.YtbbfibokedlkkaaW.PrintLast Go.Proofs.YtbbfibokedlkkaaW.PrintMore
attribute [local go_sem] max2_int min2_int max_two min_two max_three min_three max_four min_four   -- for this text's walks alone
set_option linter.unusedVariables false
set_option linter.unusedSimpArgs false

/-! ### spec_l7Well: function 84 -/
def spec_l7Well.l0 : Nat → List Int → Int → Int → List (S57) → List (S55) → List (S59) → Option (Bool)
 | 0, _, _, _, _, _, _ => none
 | k + 1, x3, x5, x322000, x322001, x322002, x322003 => if x5 < (x3.length : Int) then (if 0 ≤ x5 then (if 0 ≤ (rd x3 x5) then (if (rd x3 x5) < (x322003.length : Int) then (if ((rd_T59 x322003 (rd x3 x5)).f2) = 0 then (some false) else (spec_l7Well.l0 k x3 (wrap64 (x5 + 1)) x322000 x322001 x322002 x322003)) else (none)) else (none)) else (none)) else (some true)
def spec_l7Well.f (k : Nat) (a0_0 : Int) (l0_1 : List (S57)) (l0_2 : List (S55)) (l0_3 : List (S59)) : Option (Bool) := (spec_Shed.f k a0_0 l0_1 l0_2 l0_3).bind fun bt322 => (spec_l7Well.l0 k bt322.1 0 a0_0 l0_1 l0_2 l0_3)
set_option maxHeartbeats 8000000 in
set_option maxRecDepth 100000 in
theorem spec_l7Well.calls (k : Nat) (a0_0 : Int) (A0_1 : Option Addr) (c0_1 : Nat) (l0_1 : List (S57)) (A0_2 : Option Addr) (c0_2 : Nat) (l0_2 : List (S55)) (A0_3 : Option Addr) (c0_3 : Nat) (l0_3 : List (S59)) (r : Bool) (w : World) (hr0_1 : Kd.C k57 w A0_1 l0_1.length l0_1) (hc0_1 : l0_1.length ≤ c0_1) (hr0_2 : Kd.C k55 w A0_2 l0_2.length l0_2) (hc0_2 : l0_2.length ≤ c0_2) (hr0_3 : Kd.C k59 w A0_3 l0_3.length l0_3) (hc0_3 : l0_3.length ≤ c0_3) (h : spec_l7Well.f k a0_0 l0_1 l0_2 l0_3 = some r) :
  Calls Try.prog 84 #[.agg #[.int .i64 a0_0, .slice A0_1 l0_1.length c0_1, .slice A0_2 l0_2.length c0_2, .slice A0_3 l0_3.length c0_3]] w fun e w' => e = .returned (.bool r) ∧ Below w.heap.size w w' := by
 have hu41 := Try.underlying41; have HR0_1 := Az hr0_1; have HC0_1 := Az hc0_1; clear hr0_1 hc0_1; have HR0_2 := Az hr0_2; have HC0_2 := Az hc0_2; clear hr0_2 hc0_2; have HR0_3 := Az hr0_3; have HC0_3 := Az hc0_3; clear hr0_3 hc0_3; have HB := Az (Below.refl w.heap.size w); have H : ((spec_Shed.f k a0_0 l0_1 l0_2 l0_3).bind fun bt322 => (spec_l7Well.l0 k bt322.1 0 a0_0 l0_1 l0_2 l0_3)) = some r := h; clear h; replace H := Option.bind_eq_some_iff.mp H; obtain ⟨⟨t322, t325⟩, A20, H⟩ := H; replace H : (spec_l7Well.l0 k t322 0 a0_0 l0_1 l0_2 l0_3) = some r := H; have A2 := Az A20; clear A20; have H' := Az H; clear H
 go_enter Try.func84, Try.ntmps84
 go_wp2_with (first | ((with_reducible refine gate_dst (N := 1) rfl ?_); refine box_event ?hg (N := 1) ?hd (cs := #[.int .i64 a0_0, .slice A0_1 l0_1.length c0_1, .slice A0_2 l0_2.length c0_2, .slice A0_3 l0_3.length c0_3]) (t := 41) ?hr ?_; (case hd => rfl); (case hg => rfl); (case hr => first | (go_simp; done) | (go_simp; rfl)); intro gb321 hg w3 hbox hb; have BK321 := Az (hbox); have GW321 := Az ((by rw [hg]; exact (below_size bz) : w.heap.size ≤ gb321)); replace HB := Az (below_step bz hb); have GE321 := GW321; clear hb hbox hg; obtain ⟨hcz4_0, hcz4_1, hcz4_2, hcz4_3⟩ := bc4 BK321.out; obtain ⟨hfz4_0, hfz4_1, hfz4_2, hfz4_3⟩ := bf4_ BK321.out) | (go_at_call 32; (with_reducible refine (spec_Shed.calls k a0_0 _ _ l0_1 _ _ l0_2 _ _ l0_3 t322 t325 _ ?side1 ?side2 ?side3 ?side4 ?side5 ?side6 A2.out).mono ?_); (case side1 => exact cu HR0_1.out HB.out); (case side2 => exact HC0_1.out); (case side3 => exact cu HR0_2.out HB.out); (case side4 => exact HC0_2.out); (case side5 => exact cu HR0_3.out HB.out); (case side6 => exact HC0_3.out); rintro e w5 ⟨v323, rfl, ho0, hb⟩; have HO324 := Az (Kd.R_lower ho0 (below_size bz)); replace BK321 := Az (blk_below (bu BK321.out) hb); replace HB := Az (below_step bz hb); (try clear hb); (try clear hb2); (try clear hk); (try clear hi); (try clear ho0)))
 repeat (go_quiet (first | ((with_reducible refine gate_dst (N := 1) rfl ?_); refine box_event ?hg (N := 1) ?hd (cs := #[.int .i64 a0_0, .slice A0_1 l0_1.length c0_1, .slice A0_2 l0_2.length c0_2, .slice A0_3 l0_3.length c0_3]) (t := 41) ?hr ?_; (case hd => rfl); (case hg => rfl); (case hr => first | (go_simp; done) | (go_simp; rfl)); intro gb321 hg w3 hbox hb; have BK321 := Az (hbox); have GW321 := Az ((by rw [hg]; exact (below_size bz) : w.heap.size ≤ gb321)); replace HB := Az (below_step bz hb); have GE321 := GW321; clear hb hbox hg; obtain ⟨hcz4_0, hcz4_1, hcz4_2, hcz4_3⟩ := bc4 BK321.out; obtain ⟨hfz4_0, hfz4_1, hfz4_2, hfz4_3⟩ := bf4_ BK321.out) | (go_at_call 32; (with_reducible refine (spec_Shed.calls k a0_0 _ _ l0_1 _ _ l0_2 _ _ l0_3 t322 t325 _ ?side1 ?side2 ?side3 ?side4 ?side5 ?side6 A2.out).mono ?_); (case side1 => exact cu HR0_1.out HB.out); (case side2 => exact HC0_1.out); (case side3 => exact cu HR0_2.out HB.out); (case side4 => exact HC0_2.out); (case side5 => exact cu HR0_3.out HB.out); (case side6 => exact HC0_3.out); rintro e w5 ⟨v323, rfl, ho0, hb⟩; have HO324 := Az (Kd.R_lower ho0 (below_size bz)); replace BK321 := Az (blk_below (bu BK321.out) hb); replace HB := Az (below_step bz hb); (try clear hb); (try clear hb2); (try clear hk); (try clear hi); (try clear ho0))); try go_wp2_with (first | ((with_reducible refine gate_dst (N := 1) rfl ?_); refine box_event ?hg (N := 1) ?hd (cs := #[.int .i64 a0_0, .slice A0_1 l0_1.length c0_1, .slice A0_2 l0_2.length c0_2, .slice A0_3 l0_3.length c0_3]) (t := 41) ?hr ?_; (case hd => rfl); (case hg => rfl); (case hr => first | (go_simp; done) | (go_simp; rfl)); intro gb321 hg w3 hbox hb; have BK321 := Az (hbox); have GW321 := Az ((by rw [hg]; exact (below_size bz) : w.heap.size ≤ gb321)); replace HB := Az (below_step bz hb); have GE321 := GW321; clear hb hbox hg; obtain ⟨hcz4_0, hcz4_1, hcz4_2, hcz4_3⟩ := bc4 BK321.out; obtain ⟨hfz4_0, hfz4_1, hfz4_2, hfz4_3⟩ := bf4_ BK321.out) | (go_at_call 32; (with_reducible refine (spec_Shed.calls k a0_0 _ _ l0_1 _ _ l0_2 _ _ l0_3 t322 t325 _ ?side1 ?side2 ?side3 ?side4 ?side5 ?side6 A2.out).mono ?_); (case side1 => exact cu HR0_1.out HB.out); (case side2 => exact HC0_1.out); (case side3 => exact cu HR0_2.out HB.out); (case side4 => exact HC0_2.out); (case side5 => exact cu HR0_3.out HB.out); (case side6 => exact HC0_3.out); rintro e w5 ⟨v323, rfl, ho0, hb⟩; have HO324 := Az (Kd.R_lower ho0 (below_size bz)); replace BK321 := Az (blk_below (bu BK321.out) hb); replace HB := Az (below_step bz hb); (try clear hb); (try clear hb2); (try clear hk); (try clear hi); (try clear ho0))))
 go_loopg [5] k (fun kq v5 w' => ∃ (x5_1 : Int), v5 = .int .i64 x5_1 ∧ Aside0 (spec_l7Well.l0 kq t322 x5_1 a0_0 l0_1 l0_2 l0_3 = some r) ∧ Aside0 (kq ≤ k) ∧ Aside0 (Kd.R (Kd.int .i64) 3 w' w.heap.size (fun _ => True) v323 t322) ∧ Aside0 (w'.heap[gb321]? = some (.cells #[.int .i64 a0_0, (.slice A0_1 l0_1.length c0_1), (.slice A0_2 l0_2.length c0_2), (.slice A0_3 l0_3.length c0_3)] 41 (0, 0))) ∧ Aside0 (Below w.heap.size w w'))
 case atStart => exact ⟨(0), (by first | rfl | (simp; done) | (simp [*]; done)), H', ⟨Nat.le_refl _⟩, ⟨ru HO324.out⟩, ⟨by refine bu ?_; exact BK321.out⟩, ⟨bz⟩⟩
 case round =>
  clear H'; (try clear p2); (try clear hcz4_0); (try clear hcz4_1); (try clear hcz4_2); (try clear hcz4_3); (try clear hfz4_0); (try clear hfz4_1); (try clear hfz4_2); (try clear hfz4_3); obtain ⟨x5_1, rfl, HA, HK1, HO_3, BK321, HB⟩ := hrel
  cases gk with
  | zero => exact absurd HA.out (by simp [spec_l7Well.l0])
  | succ k1 =>
   have H := HA.out; clear HA; simp only [spec_l7Well.l0] at H
   by_cases c6 : x5_1 < (t322.length : Int)
   ·
    rw [if_pos c6] at H; have c6b0 : decide (x5_1 < (t322.length : Int)) = true := decide_eq_true c6; clear c6
    by_cases c7 : 0 ≤ x5_1
    ·
     rw [if_pos c7] at H; have c7b0 : decide (0 ≤ x5_1) = true := decide_eq_true c7; clear c7
     by_cases c8 : 0 ≤ (rd t322 x5_1)
     ·
      rw [if_pos c8] at H; have c8b0 : decide (0 ≤ (rd t322 x5_1)) = true := decide_eq_true c8; clear c8
      by_cases c9 : (rd t322 x5_1) < (l0_3.length : Int)
      ·
       rw [if_pos c9] at H; have c9b0 : decide ((rd t322 x5_1) < (l0_3.length : Int)) = true := decide_eq_true c9; clear c9
       by_cases c10 : ((rd_T59 l0_3 (rd t322 x5_1)).f2) = 0
       ·
        rw [if_pos c10] at H; have c10b0 : (((rd_T59 l0_3 (rd t322 x5_1)).f2) == 0) = true := beq_iff_eq.mpr c10; have c10b1 : (((rd_T59 l0_3 (rd t322 x5_1)).f2) != 0) = false := bne_eq_false_iff_eq.mpr c10; clear c10; obtain rfl := Option.some.inj H; obtain ⟨Ao11, co11, eo11⟩ := Kd.R_slice HO_3.out; subst eo11; obtain ⟨hcz12_0, hcz12_1, hcz12_2, hcz12_3⟩ := bc4 BK321.out; obtain ⟨hfz12_0, hfz12_1, hfz12_2, hfz12_3⟩ := bf4_ BK321.out; have p326 : 0 ≤ (x5_1 : Int) := oz; have q326 : x5_1 < (t322.length : Int) := oz; obtain ⟨ad326, e326, hx326_0⟩ := Kd.at_int (Kd.R_reads' HO_3.out).2.2 x5_1 p326 q326
        cases e326
        replace p326 := eq_true p326; replace q326 := eq_true q326; have p327 : 0 ≤ ((rd t322 x5_1) : Int) := oz; have q327 : (rd t322 x5_1) < (l0_3.length : Int) := oz; obtain ⟨ad327, e327, hx327_0, hx327_1, hx327_2⟩ := at_T59 HR0_3.out (rd t322 x5_1) p327 q327
        cases e327
        replace hx327_0 := pw_cell_below HB.out hx327_0; replace hx327_1 := pw_cell_below HB.out hx327_1; replace hx327_2 := pw_cell_below HB.out hx327_2; replace p327 := eq_true p327; replace q327 := eq_true q327
        go_wp2
        repeat (go_quiet (fail); try go_wp2)
        go_ret
        exact ⟨rz, bz⟩
       ·
        rw [if_neg c10] at H; have c10b0 : (((rd_T59 l0_3 (rd t322 x5_1)).f2) == 0) = false := beq_eq_false_iff_ne.mpr c10; have c10b1 : (((rd_T59 l0_3 (rd t322 x5_1)).f2) != 0) = true := bne_iff_ne.mpr c10; have H' := Az H; clear H; obtain ⟨Ao13, co13, eo13⟩ := Kd.R_slice HO_3.out; subst eo13; obtain ⟨hcz14_0, hcz14_1, hcz14_2, hcz14_3⟩ := bc4 BK321.out; obtain ⟨hfz14_0, hfz14_1, hfz14_2, hfz14_3⟩ := bf4_ BK321.out; have p326 : 0 ≤ (x5_1 : Int) := oz; have q326 : x5_1 < (t322.length : Int) := oz; obtain ⟨ad326, e326, hx326_0⟩ := Kd.at_int (Kd.R_reads' HO_3.out).2.2 x5_1 p326 q326
        cases e326
        replace p326 := eq_true p326; replace q326 := eq_true q326; have p327 : 0 ≤ ((rd t322 x5_1) : Int) := oz; have q327 : (rd t322 x5_1) < (l0_3.length : Int) := oz; obtain ⟨ad327, e327, hx327_0, hx327_1, hx327_2⟩ := at_T59 HR0_3.out (rd t322 x5_1) p327 q327
        cases e327
        replace hx327_0 := pw_cell_below HB.out hx327_0; replace hx327_1 := pw_cell_below HB.out hx327_1; replace hx327_2 := pw_cell_below HB.out hx327_2; replace p327 := eq_true p327; replace q327 := eq_true q327
        go_wp2
        repeat (go_quiet (fail); try go_wp2)
        go_roundg k1
        case measure => have := HK1.out; omega
        case rel => exact ⟨(wrap64 (x5_1 + 1)), (by first | rfl | (simp; done) | (simp [*]; done)), H', ⟨by have := HK1.out; omega⟩, ⟨ru HO_3.out⟩, ⟨by refine bu ?_; exact BK321.out⟩, ⟨bz⟩⟩
      ·
       rw [if_neg c9] at H; exact absurd H (by simp)
     ·
      rw [if_neg c8] at H; exact absurd H (by simp)
    ·
     rw [if_neg c7] at H; exact absurd H (by simp)
   ·
    rw [if_neg c6] at H; have c6b0 : decide (x5_1 < (t322.length : Int)) = false := decide_eq_false c6; clear c6; obtain rfl := Option.some.inj H; obtain ⟨Ao15, co15, eo15⟩ := Kd.R_slice HO_3.out; subst eo15
    go_wp2
    repeat (go_quiet (fail); try go_wp2)
    go_ret
    exact ⟨rz, bz⟩

end Go.Proofs.Ytbbfibokedlkkaa.PFnTied
