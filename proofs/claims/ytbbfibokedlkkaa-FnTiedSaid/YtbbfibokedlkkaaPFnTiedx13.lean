/- Walks of the functions named below, by a program of the session over the kit's printer. -/
import Derived.Test.YtbbfibokedlkkaaPFnTiedx0
import Derived.Test.YtbbfibokedlkkaaPFnTiedx3
import Derived.Test.YtbbfibokedlkkaaPFnTiedx6
import Derived.Test.YtbbfibokedlkkaaPFnTiedx7
import Derived.Test.YtbbfibokedlkkaaPFnTiedx8
import Derived.Test.YtbbfibokedlkkaaPFnTiedx12
namespace Go.Proofs.Ytbbfibokedlkkaa.PFnTied
open Go.RowKit Go.Proofs.YtbbfibokedlkkaaW.PrintWords Go.Proofs.YtbbfibokedlkkaaW.PrintLast Go.Proofs.YtbbfibokedlkkaaW.PrintMore
attribute [local go_sem] max2_int min2_int max_two min_two max_three min_three max_four min_four   -- for this text's walks alone
set_option linter.unusedVariables false
set_option linter.unusedSimpArgs false

/-! ### spec_CloseFor: function 30 -/
mutual
def spec_CloseFor.j0 : Nat → Int → Bool → Int → List (S57) → List (S55) → List (S59) → Option (List Int × Bool)
 | 0, _, _, _, _, _, _ => none
 | k + 1, x1, x16, x359000, x359001, x359002, x359003 => if x16 = true then (some ((([] : List Int)), false)) else (spec_CloseFor.l0 k x1 0 x359000 x359001 x359002 x359003)
def spec_CloseFor.l0 : Nat → Int → Int → Int → List (S57) → List (S55) → List (S59) → Option (List Int × Bool)
 | 0, _, _, _, _, _, _ => none
 | k + 1, x1, x6, x359000, x359001, x359002, x359003 => if x6 ≤ x1 then ((spec_l7Close.f k x359000 x359001 x359002 x359003 0 x6 (([] : List Int))).bind fun bt367 => (if bt367.2 = true then (some (bt367.1, true)) else (spec_CloseFor.l0 k x1 (wrap64 (x6 + 1)) x359000 x359001 x359002 x359003))) else (some ((([] : List Int)), false))
end
def spec_CloseFor.f (k : Nat) (a0_0 : Int) (l0_1 : List (S57)) (l0_2 : List (S55)) (l0_3 : List (S59)) (a1 : Int) : Option (List Int × Bool) := (spec_NetOk.f k a0_0 l0_1 l0_2 l0_3).bind fun t359 => (if t359 = true then ((spec_l1In.f a1 0 3).bind fun t360 => (spec_CloseFor.j0 k a1 (!t360) a0_0 l0_1 l0_2 l0_3)) else (spec_CloseFor.j0 k a1 true a0_0 l0_1 l0_2 l0_3))
set_option maxHeartbeats 8000000 in
set_option maxRecDepth 100000 in
theorem spec_CloseFor.calls (k : Nat) (a0_0 : Int) (A0_1 : Option Addr) (c0_1 : Nat) (l0_1 : List (S57)) (A0_2 : Option Addr) (c0_2 : Nat) (l0_2 : List (S55)) (A0_3 : Option Addr) (c0_3 : Nat) (l0_3 : List (S59)) (a1 : Int) (r1 : List Int) (r2 : Bool) (w : World) (hr0_1 : Kd.C k57 w A0_1 l0_1.length l0_1) (hc0_1 : l0_1.length ≤ c0_1) (hr0_2 : Kd.C k55 w A0_2 l0_2.length l0_2) (hc0_2 : l0_2.length ≤ c0_2) (hr0_3 : Kd.C k59 w A0_3 l0_3.length l0_3) (hc0_3 : l0_3.length ≤ c0_3) (h : spec_CloseFor.f k a0_0 l0_1 l0_2 l0_3 a1 = some (r1, r2)) :
  Calls Try.prog 30 #[.agg #[.int .i64 a0_0, .slice A0_1 l0_1.length c0_1, .slice A0_2 l0_2.length c0_2, .slice A0_3 l0_3.length c0_3], .int .i64 a1] w fun e w' => ∃ v0_ : Value, e = .returned (.tuple #[v0_, .bool r2]) ∧ Kd.R (Kd.int .i64) 3 w' w.heap.size (fun _ => True) v0_ r1 ∧ Below w.heap.size w w' := by
 have hu41 := Try.underlying41; have HR0_1 := Az hr0_1; have HC0_1 := Az hc0_1; clear hr0_1 hc0_1; have HR0_2 := Az hr0_2; have HC0_2 := Az hc0_2; clear hr0_2 hc0_2; have HR0_3 := Az hr0_3; have HC0_3 := Az hc0_3; clear hr0_3 hc0_3; have HB := Az (Below.refl w.heap.size w); have H : ((spec_NetOk.f k a0_0 l0_1 l0_2 l0_3).bind fun t359 => (if t359 = true then ((spec_l1In.f a1 0 3).bind fun t360 => (spec_CloseFor.j0 k a1 (!t360) a0_0 l0_1 l0_2 l0_3)) else (spec_CloseFor.j0 k a1 true a0_0 l0_1 l0_2 l0_3))) = some (r1, r2) := h; clear h; have HC3 := Az H; clear H
 go_enter Try.func30, Try.ntmps30
 go_upto_region 1 with (first | ((with_reducible refine gate_dst (N := 2) rfl ?_); refine box_event ?hg (N := 2) ?hd (cs := #[.int .i64 a0_0, .slice A0_1 l0_1.length c0_1, .slice A0_2 l0_2.length c0_2, .slice A0_3 l0_3.length c0_3]) (t := 41) ?hr ?_; (case hd => rfl); (case hg => rfl); (case hr => first | (go_simp; done) | (go_simp; rfl)); intro gb358 hg w4 hbox hb; have BK358 := Az (hbox); have GW358 := Az ((by rw [hg]; exact (below_size bz) : w.heap.size ≤ gb358)); replace HB := Az (below_step bz hb); have GE358 := GW358; clear hb hbox hg))
 (try simp only [Act.put, sA, sB, sC])
 go_cut [16] (fun v16 wc => ∃ (kq : Nat) (x16_2 : Bool), v16 = .bool x16_2 ∧ Aside0 (spec_CloseFor.j0 kq a1 x16_2 a0_0 l0_1 l0_2 l0_3 = some (r1, r2)) ∧ Aside0 (kq ≤ k) ∧ Aside0 (wc.heap[gb358]? = some (.cells #[.int .i64 a0_0, (.slice A0_1 l0_1.length c0_1), (.slice A0_2 l0_2.length c0_2), (.slice A0_3 l0_3.length c0_3)] 41 (0, 0))) ∧ Aside0 (Below w.heap.size w wc))
 case first =>
  have H := HC3.out; clear HC3; replace H := Option.bind_eq_some_iff.mp H; obtain ⟨t359, A50, H⟩ := H; replace H : (if t359 = true then ((spec_l1In.f a1 0 3).bind fun t360 => (spec_CloseFor.j0 k a1 (!t360) a0_0 l0_1 l0_2 l0_3)) else (spec_CloseFor.j0 k a1 true a0_0 l0_1 l0_2 l0_3)) = some (r1, r2) := H; have A5 := Az A50; clear A50
  by_cases c6 : t359 = true
  ·
   subst c6
   have H1 : ((spec_l1In.f a1 0 3).bind fun t360 => (spec_CloseFor.j0 k a1 (!t360) a0_0 l0_1 l0_2 l0_3)) = some (r1, r2) := by rw [if_pos rfl] at H; exact H
   clear H; have H := H1; clear H1; replace H := Option.bind_eq_some_iff.mp H; obtain ⟨t360, A70, H⟩ := H; replace H : (spec_CloseFor.j0 k a1 (!t360) a0_0 l0_1 l0_2 l0_3) = some (r1, r2) := H; have A7 := Az A70; clear A70; have H' := Az H; clear H; obtain ⟨hcz8_0, hcz8_1, hcz8_2, hcz8_3⟩ := bc4 BK358.out; obtain ⟨hfz8_0, hfz8_1, hfz8_2, hfz8_3⟩ := bf4_ BK358.out
   go_wp2_with (first | ((with_reducible refine gate_callee (f := 15) rfl ?_); refine goesL_ (some 10) rfl rfl Try.func15 (by kernel_rfl) rfl #[.agg #[.int .i64 a0_0, .slice A0_1 l0_1.length c0_1, .slice A0_2 l0_2.length c0_2, .slice A0_3 l0_3.length c0_3]] rfl (by (try simp only [List.map_toArray, List.map_cons, List.map_nil]); first | done | rfl) ?_; (with_reducible refine (spec_NetOk.calls k a0_0 _ _ l0_1 _ _ l0_2 _ _ l0_3 true _ ?side1 ?side2 ?side3 ?side4 ?side5 ?side6 A5.out).mono ?_); (case side1 => exact cu HR0_1.out HB.out); (case side2 => exact HC0_1.out); (case side3 => exact cu HR0_2.out HB.out); (case side4 => exact HC0_2.out); (case side5 => exact cu HR0_3.out HB.out); (case side6 => exact HC0_3.out); rintro e w9 ⟨rfl, hb⟩; refine ⟨_, rfl, ?_⟩; replace BK358 := Az (blk_below (bu BK358.out) hb); replace HB := Az (below_step bz hb); (try clear hb); (try clear hb2); (try clear hk); (try clear hi)) | (go_at_call 33; (with_reducible refine (spec_l1In.calls a1 0 3 t360 _ A7.out).mono ?_); rintro e w' ⟨rfl, ⟨nd, rfl⟩⟩))
   go_meet
   case rel => exact ⟨_, (!t360), (by first | rfl | (simp; done) | (simp [*]; done)), H', ⟨by first | omega | exact Nat.le_refl _⟩, ⟨by refine bu ?_; exact BK358.out⟩, ⟨bz⟩⟩
  ·
   replace c6 := Bool.eq_false_iff.mpr c6; subst c6
   have H1 : (spec_CloseFor.j0 k a1 true a0_0 l0_1 l0_2 l0_3) = some (r1, r2) := by rw [if_neg (show ¬ (false = true) by decide)] at H; exact H
   clear H; have H := H1; clear H1; have H' := Az H; clear H; obtain ⟨hcz10_0, hcz10_1, hcz10_2, hcz10_3⟩ := bc4 BK358.out; obtain ⟨hfz10_0, hfz10_1, hfz10_2, hfz10_3⟩ := bf4_ BK358.out
   go_wp2_with (first | ((with_reducible refine gate_callee (f := 15) rfl ?_); refine goesL_ (some 10) rfl rfl Try.func15 (by kernel_rfl) rfl #[.agg #[.int .i64 a0_0, .slice A0_1 l0_1.length c0_1, .slice A0_2 l0_2.length c0_2, .slice A0_3 l0_3.length c0_3]] rfl (by (try simp only [List.map_toArray, List.map_cons, List.map_nil]); first | done | rfl) ?_; (with_reducible refine (spec_NetOk.calls k a0_0 _ _ l0_1 _ _ l0_2 _ _ l0_3 false _ ?side1 ?side2 ?side3 ?side4 ?side5 ?side6 A5.out).mono ?_); (case side1 => exact cu HR0_1.out HB.out); (case side2 => exact HC0_1.out); (case side3 => exact cu HR0_2.out HB.out); (case side4 => exact HC0_2.out); (case side5 => exact cu HR0_3.out HB.out); (case side6 => exact HC0_3.out); rintro e w11 ⟨rfl, hb⟩; refine ⟨_, rfl, ?_⟩; replace BK358 := Az (blk_below (bu BK358.out) hb); replace HB := Az (below_step bz hb); (try clear hb); (try clear hb2); (try clear hk); (try clear hi)))
   go_meet
   case rel => exact ⟨_, (true), (by first | rfl | (simp; done) | (simp [*]; done)), H', ⟨by first | omega | exact Nat.le_refl _⟩, ⟨by refine bu ?_; exact BK358.out⟩, ⟨bz⟩⟩
 case rest =>
  clear HC3; (try clear c1); (try clear p2); (try clear c3); (try clear c6); (try clear hcz10_0); (try clear hcz10_1); (try clear hcz10_2); (try clear hcz10_3); (try clear hcz8_0); (try clear hcz8_1); (try clear hcz8_2); (try clear hcz8_3); (try clear hfz10_0); (try clear hfz10_1); (try clear hfz10_2); (try clear hfz10_3); (try clear hfz8_0); (try clear hfz8_1); (try clear hfz8_2); (try clear hfz8_3); obtain ⟨kq, x16_2, rfl, HA, HJ2, BK358, HB⟩ := hcut
  cases kq with
  | zero => exact absurd HA.out (by simp [spec_CloseFor.j0])
  | succ kj2 =>
   have H := HA.out; clear HA; simp only [spec_CloseFor.j0] at H
   by_cases c12 : x16_2 = true
   ·
    subst c12
    have H1 : (some ((([] : List Int)), false)) = some (r1, r2) := by rw [if_pos rfl] at H; exact H
    clear H; have H := H1; clear H1; obtain ⟨y361, hy361⟩ : ∃ y_ : List Int, y_ = (([] : List Int)) := ⟨_, rfl⟩
    replace H : (some (y361, false)) = some (r1, r2) := by have hy_ := hy361; exact yz
    have Ny361 := Az hy361; clear hy361; simp only [Option.some.injEq, Prod.mk.injEq] at H; obtain ⟨rfl, rfl⟩ := H
    go_wp2_with (first | ((with_reducible refine gate_dst (N := 17) rfl ?_); refine Kd.R_lit (Kd.int .i64) _ 3 ?hg (N := 17) ?hd (xs := ([] : List Int)) (inner := []) (ok := fun _ => True) (okp := fun _ => True) ?hr ?hp (fun _ hk => hk) trivial (Below.refl _ _) (Nat.le_refl _) (by simp) ?_; (case hd => rfl); (case hg => rfl); (case hr => first | (go_simp; done) | (go_simp; rfl)); (case hp => exact (Reps.none _ _)); intro v362 w13 ho14 hb hg_ hnew_; clear hg_ hnew_; (first | rw [← Ny361.out] at ho14 | (simp only [Int.reduceToNat] at ho14; rw [← Ny361.out] at ho14)); have HO363 := Az (Kd.R_lower ho14 (below_size bz)); replace BK358 := Az (blk_below (bu BK358.out) hb); replace HB := Az (below_step bz hb); clear hb ho14))
    go_ret2
    exact ⟨_, rz, ru HO363.out, bz⟩
   ·
    replace c12 := Bool.eq_false_iff.mpr c12; subst c12
    have H1 : (spec_CloseFor.l0 kj2 a1 0 a0_0 l0_1 l0_2 l0_3) = some (r1, r2) := by rw [if_neg (show ¬ (false = true) by decide)] at H; exact H
    clear H; have H := H1; clear H1; have H' := Az H; clear H
    go_wp2
    go_loopg [6] kj2 (fun kq v6 w' => ∃ (x6_2 : Int), v6 = .int .i64 x6_2 ∧ Aside0 (spec_CloseFor.l0 kq a1 x6_2 a0_0 l0_1 l0_2 l0_3 = some (r1, r2)) ∧ Aside0 (kq ≤ kj2) ∧ Aside0 (w'.heap[gb358]? = some (.cells #[.int .i64 a0_0, (.slice A0_1 l0_1.length c0_1), (.slice A0_2 l0_2.length c0_2), (.slice A0_3 l0_3.length c0_3)] 41 (0, 0))) ∧ Aside0 (Below w.heap.size w w'))
    case atStart => exact ⟨(0), (by first | rfl | (simp; done) | (simp [*]; done)), H', ⟨Nat.le_refl _⟩, ⟨by refine bu ?_; exact BK358.out⟩, ⟨bz⟩⟩
    case round =>
     clear H'; (try clear c1); (try clear p2); (try clear c3); (try clear c6); (try clear c12); (try clear hcz10_0); (try clear hcz10_1); (try clear hcz10_2); (try clear hcz10_3); (try clear hcz8_0); (try clear hcz8_1); (try clear hcz8_2); (try clear hcz8_3); (try clear hfz10_0); (try clear hfz10_1); (try clear hfz10_2); (try clear hfz10_3); (try clear hfz8_0); (try clear hfz8_1); (try clear hfz8_2); (try clear hfz8_3); (try clear p2); obtain ⟨x6_2, rfl, HA, HK2, BK358, HB⟩ := hrel
     cases gk with
     | zero => exact absurd HA.out (by simp [spec_CloseFor.l0])
     | succ k2 =>
      have H := HA.out; clear HA; simp only [spec_CloseFor.l0] at H
      by_cases c15 : x6_2 ≤ a1
      ·
       rw [if_pos c15] at H; have c15b0 : decide (x6_2 ≤ a1) = true := decide_eq_true c15; clear c15; obtain ⟨y364, hy364⟩ : ∃ y_ : List Int, y_ = (([] : List Int)) := ⟨_, rfl⟩
       replace H : ((spec_l7Close.f k2 a0_0 l0_1 l0_2 l0_3 0 x6_2 y364).bind fun bt367 => (if bt367.2 = true then (some (bt367.1, true)) else (spec_CloseFor.l0 k2 a1 (wrap64 (x6_2 + 1)) a0_0 l0_1 l0_2 l0_3))) = some (r1, r2) := by have hy_ := hy364; exact yz
       have Ny364 := Az hy364; clear hy364; replace H := Option.bind_eq_some_iff.mp H; obtain ⟨⟨t367, t370⟩, A160, H⟩ := H; replace H : (if t370 = true then (some (t367, true)) else (spec_CloseFor.l0 k2 a1 (wrap64 (x6_2 + 1)) a0_0 l0_1 l0_2 l0_3)) = some (r1, r2) := H; have A16 := Az A160; clear A160
       by_cases c17 : t370 = true
       ·
        subst c17
        have H1 : (some (t367, true)) = some (r1, r2) := by rw [if_pos rfl] at H; exact H
        clear H; have H := H1; clear H1; simp only [Option.some.injEq, Prod.mk.injEq] at H; obtain ⟨rfl, rfl⟩ := H; obtain ⟨hcz18_0, hcz18_1, hcz18_2, hcz18_3⟩ := bc4 BK358.out; obtain ⟨hfz18_0, hfz18_1, hfz18_2, hfz18_3⟩ := bf4_ BK358.out
        go_wp2_with (first | ((with_reducible refine gate_dst (N := 26) rfl ?_); refine Kd.R_lit (Kd.int .i64) _ 3 ?hg (N := 26) ?hd (xs := ([] : List Int)) (inner := []) (ok := fun _ => True) (okp := fun _ => True) ?hr ?hp (fun _ hk => hk) trivial (Below.refl _ _) (Nat.le_refl _) (by simp) ?_; (case hd => rfl); (case hg => rfl); (case hr => first | (go_simp; done) | (go_simp; rfl)); (case hp => exact (Reps.none _ _)); intro v365 w19 ho20 hb hg_ hnew_; clear hg_ hnew_; (first | rw [← Ny364.out] at ho20 | (simp only [Int.reduceToNat] at ho20; rw [← Ny364.out] at ho20)); have HO366 := Az (Kd.R_lower ho20 (below_size bz)); replace BK358 := Az (blk_below (bu BK358.out) hb); replace HB := Az (below_step bz hb); clear hb ho20; obtain ⟨Ao21, co21, eo21⟩ := Kd.R_slice HO366.out; subst eo21) | ((with_reducible refine gate_callee (f := 66) rfl ?_); refine goesL_ (some 27) rfl rfl Try.func66 (by kernel_rfl) rfl #[.agg #[.int .i64 a0_0, .slice A0_1 l0_1.length c0_1, .slice A0_2 l0_2.length c0_2, .slice A0_3 l0_3.length c0_3], .int .i64 0, .int .i64 x6_2, .slice Ao21 y364.length co21] rfl (by (try simp only [List.map_toArray, List.map_cons, List.map_nil]); first | done | rfl) ?_; (with_reducible refine (spec_l7Close.calls k2 a0_0 _ _ l0_1 _ _ l0_2 _ _ l0_3 0 x6_2 (fun k_ => some k_ = (.slice Ao21 y364.length co21 : Value).ownBlock) (.slice Ao21 y364.length co21) y364 t367 true w _ ?side1 ?side2 ?side3 ?side4 ?side5 ?side6 ?side7 ?side8 A16.out).mono ?_); (case side1 => repeat (with_reducible first | exact HB.out | apply ba | apply bn | apply bd | refine bt ?_ GE358.out)); (case side2 => exact Kd.C_kept_came k57_heap HR0_1.out bz (fun k_ hs_ => (fun e_ => Kd.R_base HO366.out k_ e_.symm) hs_)); (case side3 => exact HC0_1.out); (case side4 => exact Kd.C_kept_came k55_heap HR0_2.out bz (fun k_ hs_ => (fun e_ => Kd.R_base HO366.out k_ e_.symm) hs_)); (case side5 => exact HC0_2.out); (case side6 => exact Kd.C_kept_came k59_heap HR0_3.out bz (fun k_ hs_ => (fun e_ => Kd.R_base HO366.out k_ e_.symm) hs_)); (case side7 => exact HC0_3.out); (case side8 => exact Kd.R_tight rfl HO366.out); rintro e w22 ⟨v368, rfl, ho0, hb, hkp⟩; refine ⟨_, rfl, ?_⟩; replace BK358 := Az (blk_kept (bu BK358.out) hkp (fun hs_ => (fun e_ => (Kd.R_ne HO366.out BK358.out (by decide)) e_) hs_)); have HO369 := Az (Kd.R_mono (ok' := fun k_ => True) ho0 (fun k_ hk_ => trivial)); replace HB := Az (hb); clear HO366; (try clear hb); (try clear hkp); (try clear ho0)))
        go_ret2
        exact ⟨_, rz, ru HO369.out, bz⟩
       ·
        replace c17 := Bool.eq_false_iff.mpr c17; subst c17
        have H1 : (spec_CloseFor.l0 k2 a1 (wrap64 (x6_2 + 1)) a0_0 l0_1 l0_2 l0_3) = some (r1, r2) := by rw [if_neg (show ¬ (false = true) by decide)] at H; exact H
        clear H; have H := H1; clear H1; have H' := Az H; clear H; obtain ⟨hcz23_0, hcz23_1, hcz23_2, hcz23_3⟩ := bc4 BK358.out; obtain ⟨hfz23_0, hfz23_1, hfz23_2, hfz23_3⟩ := bf4_ BK358.out
        go_wp2_with (first | ((with_reducible refine gate_dst (N := 26) rfl ?_); refine Kd.R_lit (Kd.int .i64) _ 3 ?hg (N := 26) ?hd (xs := ([] : List Int)) (inner := []) (ok := fun _ => True) (okp := fun _ => True) ?hr ?hp (fun _ hk => hk) trivial (Below.refl _ _) (Nat.le_refl _) (by simp) ?_; (case hd => rfl); (case hg => rfl); (case hr => first | (go_simp; done) | (go_simp; rfl)); (case hp => exact (Reps.none _ _)); intro v365 w24 ho25 hb hg_ hnew_; clear hg_ hnew_; (first | rw [← Ny364.out] at ho25 | (simp only [Int.reduceToNat] at ho25; rw [← Ny364.out] at ho25)); have HO366 := Az (Kd.R_lower ho25 (below_size bz)); replace BK358 := Az (blk_below (bu BK358.out) hb); replace HB := Az (below_step bz hb); clear hb ho25; obtain ⟨Ao26, co26, eo26⟩ := Kd.R_slice HO366.out; subst eo26) | ((with_reducible refine gate_callee (f := 66) rfl ?_); refine goesL_ (some 27) rfl rfl Try.func66 (by kernel_rfl) rfl #[.agg #[.int .i64 a0_0, .slice A0_1 l0_1.length c0_1, .slice A0_2 l0_2.length c0_2, .slice A0_3 l0_3.length c0_3], .int .i64 0, .int .i64 x6_2, .slice Ao26 y364.length co26] rfl (by (try simp only [List.map_toArray, List.map_cons, List.map_nil]); first | done | rfl) ?_; (with_reducible refine (spec_l7Close.calls k2 a0_0 _ _ l0_1 _ _ l0_2 _ _ l0_3 0 x6_2 (fun k_ => some k_ = (.slice Ao26 y364.length co26 : Value).ownBlock) (.slice Ao26 y364.length co26) y364 t367 false w _ ?side1 ?side2 ?side3 ?side4 ?side5 ?side6 ?side7 ?side8 A16.out).mono ?_); (case side1 => repeat (with_reducible first | exact HB.out | apply ba | apply bn | apply bd | refine bt ?_ GE358.out)); (case side2 => exact Kd.C_kept_came k57_heap HR0_1.out bz (fun k_ hs_ => (fun e_ => Kd.R_base HO366.out k_ e_.symm) hs_)); (case side3 => exact HC0_1.out); (case side4 => exact Kd.C_kept_came k55_heap HR0_2.out bz (fun k_ hs_ => (fun e_ => Kd.R_base HO366.out k_ e_.symm) hs_)); (case side5 => exact HC0_2.out); (case side6 => exact Kd.C_kept_came k59_heap HR0_3.out bz (fun k_ hs_ => (fun e_ => Kd.R_base HO366.out k_ e_.symm) hs_)); (case side7 => exact HC0_3.out); (case side8 => exact Kd.R_tight rfl HO366.out); rintro e w27 ⟨v368, rfl, ho0, hb, hkp⟩; refine ⟨_, rfl, ?_⟩; replace BK358 := Az (blk_kept (bu BK358.out) hkp (fun hs_ => (fun e_ => (Kd.R_ne HO366.out BK358.out (by decide)) e_) hs_)); have HO369 := Az (Kd.R_mono (ok' := fun k_ => True) ho0 (fun k_ hk_ => trivial)); replace HB := Az (hb); clear HO366; (try clear hb); (try clear hkp); (try clear ho0)))
        go_roundg k2
        case measure => have := HJ2.out; have := HK2.out; omega
        case rel => exact ⟨(wrap64 (x6_2 + 1)), (by first | rfl | (simp; done) | (simp [*]; done)), H', ⟨by have := HJ2.out; have := HK2.out; omega⟩, ⟨by refine bu ?_; exact BK358.out⟩, ⟨bz⟩⟩
      ·
       rw [if_neg c15] at H; have c15b0 : decide (x6_2 ≤ a1) = false := decide_eq_false c15; clear c15; obtain ⟨y371, hy371⟩ : ∃ y_ : List Int, y_ = (([] : List Int)) := ⟨_, rfl⟩
       replace H : (some (y371, false)) = some (r1, r2) := by have hy_ := hy371; exact yz
       have Ny371 := Az hy371; clear hy371; simp only [Option.some.injEq, Prod.mk.injEq] at H; obtain ⟨rfl, rfl⟩ := H
       go_wp2_with (first | ((with_reducible refine gate_dst (N := 32) rfl ?_); refine Kd.R_lit (Kd.int .i64) _ 3 ?hg (N := 32) ?hd (xs := ([] : List Int)) (inner := []) (ok := fun _ => True) (okp := fun _ => True) ?hr ?hp (fun _ hk => hk) trivial (Below.refl _ _) (Nat.le_refl _) (by simp) ?_; (case hd => rfl); (case hg => rfl); (case hr => first | (go_simp; done) | (go_simp; rfl)); (case hp => exact (Reps.none _ _)); intro v372 w28 ho29 hb hg_ hnew_; clear hg_ hnew_; (first | rw [← Ny371.out] at ho29 | (simp only [Int.reduceToNat] at ho29; rw [← Ny371.out] at ho29)); have HO373 := Az (Kd.R_lower ho29 (below_size bz)); replace BK358 := Az (blk_below (bu BK358.out) hb); replace HB := Az (below_step bz hb); clear hb ho29))
       go_ret2
       exact ⟨_, rz, ru HO373.out, bz⟩

/-! ### impl_Shed: function 27 -/
def impl_Shed.f (k : Nat) (a0_0 : Int) (l0_1 : List (S57)) (l0_2 : List (S55)) (l0_3 : List (S59)) : Option (List Int × Bool) := (impl_NetOk.f a0_0 l0_1 l0_2 l0_3).bind fun t375 => (if t375 = true then ((impl_shed.f k a0_0 l0_1 l0_2 l0_3 ([] : List Int)).bind fun t376 => (some (t376, true))) else (some (([] : List Int), false)))
set_option maxHeartbeats 8000000 in
set_option maxRecDepth 100000 in
theorem impl_Shed.calls (k : Nat) (a0_0 : Int) (A0_1 : Option Addr) (c0_1 : Nat) (l0_1 : List (S57)) (A0_2 : Option Addr) (c0_2 : Nat) (l0_2 : List (S55)) (A0_3 : Option Addr) (c0_3 : Nat) (l0_3 : List (S59)) (r1 : List Int) (r2 : Bool) (w : World) (hr0_1 : Kd.C k57 w A0_1 l0_1.length l0_1) (hc0_1 : l0_1.length ≤ c0_1) (hr0_2 : Kd.C k55 w A0_2 l0_2.length l0_2) (hc0_2 : l0_2.length ≤ c0_2) (hr0_3 : Kd.C k59 w A0_3 l0_3.length l0_3) (hc0_3 : l0_3.length ≤ c0_3) (h : impl_Shed.f k a0_0 l0_1 l0_2 l0_3 = some (r1, r2)) :
  Calls Try.prog 27 #[.agg #[.int .i64 a0_0, .slice A0_1 l0_1.length c0_1, .slice A0_2 l0_2.length c0_2, .slice A0_3 l0_3.length c0_3]] w fun e w' => ∃ v0_ : Value, e = .returned (.tuple #[v0_, .bool r2]) ∧ Kd.R (Kd.int .i64) 3 w' w.heap.size (fun _ => True) v0_ r1 ∧ Below w.heap.size w w' := by
 have hu41 := Try.underlying41; have HR0_1 := Az hr0_1; have HC0_1 := Az hc0_1; clear hr0_1 hc0_1; have HR0_2 := Az hr0_2; have HC0_2 := Az hc0_2; clear hr0_2 hc0_2; have HR0_3 := Az hr0_3; have HC0_3 := Az hc0_3; clear hr0_3 hc0_3; have HB := Az (Below.refl w.heap.size w); have H : ((impl_NetOk.f a0_0 l0_1 l0_2 l0_3).bind fun t375 => (if t375 = true then ((impl_shed.f k a0_0 l0_1 l0_2 l0_3 ([] : List Int)).bind fun t376 => (some (t376, true))) else (some (([] : List Int), false)))) = some (r1, r2) := h; clear h; replace H := Option.bind_eq_some_iff.mp H; obtain ⟨t375, A20, H⟩ := H; replace H : (if t375 = true then ((impl_shed.f k a0_0 l0_1 l0_2 l0_3 ([] : List Int)).bind fun t376 => (some (t376, true))) else (some (([] : List Int), false))) = some (r1, r2) := H; have A2 := Az A20; clear A20
 by_cases c3 : t375 = true
 ·
  subst c3
  have H1 : ((impl_shed.f k a0_0 l0_1 l0_2 l0_3 ([] : List Int)).bind fun t376 => (some (t376, true))) = some (r1, r2) := by rw [if_pos rfl] at H; exact H
  clear H; have H := H1; clear H1; replace H := Option.bind_eq_some_iff.mp H; obtain ⟨t376, A40, H⟩ := H; replace H : (some (t376, true)) = some (r1, r2) := H; have A4 := Az A40; clear A40; simp only [Option.some.injEq, Prod.mk.injEq] at H; obtain ⟨rfl, rfl⟩ := H
  go_enter Try.func27, Try.ntmps27
  go_wp2_with (first | ((with_reducible refine gate_dst (N := 1) rfl ?_); refine box_event ?hg (N := 1) ?hd (cs := #[.int .i64 a0_0, .slice A0_1 l0_1.length c0_1, .slice A0_2 l0_2.length c0_2, .slice A0_3 l0_3.length c0_3]) (t := 41) ?hr ?_; (case hd => rfl); (case hg => rfl); (case hr => first | (go_simp; done) | (go_simp; rfl)); intro gb374 hg w5 hbox hb; have BK374 := Az (hbox); have GW374 := Az ((by rw [hg]; exact (below_size bz) : w.heap.size ≤ gb374)); replace HB := Az (below_step bz hb); have GE374 := GW374; clear hb hbox hg; obtain ⟨hcz6_0, hcz6_1, hcz6_2, hcz6_3⟩ := bc4 BK374.out; obtain ⟨hfz6_0, hfz6_1, hfz6_2, hfz6_3⟩ := bf4_ BK374.out) | ((with_reducible refine gate_callee (f := 17) rfl ?_); refine goesL_ (some 5) rfl rfl Try.func17 (by kernel_rfl) rfl #[.agg #[.int .i64 a0_0, .slice A0_1 l0_1.length c0_1, .slice A0_2 l0_2.length c0_2, .slice A0_3 l0_3.length c0_3]] rfl (by (try simp only [List.map_toArray, List.map_cons, List.map_nil]); first | done | rfl) ?_; (with_reducible refine (impl_NetOk.calls a0_0 _ _ l0_1 _ _ l0_2 _ _ l0_3 true _ ?side1 ?side2 ?side3 ?side4 ?side5 ?side6 A2.out).mono ?_); (case side1 => exact cu HR0_1.out HB.out); (case side2 => exact HC0_1.out); (case side3 => exact cu HR0_2.out HB.out); (case side4 => exact HC0_2.out); (case side5 => exact cu HR0_3.out HB.out); (case side6 => exact HC0_3.out); rintro e w7 ⟨rfl, hb⟩; refine ⟨_, rfl, ?_⟩; replace BK374 := Az (blk_below (bu BK374.out) hb); replace HB := Az (below_step bz hb); (try clear hb); (try clear hb2); (try clear hk); (try clear hi); obtain ⟨hcz8_0, hcz8_1, hcz8_2, hcz8_3⟩ := bc4 BK374.out; obtain ⟨hfz8_0, hfz8_1, hfz8_2, hfz8_3⟩ := bf4_ BK374.out) | ((with_reducible refine gate_callee (f := 60) rfl ?_); refine goesL_ (some 8) rfl rfl Try.func60 (by kernel_rfl) rfl #[.agg #[.int .i64 a0_0, .slice A0_1 l0_1.length c0_1, .slice A0_2 l0_2.length c0_2, .slice A0_3 l0_3.length c0_3], .slice none 0 0] rfl (by (try simp only [List.map_toArray, List.map_cons, List.map_nil]); first | done | rfl) ?_; (refine (impl_shed.calls k a0_0 _ _ l0_1 _ _ l0_2 _ _ l0_3 _ _ ([] : List Int) t376 _ ?side1 ?side2 ?side3 ?side4 ?side5 ?side6 ?side7 ?side8 A4.out).mono ?_); (case side1 => exact cu HR0_1.out HB.out); (case side2 => exact HC0_1.out); (case side3 => exact cu HR0_2.out HB.out); (case side4 => exact HC0_2.out); (case side5 => exact cu HR0_3.out HB.out); (case side6 => exact HC0_3.out); (case side7 => exact Kd.C_nil _ _); (case side8 => exact Nat.le_refl _); rintro e w9 ⟨v377, rfl, ho0, hb⟩; refine ⟨_, rfl, ?_⟩; have HO378 := Az (Kd.R_lower ho0 (below_size bz)); replace BK374 := Az (blk_below (bu BK374.out) hb); replace HB := Az (below_step bz hb); (try clear hb); (try clear hb2); (try clear hk); (try clear hi); (try clear ho0)))
  go_ret2
  exact ⟨_, rz, ru HO378.out, bz⟩
 ·
  replace c3 := Bool.eq_false_iff.mpr c3; subst c3
  have H1 : (some (([] : List Int), false)) = some (r1, r2) := by rw [if_neg (show ¬ (false = true) by decide)] at H; exact H
  clear H; have H := H1; clear H1; simp only [Option.some.injEq, Prod.mk.injEq] at H; obtain ⟨rfl, rfl⟩ := H
  go_enter Try.func27, Try.ntmps27
  go_wp2_with (first | ((with_reducible refine gate_dst (N := 1) rfl ?_); refine box_event ?hg (N := 1) ?hd (cs := #[.int .i64 a0_0, .slice A0_1 l0_1.length c0_1, .slice A0_2 l0_2.length c0_2, .slice A0_3 l0_3.length c0_3]) (t := 41) ?hr ?_; (case hd => rfl); (case hg => rfl); (case hr => first | (go_simp; done) | (go_simp; rfl)); intro gb374 hg w10 hbox hb; have BK374 := Az (hbox); have GW374 := Az ((by rw [hg]; exact (below_size bz) : w.heap.size ≤ gb374)); replace HB := Az (below_step bz hb); have GE374 := GW374; clear hb hbox hg; obtain ⟨hcz11_0, hcz11_1, hcz11_2, hcz11_3⟩ := bc4 BK374.out; obtain ⟨hfz11_0, hfz11_1, hfz11_2, hfz11_3⟩ := bf4_ BK374.out) | ((with_reducible refine gate_callee (f := 17) rfl ?_); refine goesL_ (some 5) rfl rfl Try.func17 (by kernel_rfl) rfl #[.agg #[.int .i64 a0_0, .slice A0_1 l0_1.length c0_1, .slice A0_2 l0_2.length c0_2, .slice A0_3 l0_3.length c0_3]] rfl (by (try simp only [List.map_toArray, List.map_cons, List.map_nil]); first | done | rfl) ?_; (with_reducible refine (impl_NetOk.calls a0_0 _ _ l0_1 _ _ l0_2 _ _ l0_3 false _ ?side1 ?side2 ?side3 ?side4 ?side5 ?side6 A2.out).mono ?_); (case side1 => exact cu HR0_1.out HB.out); (case side2 => exact HC0_1.out); (case side3 => exact cu HR0_2.out HB.out); (case side4 => exact HC0_2.out); (case side5 => exact cu HR0_3.out HB.out); (case side6 => exact HC0_3.out); rintro e w12 ⟨rfl, hb⟩; refine ⟨_, rfl, ?_⟩; replace BK374 := Az (blk_below (bu BK374.out) hb); replace HB := Az (below_step bz hb); (try clear hb); (try clear hb2); (try clear hk); (try clear hi)))
  go_ret2
  exact ⟨_, rz, by first | exact Kd.R_nil _ _ _ _ _ | exact Kd.N_nil _ _ _ _ _ | exact Kd.V_nil _ _ _ _ _ | exact Kd.Q_nil _ _ _ _ _ | exact Kd.S_nil _ _ _ _ _, bz⟩

/-! ### laws_firstFed: function 31 -/
def laws_firstFed.l0 : Nat → List Int → Bool → Int → Int → List (S57) → List (S55) → List (S59) → Option (Bool)
 | 0, _, _, _, _, _, _, _ => none
 | k + 1, x3, x4, x5, x380000, x380001, x380002, x380003 => if x5 < (x3.length : Int) then (if 0 ≤ x5 then (if 0 ≤ (rd x3 x5) then (if (rd x3 x5) < (x380003.length : Int) then (if ((rd_T59 x380003 (rd x3 x5)).f2) = 0 then (some false) else (laws_firstFed.l0 k x3 x4 (wrap64 (x5 + 1)) x380000 x380001 x380002 x380003)) else (none)) else (none)) else (none)) else (some x4)
def laws_firstFed.f (k : Nat) (a0_0 : Int) (l0_1 : List (S57)) (l0_2 : List (S55)) (l0_3 : List (S59)) : Option (Bool) := (impl_Shed.f k a0_0 l0_1 l0_2 l0_3).bind fun bt380 => (laws_firstFed.l0 k bt380.1 bt380.2 0 a0_0 l0_1 l0_2 l0_3)
set_option maxHeartbeats 8000000 in
set_option maxRecDepth 100000 in
theorem laws_firstFed.calls (k : Nat) (a0_0 : Int) (A0_1 : Option Addr) (c0_1 : Nat) (l0_1 : List (S57)) (A0_2 : Option Addr) (c0_2 : Nat) (l0_2 : List (S55)) (A0_3 : Option Addr) (c0_3 : Nat) (l0_3 : List (S59)) (r : Bool) (w : World) (hr0_1 : Kd.C k57 w A0_1 l0_1.length l0_1) (hc0_1 : l0_1.length ≤ c0_1) (hr0_2 : Kd.C k55 w A0_2 l0_2.length l0_2) (hc0_2 : l0_2.length ≤ c0_2) (hr0_3 : Kd.C k59 w A0_3 l0_3.length l0_3) (hc0_3 : l0_3.length ≤ c0_3) (h : laws_firstFed.f k a0_0 l0_1 l0_2 l0_3 = some r) :
  Calls Try.prog 31 #[.agg #[.int .i64 a0_0, .slice A0_1 l0_1.length c0_1, .slice A0_2 l0_2.length c0_2, .slice A0_3 l0_3.length c0_3]] w fun e w' => e = .returned (.bool r) ∧ Below w.heap.size w w' := by
 have hu41 := Try.underlying41; have HR0_1 := Az hr0_1; have HC0_1 := Az hc0_1; clear hr0_1 hc0_1; have HR0_2 := Az hr0_2; have HC0_2 := Az hc0_2; clear hr0_2 hc0_2; have HR0_3 := Az hr0_3; have HC0_3 := Az hc0_3; clear hr0_3 hc0_3; have HB := Az (Below.refl w.heap.size w); have H : ((impl_Shed.f k a0_0 l0_1 l0_2 l0_3).bind fun bt380 => (laws_firstFed.l0 k bt380.1 bt380.2 0 a0_0 l0_1 l0_2 l0_3)) = some r := h; clear h; replace H := Option.bind_eq_some_iff.mp H; obtain ⟨⟨t380, t383⟩, A20, H⟩ := H; replace H : (laws_firstFed.l0 k t380 t383 0 a0_0 l0_1 l0_2 l0_3) = some r := H; have A2 := Az A20; clear A20; have H' := Az H; clear H
 go_enter Try.func31, Try.ntmps31
 go_wp2_with (first | ((with_reducible refine gate_dst (N := 1) rfl ?_); refine box_event ?hg (N := 1) ?hd (cs := #[.int .i64 a0_0, .slice A0_1 l0_1.length c0_1, .slice A0_2 l0_2.length c0_2, .slice A0_3 l0_3.length c0_3]) (t := 41) ?hr ?_; (case hd => rfl); (case hg => rfl); (case hr => first | (go_simp; done) | (go_simp; rfl)); intro gb379 hg w3 hbox hb; have BK379 := Az (hbox); have GW379 := Az ((by rw [hg]; exact (below_size bz) : w.heap.size ≤ gb379)); replace HB := Az (below_step bz hb); have GE379 := GW379; clear hb hbox hg; obtain ⟨hcz4_0, hcz4_1, hcz4_2, hcz4_3⟩ := bc4 BK379.out; obtain ⟨hfz4_0, hfz4_1, hfz4_2, hfz4_3⟩ := bf4_ BK379.out) | (go_at_call 27; (with_reducible refine (impl_Shed.calls k a0_0 _ _ l0_1 _ _ l0_2 _ _ l0_3 t380 t383 _ ?side1 ?side2 ?side3 ?side4 ?side5 ?side6 A2.out).mono ?_); (case side1 => exact cu HR0_1.out HB.out); (case side2 => exact HC0_1.out); (case side3 => exact cu HR0_2.out HB.out); (case side4 => exact HC0_2.out); (case side5 => exact cu HR0_3.out HB.out); (case side6 => exact HC0_3.out); rintro e w5 ⟨v381, rfl, ho0, hb⟩; have HO382 := Az (Kd.R_lower ho0 (below_size bz)); replace BK379 := Az (blk_below (bu BK379.out) hb); replace HB := Az (below_step bz hb); (try clear hb); (try clear hb2); (try clear hk); (try clear hi); (try clear ho0)))
 repeat (go_quiet (first | ((with_reducible refine gate_dst (N := 1) rfl ?_); refine box_event ?hg (N := 1) ?hd (cs := #[.int .i64 a0_0, .slice A0_1 l0_1.length c0_1, .slice A0_2 l0_2.length c0_2, .slice A0_3 l0_3.length c0_3]) (t := 41) ?hr ?_; (case hd => rfl); (case hg => rfl); (case hr => first | (go_simp; done) | (go_simp; rfl)); intro gb379 hg w3 hbox hb; have BK379 := Az (hbox); have GW379 := Az ((by rw [hg]; exact (below_size bz) : w.heap.size ≤ gb379)); replace HB := Az (below_step bz hb); have GE379 := GW379; clear hb hbox hg; obtain ⟨hcz4_0, hcz4_1, hcz4_2, hcz4_3⟩ := bc4 BK379.out; obtain ⟨hfz4_0, hfz4_1, hfz4_2, hfz4_3⟩ := bf4_ BK379.out) | (go_at_call 27; (with_reducible refine (impl_Shed.calls k a0_0 _ _ l0_1 _ _ l0_2 _ _ l0_3 t380 t383 _ ?side1 ?side2 ?side3 ?side4 ?side5 ?side6 A2.out).mono ?_); (case side1 => exact cu HR0_1.out HB.out); (case side2 => exact HC0_1.out); (case side3 => exact cu HR0_2.out HB.out); (case side4 => exact HC0_2.out); (case side5 => exact cu HR0_3.out HB.out); (case side6 => exact HC0_3.out); rintro e w5 ⟨v381, rfl, ho0, hb⟩; have HO382 := Az (Kd.R_lower ho0 (below_size bz)); replace BK379 := Az (blk_below (bu BK379.out) hb); replace HB := Az (below_step bz hb); (try clear hb); (try clear hb2); (try clear hk); (try clear hi); (try clear ho0))); try go_wp2_with (first | ((with_reducible refine gate_dst (N := 1) rfl ?_); refine box_event ?hg (N := 1) ?hd (cs := #[.int .i64 a0_0, .slice A0_1 l0_1.length c0_1, .slice A0_2 l0_2.length c0_2, .slice A0_3 l0_3.length c0_3]) (t := 41) ?hr ?_; (case hd => rfl); (case hg => rfl); (case hr => first | (go_simp; done) | (go_simp; rfl)); intro gb379 hg w3 hbox hb; have BK379 := Az (hbox); have GW379 := Az ((by rw [hg]; exact (below_size bz) : w.heap.size ≤ gb379)); replace HB := Az (below_step bz hb); have GE379 := GW379; clear hb hbox hg; obtain ⟨hcz4_0, hcz4_1, hcz4_2, hcz4_3⟩ := bc4 BK379.out; obtain ⟨hfz4_0, hfz4_1, hfz4_2, hfz4_3⟩ := bf4_ BK379.out) | (go_at_call 27; (with_reducible refine (impl_Shed.calls k a0_0 _ _ l0_1 _ _ l0_2 _ _ l0_3 t380 t383 _ ?side1 ?side2 ?side3 ?side4 ?side5 ?side6 A2.out).mono ?_); (case side1 => exact cu HR0_1.out HB.out); (case side2 => exact HC0_1.out); (case side3 => exact cu HR0_2.out HB.out); (case side4 => exact HC0_2.out); (case side5 => exact cu HR0_3.out HB.out); (case side6 => exact HC0_3.out); rintro e w5 ⟨v381, rfl, ho0, hb⟩; have HO382 := Az (Kd.R_lower ho0 (below_size bz)); replace BK379 := Az (blk_below (bu BK379.out) hb); replace HB := Az (below_step bz hb); (try clear hb); (try clear hb2); (try clear hk); (try clear hi); (try clear ho0))))
 go_loopg [5] k (fun kq v5 w' => ∃ (x5_1 : Int), v5 = .int .i64 x5_1 ∧ Aside0 (laws_firstFed.l0 kq t380 t383 x5_1 a0_0 l0_1 l0_2 l0_3 = some r) ∧ Aside0 (kq ≤ k) ∧ Aside0 (Kd.R (Kd.int .i64) 3 w' w.heap.size (fun _ => True) v381 t380) ∧ Aside0 (w'.heap[gb379]? = some (.cells #[.int .i64 a0_0, (.slice A0_1 l0_1.length c0_1), (.slice A0_2 l0_2.length c0_2), (.slice A0_3 l0_3.length c0_3)] 41 (0, 0))) ∧ Aside0 (Below w.heap.size w w'))
 case atStart => exact ⟨(0), (by first | rfl | (simp; done) | (simp [*]; done)), H', ⟨Nat.le_refl _⟩, ⟨ru HO382.out⟩, ⟨by refine bu ?_; exact BK379.out⟩, ⟨bz⟩⟩
 case round =>
  clear H'; (try clear p2); (try clear c3); (try clear hcz4_0); (try clear hcz4_1); (try clear hcz4_2); (try clear hcz4_3); (try clear hfz4_0); (try clear hfz4_1); (try clear hfz4_2); (try clear hfz4_3); obtain ⟨x5_1, rfl, HA, HK1, HO_3, BK379, HB⟩ := hrel
  cases gk with
  | zero => exact absurd HA.out (by simp [laws_firstFed.l0])
  | succ k1 =>
   have H := HA.out; clear HA; simp only [laws_firstFed.l0] at H
   by_cases c6 : x5_1 < (t380.length : Int)
   ·
    rw [if_pos c6] at H; have c6b0 : decide (x5_1 < (t380.length : Int)) = true := decide_eq_true c6; clear c6
    by_cases c7 : 0 ≤ x5_1
    ·
     rw [if_pos c7] at H; have c7b0 : decide (0 ≤ x5_1) = true := decide_eq_true c7; clear c7
     by_cases c8 : 0 ≤ (rd t380 x5_1)
     ·
      rw [if_pos c8] at H; have c8b0 : decide (0 ≤ (rd t380 x5_1)) = true := decide_eq_true c8; clear c8
      by_cases c9 : (rd t380 x5_1) < (l0_3.length : Int)
      ·
       rw [if_pos c9] at H; have c9b0 : decide ((rd t380 x5_1) < (l0_3.length : Int)) = true := decide_eq_true c9; clear c9
       by_cases c10 : ((rd_T59 l0_3 (rd t380 x5_1)).f2) = 0
       ·
        rw [if_pos c10] at H; have c10b0 : (((rd_T59 l0_3 (rd t380 x5_1)).f2) == 0) = true := beq_iff_eq.mpr c10; have c10b1 : (((rd_T59 l0_3 (rd t380 x5_1)).f2) != 0) = false := bne_eq_false_iff_eq.mpr c10; clear c10; obtain rfl := Option.some.inj H; obtain ⟨Ao11, co11, eo11⟩ := Kd.R_slice HO_3.out; subst eo11; obtain ⟨hcz12_0, hcz12_1, hcz12_2, hcz12_3⟩ := bc4 BK379.out; obtain ⟨hfz12_0, hfz12_1, hfz12_2, hfz12_3⟩ := bf4_ BK379.out; have p384 : 0 ≤ (x5_1 : Int) := oz; have q384 : x5_1 < (t380.length : Int) := oz; obtain ⟨ad384, e384, hx384_0⟩ := Kd.at_int (Kd.R_reads' HO_3.out).2.2 x5_1 p384 q384
        cases e384
        replace p384 := eq_true p384; replace q384 := eq_true q384; have p385 : 0 ≤ ((rd t380 x5_1) : Int) := oz; have q385 : (rd t380 x5_1) < (l0_3.length : Int) := oz; obtain ⟨ad385, e385, hx385_0, hx385_1, hx385_2⟩ := at_T59 HR0_3.out (rd t380 x5_1) p385 q385
        cases e385
        replace hx385_0 := pw_cell_below HB.out hx385_0; replace hx385_1 := pw_cell_below HB.out hx385_1; replace hx385_2 := pw_cell_below HB.out hx385_2; replace p385 := eq_true p385; replace q385 := eq_true q385
        go_wp2
        repeat (go_quiet (fail); try go_wp2)
        go_ret
        exact ⟨rz, bz⟩
       ·
        rw [if_neg c10] at H; have c10b0 : (((rd_T59 l0_3 (rd t380 x5_1)).f2) == 0) = false := beq_eq_false_iff_ne.mpr c10; have c10b1 : (((rd_T59 l0_3 (rd t380 x5_1)).f2) != 0) = true := bne_iff_ne.mpr c10; have H' := Az H; clear H; obtain ⟨Ao13, co13, eo13⟩ := Kd.R_slice HO_3.out; subst eo13; obtain ⟨hcz14_0, hcz14_1, hcz14_2, hcz14_3⟩ := bc4 BK379.out; obtain ⟨hfz14_0, hfz14_1, hfz14_2, hfz14_3⟩ := bf4_ BK379.out; have p384 : 0 ≤ (x5_1 : Int) := oz; have q384 : x5_1 < (t380.length : Int) := oz; obtain ⟨ad384, e384, hx384_0⟩ := Kd.at_int (Kd.R_reads' HO_3.out).2.2 x5_1 p384 q384
        cases e384
        replace p384 := eq_true p384; replace q384 := eq_true q384; have p385 : 0 ≤ ((rd t380 x5_1) : Int) := oz; have q385 : (rd t380 x5_1) < (l0_3.length : Int) := oz; obtain ⟨ad385, e385, hx385_0, hx385_1, hx385_2⟩ := at_T59 HR0_3.out (rd t380 x5_1) p385 q385
        cases e385
        replace hx385_0 := pw_cell_below HB.out hx385_0; replace hx385_1 := pw_cell_below HB.out hx385_1; replace hx385_2 := pw_cell_below HB.out hx385_2; replace p385 := eq_true p385; replace q385 := eq_true q385
        go_wp2
        repeat (go_quiet (fail); try go_wp2)
        go_roundg k1
        case measure => have := HK1.out; omega
        case rel => exact ⟨(wrap64 (x5_1 + 1)), (by first | rfl | (simp; done) | (simp [*]; done)), H', ⟨by have := HK1.out; omega⟩, ⟨ru HO_3.out⟩, ⟨by refine bu ?_; exact BK379.out⟩, ⟨bz⟩⟩
      ·
       rw [if_neg c9] at H; exact absurd H (by simp)
     ·
      rw [if_neg c8] at H; exact absurd H (by simp)
    ·
     rw [if_neg c7] at H; exact absurd H (by simp)
   ·
    rw [if_neg c6] at H; have c6b0 : decide (x5_1 < (t380.length : Int)) = false := decide_eq_false c6; clear c6; obtain rfl := Option.some.inj H; obtain ⟨Ao15, co15, eo15⟩ := Kd.R_slice HO_3.out; subst eo15
    go_wp2
    repeat (go_quiet (fail); try go_wp2)
    go_ret
    exact ⟨rz, bz⟩

end Go.Proofs.Ytbbfibokedlkkaa.PFnTied
