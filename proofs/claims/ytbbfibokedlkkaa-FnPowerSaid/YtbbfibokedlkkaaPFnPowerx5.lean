/- Walks of the functions named below, by a program of the session over the kit's printer. -/
import Derived.Test.YtbbfibokedlkkaaPFnPowerx0
import Derived.Test.YtbbfibokedlkkaaPFnPowerx3
import Derived.Test.YtbbfibokedlkkaaPFnPowerx4
namespace Go.Proofs.Ytbbfibokedlkkaa.PFnPower
open Go.RowKit Go.Proofs.YtbbfibokedlkkaaW.PrintWords Go.Proofs.YtbbfibokedlkkaaW.PrintLast Go.Proofs.YtbbfibokedlkkaaW.PrintMore
attribute [local go_sem] max2_int min2_int max_two min_two max_three min_three max_four min_four   -- for this text's walks alone
set_option linter.unusedVariables false
set_option linter.unusedSimpArgs false

/-! ### spec_l1New: function 59 -/
def spec_l1New.l0 : Nat → List Int → Int → Int → Option (List Int × Int × Int)
 | 0, _, _, _ => none
 | k + 1, x0, x3, x4 => if x4 < (x0.length : Int) then (if x4 < 4000 then (if 0 ≤ x4 then (spec_l1New.l0 k x0 (Go.bits .and .i64 (wrap64 ((wrap64 ((wrap64 (x3 * 131)) + (wrap64 (rd x0 x4)))) + 7)) 1073741823) (wrap64 (x4 + 1))) else (none)) else (some (x0, 0, x3))) else (some (x0, 0, x3))
def spec_l1New.f (k : Nat) (l0 : List Int) : Option (List Int × Int × Int) := spec_l1New.l0 k l0 (wrap64 (63063 + (l0.length : Int))) 0
set_option maxHeartbeats 8000000 in
set_option maxRecDepth 100000 in
theorem spec_l1New.calls (k : Nat) (A0 : Option Addr) (c0 : Nat) (l0 : List Int) (r1 : List Int) (r2 : Int) (r3 : Int) (w0 w : World) (hB : Below w0.heap.size w0 w) (hr0 : Kd.C (Kd.int .u8) w0 A0 l0.length l0) (hc0 : l0.length ≤ c0) (h : spec_l1New.f k l0 = some (r1, r2, r3)) :
  Calls Try.prog 59 #[.slice A0 l0.length c0] w fun e w' => ∃ g_ : Nat, e = .returned (.pointer (some ⟨g_, 0, none⟩)) ∧ IsS110 w0 w' g_ r1 r2 r3 ∧ Below w0.heap.size w0 w' ∧ Below w.heap.size w w' := by
 have hu110 := Try.underlying110; have HR0 := Az hr0; have HC0 := Az hc0; clear hr0 hc0; have HBW := Az (Below.refl w.heap.size w); have HW0 := Az hB.size; have HB := Az hB; clear hB; have H : (spec_l1New.l0 k l0 (wrap64 (63063 + (l0.length : Int))) 0) = some (r1, r2, r3) := h; clear h; have H' := Az H; clear H
 go_enter Try.func59, Try.ntmps59
 go_wp2
 go_loopg [3, 4] k (fun kq v3 v4 w' => ∃ (x3_1 : Int) (x4_1 : Int), v3 = .int .i64 x3_1 ∧ v4 = .int .i64 x4_1 ∧ Aside0 (spec_l1New.l0 kq l0 x3_1 x4_1 = some (r1, r2, r3)) ∧ Aside0 (kq ≤ k) ∧ Aside0 (Below w.heap.size w w') ∧ Aside0 (Below w0.heap.size w0 w'))
 case atStart => exact ⟨(wrap64 (63063 + (l0.length : Int))), (0), (by first | rfl | (simp; done) | (simp [*]; done)), (by first | rfl | (simp; done) | (simp [*]; done)), H', ⟨Nat.le_refl _⟩, ⟨by repeat (first | (with_reducible first | exact HBW.out | apply ba | apply bn | apply bd) | exact HBW.out)⟩, ⟨bz⟩⟩
 case round =>
  clear H'; obtain ⟨x3_1, x4_1, rfl, rfl, HA, HK1, HBW, HB⟩ := hrel
  cases gk with
  | zero => exact absurd HA.out (by simp [spec_l1New.l0])
  | succ k1 =>
   have H := HA.out; clear HA; simp only [spec_l1New.l0] at H
   by_cases c2 : x4_1 < (l0.length : Int)
   ·
    rw [if_pos c2] at H; have c2b0 : decide (x4_1 < (l0.length : Int)) = true := decide_eq_true c2; clear c2
    by_cases c3 : x4_1 < 4000
    ·
     rw [if_pos c3] at H; have c3b0 : decide (x4_1 < 4000) = true := decide_eq_true c3; clear c3
     by_cases c4 : 0 ≤ x4_1
     ·
      rw [if_pos c4] at H; have c4b0 : decide (0 ≤ x4_1) = true := decide_eq_true c4; clear c4; have H' := Az H; clear H; have p195 : 0 ≤ (x4_1 : Int) := oz; have q195 : x4_1 < (l0.length : Int) := oz; obtain ⟨ad195, e195, hx195_0⟩ := Kd.at_int HR0.out x4_1 p195 q195
      cases e195
      replace hx195_0 := pw_cell_below HB.out hx195_0; replace p195 := eq_true p195; replace q195 := eq_true q195
      go_wp2
      go_roundg k1
      case measure => have := HK1.out; omega
      case rel => exact ⟨(Go.bits .and .i64 (wrap64 ((wrap64 ((wrap64 (x3_1 * 131)) + (wrap64 (rd l0 x4_1)))) + 7)) 1073741823), (wrap64 (x4_1 + 1)), (by first | rfl | (simp; done) | (simp [*]; done)), (by first | rfl | (simp; done) | (simp [*]; done)), H', ⟨by have := HK1.out; omega⟩, ⟨by repeat (first | (with_reducible first | exact HBW.out | apply ba | apply bn | apply bd) | exact HBW.out)⟩, ⟨bz⟩⟩
     ·
      rw [if_neg c4] at H; exact absurd H (by simp)
    ·
     rw [if_neg c3] at H; have c3b0 : decide (x4_1 < 4000) = false := decide_eq_false c3; clear c3; simp only [Option.some.injEq, Prod.mk.injEq] at H; obtain ⟨rfl, rfl, rfl⟩ := H
     go_wp2_with (first | ((with_reducible refine gate_dst (N := 31) rfl ?_); refine box_event ?hg (N := 31) ?hd (cs := #[.slice A0 l0.length c0, .int .i64 0, .int .i64 x3_1]) (t := 110) ?hr ?_; (case hd => rfl); (case hg => rfl); (case hr => first | (go_simp; done) | (go_simp; rfl)); intro gb196 hg w5 hbox hb; have n0_ := Az (below_step HBW.out hb); have n1_ := Az (below_step bz hb); have n2_ := Az (hbox); have n3_ := Az ((by rw [hg]; exact (below_size (by repeat (first | (with_reducible first | exact HBW.out | apply ba | apply bn | apply bd) | exact HBW.out))) : w.heap.size ≤ gb196)); have n4_ := Az ((Nat.le_trans HW0.out (by rw [hg]; exact (below_size (by repeat (first | (with_reducible first | exact HBW.out | apply ba | apply bn | apply bd) | exact HBW.out))) : w.heap.size ≤ gb196) : w0.heap.size ≤ gb196)); clear HBW; clear HB; have HBW := n0_; have HB := n1_; have BK196 := n2_; have GW196 := n3_; have GE196 := n4_; clear n0_ n1_ n2_ n3_ n4_; clear hb hbox hg))
     go_ret
     exact ⟨_, rfl, (show IsS110 w0 _ gb196 l0 0 x3_1 from ⟨_, _, by refine bu ?_; exact BK196.out, GE196.out, HR0.out⟩), bz, by repeat (first | (with_reducible first | exact HBW.out | apply ba | apply bn | apply bd | refine bt ?_ GW196.out) | exact HBW.out)⟩
   ·
    rw [if_neg c2] at H; have c2b0 : decide (x4_1 < (l0.length : Int)) = false := decide_eq_false c2; clear c2; simp only [Option.some.injEq, Prod.mk.injEq] at H; obtain ⟨rfl, rfl, rfl⟩ := H
    go_wp2_with (first | ((with_reducible refine gate_dst (N := 31) rfl ?_); refine box_event ?hg (N := 31) ?hd (cs := #[.slice A0 l0.length c0, .int .i64 0, .int .i64 x3_1]) (t := 110) ?hr ?_; (case hd => rfl); (case hg => rfl); (case hr => first | (go_simp; done) | (go_simp; rfl)); intro gb197 hg w6 hbox hb; have n0_ := Az (below_step HBW.out hb); have n1_ := Az (below_step bz hb); have n2_ := Az (hbox); have n3_ := Az ((by rw [hg]; exact (below_size (by repeat (first | (with_reducible first | exact HBW.out | apply ba | apply bn | apply bd) | exact HBW.out))) : w.heap.size ≤ gb197)); have n4_ := Az ((Nat.le_trans HW0.out (by rw [hg]; exact (below_size (by repeat (first | (with_reducible first | exact HBW.out | apply ba | apply bn | apply bd) | exact HBW.out))) : w.heap.size ≤ gb197) : w0.heap.size ≤ gb197)); clear HBW; clear HB; have HBW := n0_; have HB := n1_; have BK197 := n2_; have GW197 := n3_; have GE197 := n4_; clear n0_ n1_ n2_ n3_ n4_; clear hb hbox hg))
    go_ret
    exact ⟨_, rfl, (show IsS110 w0 _ gb197 l0 0 x3_1 from ⟨_, _, by refine bu ?_; exact BK197.out, GE197.out, HR0.out⟩), bz, by repeat (first | (with_reducible first | exact HBW.out | apply ba | apply bn | apply bd | refine bt ?_ GW197.out) | exact HBW.out)⟩

/-! ### spec_DrawNet: function 26 -/
def spec_DrawNet.f (k : Nat) (l0 : List Int) : Option (Int × (List (S57)) × (List (S55)) × (List (S59))) := (spec_l1New.f k l0).bind fun bt199 => ((spec_l7Draw.f k bt199.1 bt199.2.1 bt199.2.2).bind fun bt203 => (some (bt203.1, bt203.2.1, bt203.2.2.1, bt203.2.2.2.1)))
set_option maxHeartbeats 8000000 in
set_option maxRecDepth 100000 in
theorem spec_DrawNet.calls (k : Nat) (A0 : Option Addr) (c0 : Nat) (l0 : List Int) (r1 : Int) (r2 : List (S57)) (r3 : List (S55)) (r4 : List (S59)) (w : World) (hr0 : Kd.C (Kd.int .u8) w A0 l0.length l0) (hc0 : l0.length ≤ c0) (h : spec_DrawNet.f k l0 = some (r1, r2, r3, r4)) :
  Calls Try.prog 26 #[.slice A0 l0.length c0] w fun e w' => ∃ v1_ v2_ v3_ : Value, e = .returned (.agg #[.int .i64 r1, v1_, v2_, v3_]) ∧ Kd.R k57 57 w' w.heap.size (fun _ => True) v1_ r2 ∧ Kd.R k55 55 w' w.heap.size (fun _ => True) v2_ r3 ∧ Kd.R k59 59 w' w.heap.size (fun _ => True) v3_ r4 ∧ Below w.heap.size w w' := by
 have hu41 := Try.underlying41; have HR0 := Az hr0; have HC0 := Az hc0; clear hr0 hc0; have HB := Az (Below.refl w.heap.size w); have H : ((spec_l1New.f k l0).bind fun bt199 => ((spec_l7Draw.f k bt199.1 bt199.2.1 bt199.2.2).bind fun bt203 => (some (bt203.1, bt203.2.1, bt203.2.2.1, bt203.2.2.2.1)))) = some (r1, r2, r3, r4) := h; clear h; replace H := Option.bind_eq_some_iff.mp H; obtain ⟨⟨t199, t200, t201⟩, A20, H⟩ := H; replace H : ((spec_l7Draw.f k t199 t200 t201).bind fun bt203 => (some (bt203.1, bt203.2.1, bt203.2.2.1, bt203.2.2.2.1))) = some (r1, r2, r3, r4) := H; have A2 := Az A20; clear A20; replace H := Option.bind_eq_some_iff.mp H; obtain ⟨⟨t203, t204, t207, t210, t213, t214⟩, A30, H⟩ := H; replace H : (some (t203, t204, t207, t210)) = some (r1, r2, r3, r4) := H; have A3 := Az A30; clear A30; simp only [Option.some.injEq, Prod.mk.injEq] at H; obtain ⟨rfl, rfl, rfl, rfl⟩ := H
 go_enter Try.func26, Try.ntmps26
 go_wp2_with (first | ((with_reducible refine gate_dst (N := 2) rfl ?_); refine box_event ?hg (N := 2) ?hd (cs := #[.int .i64 0, .slice none 0 0, .slice none 0 0, .slice none 0 0]) (t := 41) ?hr ?_; (case hd => rfl); (case hg => rfl); (case hr => first | (go_simp; done) | (go_simp; rfl)); intro gb198 hg w4 hbox hb; have n0_ := Az (below_step bz hb); have n1_ := Az (hbox); have n2_ := Az ((by rw [hg]; exact (below_size bz) : w.heap.size ≤ gb198)); have n3_ := n2_; clear HB; have HB := n0_; have BK198 := n1_; have GW198 := n2_; have GE198 := n3_; clear n0_ n1_ n2_ n3_; clear hb hbox hg) | ((with_reducible refine gate_callee (f := 59) rfl ?_); refine goesL_ (some 4) rfl rfl Try.func59 (by kernel_rfl) rfl #[.slice A0 l0.length c0] rfl (by (try simp only [List.map_toArray, List.map_cons, List.map_nil]); first | done | rfl) ?_; (with_reducible refine (spec_l1New.calls k _ _ l0 t199 t200 t201 w _ ?side1 ?side2 ?side3 A2.out).mono ?_); (case side1 => repeat (with_reducible first | exact HB.out | apply ba | apply bn | apply bd | refine bt ?_ GE198.out)); (case side2 => exact HR0.out); (case side3 => exact HC0.out); rintro e w5 ⟨g202, rfl, hi, hb, hb2⟩; refine ⟨_, rfl, ?_⟩; have n0_ := Az (blk_below (bu BK198.out) hb2); have n1_ := Az (hb); have n2_ := Az (hi); have n3_ := Az (IsS110.ne_blk hi (blk_below (bu BK198.out) hb2) (by decide)); have n4_ := Az (Ne.symm (IsS110.ne_blk hi (blk_below (bu BK198.out) hb2) (by decide))); clear BK198; clear HB; have BK198 := n0_; have HB := n1_; have HI202 := n2_; have NB202_198 := n3_; have NB198_202 := n4_; clear n0_ n1_ n2_ n3_ n4_; (try clear hb); (try clear hb2); (try clear hk); (try clear hi)) | ((with_reducible refine gate_callee (f := 58) rfl ?_); refine goesL_ (some 5) rfl rfl Try.func58 (by kernel_rfl) rfl #[.pointer (some ⟨g202, 0, none⟩)] rfl (by (try simp only [List.map_toArray, List.map_cons, List.map_nil]); first | done | rfl) ?_; (with_reducible refine (spec_l7Draw.calls k g202 t199 t200 t201 t203 t204 t207 t210 t213 t214 w _ ?side1 ?side2 A3.out).mono ?_); (case side1 => repeat (first | (with_reducible first | exact HI202.out | apply IsS110.alloc | apply IsS110.drewN | apply IsS110.drew | apply IsS110.set_1 | apply IsS110.set_2 | refine IsS110.far ?_ NB202_198.out _) | exact HI202.out)); (case side2 => repeat (first | (with_reducible first | exact HB.out | apply ba | apply bn | apply bd | refine bt ?_ (IsS110.ge HI202.out) | refine bt ?_ GE198.out) | exact HB.out)); rintro e w6 ⟨v205, v208, v211, rfl, ho0, ho1, ho2, hi, hb, hk⟩; refine ⟨_, rfl, ?_⟩; have n0_ := Az (KeepBut.blk hk (g' := gb198) (o := .cells #[.int .i64 0, .slice none 0 0, .slice none 0 0, .slice none 0 0] 41 (0, 0)) (by exact bu BK198.out) NB198_202.out (by simp)); have n1_ := Az (Kd.R_lower ho0 (below_size (by repeat (first | (with_reducible first | exact HB.out | apply ba | apply bn | apply bd | refine bt ?_ (IsS110.ge HI202.out) | refine bt ?_ GE198.out) | exact HB.out)))); have n2_ := Az (Kd.R_lower ho1 (below_size (by repeat (first | (with_reducible first | exact HB.out | apply ba | apply bn | apply bd | refine bt ?_ (IsS110.ge HI202.out) | refine bt ?_ GE198.out) | exact HB.out)))); have n3_ := Az (Kd.R_lower ho2 (below_size (by repeat (first | (with_reducible first | exact HB.out | apply ba | apply bn | apply bd | refine bt ?_ (IsS110.ge HI202.out) | refine bt ?_ GE198.out) | exact HB.out)))); have n4_ := Az (hb); have n5_ := Az (hi); clear BK198; clear HB; clear HI202; have BK198 := n0_; have HO206 := n1_; have HO209 := n2_; have HO212 := n3_; have HB := n4_; have HI202 := n5_; clear n0_ n1_ n2_ n3_ n4_ n5_; (try clear hb); (try clear hb2); (try clear hk); (try clear hi); (try clear ho0); (try clear ho1); (try clear ho2); have hnb7 := NB198_202.out; have hnc7 := NB202_198.out; obtain ⟨hcz8_0, hcz8_1, hcz8_2, hcz8_3⟩ := bc4 BK198.out; obtain ⟨hfz8_0, hfz8_1, hfz8_2, hfz8_3⟩ := bf4_ BK198.out; obtain ⟨Ao9, co9, eo9⟩ := Kd.R_slice HO206.out; subst eo9; obtain ⟨Ao10, co10, eo10⟩ := Kd.R_slice HO209.out; subst eo10; obtain ⟨Ao11, co11, eo11⟩ := Kd.R_slice HO212.out; subst eo11))
 refine bodyPost_ret (results_cell_row rfl _ _ gb198 41 #[.int .i64 t203, .slice Ao9 t204.length co9, .slice Ao10 t207.length co10, .slice Ao11 t210.length co11] (0, 0) _ rfl (by refine bu ?_; refine blk_put (cs := #[.int .i64 t203, .slice Ao9 t204.length co9, .slice Ao10 t207.length co10, .slice none 0 0]) ?_ 3 _ rfl; refine bu ?_; refine blk_put (cs := #[.int .i64 t203, .slice Ao9 t204.length co9, .slice none 0 0, .slice none 0 0]) ?_ 2 _ rfl; refine bu ?_; refine blk_put (cs := #[.int .i64 t203, .slice none 0 0, .slice none 0 0, .slice none 0 0]) ?_ 1 _ rfl; refine bu ?_; refine blk_put (cs := #[.int .i64 0, .slice none 0 0, .slice none 0 0, .slice none 0 0]) ?_ 0 _ rfl; refine bu ?_; exact BK198.out) Try.underlying41 rfl (by kernel_rfl)) rfl ?_; exact ⟨_, _, _, rz, by (with_reducible repeat (first | apply Kd.R_alloc | apply Kd.R_drewN | apply Kd.R_drew)); exact Kd.R_mono (Kd.R_far (p := ⟨gb198, 3, none⟩) (Kd.R_far (p := ⟨gb198, 2, none⟩) (Kd.R_far (p := ⟨gb198, 1, none⟩) (Kd.R_far (p := ⟨gb198, 0, none⟩) (Kd.R_types HO206.out BK198.out (by decide)) (fun _ hk => hk.2) (.int .i64 t203)) (fun _ hk => hk.2) (.slice Ao9 t204.length co9)) (fun _ hk => hk.2) (.slice Ao10 t207.length co10)) (fun _ hk => hk.2) (.slice Ao11 t210.length co11)) (fun _ hk => trivial), by (with_reducible repeat (first | apply Kd.R_alloc | apply Kd.R_drewN | apply Kd.R_drew)); exact Kd.R_mono (Kd.R_far (p := ⟨gb198, 3, none⟩) (Kd.R_far (p := ⟨gb198, 2, none⟩) (Kd.R_far (p := ⟨gb198, 1, none⟩) (Kd.R_far (p := ⟨gb198, 0, none⟩) (Kd.R_types HO209.out BK198.out (by decide)) (fun _ hk => hk.2) (.int .i64 t203)) (fun _ hk => hk.2) (.slice Ao9 t204.length co9)) (fun _ hk => hk.2) (.slice Ao10 t207.length co10)) (fun _ hk => hk.2) (.slice Ao11 t210.length co11)) (fun _ hk => trivial), by (with_reducible repeat (first | apply Kd.R_alloc | apply Kd.R_drewN | apply Kd.R_drew)); exact Kd.R_mono (Kd.R_far (p := ⟨gb198, 3, none⟩) (Kd.R_far (p := ⟨gb198, 2, none⟩) (Kd.R_far (p := ⟨gb198, 1, none⟩) (Kd.R_far (p := ⟨gb198, 0, none⟩) (Kd.R_types HO212.out BK198.out (by decide)) (fun _ hk => hk.2) (.int .i64 t203)) (fun _ hk => hk.2) (.slice Ao9 t204.length co9)) (fun _ hk => hk.2) (.slice Ao10 t207.length co10)) (fun _ hk => hk.2) (.slice Ao11 t210.length co11)) (fun _ hk => trivial), by repeat (first | (with_reducible first | exact HB.out | apply ba | apply bn | apply bd | refine bt ?_ (IsS110.ge HI202.out) | refine bt ?_ GE198.out) | exact HB.out)⟩

/-! ### slices_SortStableFunc_int_int: function 79, by hand -/
/-- The rank of the use at a place. -/
def slices_SortStableFunc_int_int.rank (us : List S59) (x : Int) : Int := (rd_T59 us x).f2
def slices_SortStableFunc_int_int.okay (l0 : List Int) (us : List S59) : Prop := l0.length ≤ 40 ∧ (∀ x ∈ l0, 0 ≤ x ∧ x < (us.length : Int)) ∧ (∀ x ∈ l0, 0 ≤ slices_SortStableFunc_int_int.rank us x ∧ slices_SortStableFunc_int_int.rank us x ≤ 1000000)
instance (l0 : List Int) (us : List S59) : Decidable (slices_SortStableFunc_int_int.okay l0 us) := by unfold slices_SortStableFunc_int_int.okay; exact inferInstance
def slices_SortStableFunc_int_int.f (l0 : List Int) (us : List S59) : Option (List Int) := if slices_SortStableFunc_int_int.okay l0 us then some (l0.mergeSort fun x y => decide (slices_SortStableFunc_int_int.rank us x ≤ slices_SortStableFunc_int_int.rank us y)) else none
theorem slices_SortStableFunc_int_int.len {l0 : List Int} {us : List S59} {r : List Int} (h : slices_SortStableFunc_int_int.f l0 us = some r) : ((r.length : Nat) : Int) = ((l0.length : Nat) : Int) := by
 unfold slices_SortStableFunc_int_int.f at h
 split at h
 ·
  rw [← Option.some.inj h, List.length_mergeSort]
 ·
  cases h
/-- The variable over which the comparison is closed. -/
structure slices_SortStableFunc_int_int.box (w0 w : World) (B : Nat) (us : List S59) : Prop where
 mk ::
 out : ∃ (v0 v1 v2 : Value) (A : Option Addr) (c : Nat), w.heap[B]? = some (.cells #[v0, v1, v2, .slice A us.length c] 41 (0, 0)) ∧ Kd.C k59 w0 A us.length us
set_option maxHeartbeats 4000000 in
set_option maxRecDepth 100000 in
theorem slices_SortStableFunc_int_int.one (us : List S59) (x y : Int) (B : Nat) (W : World) (v0 v1 v2 : Value) (A : Option Addr) (c : Nat) (hb : W.heap[B]? = some (.cells #[v0, v1, v2, .slice A us.length c] 41 (0, 0))) (hC : Kd.C k59 W A us.length us)
  (hx : 0 ≤ x ∧ x < (us.length : Int)) (hy : 0 ≤ y ∧ y < (us.length : Int)) (rx : 0 ≤ slices_SortStableFunc_int_int.rank us x ∧ slices_SortStableFunc_int_int.rank us x ≤ 1000000) (ry : 0 ≤ slices_SortStableFunc_int_int.rank us y ∧ slices_SortStableFunc_int_int.rank us y ≤ 1000000) :
  Calls Try.prog 80 #[.int .i64 x, .int .i64 y, .pointer (some ⟨B, 0, none⟩)] W fun e w' => e = .returned (.int .i64 (slices_SortStableFunc_int_int.rank us x - slices_SortStableFunc_int_int.rank us y)) ∧ ∃ q os, w' = Go.Sort.grow (W.drewN q) os := by
 have hu := Try.underlying59; have hu2 := Try.underlying41; have hlen := hC.2.1; obtain ⟨ad, e, hx0, hx1, hx2⟩ := at_T59 hC x hx.1 hx.2; obtain ⟨ad', e', hy0, hy1, hy2⟩ := at_T59 hC y hy.1 hy.2; subst e
 obtain rfl : ad = ad' := by injection e'
 have hcb : W.cell? ⟨B, 3, none⟩ = some (.slice (some ad) us.length c) := (blk_cell hb 3).trans rfl
 unfold slices_SortStableFunc_int_int.rank at rx ry ⊢
 obtain ⟨p, hp⟩ : ∃ p, (rd_T59 us x).f2 = p := ⟨_, rfl⟩; obtain ⟨q, hq⟩ : ∃ q, (rd_T59 us y).f2 = q := ⟨_, rfl⟩; rw [hp] at rx hx2 ⊢; rw [hq] at ry hy2 ⊢
 have hpq : IntKind.i64.wrap (p - q) = p - q := by rw [IntKind.wrap_i64]; omega
 obtain ⟨x0, x1⟩ := hx; obtain ⟨y0, y1⟩ := hy; clear hx0 hx1 hy0 hy1 hp hq hb hC rx ry e'
 go_enter Try.func80, Try.ntmps80
 go_wp2_with fail
 go_quiet (fail)
 all_goals go_wp2
 go_ret
 exact ⟨by first | rfl | (simp; done) | (go_simp; done), _, #[], (Go.Sort.grow_empty _).symm⟩
theorem slices_SortStableFunc_int_int.calls (P0_ : Nat → Prop) (u9000_ : Value) (l0 : List Int) (us : List S59) (r : List Int) (w0 w : World) {B : Nat} (hB : Below w0.heap.size w0 w) (ho0 : Kd.R (Kd.int .i64) 3 w w0.heap.size P0_ u9000_ l0) (h : slices_SortStableFunc_int_int.f l0 us = some r) (hbox_ : slices_SortStableFunc_int_int.box w0 w B us := by exact ⟨⟨_, _, _, _, _, (by first | exact Aside0.out (by assumption) | (repeat (first | refine blk_drewN ?_ _ | refine blk_drew ?_ | refine blk_alloc ?_ _)); exact Aside0.out (by assumption)), Aside0.out (by assumption)⟩⟩) :
  Calls Try.prog 79 #[u9000_, .func (.func 80) #[] #[.pointer (some ⟨B, 0, none⟩)]] w fun e w' => e = .returned (.tuple #[]) ∧ Kd.R (Kd.int .i64) 3 w' w0.heap.size (fun k_ => (P0_ k_ ∨ w.heap.size ≤ k_)) u9000_ r ∧ Below w0.heap.size w0 w' ∧ Kept w w' (fun k_ => P0_ k_) := by
 unfold slices_SortStableFunc_int_int.f at h
 by_cases hm : slices_SortStableFunc_int_int.okay l0 us
 ·
  rw [if_pos hm] at h; have hr := Option.some.inj h; clear h; obtain ⟨h40, hin, hrk⟩ := hm
  by_cases hn : l0.length = 0
  ·
   obtain rfl : l0 = [] := List.eq_nil_of_length_eq_zero hn
   obtain rfl : r = [] := by rw [← hr]; simp
   obtain ⟨A, c, rfl⟩ := Kd.R_slice ho0; refine (stb_none A c _ w).mono ?_; rintro e w' ⟨rfl, rfl⟩; exact ⟨rfl, Kd.R_mono ho0 (fun _ hk => .inl hk), hB, Kept.refl _ _⟩
  ·
   have ho := Kd.own_of_R ho0; obtain ⟨hlen, ⟨_, h0⟩ | ⟨g, cap, cur, hv, hbase, hc, h1, h2, h3, h4⟩⟩ := ho
   ·
    exact absurd h0 hn
   ·
    subst hv; have hP : P0_ g := ho0.1 g rfl; have hg : g < w.heap.size := (Array.getElem?_eq_some_iff.1 hc).1; have hH := Go.holds_of_blockI (ss := l0) hc (by rw [← Nat.mul_one l0.length]; exact h4)
    have hrl : r.length = l0.length := by rw [← hr]; exact List.length_mergeSort l0
    obtain ⟨v0, v1, v2, A, c, hbx, hC⟩ := hbox_.out
    have hne : B ≠ g := fun e => by rw [e, hc] at hbx; simp at hbx
    have hle : (fun x y => !Go.Proofs.ltOf (fun x y => slices_SortStableFunc_int_int.rank us x - slices_SortStableFunc_int_int.rank us y) y x) = fun x y => decide (slices_SortStableFunc_int_int.rank us x ≤ slices_SortStableFunc_int_int.rank us y) := by
     funext x y
     simp only [Go.Proofs.ltOf]
     by_cases hxy : slices_SortStableFunc_int_int.rank us x ≤ slices_SortStableFunc_int_int.rank us y
     ·
      rw [decide_eq_true hxy, decide_eq_false (by omega)]; rfl
     ·
      rw [decide_eq_false hxy, decide_eq_true (by omega)]; rfl
    have hs := stb_of (Value.int .i64) (fun _ => rfl) (fun x y => slices_SortStableFunc_int_int.rank us x - slices_SortStableFunc_int_int.rank us y) ⟨fun x => by simp [Go.Proofs.ltOf], fun x y z a b => by simp only [Go.Proofs.ltOf, decide_eq_true_eq] at a b ⊢; omega, fun x y z a b => by simp only [Go.Proofs.ltOf, decide_eq_false_iff_not] at a b ⊢; omega⟩
     80 #[.pointer (some ⟨B, 0, none⟩)] g cap l0 w (by omega) h40 (Go.Proofs.enters_of Try.func80 (by kernel_rfl) rfl) hH hg
     (fun x hx y hy W hgr => slices_SortStableFunc_int_int.one us x y B W v0 v1 v2 A c ((hgr.block B (blk_lt hbx) (fun e => hne (Option.some.inj e))).trans hbx) (Kd.C_below hC (pw_below_grown hB (some g) hB.size hgr (fun k hk => by cases hk; exact hbase))) (hin x hx) (hin y hy) (hrk x hx) (hrk y hy))
    rw [hle, hr] at hs; refine hs.mono ?_; rintro e w' ⟨rfl, n, os, rfl⟩; have hgr := Go.grownBy_sortedI (w := w) (g := g) (n := n) (os := os) r.toArray; refine ⟨rfl, Kd.R_of_own ?_ (fun k hk => .inl (ho0.1 k hk)), pw_below_grown hB (some g) hB.size hgr (fun k hk => by cases hk; exact hbase), Kept.of_grown hgr (Kept.refl _ _) (fun k hk => by cases hk; exact .inl hP)⟩; rw [hrl]; exact Go.ownsRow_sortedI hrl hbase hc h1 h2 h3
 ·
  rw [if_neg hm] at h
  cases h

/-! ### slices_Sort_int_int: function 81, by hand -/
def slices_Sort_int_int.ren : Go.Shelf.Ren := ⟨fun | 5 => 81 | 8 => 89 | 7 => 88 | 19 => 101 | 20 => 102 | 10 => 92 | 11 => 93 | 12 => 94 | 13 => 95 | 14 => 96 | 15 => 97 | 16 => 98 | 17 => 99 | 18 => 100 | 30 => 104 | 31 => 105 | 32 => 106 | 33 => 107 | 34 => 108 | 35 => 109 | 40 => 111 | n => n, fun | 23 => 45 | 25 => 3 | 3 => 3 | 32 => 119 | 22 => 45 | 0 => 0 | 44 => 132 | 46 => 134 | 4 => 4 | 36 => 124 | 35 => 123 | 41 => 129 | 5 => 5 | 9 => 9 | 53 => 135 | 57 => 112 | 63 => 140 | 64 => 141 | n => n, fun | n => n⟩
theorem slices_Sort_int_int.lays : Go.Proofs.SlLaysM.n5 Try.prog slices_Sort_int_int.ren := {
 mixed := by kernel_rfl,
 f5 := ⟨Try.f81.name, by decide, Try.func81.trans (congrArg some (by kernel_rfl))⟩,
 f7 := ⟨Try.f88.name, by decide, Try.func88.trans (congrArg some (by kernel_rfl))⟩,
 f8 := Try.func89.trans (congrArg some (by kernel_rfl)),
 f10 := ⟨Try.f92.name, by decide, Try.func92.trans (congrArg some (by kernel_rfl))⟩,
 f11 := ⟨Try.f93.name, by decide, Try.func93.trans (congrArg some (by kernel_rfl))⟩,
 f12 := ⟨Try.f94.name, by decide, Try.func94.trans (congrArg some (by kernel_rfl))⟩,
 f13 := ⟨Try.f95.name, by decide, Try.func95.trans (congrArg some (by kernel_rfl))⟩,
 f14 := ⟨Try.f96.name, by decide, Try.func96.trans (congrArg some (by kernel_rfl))⟩,
 f15 := ⟨Try.f97.name, by decide, Try.func97.trans (congrArg some (by kernel_rfl))⟩,
 f16 := ⟨Try.f98.name, by decide, Try.func98.trans (congrArg some (by kernel_rfl))⟩,
 f17 := ⟨Try.f99.name, by decide, Try.func99.trans (congrArg some (by kernel_rfl))⟩,
 f18 := ⟨Try.f100.name, by decide, Try.func100.trans (congrArg some (by kernel_rfl))⟩,
 f19 := Try.func101.trans (congrArg some (by kernel_rfl)),
 f20 := Try.func102.trans (congrArg some (by kernel_rfl)),
 f30 := ⟨Try.f104.name, by decide, Try.func104.trans (congrArg some (by kernel_rfl))⟩,
 f31 := Try.func105.trans (congrArg some (by kernel_rfl)),
 f32 := Try.func106.trans (congrArg some (by kernel_rfl)),
 f33 := ⟨Try.f107.name, by decide, Try.func107.trans (congrArg some (by kernel_rfl))⟩,
 f34 := ⟨Try.f108.name, by decide, Try.func108.trans (congrArg some (by kernel_rfl))⟩,
 f35 := ⟨Try.f109.name, by decide, Try.func109.trans (congrArg some (by kernel_rfl))⟩,
 f40 := ⟨Try.f111.name, by decide, Try.func111.trans (congrArg some (by kernel_rfl))⟩,
 t0 := Try.underlying0,
 a0 := Try.isAgg0,
 z0 := Try.sizeOf0,
 v0 := Try.zeroValue0,
 t3 := Try.underlying3,
 a3 := Try.isAgg3,
 z3 := Try.sizeOf3,
 v3 := Try.zeroValue3,
 t4 := Try.underlying4,
 a4 := Try.isAgg4,
 z4 := Try.sizeOf4,
 v4 := Try.zeroValue4,
 t5 := Try.underlying5,
 a5 := Try.isAgg5,
 z5 := Try.sizeOf5,
 v5 := Try.zeroValue5,
 t9 := Try.underlying9,
 a9 := Try.isAgg9,
 z9 := Try.sizeOf9,
 v9 := Try.zeroValue9,
 t22 := Try.underlying45,
 a22 := Try.isAgg45,
 z22 := Try.sizeOf45,
 v22 := Try.zeroValue45,
 t23 := Try.underlying45,
 a23 := Try.isAgg45,
 z23 := Try.sizeOf45,
 v23 := Try.zeroValue45,
 t25 := Try.underlying3,
 a25 := Try.isAgg3,
 z25 := Try.sizeOf3,
 v25 := Try.zeroValue3,
 t32 := Try.underlying119,
 a32 := Try.isAgg119,
 z32 := Try.sizeOf119,
 v32 := Try.zeroValue119,
 t35 := Try.underlying123,
 a35 := Try.isAgg123,
 z35 := Try.sizeOf123,
 v35 := Try.zeroValue123,
 t36 := Try.underlying124,
 a36 := Try.isAgg124,
 z36 := Try.sizeOf124,
 v36 := Try.zeroValue124,
 t41 := Try.underlying129,
 a41 := Try.isAgg129,
 z41 := Try.sizeOf129,
 v41 := Try.zeroValue129,
 t44 := Try.underlying132,
 a44 := Try.isAgg132,
 z44 := Try.sizeOf132,
 v44 := Try.zeroValue132,
 t46 := Try.underlying134,
 a46 := Try.isAgg134,
 z46 := Try.sizeOf134,
 v46 := Try.zeroValue134,
 t53 := Try.underlying135,
 a53 := Try.isAgg135,
 z53 := Try.sizeOf135,
 v53 := Try.zeroValue135,
 t57 := Try.underlying112,
 a57 := Try.isAgg112,
 z57 := Try.sizeOf112,
 v57 := Try.zeroValue112,
 t63 := Try.underlying140,
 a63 := Try.isAgg140,
 z63 := Try.sizeOf140,
 v63 := Try.zeroValue140,
 t64 := Try.underlying141,
 a64 := Try.isAgg141,
 z64 := Try.sizeOf141,
 v64 := Try.zeroValue141 }
def slices_Sort_int_int.f (l0 : List Int) : Option (List Int) := if l0.length ≤ 1000000 then some (l0.mergeSort fun x y => decide (x ≤ y)) else none
theorem slices_Sort_int_int.calls (P0_ : Nat → Prop) (u9000_ : Value) (l0 : List Int) (r : List Int) (w0 w : World) (hB : Below w0.heap.size w0 w) (ho0 : Kd.R (Kd.int .i64) 3 w w0.heap.size P0_ u9000_ l0) (h : slices_Sort_int_int.f l0 = some r) :
  Calls Try.prog 81 #[u9000_] w fun e w' => e = .returned (.tuple #[]) ∧ Kd.R (Kd.int .i64) 3 w' w0.heap.size (fun k_ => (P0_ k_ ∨ w.heap.size ≤ k_)) u9000_ r ∧ Below w0.heap.size w0 w' ∧ Kept w w' (fun k_ => P0_ k_) := by
 unfold slices_Sort_int_int.f at h
 by_cases hm : l0.length ≤ 1000000
 ·
  rw [if_pos hm] at h; have hr := Option.some.inj h; clear h
  by_cases hn : l0.length = 0
  ·
   obtain rfl : l0 = [] := List.eq_nil_of_length_eq_zero hn
   obtain rfl : r = [] := by rw [← hr]; simp
   obtain ⟨A, c, rfl⟩ := Kd.R_slice ho0; refine (AnyM.slices_Sort_int_none slices_Sort_int_int.lays A c w).mono ?_; rintro e w' ⟨rfl, rfl⟩; exact ⟨rfl, Kd.R_mono ho0 (fun _ hk => .inl hk), hB, Kept.refl _ _⟩
  ·
   have ho := Kd.own_of_R ho0; obtain ⟨hlen, ⟨_, h0⟩ | ⟨g, cap, cur, hv, hbase, hc, h1, h2, h3, h4⟩⟩ := ho
   ·
    exact absurd h0 hn
   ·
    subst hv; have hP : P0_ g := ho0.1 g rfl; have hg : g < w.heap.size := (Array.getElem?_eq_some_iff.1 hc).1; have hH := Go.holds_of_blockI (ss := l0) hc (by rw [← Nat.mul_one l0.length]; exact h4)
    have hrl : r.length = l0.length := by rw [← hr]; exact List.length_mergeSort l0
    refine (AnyM.slices_Sort_int slices_Sort_int_int.lays g 0 cap l0 w hH hg (by omega)).mono ?_; rintro e w' ⟨rfl, n, os, rfl⟩; rw [hr]; have hgr := Go.grownBy_sortedI (w := w) (g := g) (n := n) (os := os) r.toArray; refine ⟨rfl, Kd.R_of_own ?_ (fun k hk => .inl (ho0.1 k hk)), pw_below_grown hB (some g) hB.size hgr (fun k hk => by cases hk; exact hbase), Kept.of_grown hgr (Kept.refl _ _) (fun k hk => by cases hk; exact .inl hP)⟩; rw [hrl]; exact Go.ownsRow_sortedI hrl hbase hc h1 h2 h3
 ·
  rw [if_neg hm] at h
  cases h

end Go.Proofs.Ytbbfibokedlkkaa.PFnPower
