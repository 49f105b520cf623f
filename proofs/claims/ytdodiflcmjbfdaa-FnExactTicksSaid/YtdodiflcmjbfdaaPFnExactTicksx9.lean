/- Walks of the functions named below, by a program of the session over the kit's printer. -/
import Derived.Test.YtdodiflcmjbfdaaPFnExactTicksx0
import Derived.Test.YtdodiflcmjbfdaaPFnExactTicksx7
import Derived.Test.YtdodiflcmjbfdaaPFnExactTicksx8
namespace Go.Proofs.Ytdodiflcmjbfdaa.PFnExactTicks
open Go.RowKit Go.Proofs.YtdodiflcmjbfdaaW.PrintWords Go.Proofs.YtdodiflcmjbfdaaW.PrintLast Go.Proofs.YtdodiflcmjbfdaaW.PrintMore
attribute [local go_sem] max2_int min2_int max_two min_two max_three min_three max_four min_four   -- for this text's walks alone
set_option linter.unusedVariables false
set_option linter.unusedSimpArgs false

/-! ### spec_PilotTick: function 24 -/
mutual
def spec_PilotTick.j0 : Nat → Int → Bool → Int → Int → Int → Int → Int → Int → Int → Int → Bool → Option (Int × Int × Int × Int × Int × Int × Int × Int × Bool × Bool)
 | 0, _, _, _, _, _, _, _, _, _, _, _ => none
 | k + 1, x1, x13, x244000, x244001, x244002, x244003, x244004, x244005, x244006, x244007, x244008 => if x13 = true then (some (0, 0, 0, 0, 0, 0, 0, 0, false, false)) else ((spec_l10Vert.f x244000 x244001 x244002 x244003 x244004 x244005 x244006 x244007 x244008).bind fun bt247 => (spec_PilotTick.j1 k x1 bt247.1 bt247.2.1 bt247.2.2.1 bt247.2.2.2.1 bt247.2.2.2.2.1 bt247.2.2.2.2.2.1 bt247.2.2.2.2.2.2.1 bt247.2.2.2.2.2.2.2.1 bt247.2.2.2.2.2.2.2.2))
def spec_PilotTick.j1 : Nat → Int → Int → Int → Int → Int → Int → Int → Int → Int → Bool → Option (Int × Int × Int × Int × Int × Int × Int × Int × Bool × Bool)
 | 0, _, _, _, _, _, _, _, _, _, _ => none
 | k + 1, x1, x244000, x244001, x244002, x244003, x244004, x244005, x244006, x244007, x244008 => (spec_l1Min.f 10000 (wrap64 (x244007 + x1))).bind fun t256 => ((spec_l1Max.f (-10000) t256).bind fun t257 => (spec_PilotTick.j2 k x244000 x244001 x244002 x244003 x244004 x244005 x244006 t257 x244008))
def spec_PilotTick.j2 : Nat → Int → Int → Int → Int → Int → Int → Int → Int → Bool → Option (Int × Int × Int × Int × Int × Int × Int × Int × Bool × Bool)
 | 0, _, _, _, _, _, _, _, _, _ => none
 | k + 1, x244000, x244001, x244002, x244003, x244004, x244005, x244006, x244007, x244008 => if x244001 = 1 then ((spec_l10Turn.f x244005 x244006).bind fun t258 => (if x244008 = true then ((spec_l1Abs.f x244007).bind fun t259 => (if t259 ≤ 50 then (some (x244000, 3, x244002, x244003, x244004, t258, x244006, x244007, false, true)) else (some (x244000, x244001, x244002, x244003, x244004, t258, x244006, x244007, x244008, true)))) else (some (x244000, x244001, x244002, x244003, x244004, t258, x244006, x244007, x244008, true)))) else (if x244001 = 3 then ((spec_l10Toward.f x244007 0 10).bind fun t260 => (if t260 = 0 then (some (x244000, 2, x244002, x244003, x244004, x244005, x244006, t260, x244008, true)) else (some (x244000, x244001, x244002, x244003, x244004, x244005, x244006, t260, x244008, true)))) else (if x244001 = 2 then ((spec_l1Abs.f x244007).bind fun t261 => (if t261 ≤ 20 then (some (x244000, x244001, x244002, x244003, x244004, x244005, x244006, 0, x244008, true)) else (some (x244000, 3, x244002, x244003, x244004, x244005, x244006, x244007, x244008, true)))) else (some (x244000, x244001, x244002, x244003, x244004, x244005, x244006, x244007, x244008, true))))
end
def spec_PilotTick.f (k : Nat) (a0_0 : Int) (a0_1 : Int) (a0_2 : Int) (a0_3 : Int) (a0_4 : Int) (a0_5 : Int) (a0_6 : Int) (a0_7 : Int) (a0_8 : Bool) (a1 : Int) : Option (Int × Int × Int × Int × Int × Int × Int × Int × Bool × Bool) := (spec_PilotOk.f a0_0 a0_1 a0_2 a0_3 a0_4 a0_5 a0_6 a0_7 a0_8).bind fun t245 => (if t245 = true then ((spec_l1In.f a1 (-100) 100).bind fun t246 => (spec_PilotTick.j0 k a1 (!t246) a0_0 a0_1 a0_2 a0_3 a0_4 a0_5 a0_6 a0_7 a0_8)) else (spec_PilotTick.j0 k a1 true a0_0 a0_1 a0_2 a0_3 a0_4 a0_5 a0_6 a0_7 a0_8))
theorem spec_PilotTick.mono_l : ∀ k, (∀ y0 y1 y2 y3 y4 y5 y6 y7 y8 y9 y10, LeO (spec_PilotTick.j0 k y0 y1 y2 y3 y4 y5 y6 y7 y8 y9 y10) (spec_PilotTick.j0 (k + 1) y0 y1 y2 y3 y4 y5 y6 y7 y8 y9 y10)) ∧ (∀ y0 y1 y2 y3 y4 y5 y6 y7 y8 y9, LeO (spec_PilotTick.j1 k y0 y1 y2 y3 y4 y5 y6 y7 y8 y9) (spec_PilotTick.j1 (k + 1) y0 y1 y2 y3 y4 y5 y6 y7 y8 y9)) ∧ (∀ y0 y1 y2 y3 y4 y5 y6 y7 y8, LeO (spec_PilotTick.j2 k y0 y1 y2 y3 y4 y5 y6 y7 y8) (spec_PilotTick.j2 (k + 1) y0 y1 y2 y3 y4 y5 y6 y7 y8))
 | 0 => ⟨fun _ _ _ _ _ _ _ _ _ _ _ r h => by simp [spec_PilotTick.j0] at h, fun _ _ _ _ _ _ _ _ _ _ r h => by simp [spec_PilotTick.j1] at h, fun _ _ _ _ _ _ _ _ _ r h => by simp [spec_PilotTick.j2] at h⟩
 | k + 1 => by
  obtain ⟨ih0, ih1, ih2⟩ := spec_PilotTick.mono_l k
  refine ⟨?_, ?_, ?_⟩
  ·
   intro y0 y1 y2 y3 y4 y5 y6 y7 y8 y9 y10
   unfold spec_PilotTick.j0
   repeat' first
   | (with_reducible exact ih0 _ _ _ _ _ _ _ _ _ _ _)
   | (with_reducible exact ih1 _ _ _ _ _ _ _ _ _ _)
   | (with_reducible exact ih2 _ _ _ _ _ _ _ _ _)
   | (with_reducible exact LeO.refl _)
   | (with_reducible exact LeO.none _)
   | (with_reducible refine LeO.ite ?_ ?_)
   | (with_reducible refine LeO.bind ?_ (fun _ => ?_))
   | exact ih0 _ _ _ _ _ _ _ _ _ _ _
   | exact ih1 _ _ _ _ _ _ _ _ _ _
   | exact ih2 _ _ _ _ _ _ _ _ _
   | exact LeO.none _
   | refine LeO.ite ?_ ?_
   | refine LeO.bind ?_ (fun _ => ?_)
  ·
   intro y0 y1 y2 y3 y4 y5 y6 y7 y8 y9
   unfold spec_PilotTick.j1
   repeat' first
   | (with_reducible exact ih0 _ _ _ _ _ _ _ _ _ _ _)
   | (with_reducible exact ih1 _ _ _ _ _ _ _ _ _ _)
   | (with_reducible exact ih2 _ _ _ _ _ _ _ _ _)
   | (with_reducible exact LeO.refl _)
   | (with_reducible exact LeO.none _)
   | (with_reducible refine LeO.ite ?_ ?_)
   | (with_reducible refine LeO.bind ?_ (fun _ => ?_))
   | exact ih0 _ _ _ _ _ _ _ _ _ _ _
   | exact ih1 _ _ _ _ _ _ _ _ _ _
   | exact ih2 _ _ _ _ _ _ _ _ _
   | exact LeO.none _
   | refine LeO.ite ?_ ?_
   | refine LeO.bind ?_ (fun _ => ?_)
  ·
   intro y0 y1 y2 y3 y4 y5 y6 y7 y8
   unfold spec_PilotTick.j2
   repeat' first
   | (with_reducible exact ih0 _ _ _ _ _ _ _ _ _ _ _)
   | (with_reducible exact ih1 _ _ _ _ _ _ _ _ _ _)
   | (with_reducible exact ih2 _ _ _ _ _ _ _ _ _)
   | (with_reducible exact LeO.refl _)
   | (with_reducible exact LeO.none _)
   | (with_reducible refine LeO.ite ?_ ?_)
   | (with_reducible refine LeO.bind ?_ (fun _ => ?_))
   | exact ih0 _ _ _ _ _ _ _ _ _ _ _
   | exact ih1 _ _ _ _ _ _ _ _ _ _
   | exact ih2 _ _ _ _ _ _ _ _ _
   | exact LeO.none _
   | refine LeO.ite ?_ ?_
   | refine LeO.bind ?_ (fun _ => ?_)
theorem spec_PilotTick.mono : ∀ a0 a1 a2 a3 a4 a5 a6 a7 a8 a9 k, LeO (spec_PilotTick.f k a0 a1 a2 a3 a4 a5 a6 a7 a8 a9) (spec_PilotTick.f (k + 1) a0 a1 a2 a3 a4 a5 a6 a7 a8 a9) := by
 intro a0 a1 a2 a3 a4 a5 a6 a7 a8 a9 k
 obtain ⟨ih0, ih1, ih2⟩ := spec_PilotTick.mono_l k
 unfold spec_PilotTick.f
 repeat' first
   | (with_reducible exact ih0 _ _ _ _ _ _ _ _ _ _ _)
   | (with_reducible exact ih1 _ _ _ _ _ _ _ _ _ _)
   | (with_reducible exact ih2 _ _ _ _ _ _ _ _ _)
   | (with_reducible exact LeO.refl _)
   | (with_reducible exact LeO.none _)
   | (with_reducible refine LeO.ite ?_ ?_)
   | (with_reducible refine LeO.bind ?_ (fun _ => ?_))
   | exact ih0 _ _ _ _ _ _ _ _ _ _ _
   | exact ih1 _ _ _ _ _ _ _ _ _ _
   | exact ih2 _ _ _ _ _ _ _ _ _
   | exact LeO.none _
   | refine LeO.ite ?_ ?_
   | refine LeO.bind ?_ (fun _ => ?_)
set_option maxHeartbeats 8000000 in
set_option maxRecDepth 100000 in
theorem spec_PilotTick.calls (k : Nat) (a0_0 : Int) (a0_1 : Int) (a0_2 : Int) (a0_3 : Int) (a0_4 : Int) (a0_5 : Int) (a0_6 : Int) (a0_7 : Int) (a0_8 : Bool) (a1 : Int) (r1 : Int) (r2 : Int) (r3 : Int) (r4 : Int) (r5 : Int) (r6 : Int) (r7 : Int) (r8 : Int) (r9 : Bool) (r10 : Bool) (w : World) (h : spec_PilotTick.f k a0_0 a0_1 a0_2 a0_3 a0_4 a0_5 a0_6 a0_7 a0_8 a1 = some (r1, r2, r3, r4, r5, r6, r7, r8, r9, r10)) :
  Calls Try.prog 24 #[.agg #[.int .i64 a0_0, .int .i64 a0_1, .int .i64 a0_2, .int .i64 a0_3, .int .i64 a0_4, .int .i64 a0_5, .int .i64 a0_6, .int .i64 a0_7, .bool a0_8], .int .i64 a1] w fun e w' => e = .returned (.tuple #[.agg #[.int .i64 r1, .int .i64 r2, .int .i64 r3, .int .i64 r4, .int .i64 r5, .int .i64 r6, .int .i64 r7, .int .i64 r8, .bool r9], .bool r10]) ∧ Below w.heap.size w w' := by
 have hu25 := Try.underlying25
 have HB := Aside0.mk (Below.refl w.heap.size w)
 have H : ((spec_PilotOk.f a0_0 a0_1 a0_2 a0_3 a0_4 a0_5 a0_6 a0_7 a0_8).bind fun t245 => (if t245 = true then ((spec_l1In.f a1 (-100) 100).bind fun t246 => (spec_PilotTick.j0 k a1 (!t246) a0_0 a0_1 a0_2 a0_3 a0_4 a0_5 a0_6 a0_7 a0_8)) else (spec_PilotTick.j0 k a1 true a0_0 a0_1 a0_2 a0_3 a0_4 a0_5 a0_6 a0_7 a0_8))) = some (r1, r2, r3, r4, r5, r6, r7, r8, r9, r10) := h
 clear h
 have HC3 := Aside0.mk H
 clear H
 go_enter Try.func24, Try.ntmps24
 go_upto_region 1 with (first | ((with_reducible refine gate_dst (N := 2) rfl ?_); refine box_event ?hg (N := 2) ?hd (cs := #[.int .i64 a0_0, .int .i64 a0_1, .int .i64 a0_2, .int .i64 a0_3, .int .i64 a0_4, .int .i64 a0_5, .int .i64 a0_6, .int .i64 a0_7, .bool a0_8]) (t := 25) ?hr ?_; (case hd => rfl); (case hg => rfl); (case hr => first | (go_simp; done) | (go_simp; rfl)); intro gb243 hg w4 hbox hb; have n0_ := Aside0.mk (below_step (by repeat (first | (with_reducible first | exact HB.out | apply below_alloc | apply pw_below_drewN | apply below_drew1) | exact HB.out)) hb); have n1_ := Aside0.mk (hbox); have n2_ := Aside0.mk ((by rw [hg]; exact (below_size (by repeat (first | (with_reducible first | exact HB.out | apply below_alloc | apply pw_below_drewN | apply below_drew1) | exact HB.out))) : w.heap.size ≤ gb243)); have n3_ := Aside0.mk ((by rw [hg]; exact (below_size (by repeat (first | (with_reducible first | exact HB.out | apply below_alloc | apply pw_below_drewN | apply below_drew1) | exact HB.out))) : w.heap.size ≤ gb243)); clear HB; have HB := n0_; have BK243 := n1_; have GW243 := n2_; have GE243 := n3_; clear n0_ n1_ n2_ n3_; clear hb hbox hg) | ((with_reducible refine gate_dst (N := 4) rfl ?_); refine box_event ?hg (N := 4) ?hd (cs := #[.int .i64 0, .int .i64 0, .int .i64 0, .int .i64 0, .int .i64 0, .int .i64 0, .int .i64 0, .int .i64 0, .bool false]) (t := 25) ?hr ?_; (case hd => rfl); (case hg => rfl); (case hr => first | (go_simp; done) | (go_simp; rfl)); intro gb244 hg w5 hbox hb; have n0_ := Aside0.mk (blk_below (g := gb243) (o := .cells #[.int .i64 a0_0, .int .i64 a0_1, .int .i64 a0_2, .int .i64 a0_3, .int .i64 a0_4, .int .i64 a0_5, .int .i64 a0_6, .int .i64 a0_7, .bool a0_8] 25 (0, 0)) (by (with_reducible repeat (first | refine blk_drewN ?_ _ | refine blk_drew ?_ | refine blk_alloc ?_ _)); exact BK243.out) hb); have n1_ := Aside0.mk (below_step (by repeat (first | (with_reducible first | exact HB.out | apply below_alloc | apply pw_below_drewN | apply below_drew1 | refine below_set ?_ GE243.out) | exact HB.out)) hb); have n2_ := Aside0.mk (hbox); have n3_ := Aside0.mk ((by rw [hg]; exact (below_size (by repeat (first | (with_reducible first | exact HB.out | apply below_alloc | apply pw_below_drewN | apply below_drew1 | refine below_set ?_ GE243.out) | exact HB.out))) : w.heap.size ≤ gb244)); have n4_ := Aside0.mk ((by rw [hg]; exact (below_size (by repeat (first | (with_reducible first | exact HB.out | apply below_alloc | apply pw_below_drewN | apply below_drew1 | refine below_set ?_ GE243.out) | exact HB.out))) : w.heap.size ≤ gb244)); have n5_ := Aside0.mk ((by rw [hg]; exact Nat.ne_of_lt (blk_lt (g := gb243) (o := .cells #[.int .i64 a0_0, .int .i64 a0_1, .int .i64 a0_2, .int .i64 a0_3, .int .i64 a0_4, .int .i64 a0_5, .int .i64 a0_6, .int .i64 a0_7, .bool a0_8] 25 (0, 0)) (by (with_reducible repeat (first | refine blk_drewN ?_ _ | refine blk_drew ?_ | refine blk_alloc ?_ _)); exact BK243.out)) : gb243 ≠ gb244)); have n6_ := Aside0.mk ((by rw [hg]; exact Nat.ne_of_gt (blk_lt (g := gb243) (o := .cells #[.int .i64 a0_0, .int .i64 a0_1, .int .i64 a0_2, .int .i64 a0_3, .int .i64 a0_4, .int .i64 a0_5, .int .i64 a0_6, .int .i64 a0_7, .bool a0_8] 25 (0, 0)) (by (with_reducible repeat (first | refine blk_drewN ?_ _ | refine blk_drew ?_ | refine blk_alloc ?_ _)); exact BK243.out)) : gb244 ≠ gb243)); clear BK243; clear HB; have BK243 := n0_; have HB := n1_; have BK244 := n2_; have GW244 := n3_; have GE244 := n4_; have NB243_244 := n5_; have NB244_243 := n6_; clear n0_ n1_ n2_ n3_ n4_ n5_ n6_; clear hb hbox hg))
 (try simp only [Act.put, List.setIfInBounds_toArray, List.set_cons_zero, List.set_cons_succ])
 go_cut [13] (fun v13 wc => ∃ (kq : Nat) (x13_2 : Bool), v13 = .bool x13_2 ∧ Aside0 (spec_PilotTick.j0 kq a1 x13_2 a0_0 a0_1 a0_2 a0_3 a0_4 a0_5 a0_6 a0_7 a0_8 = some (r1, r2, r3, r4, r5, r6, r7, r8, r9, r10)) ∧ Aside0 (kq ≤ k) ∧ Aside0 (wc.heap[gb243]? = some (.cells #[.int .i64 a0_0, .int .i64 a0_1, .int .i64 a0_2, .int .i64 a0_3, .int .i64 a0_4, .int .i64 a0_5, .int .i64 a0_6, .int .i64 a0_7, .bool a0_8] 25 (0, 0))) ∧ Aside0 (wc.heap[gb244]? = some (.cells #[.int .i64 0, .int .i64 0, .int .i64 0, .int .i64 0, .int .i64 0, .int .i64 0, .int .i64 0, .int .i64 0, .bool false] 25 (0, 0))) ∧ Aside0 (Below w.heap.size w wc))
 case first =>
  have H := HC3.out
  clear HC3
  replace H := Option.bind_eq_some_iff.mp H
  obtain ⟨t245, A60, H⟩ := H
  replace H : (if t245 = true then ((spec_l1In.f a1 (-100) 100).bind fun t246 => (spec_PilotTick.j0 k a1 (!t246) a0_0 a0_1 a0_2 a0_3 a0_4 a0_5 a0_6 a0_7 a0_8)) else (spec_PilotTick.j0 k a1 true a0_0 a0_1 a0_2 a0_3 a0_4 a0_5 a0_6 a0_7 a0_8)) = some (r1, r2, r3, r4, r5, r6, r7, r8, r9, r10) := H
  have A6 := Aside0.mk A60
  clear A60
  by_cases c7 : t245 = true
  ·
   subst c7
   have H1 : ((spec_l1In.f a1 (-100) 100).bind fun t246 => (spec_PilotTick.j0 k a1 (!t246) a0_0 a0_1 a0_2 a0_3 a0_4 a0_5 a0_6 a0_7 a0_8)) = some (r1, r2, r3, r4, r5, r6, r7, r8, r9, r10) := by rw [if_pos rfl] at H; exact H
   clear H
   have H := H1
   clear H1
   replace H := Option.bind_eq_some_iff.mp H
   obtain ⟨t246, A80, H⟩ := H
   replace H : (spec_PilotTick.j0 k a1 (!t246) a0_0 a0_1 a0_2 a0_3 a0_4 a0_5 a0_6 a0_7 a0_8) = some (r1, r2, r3, r4, r5, r6, r7, r8, r9, r10) := H
   have A8 := Aside0.mk A80
   clear A80
   have H' := Aside0.mk H
   clear H
   have hnb9 := NB243_244.out
   have hnc9 := NB244_243.out
   have hcz10_0 : w5.cell? ⟨gb243, 0, none⟩ = some (.int .i64 a0_0) := (blk_cell BK243.out 0).trans rfl
   have hcz10_1 : w5.cell? ⟨gb243, 1, none⟩ = some (.int .i64 a0_1) := (blk_cell BK243.out 1).trans rfl
   have hcz10_2 : w5.cell? ⟨gb243, 2, none⟩ = some (.int .i64 a0_2) := (blk_cell BK243.out 2).trans rfl
   have hcz10_3 : w5.cell? ⟨gb243, 3, none⟩ = some (.int .i64 a0_3) := (blk_cell BK243.out 3).trans rfl
   have hcz10_4 : w5.cell? ⟨gb243, 4, none⟩ = some (.int .i64 a0_4) := (blk_cell BK243.out 4).trans rfl
   have hcz10_5 : w5.cell? ⟨gb243, 5, none⟩ = some (.int .i64 a0_5) := (blk_cell BK243.out 5).trans rfl
   have hcz10_6 : w5.cell? ⟨gb243, 6, none⟩ = some (.int .i64 a0_6) := (blk_cell BK243.out 6).trans rfl
   have hcz10_7 : w5.cell? ⟨gb243, 7, none⟩ = some (.int .i64 a0_7) := (blk_cell BK243.out 7).trans rfl
   have hcz10_8 : w5.cell? ⟨gb243, 8, none⟩ = some (.bool a0_8) := (blk_cell BK243.out 8).trans rfl
   have hfz10_0 := blk_frozen BK243.out 0
   have hfz10_1 := blk_frozen BK243.out 1
   have hfz10_2 := blk_frozen BK243.out 2
   have hfz10_3 := blk_frozen BK243.out 3
   have hfz10_4 := blk_frozen BK243.out 4
   have hfz10_5 := blk_frozen BK243.out 5
   have hfz10_6 := blk_frozen BK243.out 6
   have hfz10_7 := blk_frozen BK243.out 7
   have hfz10_8 := blk_frozen BK243.out 8
   go_wp2_with (first | ((with_reducible refine gate_callee (f := 9) rfl ?_); refine goesL_ (some 7) rfl rfl Try.func9 (by kernel_rfl) rfl #[.agg #[.int .i64 a0_0, .int .i64 a0_1, .int .i64 a0_2, .int .i64 a0_3, .int .i64 a0_4, .int .i64 a0_5, .int .i64 a0_6, .int .i64 a0_7, .bool a0_8]] rfl (by (try simp only [List.map_toArray, List.map_cons, List.map_nil]); first | done | rfl | (simp only [List.length_drop, List.length_take]; rfl)) ?_; (with_reducible refine (spec_PilotOk.calls a0_0 a0_1 a0_2 a0_3 a0_4 a0_5 a0_6 a0_7 a0_8 true _ A6.out).mono ?_); rintro e w11 ⟨rfl, hb⟩; refine ⟨_, rfl, ?_⟩; have n0_ := Aside0.mk (blk_below (g := gb243) (o := .cells #[.int .i64 a0_0, .int .i64 a0_1, .int .i64 a0_2, .int .i64 a0_3, .int .i64 a0_4, .int .i64 a0_5, .int .i64 a0_6, .int .i64 a0_7, .bool a0_8] 25 (0, 0)) (by (with_reducible repeat (first | refine blk_drewN ?_ _ | refine blk_drew ?_ | refine blk_alloc ?_ _)); exact BK243.out) hb); have n1_ := Aside0.mk (blk_below (g := gb244) (o := .cells #[.int .i64 0, .int .i64 0, .int .i64 0, .int .i64 0, .int .i64 0, .int .i64 0, .int .i64 0, .int .i64 0, .bool false] 25 (0, 0)) (by (with_reducible repeat (first | refine blk_drewN ?_ _ | refine blk_drew ?_ | refine blk_alloc ?_ _)); exact BK244.out) hb); have n2_ := Aside0.mk (below_step (by repeat (first | (with_reducible first | exact HB.out | apply below_alloc | apply pw_below_drewN | apply below_drew1 | refine below_set ?_ GE243.out | refine below_set ?_ GE244.out) | exact HB.out)) hb); clear BK243; clear BK244; clear HB; have BK243 := n0_; have BK244 := n1_; have HB := n2_; clear n0_ n1_ n2_; (try clear hb); (try clear hb2); (try clear hk); (try clear hi)) | (go_at_call 32; (with_reducible refine (spec_l1In.calls a1 (-100) 100 t246 _ A8.out).mono ?_); rintro e w' ⟨rfl, ⟨nd, rfl⟩⟩))
   go_meet
   case rel => exact ⟨_, (!t246), (by first | rfl | (simp; done) | (simp [*]; done)), H', ⟨by first | omega | exact Nat.le_refl _⟩, ⟨by (with_reducible repeat (first | refine blk_drewN ?_ _ | refine blk_drew ?_ | refine blk_alloc ?_ _)); exact BK243.out⟩, ⟨by (with_reducible repeat (first | refine blk_drewN ?_ _ | refine blk_drew ?_ | refine blk_alloc ?_ _)); exact BK244.out⟩, ⟨by repeat (first | (with_reducible first | exact HB.out | apply below_alloc | apply pw_below_drewN | apply below_drew1 | refine below_set ?_ GE243.out | refine below_set ?_ GE244.out) | exact HB.out)⟩⟩
  ·
   replace c7 := Bool.eq_false_iff.mpr c7
   subst c7
   have H1 : (spec_PilotTick.j0 k a1 true a0_0 a0_1 a0_2 a0_3 a0_4 a0_5 a0_6 a0_7 a0_8) = some (r1, r2, r3, r4, r5, r6, r7, r8, r9, r10) := by rw [if_neg (show ¬ (false = true) by decide)] at H; exact H
   clear H
   have H := H1
   clear H1
   have H' := Aside0.mk H
   clear H
   have hnb12 := NB243_244.out
   have hnc12 := NB244_243.out
   have hcz13_0 : w5.cell? ⟨gb243, 0, none⟩ = some (.int .i64 a0_0) := (blk_cell BK243.out 0).trans rfl
   have hcz13_1 : w5.cell? ⟨gb243, 1, none⟩ = some (.int .i64 a0_1) := (blk_cell BK243.out 1).trans rfl
   have hcz13_2 : w5.cell? ⟨gb243, 2, none⟩ = some (.int .i64 a0_2) := (blk_cell BK243.out 2).trans rfl
   have hcz13_3 : w5.cell? ⟨gb243, 3, none⟩ = some (.int .i64 a0_3) := (blk_cell BK243.out 3).trans rfl
   have hcz13_4 : w5.cell? ⟨gb243, 4, none⟩ = some (.int .i64 a0_4) := (blk_cell BK243.out 4).trans rfl
   have hcz13_5 : w5.cell? ⟨gb243, 5, none⟩ = some (.int .i64 a0_5) := (blk_cell BK243.out 5).trans rfl
   have hcz13_6 : w5.cell? ⟨gb243, 6, none⟩ = some (.int .i64 a0_6) := (blk_cell BK243.out 6).trans rfl
   have hcz13_7 : w5.cell? ⟨gb243, 7, none⟩ = some (.int .i64 a0_7) := (blk_cell BK243.out 7).trans rfl
   have hcz13_8 : w5.cell? ⟨gb243, 8, none⟩ = some (.bool a0_8) := (blk_cell BK243.out 8).trans rfl
   have hfz13_0 := blk_frozen BK243.out 0
   have hfz13_1 := blk_frozen BK243.out 1
   have hfz13_2 := blk_frozen BK243.out 2
   have hfz13_3 := blk_frozen BK243.out 3
   have hfz13_4 := blk_frozen BK243.out 4
   have hfz13_5 := blk_frozen BK243.out 5
   have hfz13_6 := blk_frozen BK243.out 6
   have hfz13_7 := blk_frozen BK243.out 7
   have hfz13_8 := blk_frozen BK243.out 8
   go_wp2_with (first | ((with_reducible refine gate_callee (f := 9) rfl ?_); refine goesL_ (some 7) rfl rfl Try.func9 (by kernel_rfl) rfl #[.agg #[.int .i64 a0_0, .int .i64 a0_1, .int .i64 a0_2, .int .i64 a0_3, .int .i64 a0_4, .int .i64 a0_5, .int .i64 a0_6, .int .i64 a0_7, .bool a0_8]] rfl (by (try simp only [List.map_toArray, List.map_cons, List.map_nil]); first | done | rfl | (simp only [List.length_drop, List.length_take]; rfl)) ?_; (with_reducible refine (spec_PilotOk.calls a0_0 a0_1 a0_2 a0_3 a0_4 a0_5 a0_6 a0_7 a0_8 false _ A6.out).mono ?_); rintro e w14 ⟨rfl, hb⟩; refine ⟨_, rfl, ?_⟩; have n0_ := Aside0.mk (blk_below (g := gb243) (o := .cells #[.int .i64 a0_0, .int .i64 a0_1, .int .i64 a0_2, .int .i64 a0_3, .int .i64 a0_4, .int .i64 a0_5, .int .i64 a0_6, .int .i64 a0_7, .bool a0_8] 25 (0, 0)) (by (with_reducible repeat (first | refine blk_drewN ?_ _ | refine blk_drew ?_ | refine blk_alloc ?_ _)); exact BK243.out) hb); have n1_ := Aside0.mk (blk_below (g := gb244) (o := .cells #[.int .i64 0, .int .i64 0, .int .i64 0, .int .i64 0, .int .i64 0, .int .i64 0, .int .i64 0, .int .i64 0, .bool false] 25 (0, 0)) (by (with_reducible repeat (first | refine blk_drewN ?_ _ | refine blk_drew ?_ | refine blk_alloc ?_ _)); exact BK244.out) hb); have n2_ := Aside0.mk (below_step (by repeat (first | (with_reducible first | exact HB.out | apply below_alloc | apply pw_below_drewN | apply below_drew1 | refine below_set ?_ GE243.out | refine below_set ?_ GE244.out) | exact HB.out)) hb); clear BK243; clear BK244; clear HB; have BK243 := n0_; have BK244 := n1_; have HB := n2_; clear n0_ n1_ n2_; (try clear hb); (try clear hb2); (try clear hk); (try clear hi)))
   go_meet
   case rel => exact ⟨_, (true), (by first | rfl | (simp; done) | (simp [*]; done)), H', ⟨by first | omega | exact Nat.le_refl _⟩, ⟨by (with_reducible repeat (first | refine blk_drewN ?_ _ | refine blk_drew ?_ | refine blk_alloc ?_ _)); exact BK243.out⟩, ⟨by (with_reducible repeat (first | refine blk_drewN ?_ _ | refine blk_drew ?_ | refine blk_alloc ?_ _)); exact BK244.out⟩, ⟨by repeat (first | (with_reducible first | exact HB.out | apply below_alloc | apply pw_below_drewN | apply below_drew1 | refine below_set ?_ GE243.out | refine below_set ?_ GE244.out) | exact HB.out)⟩⟩
 case rest =>
  clear HC3
  try clear c1
  try clear c2
  try clear p2
  try clear c7
  try clear c9
  try clear c12
  try clear hcz10_0
  try clear hcz10_1
  try clear hcz10_2
  try clear hcz10_3
  try clear hcz10_4
  try clear hcz10_5
  try clear hcz10_6
  try clear hcz10_7
  try clear hcz10_8
  try clear hcz13_0
  try clear hcz13_1
  try clear hcz13_2
  try clear hcz13_3
  try clear hcz13_4
  try clear hcz13_5
  try clear hcz13_6
  try clear hcz13_7
  try clear hcz13_8
  try clear hfz10_0
  try clear hfz10_1
  try clear hfz10_2
  try clear hfz10_3
  try clear hfz10_4
  try clear hfz10_5
  try clear hfz10_6
  try clear hfz10_7
  try clear hfz10_8
  try clear hfz13_0
  try clear hfz13_1
  try clear hfz13_2
  try clear hfz13_3
  try clear hfz13_4
  try clear hfz13_5
  try clear hfz13_6
  try clear hfz13_7
  try clear hfz13_8
  obtain ⟨kq, x13_2, rfl, HA, HJ2, BK243, BK244, HB⟩ := hcut
  cases kq with
  | zero => exact absurd HA.out (by simp [spec_PilotTick.j0])
  | succ kj2 =>
   have H := HA.out
   clear HA
   simp only [spec_PilotTick.j0] at H
   by_cases c15 : x13_2 = true
   ·
    subst c15
    have H1 : (some (0, 0, 0, 0, 0, 0, 0, 0, false, false)) = some (r1, r2, r3, r4, r5, r6, r7, r8, r9, r10) := by rw [if_pos rfl] at H; exact H
    clear H
    have H := H1
    clear H1
    simp only [Option.some.injEq, Prod.mk.injEq] at H
    obtain ⟨rfl, rfl, rfl, rfl, rfl, rfl, rfl, rfl, rfl, rfl⟩ := H
    have hnb16 := NB244_243.out
    have hnc16 := NB243_244.out
    have hcz17_0 : wc.cell? ⟨gb244, 0, none⟩ = some (.int .i64 0) := (blk_cell BK244.out 0).trans rfl
    have hcz17_1 : wc.cell? ⟨gb244, 1, none⟩ = some (.int .i64 0) := (blk_cell BK244.out 1).trans rfl
    have hcz17_2 : wc.cell? ⟨gb244, 2, none⟩ = some (.int .i64 0) := (blk_cell BK244.out 2).trans rfl
    have hcz17_3 : wc.cell? ⟨gb244, 3, none⟩ = some (.int .i64 0) := (blk_cell BK244.out 3).trans rfl
    have hcz17_4 : wc.cell? ⟨gb244, 4, none⟩ = some (.int .i64 0) := (blk_cell BK244.out 4).trans rfl
    have hcz17_5 : wc.cell? ⟨gb244, 5, none⟩ = some (.int .i64 0) := (blk_cell BK244.out 5).trans rfl
    have hcz17_6 : wc.cell? ⟨gb244, 6, none⟩ = some (.int .i64 0) := (blk_cell BK244.out 6).trans rfl
    have hcz17_7 : wc.cell? ⟨gb244, 7, none⟩ = some (.int .i64 0) := (blk_cell BK244.out 7).trans rfl
    have hcz17_8 : wc.cell? ⟨gb244, 8, none⟩ = some (.bool false) := (blk_cell BK244.out 8).trans rfl
    have hfz17_0 := blk_frozen BK244.out 0
    have hfz17_1 := blk_frozen BK244.out 1
    have hfz17_2 := blk_frozen BK244.out 2
    have hfz17_3 := blk_frozen BK244.out 3
    have hfz17_4 := blk_frozen BK244.out 4
    have hfz17_5 := blk_frozen BK244.out 5
    have hfz17_6 := blk_frozen BK244.out 6
    have hfz17_7 := blk_frozen BK244.out 7
    have hfz17_8 := blk_frozen BK244.out 8
    go_wp2
    refine bodyPost_ret (results_ct rfl _ _ gb244 25 #[.int .i64 0, .int .i64 0, .int .i64 0, .int .i64 0, .int .i64 0, .int .i64 0, .int .i64 0, .int .i64 0, .bool false] (0, 0) _ rfl (by (with_reducible repeat (first | refine blk_drewN ?_ _ | refine blk_drew ?_ | refine blk_alloc ?_ _)); refine blk_put (cs := #[.int .i64 0, .int .i64 0, .int .i64 0, .int .i64 0, .int .i64 0, .int .i64 0, .int .i64 0, .int .i64 0, .bool false]) ?_ 8 _ rfl; (with_reducible repeat (first | refine blk_drewN ?_ _ | refine blk_drew ?_ | refine blk_alloc ?_ _)); refine blk_put (cs := #[.int .i64 0, .int .i64 0, .int .i64 0, .int .i64 0, .int .i64 0, .int .i64 0, .int .i64 0, .int .i64 0, .bool false]) ?_ 7 _ rfl; (with_reducible repeat (first | refine blk_drewN ?_ _ | refine blk_drew ?_ | refine blk_alloc ?_ _)); refine blk_put (cs := #[.int .i64 0, .int .i64 0, .int .i64 0, .int .i64 0, .int .i64 0, .int .i64 0, .int .i64 0, .int .i64 0, .bool false]) ?_ 6 _ rfl; (with_reducible repeat (first | refine blk_drewN ?_ _ | refine blk_drew ?_ | refine blk_alloc ?_ _)); refine blk_put (cs := #[.int .i64 0, .int .i64 0, .int .i64 0, .int .i64 0, .int .i64 0, .int .i64 0, .int .i64 0, .int .i64 0, .bool false]) ?_ 5 _ rfl; (with_reducible repeat (first | refine blk_drewN ?_ _ | refine blk_drew ?_ | refine blk_alloc ?_ _)); refine blk_put (cs := #[.int .i64 0, .int .i64 0, .int .i64 0, .int .i64 0, .int .i64 0, .int .i64 0, .int .i64 0, .int .i64 0, .bool false]) ?_ 4 _ rfl; (with_reducible repeat (first | refine blk_drewN ?_ _ | refine blk_drew ?_ | refine blk_alloc ?_ _)); refine blk_put (cs := #[.int .i64 0, .int .i64 0, .int .i64 0, .int .i64 0, .int .i64 0, .int .i64 0, .int .i64 0, .int .i64 0, .bool false]) ?_ 3 _ rfl; (with_reducible repeat (first | refine blk_drewN ?_ _ | refine blk_drew ?_ | refine blk_alloc ?_ _)); refine blk_put (cs := #[.int .i64 0, .int .i64 0, .int .i64 0, .int .i64 0, .int .i64 0, .int .i64 0, .int .i64 0, .int .i64 0, .bool false]) ?_ 2 _ rfl; (with_reducible repeat (first | refine blk_drewN ?_ _ | refine blk_drew ?_ | refine blk_alloc ?_ _)); refine blk_put (cs := #[.int .i64 0, .int .i64 0, .int .i64 0, .int .i64 0, .int .i64 0, .int .i64 0, .int .i64 0, .int .i64 0, .bool false]) ?_ 1 _ rfl; (with_reducible repeat (first | refine blk_drewN ?_ _ | refine blk_drew ?_ | refine blk_alloc ?_ _)); refine blk_put (cs := #[.int .i64 0, .int .i64 0, .int .i64 0, .int .i64 0, .int .i64 0, .int .i64 0, .int .i64 0, .int .i64 0, .bool false]) ?_ 0 _ rfl; (with_reducible repeat (first | refine blk_drewN ?_ _ | refine blk_drew ?_ | refine blk_alloc ?_ _)); exact BK244.out) Try.underlying25 rfl (by kernel_rfl)) rfl ?_
    exact ⟨by first | rfl | (simp [errW_none, errW_some] <;> rfl) | (simp [*, errW_none, errW_some] <;> rfl), by repeat (first | (with_reducible first | exact HB.out | apply below_alloc | apply pw_below_drewN | apply below_drew1 | refine below_set ?_ GE243.out | refine below_set ?_ GE244.out) | exact HB.out)⟩
   ·
    replace c15 := Bool.eq_false_iff.mpr c15
    subst c15
    have H1 : ((spec_l10Vert.f a0_0 a0_1 a0_2 a0_3 a0_4 a0_5 a0_6 a0_7 a0_8).bind fun bt247 => (spec_PilotTick.j1 kj2 a1 bt247.1 bt247.2.1 bt247.2.2.1 bt247.2.2.2.1 bt247.2.2.2.2.1 bt247.2.2.2.2.2.1 bt247.2.2.2.2.2.2.1 bt247.2.2.2.2.2.2.2.1 bt247.2.2.2.2.2.2.2.2)) = some (r1, r2, r3, r4, r5, r6, r7, r8, r9, r10) := by rw [if_neg (show ¬ (false = true) by decide)] at H; exact H
    clear H
    have H := H1
    clear H1
    have HC18 := Aside0.mk H
    clear H
    go_upto_region 3 with (fail)
    go_cut [] (fun wc => ∃ (kq : Nat) (x244000_17 : Int) (x244001_17 : Int) (x244002_17 : Int) (x244003_17 : Int) (x244004_17 : Int) (x244005_17 : Int) (x244006_17 : Int) (x244007_17 : Int) (x244008_17 : Bool), Aside0 (spec_PilotTick.j1 kq a1 x244000_17 x244001_17 x244002_17 x244003_17 x244004_17 x244005_17 x244006_17 x244007_17 x244008_17 = some (r1, r2, r3, r4, r5, r6, r7, r8, r9, r10)) ∧ Aside0 (kq ≤ kj2) ∧ Aside0 (wc.heap[gb243]? = some (.cells #[.int .i64 x244000_17, .int .i64 x244001_17, .int .i64 x244002_17, .int .i64 x244003_17, .int .i64 x244004_17, .int .i64 x244005_17, .int .i64 x244006_17, .int .i64 x244007_17, .bool x244008_17] 25 (0, 0))) ∧ Aside0 (wc.heap[gb244]? = some (.cells #[.int .i64 0, .int .i64 0, .int .i64 0, .int .i64 0, .int .i64 0, .int .i64 0, .int .i64 0, .int .i64 0, .bool false] 25 (0, 0))) ∧ Aside0 (Below w.heap.size w wc))
    case first =>
     have H := HC18.out
     clear HC18
     replace H := Option.bind_eq_some_iff.mp H
     obtain ⟨⟨t247, t248, t249, t250, t251, t252, t253, t254, t255⟩, A190, H⟩ := H
     replace H : (spec_PilotTick.j1 kj2 a1 t247 t248 t249 t250 t251 t252 t253 t254 t255) = some (r1, r2, r3, r4, r5, r6, r7, r8, r9, r10) := H
     have A19 := Aside0.mk A190
     clear A190
     have H' := Aside0.mk H
     clear H
     have hnb20 := NB243_244.out
     have hnc20 := NB244_243.out
     have hcz21_0 : wc.cell? ⟨gb243, 0, none⟩ = some (.int .i64 a0_0) := (blk_cell BK243.out 0).trans rfl
     have hcz21_1 : wc.cell? ⟨gb243, 1, none⟩ = some (.int .i64 a0_1) := (blk_cell BK243.out 1).trans rfl
     have hcz21_2 : wc.cell? ⟨gb243, 2, none⟩ = some (.int .i64 a0_2) := (blk_cell BK243.out 2).trans rfl
     have hcz21_3 : wc.cell? ⟨gb243, 3, none⟩ = some (.int .i64 a0_3) := (blk_cell BK243.out 3).trans rfl
     have hcz21_4 : wc.cell? ⟨gb243, 4, none⟩ = some (.int .i64 a0_4) := (blk_cell BK243.out 4).trans rfl
     have hcz21_5 : wc.cell? ⟨gb243, 5, none⟩ = some (.int .i64 a0_5) := (blk_cell BK243.out 5).trans rfl
     have hcz21_6 : wc.cell? ⟨gb243, 6, none⟩ = some (.int .i64 a0_6) := (blk_cell BK243.out 6).trans rfl
     have hcz21_7 : wc.cell? ⟨gb243, 7, none⟩ = some (.int .i64 a0_7) := (blk_cell BK243.out 7).trans rfl
     have hcz21_8 : wc.cell? ⟨gb243, 8, none⟩ = some (.bool a0_8) := (blk_cell BK243.out 8).trans rfl
     have hfz21_0 := blk_frozen BK243.out 0
     have hfz21_1 := blk_frozen BK243.out 1
     have hfz21_2 := blk_frozen BK243.out 2
     have hfz21_3 := blk_frozen BK243.out 3
     have hfz21_4 := blk_frozen BK243.out 4
     have hfz21_5 := blk_frozen BK243.out 5
     have hfz21_6 := blk_frozen BK243.out 6
     have hfz21_7 := blk_frozen BK243.out 7
     have hfz21_8 := blk_frozen BK243.out 8
     go_wp2_with (first | ((with_reducible refine gate_callee (f := 39) rfl ?_); refine goesL_ (some 16) rfl rfl Try.func39 (by kernel_rfl) rfl #[.agg #[.int .i64 a0_0, .int .i64 a0_1, .int .i64 a0_2, .int .i64 a0_3, .int .i64 a0_4, .int .i64 a0_5, .int .i64 a0_6, .int .i64 a0_7, .bool a0_8]] rfl (by (try simp only [List.map_toArray, List.map_cons, List.map_nil]); first | done | rfl | (simp only [List.length_drop, List.length_take]; rfl)) ?_; (with_reducible refine (spec_l10Vert.calls a0_0 a0_1 a0_2 a0_3 a0_4 a0_5 a0_6 a0_7 a0_8 t247 t248 t249 t250 t251 t252 t253 t254 t255 _ A19.out).mono ?_); rintro e w22 ⟨rfl, hb⟩; refine ⟨_, rfl, ?_⟩; have n0_ := Aside0.mk (blk_below (g := gb243) (o := .cells #[.int .i64 a0_0, .int .i64 a0_1, .int .i64 a0_2, .int .i64 a0_3, .int .i64 a0_4, .int .i64 a0_5, .int .i64 a0_6, .int .i64 a0_7, .bool a0_8] 25 (0, 0)) (by (with_reducible repeat (first | refine blk_drewN ?_ _ | refine blk_drew ?_ | refine blk_alloc ?_ _)); exact BK243.out) hb); have n1_ := Aside0.mk (blk_below (g := gb244) (o := .cells #[.int .i64 0, .int .i64 0, .int .i64 0, .int .i64 0, .int .i64 0, .int .i64 0, .int .i64 0, .int .i64 0, .bool false] 25 (0, 0)) (by (with_reducible repeat (first | refine blk_drewN ?_ _ | refine blk_drew ?_ | refine blk_alloc ?_ _)); exact BK244.out) hb); have n2_ := Aside0.mk (below_step (by repeat (first | (with_reducible first | exact HB.out | apply below_alloc | apply pw_below_drewN | apply below_drew1 | refine below_set ?_ GE243.out | refine below_set ?_ GE244.out) | exact HB.out)) hb); clear BK243; clear BK244; clear HB; have BK243 := n0_; have BK244 := n1_; have HB := n2_; clear n0_ n1_ n2_; (try clear hb); (try clear hb2); (try clear hk); (try clear hi); have hcz23_0 : w22.cell? ⟨gb243, 0, none⟩ = some (.int .i64 a0_0) := (blk_cell BK243.out 0).trans rfl; have hcz23_1 : w22.cell? ⟨gb243, 1, none⟩ = some (.int .i64 a0_1) := (blk_cell BK243.out 1).trans rfl; have hcz23_2 : w22.cell? ⟨gb243, 2, none⟩ = some (.int .i64 a0_2) := (blk_cell BK243.out 2).trans rfl; have hcz23_3 : w22.cell? ⟨gb243, 3, none⟩ = some (.int .i64 a0_3) := (blk_cell BK243.out 3).trans rfl; have hcz23_4 : w22.cell? ⟨gb243, 4, none⟩ = some (.int .i64 a0_4) := (blk_cell BK243.out 4).trans rfl; have hcz23_5 : w22.cell? ⟨gb243, 5, none⟩ = some (.int .i64 a0_5) := (blk_cell BK243.out 5).trans rfl; have hcz23_6 : w22.cell? ⟨gb243, 6, none⟩ = some (.int .i64 a0_6) := (blk_cell BK243.out 6).trans rfl; have hcz23_7 : w22.cell? ⟨gb243, 7, none⟩ = some (.int .i64 a0_7) := (blk_cell BK243.out 7).trans rfl; have hcz23_8 : w22.cell? ⟨gb243, 8, none⟩ = some (.bool a0_8) := (blk_cell BK243.out 8).trans rfl; have hfz23_0 := blk_frozen BK243.out 0; have hfz23_1 := blk_frozen BK243.out 1; have hfz23_2 := blk_frozen BK243.out 2; have hfz23_3 := blk_frozen BK243.out 3; have hfz23_4 := blk_frozen BK243.out 4; have hfz23_5 := blk_frozen BK243.out 5; have hfz23_6 := blk_frozen BK243.out 6; have hfz23_7 := blk_frozen BK243.out 7; have hfz23_8 := blk_frozen BK243.out 8))
     go_meet
     case rel => exact ⟨_, (t247), (t248), (t249), (t250), (t251), (t252), (t253), (t254), (t255), H', ⟨by have := HJ2.out; first | omega | exact Nat.le_refl _⟩, ⟨by (with_reducible repeat (first | refine blk_drewN ?_ _ | refine blk_drew ?_ | refine blk_alloc ?_ _)); refine blk_put (cs := #[.int .i64 t247, .int .i64 t248, .int .i64 t249, .int .i64 t250, .int .i64 t251, .int .i64 t252, .int .i64 t253, .int .i64 t254, .bool a0_8]) ?_ 8 _ rfl; (with_reducible repeat (first | refine blk_drewN ?_ _ | refine blk_drew ?_ | refine blk_alloc ?_ _)); refine blk_put (cs := #[.int .i64 t247, .int .i64 t248, .int .i64 t249, .int .i64 t250, .int .i64 t251, .int .i64 t252, .int .i64 t253, .int .i64 a0_7, .bool a0_8]) ?_ 7 _ rfl; (with_reducible repeat (first | refine blk_drewN ?_ _ | refine blk_drew ?_ | refine blk_alloc ?_ _)); refine blk_put (cs := #[.int .i64 t247, .int .i64 t248, .int .i64 t249, .int .i64 t250, .int .i64 t251, .int .i64 t252, .int .i64 a0_6, .int .i64 a0_7, .bool a0_8]) ?_ 6 _ rfl; (with_reducible repeat (first | refine blk_drewN ?_ _ | refine blk_drew ?_ | refine blk_alloc ?_ _)); refine blk_put (cs := #[.int .i64 t247, .int .i64 t248, .int .i64 t249, .int .i64 t250, .int .i64 t251, .int .i64 a0_5, .int .i64 a0_6, .int .i64 a0_7, .bool a0_8]) ?_ 5 _ rfl; (with_reducible repeat (first | refine blk_drewN ?_ _ | refine blk_drew ?_ | refine blk_alloc ?_ _)); refine blk_put (cs := #[.int .i64 t247, .int .i64 t248, .int .i64 t249, .int .i64 t250, .int .i64 a0_4, .int .i64 a0_5, .int .i64 a0_6, .int .i64 a0_7, .bool a0_8]) ?_ 4 _ rfl; (with_reducible repeat (first | refine blk_drewN ?_ _ | refine blk_drew ?_ | refine blk_alloc ?_ _)); refine blk_put (cs := #[.int .i64 t247, .int .i64 t248, .int .i64 t249, .int .i64 a0_3, .int .i64 a0_4, .int .i64 a0_5, .int .i64 a0_6, .int .i64 a0_7, .bool a0_8]) ?_ 3 _ rfl; (with_reducible repeat (first | refine blk_drewN ?_ _ | refine blk_drew ?_ | refine blk_alloc ?_ _)); refine blk_put (cs := #[.int .i64 t247, .int .i64 t248, .int .i64 a0_2, .int .i64 a0_3, .int .i64 a0_4, .int .i64 a0_5, .int .i64 a0_6, .int .i64 a0_7, .bool a0_8]) ?_ 2 _ rfl; (with_reducible repeat (first | refine blk_drewN ?_ _ | refine blk_drew ?_ | refine blk_alloc ?_ _)); refine blk_put (cs := #[.int .i64 t247, .int .i64 a0_1, .int .i64 a0_2, .int .i64 a0_3, .int .i64 a0_4, .int .i64 a0_5, .int .i64 a0_6, .int .i64 a0_7, .bool a0_8]) ?_ 1 _ rfl; (with_reducible repeat (first | refine blk_drewN ?_ _ | refine blk_drew ?_ | refine blk_alloc ?_ _)); refine blk_put (cs := #[.int .i64 a0_0, .int .i64 a0_1, .int .i64 a0_2, .int .i64 a0_3, .int .i64 a0_4, .int .i64 a0_5, .int .i64 a0_6, .int .i64 a0_7, .bool a0_8]) ?_ 0 _ rfl; (with_reducible repeat (first | refine blk_drewN ?_ _ | refine blk_drew ?_ | refine blk_alloc ?_ _)); exact BK243.out⟩, ⟨by (with_reducible repeat (first | refine blk_drewN ?_ _ | refine blk_drew ?_ | refine blk_alloc ?_ _)); refine blk_far ?_ NB244_243.out _; (with_reducible repeat (first | refine blk_drewN ?_ _ | refine blk_drew ?_ | refine blk_alloc ?_ _)); refine blk_far ?_ NB244_243.out _; (with_reducible repeat (first | refine blk_drewN ?_ _ | refine blk_drew ?_ | refine blk_alloc ?_ _)); refine blk_far ?_ NB244_243.out _; (with_reducible repeat (first | refine blk_drewN ?_ _ | refine blk_drew ?_ | refine blk_alloc ?_ _)); refine blk_far ?_ NB244_243.out _; (with_reducible repeat (first | refine blk_drewN ?_ _ | refine blk_drew ?_ | refine blk_alloc ?_ _)); refine blk_far ?_ NB244_243.out _; (with_reducible repeat (first | refine blk_drewN ?_ _ | refine blk_drew ?_ | refine blk_alloc ?_ _)); refine blk_far ?_ NB244_243.out _; (with_reducible repeat (first | refine blk_drewN ?_ _ | refine blk_drew ?_ | refine blk_alloc ?_ _)); refine blk_far ?_ NB244_243.out _; (with_reducible repeat (first | refine blk_drewN ?_ _ | refine blk_drew ?_ | refine blk_alloc ?_ _)); refine blk_far ?_ NB244_243.out _; (with_reducible repeat (first | refine blk_drewN ?_ _ | refine blk_drew ?_ | refine blk_alloc ?_ _)); refine blk_far ?_ NB244_243.out _; (with_reducible repeat (first | refine blk_drewN ?_ _ | refine blk_drew ?_ | refine blk_alloc ?_ _)); exact BK244.out⟩, ⟨by repeat (first | (with_reducible first | exact HB.out | apply below_alloc | apply pw_below_drewN | apply below_drew1 | refine below_set ?_ GE243.out | refine below_set ?_ GE244.out) | exact HB.out)⟩⟩
    case rest =>
     clear HC18
     try clear c1
     try clear c2
     try clear p2
     try clear c3
     try clear c7
     try clear c9
     try clear c12
     try clear c15
     try clear c16
     try clear c20
     try clear hcz10_0
     try clear hcz10_1
     try clear hcz10_2
     try clear hcz10_3
     try clear hcz10_4
     try clear hcz10_5
     try clear hcz10_6
     try clear hcz10_7
     try clear hcz10_8
     try clear hcz13_0
     try clear hcz13_1
     try clear hcz13_2
     try clear hcz13_3
     try clear hcz13_4
     try clear hcz13_5
     try clear hcz13_6
     try clear hcz13_7
     try clear hcz13_8
     try clear hcz17_0
     try clear hcz17_1
     try clear hcz17_2
     try clear hcz17_3
     try clear hcz17_4
     try clear hcz17_5
     try clear hcz17_6
     try clear hcz17_7
     try clear hcz17_8
     try clear hcz21_0
     try clear hcz21_1
     try clear hcz21_2
     try clear hcz21_3
     try clear hcz21_4
     try clear hcz21_5
     try clear hcz21_6
     try clear hcz21_7
     try clear hcz21_8
     try clear hcz23_0
     try clear hcz23_1
     try clear hcz23_2
     try clear hcz23_3
     try clear hcz23_4
     try clear hcz23_5
     try clear hcz23_6
     try clear hcz23_7
     try clear hcz23_8
     try clear hfz10_0
     try clear hfz10_1
     try clear hfz10_2
     try clear hfz10_3
     try clear hfz10_4
     try clear hfz10_5
     try clear hfz10_6
     try clear hfz10_7
     try clear hfz10_8
     try clear hfz13_0
     try clear hfz13_1
     try clear hfz13_2
     try clear hfz13_3
     try clear hfz13_4
     try clear hfz13_5
     try clear hfz13_6
     try clear hfz13_7
     try clear hfz13_8
     try clear hfz17_0
     try clear hfz17_1
     try clear hfz17_2
     try clear hfz17_3
     try clear hfz17_4
     try clear hfz17_5
     try clear hfz17_6
     try clear hfz17_7
     try clear hfz17_8
     try clear hfz21_0
     try clear hfz21_1
     try clear hfz21_2
     try clear hfz21_3
     try clear hfz21_4
     try clear hfz21_5
     try clear hfz21_6
     try clear hfz21_7
     try clear hfz21_8
     try clear hfz23_0
     try clear hfz23_1
     try clear hfz23_2
     try clear hfz23_3
     try clear hfz23_4
     try clear hfz23_5
     try clear hfz23_6
     try clear hfz23_7
     try clear hfz23_8
     try clear p2
     obtain ⟨kq, x244000_17, x244001_17, x244002_17, x244003_17, x244004_17, x244005_17, x244006_17, x244007_17, x244008_17, HA, HJ17, BK243, BK244, HB⟩ := hcut
     cases kq with
     | zero => exact absurd HA.out (by simp [spec_PilotTick.j1])
     | succ kj17 =>
      have H := HA.out
      clear HA
      simp only [spec_PilotTick.j1] at H
      have HC24 := Aside0.mk H
      clear H
      go_upto_region 4 with (fail)
      go_cut [] (fun wc => ∃ (kq : Nat) (x244007_23 : Int), Aside0 (spec_PilotTick.j2 kq x244000_17 x244001_17 x244002_17 x244003_17 x244004_17 x244005_17 x244006_17 x244007_23 x244008_17 = some (r1, r2, r3, r4, r5, r6, r7, r8, r9, r10)) ∧ Aside0 (kq ≤ kj17) ∧ Aside0 (wc.heap[gb243]? = some (.cells #[.int .i64 x244000_17, .int .i64 x244001_17, .int .i64 x244002_17, .int .i64 x244003_17, .int .i64 x244004_17, .int .i64 x244005_17, .int .i64 x244006_17, .int .i64 x244007_23, .bool x244008_17] 25 (0, 0))) ∧ Aside0 (wc.heap[gb244]? = some (.cells #[.int .i64 0, .int .i64 0, .int .i64 0, .int .i64 0, .int .i64 0, .int .i64 0, .int .i64 0, .int .i64 0, .bool false] 25 (0, 0))) ∧ Aside0 (Below w.heap.size w wc))
      case first =>
       have H := HC24.out
       clear HC24
       replace H := Option.bind_eq_some_iff.mp H
       obtain ⟨t256, A250, H⟩ := H
       replace H : ((spec_l1Max.f (-10000) t256).bind fun t257 => (spec_PilotTick.j2 kj17 x244000_17 x244001_17 x244002_17 x244003_17 x244004_17 x244005_17 x244006_17 t257 x244008_17)) = some (r1, r2, r3, r4, r5, r6, r7, r8, r9, r10) := H
       have A25 := Aside0.mk A250
       clear A250
       replace H := Option.bind_eq_some_iff.mp H
       obtain ⟨t257, A260, H⟩ := H
       replace H : (spec_PilotTick.j2 kj17 x244000_17 x244001_17 x244002_17 x244003_17 x244004_17 x244005_17 x244006_17 t257 x244008_17) = some (r1, r2, r3, r4, r5, r6, r7, r8, r9, r10) := H
       have A26 := Aside0.mk A260
       clear A260
       have H' := Aside0.mk H
       clear H
       have hnb27 := NB243_244.out
       have hnc27 := NB244_243.out
       have hcz28_0 : wc.cell? ⟨gb243, 0, none⟩ = some (.int .i64 x244000_17) := (blk_cell BK243.out 0).trans rfl
       have hcz28_1 : wc.cell? ⟨gb243, 1, none⟩ = some (.int .i64 x244001_17) := (blk_cell BK243.out 1).trans rfl
       have hcz28_2 : wc.cell? ⟨gb243, 2, none⟩ = some (.int .i64 x244002_17) := (blk_cell BK243.out 2).trans rfl
       have hcz28_3 : wc.cell? ⟨gb243, 3, none⟩ = some (.int .i64 x244003_17) := (blk_cell BK243.out 3).trans rfl
       have hcz28_4 : wc.cell? ⟨gb243, 4, none⟩ = some (.int .i64 x244004_17) := (blk_cell BK243.out 4).trans rfl
       have hcz28_5 : wc.cell? ⟨gb243, 5, none⟩ = some (.int .i64 x244005_17) := (blk_cell BK243.out 5).trans rfl
       have hcz28_6 : wc.cell? ⟨gb243, 6, none⟩ = some (.int .i64 x244006_17) := (blk_cell BK243.out 6).trans rfl
       have hcz28_7 : wc.cell? ⟨gb243, 7, none⟩ = some (.int .i64 x244007_17) := (blk_cell BK243.out 7).trans rfl
       have hcz28_8 : wc.cell? ⟨gb243, 8, none⟩ = some (.bool x244008_17) := (blk_cell BK243.out 8).trans rfl
       have hfz28_0 := blk_frozen BK243.out 0
       have hfz28_1 := blk_frozen BK243.out 1
       have hfz28_2 := blk_frozen BK243.out 2
       have hfz28_3 := blk_frozen BK243.out 3
       have hfz28_4 := blk_frozen BK243.out 4
       have hfz28_5 := blk_frozen BK243.out 5
       have hfz28_6 := blk_frozen BK243.out 6
       have hfz28_7 := blk_frozen BK243.out 7
       have hfz28_8 := blk_frozen BK243.out 8
       go_wp2_with (first | ((with_reducible refine gate_callee (f := 41) rfl ?_); refine goesL_ (some 21) rfl rfl Try.func41 (by kernel_rfl) rfl #[.int .i64 10000, .int .i64 (wrap64 (x244007_17 + a1))] rfl (by (try simp only [List.map_toArray, List.map_cons, List.map_nil]); first | done | rfl | (simp only [List.length_drop, List.length_take]; rfl)) ?_; (with_reducible refine (spec_l1Min.calls 10000 (wrap64 (x244007_17 + a1)) t256 _ A25.out).mono ?_); rintro e w' ⟨rfl, ⟨nd, rfl⟩⟩; refine ⟨_, rfl, ?_⟩; (try (rw [drewN_self wc]; generalize hq_ : World.drewN wc _ = wc; have n0_ : Aside0 (wc.heap[gb243]? = some (.cells #[.int .i64 x244000_17, .int .i64 x244001_17, .int .i64 x244002_17, .int .i64 x244003_17, .int .i64 x244004_17, .int .i64 x244005_17, .int .i64 x244006_17, .int .i64 x244007_17, .bool x244008_17] 25 (0, 0))) := ⟨by rw [← hq_]; exact (by (with_reducible repeat (first | refine blk_drewN ?_ _ | refine blk_drew ?_ | refine blk_alloc ?_ _)); exact BK243.out)⟩; have n1_ : Aside0 (wc.heap[gb244]? = some (.cells #[.int .i64 0, .int .i64 0, .int .i64 0, .int .i64 0, .int .i64 0, .int .i64 0, .int .i64 0, .int .i64 0, .bool false] 25 (0, 0))) := ⟨by rw [← hq_]; exact (by (with_reducible repeat (first | refine blk_drewN ?_ _ | refine blk_drew ?_ | refine blk_alloc ?_ _)); exact BK244.out)⟩; have n2_ : Aside0 (Below w.heap.size w wc) := ⟨by rw [← hq_]; exact (by repeat (first | (with_reducible first | exact HB.out | apply below_alloc | apply pw_below_drewN | apply below_drew1 | refine below_set ?_ GE243.out | refine below_set ?_ GE244.out) | exact HB.out))⟩; clear BK243 BK244 HB hq_; have BK243 := n0_; have BK244 := n1_; have HB := n2_; clear n0_ n1_ n2_)); (try have hfu243_0 := blk_frozen BK243.out 0); (try have hcu243_0 := (blk_cell BK243.out 0).trans rfl); (try have hfu243_1 := blk_frozen BK243.out 1); (try have hcu243_1 := (blk_cell BK243.out 1).trans rfl); (try have hfu243_2 := blk_frozen BK243.out 2); (try have hcu243_2 := (blk_cell BK243.out 2).trans rfl); (try have hfu243_3 := blk_frozen BK243.out 3); (try have hcu243_3 := (blk_cell BK243.out 3).trans rfl); (try have hfu243_4 := blk_frozen BK243.out 4); (try have hcu243_4 := (blk_cell BK243.out 4).trans rfl); (try have hfu243_5 := blk_frozen BK243.out 5); (try have hcu243_5 := (blk_cell BK243.out 5).trans rfl); (try have hfu243_6 := blk_frozen BK243.out 6); (try have hcu243_6 := (blk_cell BK243.out 6).trans rfl); (try have hfu243_7 := blk_frozen BK243.out 7); (try have hcu243_7 := (blk_cell BK243.out 7).trans rfl); (try have hfu243_8 := blk_frozen BK243.out 8); (try have hcu243_8 := (blk_cell BK243.out 8).trans rfl); (try have hfu244_0 := blk_frozen BK244.out 0); (try have hcu244_0 := (blk_cell BK244.out 0).trans rfl); (try have hfu244_1 := blk_frozen BK244.out 1); (try have hcu244_1 := (blk_cell BK244.out 1).trans rfl); (try have hfu244_2 := blk_frozen BK244.out 2); (try have hcu244_2 := (blk_cell BK244.out 2).trans rfl); (try have hfu244_3 := blk_frozen BK244.out 3); (try have hcu244_3 := (blk_cell BK244.out 3).trans rfl); (try have hfu244_4 := blk_frozen BK244.out 4); (try have hcu244_4 := (blk_cell BK244.out 4).trans rfl); (try have hfu244_5 := blk_frozen BK244.out 5); (try have hcu244_5 := (blk_cell BK244.out 5).trans rfl); (try have hfu244_6 := blk_frozen BK244.out 6); (try have hcu244_6 := (blk_cell BK244.out 6).trans rfl); (try have hfu244_7 := blk_frozen BK244.out 7); (try have hcu244_7 := (blk_cell BK244.out 7).trans rfl); (try have hfu244_8 := blk_frozen BK244.out 8); (try have hcu244_8 := (blk_cell BK244.out 8).trans rfl)) | ((with_reducible refine gate_callee (f := 40) rfl ?_); refine goesL_ (some 22) rfl rfl Try.func40 (by kernel_rfl) rfl #[.int .i64 (-10000), .int .i64 t256] rfl (by (try simp only [List.map_toArray, List.map_cons, List.map_nil]); first | done | rfl | (simp only [List.length_drop, List.length_take]; rfl)) ?_; (with_reducible refine (spec_l1Max.calls (-10000) t256 t257 _ A26.out).mono ?_); rintro e w' ⟨rfl, ⟨nd, rfl⟩⟩; refine ⟨_, rfl, ?_⟩; (try (rw [drewN_self wc]; generalize hq_ : World.drewN wc _ = wc; have n0_ : Aside0 (wc.heap[gb243]? = some (.cells #[.int .i64 x244000_17, .int .i64 x244001_17, .int .i64 x244002_17, .int .i64 x244003_17, .int .i64 x244004_17, .int .i64 x244005_17, .int .i64 x244006_17, .int .i64 x244007_17, .bool x244008_17] 25 (0, 0))) := ⟨by rw [← hq_]; exact (by (with_reducible repeat (first | refine blk_drewN ?_ _ | refine blk_drew ?_ | refine blk_alloc ?_ _)); exact BK243.out)⟩; have n1_ : Aside0 (wc.heap[gb244]? = some (.cells #[.int .i64 0, .int .i64 0, .int .i64 0, .int .i64 0, .int .i64 0, .int .i64 0, .int .i64 0, .int .i64 0, .bool false] 25 (0, 0))) := ⟨by rw [← hq_]; exact (by (with_reducible repeat (first | refine blk_drewN ?_ _ | refine blk_drew ?_ | refine blk_alloc ?_ _)); exact BK244.out)⟩; have n2_ : Aside0 (Below w.heap.size w wc) := ⟨by rw [← hq_]; exact (by repeat (first | (with_reducible first | exact HB.out | apply below_alloc | apply pw_below_drewN | apply below_drew1 | refine below_set ?_ GE243.out | refine below_set ?_ GE244.out) | exact HB.out))⟩; clear BK243 BK244 HB hq_; have BK243 := n0_; have BK244 := n1_; have HB := n2_; clear n0_ n1_ n2_)); (try have hfu243_0 := blk_frozen BK243.out 0); (try have hcu243_0 := (blk_cell BK243.out 0).trans rfl); (try have hfu243_1 := blk_frozen BK243.out 1); (try have hcu243_1 := (blk_cell BK243.out 1).trans rfl); (try have hfu243_2 := blk_frozen BK243.out 2); (try have hcu243_2 := (blk_cell BK243.out 2).trans rfl); (try have hfu243_3 := blk_frozen BK243.out 3); (try have hcu243_3 := (blk_cell BK243.out 3).trans rfl); (try have hfu243_4 := blk_frozen BK243.out 4); (try have hcu243_4 := (blk_cell BK243.out 4).trans rfl); (try have hfu243_5 := blk_frozen BK243.out 5); (try have hcu243_5 := (blk_cell BK243.out 5).trans rfl); (try have hfu243_6 := blk_frozen BK243.out 6); (try have hcu243_6 := (blk_cell BK243.out 6).trans rfl); (try have hfu243_7 := blk_frozen BK243.out 7); (try have hcu243_7 := (blk_cell BK243.out 7).trans rfl); (try have hfu243_8 := blk_frozen BK243.out 8); (try have hcu243_8 := (blk_cell BK243.out 8).trans rfl); (try have hfu244_0 := blk_frozen BK244.out 0); (try have hcu244_0 := (blk_cell BK244.out 0).trans rfl); (try have hfu244_1 := blk_frozen BK244.out 1); (try have hcu244_1 := (blk_cell BK244.out 1).trans rfl); (try have hfu244_2 := blk_frozen BK244.out 2); (try have hcu244_2 := (blk_cell BK244.out 2).trans rfl); (try have hfu244_3 := blk_frozen BK244.out 3); (try have hcu244_3 := (blk_cell BK244.out 3).trans rfl); (try have hfu244_4 := blk_frozen BK244.out 4); (try have hcu244_4 := (blk_cell BK244.out 4).trans rfl); (try have hfu244_5 := blk_frozen BK244.out 5); (try have hcu244_5 := (blk_cell BK244.out 5).trans rfl); (try have hfu244_6 := blk_frozen BK244.out 6); (try have hcu244_6 := (blk_cell BK244.out 6).trans rfl); (try have hfu244_7 := blk_frozen BK244.out 7); (try have hcu244_7 := (blk_cell BK244.out 7).trans rfl); (try have hfu244_8 := blk_frozen BK244.out 8); (try have hcu244_8 := (blk_cell BK244.out 8).trans rfl)))
       go_meet
       case rel => exact ⟨_, (t257), H', ⟨by have := HJ2.out; have := HJ17.out; first | omega | exact Nat.le_refl _⟩, ⟨by (with_reducible repeat (first | refine blk_drewN ?_ _ | refine blk_drew ?_ | refine blk_alloc ?_ _)); refine blk_put (cs := #[.int .i64 x244000_17, .int .i64 x244001_17, .int .i64 x244002_17, .int .i64 x244003_17, .int .i64 x244004_17, .int .i64 x244005_17, .int .i64 x244006_17, .int .i64 x244007_17, .bool x244008_17]) ?_ 7 _ rfl; (with_reducible repeat (first | refine blk_drewN ?_ _ | refine blk_drew ?_ | refine blk_alloc ?_ _)); exact BK243.out⟩, ⟨by (with_reducible repeat (first | refine blk_drewN ?_ _ | refine blk_drew ?_ | refine blk_alloc ?_ _)); refine blk_far ?_ NB244_243.out _; (with_reducible repeat (first | refine blk_drewN ?_ _ | refine blk_drew ?_ | refine blk_alloc ?_ _)); exact BK244.out⟩, ⟨by repeat (first | (with_reducible first | exact HB.out | apply below_alloc | apply pw_below_drewN | apply below_drew1 | refine below_set ?_ GE243.out | refine below_set ?_ GE244.out) | exact HB.out)⟩⟩
      case rest =>
       clear HC24
       try clear c1
       try clear c2
       try clear p2
       try clear c3
       try clear c4
       try clear p6
       try clear c7
       try clear c9
       try clear c12
       try clear c15
       try clear c16
       try clear c20
       try clear c24
       try clear c27
       try clear hcz10_0
       try clear hcz10_1
       try clear hcz10_2
       try clear hcz10_3
       try clear hcz10_4
       try clear hcz10_5
       try clear hcz10_6
       try clear hcz10_7
       try clear hcz10_8
       try clear hcz13_0
       try clear hcz13_1
       try clear hcz13_2
       try clear hcz13_3
       try clear hcz13_4
       try clear hcz13_5
       try clear hcz13_6
       try clear hcz13_7
       try clear hcz13_8
       try clear hcz17_0
       try clear hcz17_1
       try clear hcz17_2
       try clear hcz17_3
       try clear hcz17_4
       try clear hcz17_5
       try clear hcz17_6
       try clear hcz17_7
       try clear hcz17_8
       try clear hcz21_0
       try clear hcz21_1
       try clear hcz21_2
       try clear hcz21_3
       try clear hcz21_4
       try clear hcz21_5
       try clear hcz21_6
       try clear hcz21_7
       try clear hcz21_8
       try clear hcz23_0
       try clear hcz23_1
       try clear hcz23_2
       try clear hcz23_3
       try clear hcz23_4
       try clear hcz23_5
       try clear hcz23_6
       try clear hcz23_7
       try clear hcz23_8
       try clear hcz28_0
       try clear hcz28_1
       try clear hcz28_2
       try clear hcz28_3
       try clear hcz28_4
       try clear hcz28_5
       try clear hcz28_6
       try clear hcz28_7
       try clear hcz28_8
       try clear hfz10_0
       try clear hfz10_1
       try clear hfz10_2
       try clear hfz10_3
       try clear hfz10_4
       try clear hfz10_5
       try clear hfz10_6
       try clear hfz10_7
       try clear hfz10_8
       try clear hfz13_0
       try clear hfz13_1
       try clear hfz13_2
       try clear hfz13_3
       try clear hfz13_4
       try clear hfz13_5
       try clear hfz13_6
       try clear hfz13_7
       try clear hfz13_8
       try clear hfz17_0
       try clear hfz17_1
       try clear hfz17_2
       try clear hfz17_3
       try clear hfz17_4
       try clear hfz17_5
       try clear hfz17_6
       try clear hfz17_7
       try clear hfz17_8
       try clear hfz21_0
       try clear hfz21_1
       try clear hfz21_2
       try clear hfz21_3
       try clear hfz21_4
       try clear hfz21_5
       try clear hfz21_6
       try clear hfz21_7
       try clear hfz21_8
       try clear hfz23_0
       try clear hfz23_1
       try clear hfz23_2
       try clear hfz23_3
       try clear hfz23_4
       try clear hfz23_5
       try clear hfz23_6
       try clear hfz23_7
       try clear hfz23_8
       try clear hfz28_0
       try clear hfz28_1
       try clear hfz28_2
       try clear hfz28_3
       try clear hfz28_4
       try clear hfz28_5
       try clear hfz28_6
       try clear hfz28_7
       try clear hfz28_8
       try clear p2
       obtain ⟨kq, x244007_23, HA, HJ23, BK243, BK244, HB⟩ := hcut
       cases kq with
       | zero => exact absurd HA.out (by simp [spec_PilotTick.j2])
       | succ kj23 =>
        have H := HA.out
        clear HA
        simp only [spec_PilotTick.j2] at H
        by_cases c29 : x244001_17 = 1
        ·
         rw [if_pos c29] at H
         have c29b0 : (x244001_17 == 1) = true := beq_iff_eq.mpr c29
         have c29b1 : (x244001_17 != 1) = false := bne_eq_false_iff_eq.mpr c29
         clear c29
         replace H := Option.bind_eq_some_iff.mp H
         obtain ⟨t258, A300, H⟩ := H
         replace H : (if x244008_17 = true then ((spec_l1Abs.f x244007_23).bind fun t259 => (if t259 ≤ 50 then (some (x244000_17, 3, x244002_17, x244003_17, x244004_17, t258, x244006_17, x244007_23, false, true)) else (some (x244000_17, x244001_17, x244002_17, x244003_17, x244004_17, t258, x244006_17, x244007_23, x244008_17, true)))) else (some (x244000_17, x244001_17, x244002_17, x244003_17, x244004_17, t258, x244006_17, x244007_23, x244008_17, true))) = some (r1, r2, r3, r4, r5, r6, r7, r8, r9, r10) := H
         have A30 := Aside0.mk A300
         clear A300
         by_cases c31 : x244008_17 = true
         ·
          subst c31
          have H1 : ((spec_l1Abs.f x244007_23).bind fun t259 => (if t259 ≤ 50 then (some (x244000_17, 3, x244002_17, x244003_17, x244004_17, t258, x244006_17, x244007_23, false, true)) else (some (x244000_17, x244001_17, x244002_17, x244003_17, x244004_17, t258, x244006_17, x244007_23, true, true)))) = some (r1, r2, r3, r4, r5, r6, r7, r8, r9, r10) := by rw [if_pos rfl] at H; exact H
          clear H
          have H := H1
          clear H1
          replace H := Option.bind_eq_some_iff.mp H
          obtain ⟨t259, A320, H⟩ := H
          replace H : (if t259 ≤ 50 then (some (x244000_17, 3, x244002_17, x244003_17, x244004_17, t258, x244006_17, x244007_23, false, true)) else (some (x244000_17, x244001_17, x244002_17, x244003_17, x244004_17, t258, x244006_17, x244007_23, true, true))) = some (r1, r2, r3, r4, r5, r6, r7, r8, r9, r10) := H
          have A32 := Aside0.mk A320
          clear A320
          by_cases c33 : t259 ≤ 50
          ·
           rw [if_pos c33] at H
           have c33b0 : decide (t259 ≤ 50) = true := decide_eq_true c33
           clear c33
           simp only [Option.some.injEq, Prod.mk.injEq] at H
           obtain ⟨rfl, rfl, rfl, rfl, rfl, rfl, rfl, rfl, rfl, rfl⟩ := H
           have hnb34 := NB243_244.out
           have hnc34 := NB244_243.out
           have hcz35_0 : wc.cell? ⟨gb243, 0, none⟩ = some (.int .i64 x244000_17) := (blk_cell BK243.out 0).trans rfl
           have hcz35_1 : wc.cell? ⟨gb243, 1, none⟩ = some (.int .i64 x244001_17) := (blk_cell BK243.out 1).trans rfl
           have hcz35_2 : wc.cell? ⟨gb243, 2, none⟩ = some (.int .i64 x244002_17) := (blk_cell BK243.out 2).trans rfl
           have hcz35_3 : wc.cell? ⟨gb243, 3, none⟩ = some (.int .i64 x244003_17) := (blk_cell BK243.out 3).trans rfl
           have hcz35_4 : wc.cell? ⟨gb243, 4, none⟩ = some (.int .i64 x244004_17) := (blk_cell BK243.out 4).trans rfl
           have hcz35_5 : wc.cell? ⟨gb243, 5, none⟩ = some (.int .i64 x244005_17) := (blk_cell BK243.out 5).trans rfl
           have hcz35_6 : wc.cell? ⟨gb243, 6, none⟩ = some (.int .i64 x244006_17) := (blk_cell BK243.out 6).trans rfl
           have hcz35_7 : wc.cell? ⟨gb243, 7, none⟩ = some (.int .i64 x244007_23) := (blk_cell BK243.out 7).trans rfl
           have hcz35_8 : wc.cell? ⟨gb243, 8, none⟩ = some (.bool true) := (blk_cell BK243.out 8).trans rfl
           have hfz35_0 := blk_frozen BK243.out 0
           have hfz35_1 := blk_frozen BK243.out 1
           have hfz35_2 := blk_frozen BK243.out 2
           have hfz35_3 := blk_frozen BK243.out 3
           have hfz35_4 := blk_frozen BK243.out 4
           have hfz35_5 := blk_frozen BK243.out 5
           have hfz35_6 := blk_frozen BK243.out 6
           have hfz35_7 := blk_frozen BK243.out 7
           have hfz35_8 := blk_frozen BK243.out 8
           go_wp2_with (first | ((with_reducible refine gate_callee (f := 42) rfl ?_); refine goesL_ (some 32) rfl rfl Try.func42 (by kernel_rfl) rfl #[.int .i64 x244005_17, .int .i64 x244006_17] rfl (by (try simp only [List.map_toArray, List.map_cons, List.map_nil]); first | done | rfl | (simp only [List.length_drop, List.length_take]; rfl)) ?_; (with_reducible refine (spec_l10Turn.calls x244005_17 x244006_17 t258 _ A30.out).mono ?_); rintro e w' ⟨rfl, ⟨nd, rfl⟩⟩; refine ⟨_, rfl, ?_⟩; (try (rw [drewN_self wc]; generalize hq_ : World.drewN wc _ = wc; have n0_ : Aside0 (wc.heap[gb243]? = some (.cells #[.int .i64 x244000_17, .int .i64 x244001_17, .int .i64 x244002_17, .int .i64 x244003_17, .int .i64 x244004_17, .int .i64 x244005_17, .int .i64 x244006_17, .int .i64 x244007_23, .bool true] 25 (0, 0))) := ⟨by rw [← hq_]; exact (by (with_reducible repeat (first | refine blk_drewN ?_ _ | refine blk_drew ?_ | refine blk_alloc ?_ _)); exact BK243.out)⟩; have n1_ : Aside0 (wc.heap[gb244]? = some (.cells #[.int .i64 0, .int .i64 0, .int .i64 0, .int .i64 0, .int .i64 0, .int .i64 0, .int .i64 0, .int .i64 0, .bool false] 25 (0, 0))) := ⟨by rw [← hq_]; exact (by (with_reducible repeat (first | refine blk_drewN ?_ _ | refine blk_drew ?_ | refine blk_alloc ?_ _)); exact BK244.out)⟩; have n2_ : Aside0 (Below w.heap.size w wc) := ⟨by rw [← hq_]; exact (by repeat (first | (with_reducible first | exact HB.out | apply below_alloc | apply pw_below_drewN | apply below_drew1 | refine below_set ?_ GE243.out | refine below_set ?_ GE244.out) | exact HB.out))⟩; clear BK243 BK244 HB hq_; have BK243 := n0_; have BK244 := n1_; have HB := n2_; clear n0_ n1_ n2_)); (try have hfu243_0 := blk_frozen BK243.out 0); (try have hcu243_0 := (blk_cell BK243.out 0).trans rfl); (try have hfu243_1 := blk_frozen BK243.out 1); (try have hcu243_1 := (blk_cell BK243.out 1).trans rfl); (try have hfu243_2 := blk_frozen BK243.out 2); (try have hcu243_2 := (blk_cell BK243.out 2).trans rfl); (try have hfu243_3 := blk_frozen BK243.out 3); (try have hcu243_3 := (blk_cell BK243.out 3).trans rfl); (try have hfu243_4 := blk_frozen BK243.out 4); (try have hcu243_4 := (blk_cell BK243.out 4).trans rfl); (try have hfu243_5 := blk_frozen BK243.out 5); (try have hcu243_5 := (blk_cell BK243.out 5).trans rfl); (try have hfu243_6 := blk_frozen BK243.out 6); (try have hcu243_6 := (blk_cell BK243.out 6).trans rfl); (try have hfu243_7 := blk_frozen BK243.out 7); (try have hcu243_7 := (blk_cell BK243.out 7).trans rfl); (try have hfu243_8 := blk_frozen BK243.out 8); (try have hcu243_8 := (blk_cell BK243.out 8).trans rfl); (try have hfu244_0 := blk_frozen BK244.out 0); (try have hcu244_0 := (blk_cell BK244.out 0).trans rfl); (try have hfu244_1 := blk_frozen BK244.out 1); (try have hcu244_1 := (blk_cell BK244.out 1).trans rfl); (try have hfu244_2 := blk_frozen BK244.out 2); (try have hcu244_2 := (blk_cell BK244.out 2).trans rfl); (try have hfu244_3 := blk_frozen BK244.out 3); (try have hcu244_3 := (blk_cell BK244.out 3).trans rfl); (try have hfu244_4 := blk_frozen BK244.out 4); (try have hcu244_4 := (blk_cell BK244.out 4).trans rfl); (try have hfu244_5 := blk_frozen BK244.out 5); (try have hcu244_5 := (blk_cell BK244.out 5).trans rfl); (try have hfu244_6 := blk_frozen BK244.out 6); (try have hcu244_6 := (blk_cell BK244.out 6).trans rfl); (try have hfu244_7 := blk_frozen BK244.out 7); (try have hcu244_7 := (blk_cell BK244.out 7).trans rfl); (try have hfu244_8 := blk_frozen BK244.out 8); (try have hcu244_8 := (blk_cell BK244.out 8).trans rfl)) | (go_at_call 43; (with_reducible refine (spec_l1Abs.calls x244007_23 t259 _ A32.out).mono ?_); rintro e w' ⟨rfl, ⟨nd, rfl⟩⟩; have hcz36_0 : wc.cell? ⟨gb244, 0, none⟩ = some (.int .i64 0) := (blk_cell BK244.out 0).trans rfl; have hcz36_1 : wc.cell? ⟨gb244, 1, none⟩ = some (.int .i64 0) := (blk_cell BK244.out 1).trans rfl; have hcz36_2 : wc.cell? ⟨gb244, 2, none⟩ = some (.int .i64 0) := (blk_cell BK244.out 2).trans rfl; have hcz36_3 : wc.cell? ⟨gb244, 3, none⟩ = some (.int .i64 0) := (blk_cell BK244.out 3).trans rfl; have hcz36_4 : wc.cell? ⟨gb244, 4, none⟩ = some (.int .i64 0) := (blk_cell BK244.out 4).trans rfl; have hcz36_5 : wc.cell? ⟨gb244, 5, none⟩ = some (.int .i64 0) := (blk_cell BK244.out 5).trans rfl; have hcz36_6 : wc.cell? ⟨gb244, 6, none⟩ = some (.int .i64 0) := (blk_cell BK244.out 6).trans rfl; have hcz36_7 : wc.cell? ⟨gb244, 7, none⟩ = some (.int .i64 0) := (blk_cell BK244.out 7).trans rfl; have hcz36_8 : wc.cell? ⟨gb244, 8, none⟩ = some (.bool false) := (blk_cell BK244.out 8).trans rfl; have hfz36_0 := blk_frozen BK244.out 0; have hfz36_1 := blk_frozen BK244.out 1; have hfz36_2 := blk_frozen BK244.out 2; have hfz36_3 := blk_frozen BK244.out 3; have hfz36_4 := blk_frozen BK244.out 4; have hfz36_5 := blk_frozen BK244.out 5; have hfz36_6 := blk_frozen BK244.out 6; have hfz36_7 := blk_frozen BK244.out 7; have hfz36_8 := blk_frozen BK244.out 8))
           refine bodyPost_ret (results_ct rfl _ _ gb244 25 #[.int .i64 x244000_17, .int .i64 3, .int .i64 x244002_17, .int .i64 x244003_17, .int .i64 x244004_17, .int .i64 t258, .int .i64 x244006_17, .int .i64 x244007_23, .bool false] (0, 0) _ rfl (by (with_reducible repeat (first | refine blk_drewN ?_ _ | refine blk_drew ?_ | refine blk_alloc ?_ _)); refine blk_put (cs := #[.int .i64 x244000_17, .int .i64 3, .int .i64 x244002_17, .int .i64 x244003_17, .int .i64 x244004_17, .int .i64 t258, .int .i64 x244006_17, .int .i64 x244007_23, .bool false]) ?_ 8 _ rfl; (with_reducible repeat (first | refine blk_drewN ?_ _ | refine blk_drew ?_ | refine blk_alloc ?_ _)); refine blk_put (cs := #[.int .i64 x244000_17, .int .i64 3, .int .i64 x244002_17, .int .i64 x244003_17, .int .i64 x244004_17, .int .i64 t258, .int .i64 x244006_17, .int .i64 0, .bool false]) ?_ 7 _ rfl; (with_reducible repeat (first | refine blk_drewN ?_ _ | refine blk_drew ?_ | refine blk_alloc ?_ _)); refine blk_put (cs := #[.int .i64 x244000_17, .int .i64 3, .int .i64 x244002_17, .int .i64 x244003_17, .int .i64 x244004_17, .int .i64 t258, .int .i64 0, .int .i64 0, .bool false]) ?_ 6 _ rfl; (with_reducible repeat (first | refine blk_drewN ?_ _ | refine blk_drew ?_ | refine blk_alloc ?_ _)); refine blk_put (cs := #[.int .i64 x244000_17, .int .i64 3, .int .i64 x244002_17, .int .i64 x244003_17, .int .i64 x244004_17, .int .i64 0, .int .i64 0, .int .i64 0, .bool false]) ?_ 5 _ rfl; (with_reducible repeat (first | refine blk_drewN ?_ _ | refine blk_drew ?_ | refine blk_alloc ?_ _)); refine blk_put (cs := #[.int .i64 x244000_17, .int .i64 3, .int .i64 x244002_17, .int .i64 x244003_17, .int .i64 0, .int .i64 0, .int .i64 0, .int .i64 0, .bool false]) ?_ 4 _ rfl; (with_reducible repeat (first | refine blk_drewN ?_ _ | refine blk_drew ?_ | refine blk_alloc ?_ _)); refine blk_put (cs := #[.int .i64 x244000_17, .int .i64 3, .int .i64 x244002_17, .int .i64 0, .int .i64 0, .int .i64 0, .int .i64 0, .int .i64 0, .bool false]) ?_ 3 _ rfl; (with_reducible repeat (first | refine blk_drewN ?_ _ | refine blk_drew ?_ | refine blk_alloc ?_ _)); refine blk_put (cs := #[.int .i64 x244000_17, .int .i64 3, .int .i64 0, .int .i64 0, .int .i64 0, .int .i64 0, .int .i64 0, .int .i64 0, .bool false]) ?_ 2 _ rfl; (with_reducible repeat (first | refine blk_drewN ?_ _ | refine blk_drew ?_ | refine blk_alloc ?_ _)); refine blk_put (cs := #[.int .i64 x244000_17, .int .i64 0, .int .i64 0, .int .i64 0, .int .i64 0, .int .i64 0, .int .i64 0, .int .i64 0, .bool false]) ?_ 1 _ rfl; (with_reducible repeat (first | refine blk_drewN ?_ _ | refine blk_drew ?_ | refine blk_alloc ?_ _)); refine blk_put (cs := #[.int .i64 0, .int .i64 0, .int .i64 0, .int .i64 0, .int .i64 0, .int .i64 0, .int .i64 0, .int .i64 0, .bool false]) ?_ 0 _ rfl; (with_reducible repeat (first | refine blk_drewN ?_ _ | refine blk_drew ?_ | refine blk_alloc ?_ _)); refine blk_far ?_ NB244_243.out _; (with_reducible repeat (first | refine blk_drewN ?_ _ | refine blk_drew ?_ | refine blk_alloc ?_ _)); refine blk_far ?_ NB244_243.out _; (with_reducible repeat (first | refine blk_drewN ?_ _ | refine blk_drew ?_ | refine blk_alloc ?_ _)); refine blk_far ?_ NB244_243.out _; (with_reducible repeat (first | refine blk_drewN ?_ _ | refine blk_drew ?_ | refine blk_alloc ?_ _)); exact BK244.out) Try.underlying25 rfl (by kernel_rfl)) rfl ?_
           exact ⟨by first | rfl | (simp [errW_none, errW_some] <;> rfl) | (simp [*, errW_none, errW_some] <;> rfl), by repeat (first | (with_reducible first | exact HB.out | apply below_alloc | apply pw_below_drewN | apply below_drew1 | refine below_set ?_ GE243.out | refine below_set ?_ GE244.out) | exact HB.out)⟩
          ·
           rw [if_neg c33] at H
           have c33b0 : decide (t259 ≤ 50) = false := decide_eq_false c33
           clear c33
           simp only [Option.some.injEq, Prod.mk.injEq] at H
           obtain ⟨rfl, rfl, rfl, rfl, rfl, rfl, rfl, rfl, rfl, rfl⟩ := H
           have hnb37 := NB243_244.out
           have hnc37 := NB244_243.out
           have hcz38_0 : wc.cell? ⟨gb243, 0, none⟩ = some (.int .i64 x244000_17) := (blk_cell BK243.out 0).trans rfl
           have hcz38_1 : wc.cell? ⟨gb243, 1, none⟩ = some (.int .i64 x244001_17) := (blk_cell BK243.out 1).trans rfl
           have hcz38_2 : wc.cell? ⟨gb243, 2, none⟩ = some (.int .i64 x244002_17) := (blk_cell BK243.out 2).trans rfl
           have hcz38_3 : wc.cell? ⟨gb243, 3, none⟩ = some (.int .i64 x244003_17) := (blk_cell BK243.out 3).trans rfl
           have hcz38_4 : wc.cell? ⟨gb243, 4, none⟩ = some (.int .i64 x244004_17) := (blk_cell BK243.out 4).trans rfl
           have hcz38_5 : wc.cell? ⟨gb243, 5, none⟩ = some (.int .i64 x244005_17) := (blk_cell BK243.out 5).trans rfl
           have hcz38_6 : wc.cell? ⟨gb243, 6, none⟩ = some (.int .i64 x244006_17) := (blk_cell BK243.out 6).trans rfl
           have hcz38_7 : wc.cell? ⟨gb243, 7, none⟩ = some (.int .i64 x244007_23) := (blk_cell BK243.out 7).trans rfl
           have hcz38_8 : wc.cell? ⟨gb243, 8, none⟩ = some (.bool true) := (blk_cell BK243.out 8).trans rfl
           have hfz38_0 := blk_frozen BK243.out 0
           have hfz38_1 := blk_frozen BK243.out 1
           have hfz38_2 := blk_frozen BK243.out 2
           have hfz38_3 := blk_frozen BK243.out 3
           have hfz38_4 := blk_frozen BK243.out 4
           have hfz38_5 := blk_frozen BK243.out 5
           have hfz38_6 := blk_frozen BK243.out 6
           have hfz38_7 := blk_frozen BK243.out 7
           have hfz38_8 := blk_frozen BK243.out 8
           go_wp2_with (first | ((with_reducible refine gate_callee (f := 42) rfl ?_); refine goesL_ (some 32) rfl rfl Try.func42 (by kernel_rfl) rfl #[.int .i64 x244005_17, .int .i64 x244006_17] rfl (by (try simp only [List.map_toArray, List.map_cons, List.map_nil]); first | done | rfl | (simp only [List.length_drop, List.length_take]; rfl)) ?_; (with_reducible refine (spec_l10Turn.calls x244005_17 x244006_17 t258 _ A30.out).mono ?_); rintro e w' ⟨rfl, ⟨nd, rfl⟩⟩; refine ⟨_, rfl, ?_⟩; (try (rw [drewN_self wc]; generalize hq_ : World.drewN wc _ = wc; have n0_ : Aside0 (wc.heap[gb243]? = some (.cells #[.int .i64 x244000_17, .int .i64 x244001_17, .int .i64 x244002_17, .int .i64 x244003_17, .int .i64 x244004_17, .int .i64 x244005_17, .int .i64 x244006_17, .int .i64 x244007_23, .bool true] 25 (0, 0))) := ⟨by rw [← hq_]; exact (by (with_reducible repeat (first | refine blk_drewN ?_ _ | refine blk_drew ?_ | refine blk_alloc ?_ _)); exact BK243.out)⟩; have n1_ : Aside0 (wc.heap[gb244]? = some (.cells #[.int .i64 0, .int .i64 0, .int .i64 0, .int .i64 0, .int .i64 0, .int .i64 0, .int .i64 0, .int .i64 0, .bool false] 25 (0, 0))) := ⟨by rw [← hq_]; exact (by (with_reducible repeat (first | refine blk_drewN ?_ _ | refine blk_drew ?_ | refine blk_alloc ?_ _)); exact BK244.out)⟩; have n2_ : Aside0 (Below w.heap.size w wc) := ⟨by rw [← hq_]; exact (by repeat (first | (with_reducible first | exact HB.out | apply below_alloc | apply pw_below_drewN | apply below_drew1 | refine below_set ?_ GE243.out | refine below_set ?_ GE244.out) | exact HB.out))⟩; clear BK243 BK244 HB hq_; have BK243 := n0_; have BK244 := n1_; have HB := n2_; clear n0_ n1_ n2_)); (try have hfu243_0 := blk_frozen BK243.out 0); (try have hcu243_0 := (blk_cell BK243.out 0).trans rfl); (try have hfu243_1 := blk_frozen BK243.out 1); (try have hcu243_1 := (blk_cell BK243.out 1).trans rfl); (try have hfu243_2 := blk_frozen BK243.out 2); (try have hcu243_2 := (blk_cell BK243.out 2).trans rfl); (try have hfu243_3 := blk_frozen BK243.out 3); (try have hcu243_3 := (blk_cell BK243.out 3).trans rfl); (try have hfu243_4 := blk_frozen BK243.out 4); (try have hcu243_4 := (blk_cell BK243.out 4).trans rfl); (try have hfu243_5 := blk_frozen BK243.out 5); (try have hcu243_5 := (blk_cell BK243.out 5).trans rfl); (try have hfu243_6 := blk_frozen BK243.out 6); (try have hcu243_6 := (blk_cell BK243.out 6).trans rfl); (try have hfu243_7 := blk_frozen BK243.out 7); (try have hcu243_7 := (blk_cell BK243.out 7).trans rfl); (try have hfu243_8 := blk_frozen BK243.out 8); (try have hcu243_8 := (blk_cell BK243.out 8).trans rfl); (try have hfu244_0 := blk_frozen BK244.out 0); (try have hcu244_0 := (blk_cell BK244.out 0).trans rfl); (try have hfu244_1 := blk_frozen BK244.out 1); (try have hcu244_1 := (blk_cell BK244.out 1).trans rfl); (try have hfu244_2 := blk_frozen BK244.out 2); (try have hcu244_2 := (blk_cell BK244.out 2).trans rfl); (try have hfu244_3 := blk_frozen BK244.out 3); (try have hcu244_3 := (blk_cell BK244.out 3).trans rfl); (try have hfu244_4 := blk_frozen BK244.out 4); (try have hcu244_4 := (blk_cell BK244.out 4).trans rfl); (try have hfu244_5 := blk_frozen BK244.out 5); (try have hcu244_5 := (blk_cell BK244.out 5).trans rfl); (try have hfu244_6 := blk_frozen BK244.out 6); (try have hcu244_6 := (blk_cell BK244.out 6).trans rfl); (try have hfu244_7 := blk_frozen BK244.out 7); (try have hcu244_7 := (blk_cell BK244.out 7).trans rfl); (try have hfu244_8 := blk_frozen BK244.out 8); (try have hcu244_8 := (blk_cell BK244.out 8).trans rfl)) | (go_at_call 43; (with_reducible refine (spec_l1Abs.calls x244007_23 t259 _ A32.out).mono ?_); rintro e w' ⟨rfl, ⟨nd, rfl⟩⟩; have hcz39_0 : wc.cell? ⟨gb244, 0, none⟩ = some (.int .i64 0) := (blk_cell BK244.out 0).trans rfl; have hcz39_1 : wc.cell? ⟨gb244, 1, none⟩ = some (.int .i64 0) := (blk_cell BK244.out 1).trans rfl; have hcz39_2 : wc.cell? ⟨gb244, 2, none⟩ = some (.int .i64 0) := (blk_cell BK244.out 2).trans rfl; have hcz39_3 : wc.cell? ⟨gb244, 3, none⟩ = some (.int .i64 0) := (blk_cell BK244.out 3).trans rfl; have hcz39_4 : wc.cell? ⟨gb244, 4, none⟩ = some (.int .i64 0) := (blk_cell BK244.out 4).trans rfl; have hcz39_5 : wc.cell? ⟨gb244, 5, none⟩ = some (.int .i64 0) := (blk_cell BK244.out 5).trans rfl; have hcz39_6 : wc.cell? ⟨gb244, 6, none⟩ = some (.int .i64 0) := (blk_cell BK244.out 6).trans rfl; have hcz39_7 : wc.cell? ⟨gb244, 7, none⟩ = some (.int .i64 0) := (blk_cell BK244.out 7).trans rfl; have hcz39_8 : wc.cell? ⟨gb244, 8, none⟩ = some (.bool false) := (blk_cell BK244.out 8).trans rfl; have hfz39_0 := blk_frozen BK244.out 0; have hfz39_1 := blk_frozen BK244.out 1; have hfz39_2 := blk_frozen BK244.out 2; have hfz39_3 := blk_frozen BK244.out 3; have hfz39_4 := blk_frozen BK244.out 4; have hfz39_5 := blk_frozen BK244.out 5; have hfz39_6 := blk_frozen BK244.out 6; have hfz39_7 := blk_frozen BK244.out 7; have hfz39_8 := blk_frozen BK244.out 8))
           refine bodyPost_ret (results_ct rfl _ _ gb244 25 #[.int .i64 x244000_17, .int .i64 x244001_17, .int .i64 x244002_17, .int .i64 x244003_17, .int .i64 x244004_17, .int .i64 t258, .int .i64 x244006_17, .int .i64 x244007_23, .bool true] (0, 0) _ rfl (by (with_reducible repeat (first | refine blk_drewN ?_ _ | refine blk_drew ?_ | refine blk_alloc ?_ _)); refine blk_put (cs := #[.int .i64 x244000_17, .int .i64 x244001_17, .int .i64 x244002_17, .int .i64 x244003_17, .int .i64 x244004_17, .int .i64 t258, .int .i64 x244006_17, .int .i64 x244007_23, .bool false]) ?_ 8 _ rfl; (with_reducible repeat (first | refine blk_drewN ?_ _ | refine blk_drew ?_ | refine blk_alloc ?_ _)); refine blk_put (cs := #[.int .i64 x244000_17, .int .i64 x244001_17, .int .i64 x244002_17, .int .i64 x244003_17, .int .i64 x244004_17, .int .i64 t258, .int .i64 x244006_17, .int .i64 0, .bool false]) ?_ 7 _ rfl; (with_reducible repeat (first | refine blk_drewN ?_ _ | refine blk_drew ?_ | refine blk_alloc ?_ _)); refine blk_put (cs := #[.int .i64 x244000_17, .int .i64 x244001_17, .int .i64 x244002_17, .int .i64 x244003_17, .int .i64 x244004_17, .int .i64 t258, .int .i64 0, .int .i64 0, .bool false]) ?_ 6 _ rfl; (with_reducible repeat (first | refine blk_drewN ?_ _ | refine blk_drew ?_ | refine blk_alloc ?_ _)); refine blk_put (cs := #[.int .i64 x244000_17, .int .i64 x244001_17, .int .i64 x244002_17, .int .i64 x244003_17, .int .i64 x244004_17, .int .i64 0, .int .i64 0, .int .i64 0, .bool false]) ?_ 5 _ rfl; (with_reducible repeat (first | refine blk_drewN ?_ _ | refine blk_drew ?_ | refine blk_alloc ?_ _)); refine blk_put (cs := #[.int .i64 x244000_17, .int .i64 x244001_17, .int .i64 x244002_17, .int .i64 x244003_17, .int .i64 0, .int .i64 0, .int .i64 0, .int .i64 0, .bool false]) ?_ 4 _ rfl; (with_reducible repeat (first | refine blk_drewN ?_ _ | refine blk_drew ?_ | refine blk_alloc ?_ _)); refine blk_put (cs := #[.int .i64 x244000_17, .int .i64 x244001_17, .int .i64 x244002_17, .int .i64 0, .int .i64 0, .int .i64 0, .int .i64 0, .int .i64 0, .bool false]) ?_ 3 _ rfl; (with_reducible repeat (first | refine blk_drewN ?_ _ | refine blk_drew ?_ | refine blk_alloc ?_ _)); refine blk_put (cs := #[.int .i64 x244000_17, .int .i64 x244001_17, .int .i64 0, .int .i64 0, .int .i64 0, .int .i64 0, .int .i64 0, .int .i64 0, .bool false]) ?_ 2 _ rfl; (with_reducible repeat (first | refine blk_drewN ?_ _ | refine blk_drew ?_ | refine blk_alloc ?_ _)); refine blk_put (cs := #[.int .i64 x244000_17, .int .i64 0, .int .i64 0, .int .i64 0, .int .i64 0, .int .i64 0, .int .i64 0, .int .i64 0, .bool false]) ?_ 1 _ rfl; (with_reducible repeat (first | refine blk_drewN ?_ _ | refine blk_drew ?_ | refine blk_alloc ?_ _)); refine blk_put (cs := #[.int .i64 0, .int .i64 0, .int .i64 0, .int .i64 0, .int .i64 0, .int .i64 0, .int .i64 0, .int .i64 0, .bool false]) ?_ 0 _ rfl; (with_reducible repeat (first | refine blk_drewN ?_ _ | refine blk_drew ?_ | refine blk_alloc ?_ _)); refine blk_far ?_ NB244_243.out _; (with_reducible repeat (first | refine blk_drewN ?_ _ | refine blk_drew ?_ | refine blk_alloc ?_ _)); exact BK244.out) Try.underlying25 rfl (by kernel_rfl)) rfl ?_
           exact ⟨by first | rfl | (simp [errW_none, errW_some] <;> rfl) | (simp [*, errW_none, errW_some] <;> rfl), by repeat (first | (with_reducible first | exact HB.out | apply below_alloc | apply pw_below_drewN | apply below_drew1 | refine below_set ?_ GE243.out | refine below_set ?_ GE244.out) | exact HB.out)⟩
         ·
          replace c31 := Bool.eq_false_iff.mpr c31
          subst c31
          have H1 : (some (x244000_17, x244001_17, x244002_17, x244003_17, x244004_17, t258, x244006_17, x244007_23, false, true)) = some (r1, r2, r3, r4, r5, r6, r7, r8, r9, r10) := by rw [if_neg (show ¬ (false = true) by decide)] at H; exact H
          clear H
          have H := H1
          clear H1
          simp only [Option.some.injEq, Prod.mk.injEq] at H
          obtain ⟨rfl, rfl, rfl, rfl, rfl, rfl, rfl, rfl, rfl, rfl⟩ := H
          have hnb40 := NB243_244.out
          have hnc40 := NB244_243.out
          have hcz41_0 : wc.cell? ⟨gb243, 0, none⟩ = some (.int .i64 x244000_17) := (blk_cell BK243.out 0).trans rfl
          have hcz41_1 : wc.cell? ⟨gb243, 1, none⟩ = some (.int .i64 x244001_17) := (blk_cell BK243.out 1).trans rfl
          have hcz41_2 : wc.cell? ⟨gb243, 2, none⟩ = some (.int .i64 x244002_17) := (blk_cell BK243.out 2).trans rfl
          have hcz41_3 : wc.cell? ⟨gb243, 3, none⟩ = some (.int .i64 x244003_17) := (blk_cell BK243.out 3).trans rfl
          have hcz41_4 : wc.cell? ⟨gb243, 4, none⟩ = some (.int .i64 x244004_17) := (blk_cell BK243.out 4).trans rfl
          have hcz41_5 : wc.cell? ⟨gb243, 5, none⟩ = some (.int .i64 x244005_17) := (blk_cell BK243.out 5).trans rfl
          have hcz41_6 : wc.cell? ⟨gb243, 6, none⟩ = some (.int .i64 x244006_17) := (blk_cell BK243.out 6).trans rfl
          have hcz41_7 : wc.cell? ⟨gb243, 7, none⟩ = some (.int .i64 x244007_23) := (blk_cell BK243.out 7).trans rfl
          have hcz41_8 : wc.cell? ⟨gb243, 8, none⟩ = some (.bool false) := (blk_cell BK243.out 8).trans rfl
          have hfz41_0 := blk_frozen BK243.out 0
          have hfz41_1 := blk_frozen BK243.out 1
          have hfz41_2 := blk_frozen BK243.out 2
          have hfz41_3 := blk_frozen BK243.out 3
          have hfz41_4 := blk_frozen BK243.out 4
          have hfz41_5 := blk_frozen BK243.out 5
          have hfz41_6 := blk_frozen BK243.out 6
          have hfz41_7 := blk_frozen BK243.out 7
          have hfz41_8 := blk_frozen BK243.out 8
          go_wp2_with (first | ((with_reducible refine gate_callee (f := 42) rfl ?_); refine goesL_ (some 32) rfl rfl Try.func42 (by kernel_rfl) rfl #[.int .i64 x244005_17, .int .i64 x244006_17] rfl (by (try simp only [List.map_toArray, List.map_cons, List.map_nil]); first | done | rfl | (simp only [List.length_drop, List.length_take]; rfl)) ?_; (with_reducible refine (spec_l10Turn.calls x244005_17 x244006_17 t258 _ A30.out).mono ?_); rintro e w' ⟨rfl, ⟨nd, rfl⟩⟩; refine ⟨_, rfl, ?_⟩; (try (rw [drewN_self wc]; generalize hq_ : World.drewN wc _ = wc; have n0_ : Aside0 (wc.heap[gb243]? = some (.cells #[.int .i64 x244000_17, .int .i64 x244001_17, .int .i64 x244002_17, .int .i64 x244003_17, .int .i64 x244004_17, .int .i64 x244005_17, .int .i64 x244006_17, .int .i64 x244007_23, .bool false] 25 (0, 0))) := ⟨by rw [← hq_]; exact (by (with_reducible repeat (first | refine blk_drewN ?_ _ | refine blk_drew ?_ | refine blk_alloc ?_ _)); exact BK243.out)⟩; have n1_ : Aside0 (wc.heap[gb244]? = some (.cells #[.int .i64 0, .int .i64 0, .int .i64 0, .int .i64 0, .int .i64 0, .int .i64 0, .int .i64 0, .int .i64 0, .bool false] 25 (0, 0))) := ⟨by rw [← hq_]; exact (by (with_reducible repeat (first | refine blk_drewN ?_ _ | refine blk_drew ?_ | refine blk_alloc ?_ _)); exact BK244.out)⟩; have n2_ : Aside0 (Below w.heap.size w wc) := ⟨by rw [← hq_]; exact (by repeat (first | (with_reducible first | exact HB.out | apply below_alloc | apply pw_below_drewN | apply below_drew1 | refine below_set ?_ GE243.out | refine below_set ?_ GE244.out) | exact HB.out))⟩; clear BK243 BK244 HB hq_; have BK243 := n0_; have BK244 := n1_; have HB := n2_; clear n0_ n1_ n2_)); (try have hfu243_0 := blk_frozen BK243.out 0); (try have hcu243_0 := (blk_cell BK243.out 0).trans rfl); (try have hfu243_1 := blk_frozen BK243.out 1); (try have hcu243_1 := (blk_cell BK243.out 1).trans rfl); (try have hfu243_2 := blk_frozen BK243.out 2); (try have hcu243_2 := (blk_cell BK243.out 2).trans rfl); (try have hfu243_3 := blk_frozen BK243.out 3); (try have hcu243_3 := (blk_cell BK243.out 3).trans rfl); (try have hfu243_4 := blk_frozen BK243.out 4); (try have hcu243_4 := (blk_cell BK243.out 4).trans rfl); (try have hfu243_5 := blk_frozen BK243.out 5); (try have hcu243_5 := (blk_cell BK243.out 5).trans rfl); (try have hfu243_6 := blk_frozen BK243.out 6); (try have hcu243_6 := (blk_cell BK243.out 6).trans rfl); (try have hfu243_7 := blk_frozen BK243.out 7); (try have hcu243_7 := (blk_cell BK243.out 7).trans rfl); (try have hfu243_8 := blk_frozen BK243.out 8); (try have hcu243_8 := (blk_cell BK243.out 8).trans rfl); (try have hfu244_0 := blk_frozen BK244.out 0); (try have hcu244_0 := (blk_cell BK244.out 0).trans rfl); (try have hfu244_1 := blk_frozen BK244.out 1); (try have hcu244_1 := (blk_cell BK244.out 1).trans rfl); (try have hfu244_2 := blk_frozen BK244.out 2); (try have hcu244_2 := (blk_cell BK244.out 2).trans rfl); (try have hfu244_3 := blk_frozen BK244.out 3); (try have hcu244_3 := (blk_cell BK244.out 3).trans rfl); (try have hfu244_4 := blk_frozen BK244.out 4); (try have hcu244_4 := (blk_cell BK244.out 4).trans rfl); (try have hfu244_5 := blk_frozen BK244.out 5); (try have hcu244_5 := (blk_cell BK244.out 5).trans rfl); (try have hfu244_6 := blk_frozen BK244.out 6); (try have hcu244_6 := (blk_cell BK244.out 6).trans rfl); (try have hfu244_7 := blk_frozen BK244.out 7); (try have hcu244_7 := (blk_cell BK244.out 7).trans rfl); (try have hfu244_8 := blk_frozen BK244.out 8); (try have hcu244_8 := (blk_cell BK244.out 8).trans rfl); have hcz42_0 : wc.cell? ⟨gb244, 0, none⟩ = some (.int .i64 0) := (blk_cell BK244.out 0).trans rfl; have hcz42_1 : wc.cell? ⟨gb244, 1, none⟩ = some (.int .i64 0) := (blk_cell BK244.out 1).trans rfl; have hcz42_2 : wc.cell? ⟨gb244, 2, none⟩ = some (.int .i64 0) := (blk_cell BK244.out 2).trans rfl; have hcz42_3 : wc.cell? ⟨gb244, 3, none⟩ = some (.int .i64 0) := (blk_cell BK244.out 3).trans rfl; have hcz42_4 : wc.cell? ⟨gb244, 4, none⟩ = some (.int .i64 0) := (blk_cell BK244.out 4).trans rfl; have hcz42_5 : wc.cell? ⟨gb244, 5, none⟩ = some (.int .i64 0) := (blk_cell BK244.out 5).trans rfl; have hcz42_6 : wc.cell? ⟨gb244, 6, none⟩ = some (.int .i64 0) := (blk_cell BK244.out 6).trans rfl; have hcz42_7 : wc.cell? ⟨gb244, 7, none⟩ = some (.int .i64 0) := (blk_cell BK244.out 7).trans rfl; have hcz42_8 : wc.cell? ⟨gb244, 8, none⟩ = some (.bool false) := (blk_cell BK244.out 8).trans rfl; have hfz42_0 := blk_frozen BK244.out 0; have hfz42_1 := blk_frozen BK244.out 1; have hfz42_2 := blk_frozen BK244.out 2; have hfz42_3 := blk_frozen BK244.out 3; have hfz42_4 := blk_frozen BK244.out 4; have hfz42_5 := blk_frozen BK244.out 5; have hfz42_6 := blk_frozen BK244.out 6; have hfz42_7 := blk_frozen BK244.out 7; have hfz42_8 := blk_frozen BK244.out 8))
          refine bodyPost_ret (results_ct rfl _ _ gb244 25 #[.int .i64 x244000_17, .int .i64 x244001_17, .int .i64 x244002_17, .int .i64 x244003_17, .int .i64 x244004_17, .int .i64 t258, .int .i64 x244006_17, .int .i64 x244007_23, .bool false] (0, 0) _ rfl (by (with_reducible repeat (first | refine blk_drewN ?_ _ | refine blk_drew ?_ | refine blk_alloc ?_ _)); refine blk_put (cs := #[.int .i64 x244000_17, .int .i64 x244001_17, .int .i64 x244002_17, .int .i64 x244003_17, .int .i64 x244004_17, .int .i64 t258, .int .i64 x244006_17, .int .i64 x244007_23, .bool false]) ?_ 8 _ rfl; (with_reducible repeat (first | refine blk_drewN ?_ _ | refine blk_drew ?_ | refine blk_alloc ?_ _)); refine blk_put (cs := #[.int .i64 x244000_17, .int .i64 x244001_17, .int .i64 x244002_17, .int .i64 x244003_17, .int .i64 x244004_17, .int .i64 t258, .int .i64 x244006_17, .int .i64 0, .bool false]) ?_ 7 _ rfl; (with_reducible repeat (first | refine blk_drewN ?_ _ | refine blk_drew ?_ | refine blk_alloc ?_ _)); refine blk_put (cs := #[.int .i64 x244000_17, .int .i64 x244001_17, .int .i64 x244002_17, .int .i64 x244003_17, .int .i64 x244004_17, .int .i64 t258, .int .i64 0, .int .i64 0, .bool false]) ?_ 6 _ rfl; (with_reducible repeat (first | refine blk_drewN ?_ _ | refine blk_drew ?_ | refine blk_alloc ?_ _)); refine blk_put (cs := #[.int .i64 x244000_17, .int .i64 x244001_17, .int .i64 x244002_17, .int .i64 x244003_17, .int .i64 x244004_17, .int .i64 0, .int .i64 0, .int .i64 0, .bool false]) ?_ 5 _ rfl; (with_reducible repeat (first | refine blk_drewN ?_ _ | refine blk_drew ?_ | refine blk_alloc ?_ _)); refine blk_put (cs := #[.int .i64 x244000_17, .int .i64 x244001_17, .int .i64 x244002_17, .int .i64 x244003_17, .int .i64 0, .int .i64 0, .int .i64 0, .int .i64 0, .bool false]) ?_ 4 _ rfl; (with_reducible repeat (first | refine blk_drewN ?_ _ | refine blk_drew ?_ | refine blk_alloc ?_ _)); refine blk_put (cs := #[.int .i64 x244000_17, .int .i64 x244001_17, .int .i64 x244002_17, .int .i64 0, .int .i64 0, .int .i64 0, .int .i64 0, .int .i64 0, .bool false]) ?_ 3 _ rfl; (with_reducible repeat (first | refine blk_drewN ?_ _ | refine blk_drew ?_ | refine blk_alloc ?_ _)); refine blk_put (cs := #[.int .i64 x244000_17, .int .i64 x244001_17, .int .i64 0, .int .i64 0, .int .i64 0, .int .i64 0, .int .i64 0, .int .i64 0, .bool false]) ?_ 2 _ rfl; (with_reducible repeat (first | refine blk_drewN ?_ _ | refine blk_drew ?_ | refine blk_alloc ?_ _)); refine blk_put (cs := #[.int .i64 x244000_17, .int .i64 0, .int .i64 0, .int .i64 0, .int .i64 0, .int .i64 0, .int .i64 0, .int .i64 0, .bool false]) ?_ 1 _ rfl; (with_reducible repeat (first | refine blk_drewN ?_ _ | refine blk_drew ?_ | refine blk_alloc ?_ _)); refine blk_put (cs := #[.int .i64 0, .int .i64 0, .int .i64 0, .int .i64 0, .int .i64 0, .int .i64 0, .int .i64 0, .int .i64 0, .bool false]) ?_ 0 _ rfl; (with_reducible repeat (first | refine blk_drewN ?_ _ | refine blk_drew ?_ | refine blk_alloc ?_ _)); refine blk_far ?_ NB244_243.out _; (with_reducible repeat (first | refine blk_drewN ?_ _ | refine blk_drew ?_ | refine blk_alloc ?_ _)); exact BK244.out) Try.underlying25 rfl (by kernel_rfl)) rfl ?_
          exact ⟨by first | rfl | (simp [errW_none, errW_some] <;> rfl) | (simp [*, errW_none, errW_some] <;> rfl), by repeat (first | (with_reducible first | exact HB.out | apply below_alloc | apply pw_below_drewN | apply below_drew1 | refine below_set ?_ GE243.out | refine below_set ?_ GE244.out) | exact HB.out)⟩
        ·
         rw [if_neg c29] at H
         have c29b0 : (x244001_17 == 1) = false := beq_eq_false_iff_ne.mpr c29
         have c29b1 : (x244001_17 != 1) = true := bne_iff_ne.mpr c29
         by_cases c43 : x244001_17 = 3
         ·
          rw [if_pos c43] at H
          have c43b0 : (x244001_17 == 3) = true := beq_iff_eq.mpr c43
          have c43b1 : (x244001_17 != 3) = false := bne_eq_false_iff_eq.mpr c43
          clear c43
          replace H := Option.bind_eq_some_iff.mp H
          obtain ⟨t260, A440, H⟩ := H
          replace H : (if t260 = 0 then (some (x244000_17, 2, x244002_17, x244003_17, x244004_17, x244005_17, x244006_17, t260, x244008_17, true)) else (some (x244000_17, x244001_17, x244002_17, x244003_17, x244004_17, x244005_17, x244006_17, t260, x244008_17, true))) = some (r1, r2, r3, r4, r5, r6, r7, r8, r9, r10) := H
          have A44 := Aside0.mk A440
          clear A440
          by_cases c45 : t260 = 0
          ·
           rw [if_pos c45] at H
           have c45b0 : (t260 == 0) = true := beq_iff_eq.mpr c45
           have c45b1 : (t260 != 0) = false := bne_eq_false_iff_eq.mpr c45
           clear c45
           simp only [Option.some.injEq, Prod.mk.injEq] at H
           obtain ⟨rfl, rfl, rfl, rfl, rfl, rfl, rfl, rfl, rfl, rfl⟩ := H
           have hnb46 := NB243_244.out
           have hnc46 := NB244_243.out
           have hcz47_0 : wc.cell? ⟨gb243, 0, none⟩ = some (.int .i64 x244000_17) := (blk_cell BK243.out 0).trans rfl
           have hcz47_1 : wc.cell? ⟨gb243, 1, none⟩ = some (.int .i64 x244001_17) := (blk_cell BK243.out 1).trans rfl
           have hcz47_2 : wc.cell? ⟨gb243, 2, none⟩ = some (.int .i64 x244002_17) := (blk_cell BK243.out 2).trans rfl
           have hcz47_3 : wc.cell? ⟨gb243, 3, none⟩ = some (.int .i64 x244003_17) := (blk_cell BK243.out 3).trans rfl
           have hcz47_4 : wc.cell? ⟨gb243, 4, none⟩ = some (.int .i64 x244004_17) := (blk_cell BK243.out 4).trans rfl
           have hcz47_5 : wc.cell? ⟨gb243, 5, none⟩ = some (.int .i64 x244005_17) := (blk_cell BK243.out 5).trans rfl
           have hcz47_6 : wc.cell? ⟨gb243, 6, none⟩ = some (.int .i64 x244006_17) := (blk_cell BK243.out 6).trans rfl
           have hcz47_7 : wc.cell? ⟨gb243, 7, none⟩ = some (.int .i64 x244007_23) := (blk_cell BK243.out 7).trans rfl
           have hcz47_8 : wc.cell? ⟨gb243, 8, none⟩ = some (.bool x244008_17) := (blk_cell BK243.out 8).trans rfl
           have hfz47_0 := blk_frozen BK243.out 0
           have hfz47_1 := blk_frozen BK243.out 1
           have hfz47_2 := blk_frozen BK243.out 2
           have hfz47_3 := blk_frozen BK243.out 3
           have hfz47_4 := blk_frozen BK243.out 4
           have hfz47_5 := blk_frozen BK243.out 5
           have hfz47_6 := blk_frozen BK243.out 6
           have hfz47_7 := blk_frozen BK243.out 7
           have hfz47_8 := blk_frozen BK243.out 8
           go_wp2_with (first | ((with_reducible refine gate_callee (f := 44) rfl ?_); refine goesL_ (some 48) rfl rfl Try.func44 (by kernel_rfl) rfl #[.int .i64 x244007_23, .int .i64 0, .int .i64 10] rfl (by (try simp only [List.map_toArray, List.map_cons, List.map_nil]); first | done | rfl | (simp only [List.length_drop, List.length_take]; rfl)) ?_; (with_reducible refine (spec_l10Toward.calls x244007_23 0 10 t260 _ A44.out).mono ?_); rintro e w' ⟨rfl, ⟨nd, rfl⟩⟩; refine ⟨_, rfl, ?_⟩; (try (rw [drewN_self wc]; generalize hq_ : World.drewN wc _ = wc; have n0_ : Aside0 (wc.heap[gb243]? = some (.cells #[.int .i64 x244000_17, .int .i64 x244001_17, .int .i64 x244002_17, .int .i64 x244003_17, .int .i64 x244004_17, .int .i64 x244005_17, .int .i64 x244006_17, .int .i64 x244007_23, .bool x244008_17] 25 (0, 0))) := ⟨by rw [← hq_]; exact (by (with_reducible repeat (first | refine blk_drewN ?_ _ | refine blk_drew ?_ | refine blk_alloc ?_ _)); exact BK243.out)⟩; have n1_ : Aside0 (wc.heap[gb244]? = some (.cells #[.int .i64 0, .int .i64 0, .int .i64 0, .int .i64 0, .int .i64 0, .int .i64 0, .int .i64 0, .int .i64 0, .bool false] 25 (0, 0))) := ⟨by rw [← hq_]; exact (by (with_reducible repeat (first | refine blk_drewN ?_ _ | refine blk_drew ?_ | refine blk_alloc ?_ _)); exact BK244.out)⟩; have n2_ : Aside0 (Below w.heap.size w wc) := ⟨by rw [← hq_]; exact (by repeat (first | (with_reducible first | exact HB.out | apply below_alloc | apply pw_below_drewN | apply below_drew1 | refine below_set ?_ GE243.out | refine below_set ?_ GE244.out) | exact HB.out))⟩; clear BK243 BK244 HB hq_; have BK243 := n0_; have BK244 := n1_; have HB := n2_; clear n0_ n1_ n2_)); (try have hfu243_0 := blk_frozen BK243.out 0); (try have hcu243_0 := (blk_cell BK243.out 0).trans rfl); (try have hfu243_1 := blk_frozen BK243.out 1); (try have hcu243_1 := (blk_cell BK243.out 1).trans rfl); (try have hfu243_2 := blk_frozen BK243.out 2); (try have hcu243_2 := (blk_cell BK243.out 2).trans rfl); (try have hfu243_3 := blk_frozen BK243.out 3); (try have hcu243_3 := (blk_cell BK243.out 3).trans rfl); (try have hfu243_4 := blk_frozen BK243.out 4); (try have hcu243_4 := (blk_cell BK243.out 4).trans rfl); (try have hfu243_5 := blk_frozen BK243.out 5); (try have hcu243_5 := (blk_cell BK243.out 5).trans rfl); (try have hfu243_6 := blk_frozen BK243.out 6); (try have hcu243_6 := (blk_cell BK243.out 6).trans rfl); (try have hfu243_7 := blk_frozen BK243.out 7); (try have hcu243_7 := (blk_cell BK243.out 7).trans rfl); (try have hfu243_8 := blk_frozen BK243.out 8); (try have hcu243_8 := (blk_cell BK243.out 8).trans rfl); (try have hfu244_0 := blk_frozen BK244.out 0); (try have hcu244_0 := (blk_cell BK244.out 0).trans rfl); (try have hfu244_1 := blk_frozen BK244.out 1); (try have hcu244_1 := (blk_cell BK244.out 1).trans rfl); (try have hfu244_2 := blk_frozen BK244.out 2); (try have hcu244_2 := (blk_cell BK244.out 2).trans rfl); (try have hfu244_3 := blk_frozen BK244.out 3); (try have hcu244_3 := (blk_cell BK244.out 3).trans rfl); (try have hfu244_4 := blk_frozen BK244.out 4); (try have hcu244_4 := (blk_cell BK244.out 4).trans rfl); (try have hfu244_5 := blk_frozen BK244.out 5); (try have hcu244_5 := (blk_cell BK244.out 5).trans rfl); (try have hfu244_6 := blk_frozen BK244.out 6); (try have hcu244_6 := (blk_cell BK244.out 6).trans rfl); (try have hfu244_7 := blk_frozen BK244.out 7); (try have hcu244_7 := (blk_cell BK244.out 7).trans rfl); (try have hfu244_8 := blk_frozen BK244.out 8); (try have hcu244_8 := (blk_cell BK244.out 8).trans rfl); have hcz48_0 : wc.cell? ⟨gb244, 0, none⟩ = some (.int .i64 0) := (blk_cell BK244.out 0).trans rfl; have hcz48_1 : wc.cell? ⟨gb244, 1, none⟩ = some (.int .i64 0) := (blk_cell BK244.out 1).trans rfl; have hcz48_2 : wc.cell? ⟨gb244, 2, none⟩ = some (.int .i64 0) := (blk_cell BK244.out 2).trans rfl; have hcz48_3 : wc.cell? ⟨gb244, 3, none⟩ = some (.int .i64 0) := (blk_cell BK244.out 3).trans rfl; have hcz48_4 : wc.cell? ⟨gb244, 4, none⟩ = some (.int .i64 0) := (blk_cell BK244.out 4).trans rfl; have hcz48_5 : wc.cell? ⟨gb244, 5, none⟩ = some (.int .i64 0) := (blk_cell BK244.out 5).trans rfl; have hcz48_6 : wc.cell? ⟨gb244, 6, none⟩ = some (.int .i64 0) := (blk_cell BK244.out 6).trans rfl; have hcz48_7 : wc.cell? ⟨gb244, 7, none⟩ = some (.int .i64 0) := (blk_cell BK244.out 7).trans rfl; have hcz48_8 : wc.cell? ⟨gb244, 8, none⟩ = some (.bool false) := (blk_cell BK244.out 8).trans rfl; have hfz48_0 := blk_frozen BK244.out 0; have hfz48_1 := blk_frozen BK244.out 1; have hfz48_2 := blk_frozen BK244.out 2; have hfz48_3 := blk_frozen BK244.out 3; have hfz48_4 := blk_frozen BK244.out 4; have hfz48_5 := blk_frozen BK244.out 5; have hfz48_6 := blk_frozen BK244.out 6; have hfz48_7 := blk_frozen BK244.out 7; have hfz48_8 := blk_frozen BK244.out 8))
           refine bodyPost_ret (results_ct rfl _ _ gb244 25 #[.int .i64 x244000_17, .int .i64 2, .int .i64 x244002_17, .int .i64 x244003_17, .int .i64 x244004_17, .int .i64 x244005_17, .int .i64 x244006_17, .int .i64 t260, .bool x244008_17] (0, 0) _ rfl (by (with_reducible repeat (first | refine blk_drewN ?_ _ | refine blk_drew ?_ | refine blk_alloc ?_ _)); refine blk_put (cs := #[.int .i64 x244000_17, .int .i64 2, .int .i64 x244002_17, .int .i64 x244003_17, .int .i64 x244004_17, .int .i64 x244005_17, .int .i64 x244006_17, .int .i64 t260, .bool false]) ?_ 8 _ rfl; (with_reducible repeat (first | refine blk_drewN ?_ _ | refine blk_drew ?_ | refine blk_alloc ?_ _)); refine blk_put (cs := #[.int .i64 x244000_17, .int .i64 2, .int .i64 x244002_17, .int .i64 x244003_17, .int .i64 x244004_17, .int .i64 x244005_17, .int .i64 x244006_17, .int .i64 0, .bool false]) ?_ 7 _ rfl; (with_reducible repeat (first | refine blk_drewN ?_ _ | refine blk_drew ?_ | refine blk_alloc ?_ _)); refine blk_put (cs := #[.int .i64 x244000_17, .int .i64 2, .int .i64 x244002_17, .int .i64 x244003_17, .int .i64 x244004_17, .int .i64 x244005_17, .int .i64 0, .int .i64 0, .bool false]) ?_ 6 _ rfl; (with_reducible repeat (first | refine blk_drewN ?_ _ | refine blk_drew ?_ | refine blk_alloc ?_ _)); refine blk_put (cs := #[.int .i64 x244000_17, .int .i64 2, .int .i64 x244002_17, .int .i64 x244003_17, .int .i64 x244004_17, .int .i64 0, .int .i64 0, .int .i64 0, .bool false]) ?_ 5 _ rfl; (with_reducible repeat (first | refine blk_drewN ?_ _ | refine blk_drew ?_ | refine blk_alloc ?_ _)); refine blk_put (cs := #[.int .i64 x244000_17, .int .i64 2, .int .i64 x244002_17, .int .i64 x244003_17, .int .i64 0, .int .i64 0, .int .i64 0, .int .i64 0, .bool false]) ?_ 4 _ rfl; (with_reducible repeat (first | refine blk_drewN ?_ _ | refine blk_drew ?_ | refine blk_alloc ?_ _)); refine blk_put (cs := #[.int .i64 x244000_17, .int .i64 2, .int .i64 x244002_17, .int .i64 0, .int .i64 0, .int .i64 0, .int .i64 0, .int .i64 0, .bool false]) ?_ 3 _ rfl; (with_reducible repeat (first | refine blk_drewN ?_ _ | refine blk_drew ?_ | refine blk_alloc ?_ _)); refine blk_put (cs := #[.int .i64 x244000_17, .int .i64 2, .int .i64 0, .int .i64 0, .int .i64 0, .int .i64 0, .int .i64 0, .int .i64 0, .bool false]) ?_ 2 _ rfl; (with_reducible repeat (first | refine blk_drewN ?_ _ | refine blk_drew ?_ | refine blk_alloc ?_ _)); refine blk_put (cs := #[.int .i64 x244000_17, .int .i64 0, .int .i64 0, .int .i64 0, .int .i64 0, .int .i64 0, .int .i64 0, .int .i64 0, .bool false]) ?_ 1 _ rfl; (with_reducible repeat (first | refine blk_drewN ?_ _ | refine blk_drew ?_ | refine blk_alloc ?_ _)); refine blk_put (cs := #[.int .i64 0, .int .i64 0, .int .i64 0, .int .i64 0, .int .i64 0, .int .i64 0, .int .i64 0, .int .i64 0, .bool false]) ?_ 0 _ rfl; (with_reducible repeat (first | refine blk_drewN ?_ _ | refine blk_drew ?_ | refine blk_alloc ?_ _)); refine blk_far ?_ NB244_243.out _; (with_reducible repeat (first | refine blk_drewN ?_ _ | refine blk_drew ?_ | refine blk_alloc ?_ _)); refine blk_far ?_ NB244_243.out _; (with_reducible repeat (first | refine blk_drewN ?_ _ | refine blk_drew ?_ | refine blk_alloc ?_ _)); exact BK244.out) Try.underlying25 rfl (by kernel_rfl)) rfl ?_
           exact ⟨by first | rfl | (simp [errW_none, errW_some] <;> rfl) | (simp [*, errW_none, errW_some] <;> rfl), by repeat (first | (with_reducible first | exact HB.out | apply below_alloc | apply pw_below_drewN | apply below_drew1 | refine below_set ?_ GE243.out | refine below_set ?_ GE244.out) | exact HB.out)⟩
          ·
           rw [if_neg c45] at H
           have c45b0 : (t260 == 0) = false := beq_eq_false_iff_ne.mpr c45
           have c45b1 : (t260 != 0) = true := bne_iff_ne.mpr c45
           simp only [Option.some.injEq, Prod.mk.injEq] at H
           obtain ⟨rfl, rfl, rfl, rfl, rfl, rfl, rfl, rfl, rfl, rfl⟩ := H
           have hnb49 := NB243_244.out
           have hnc49 := NB244_243.out
           have hcz50_0 : wc.cell? ⟨gb243, 0, none⟩ = some (.int .i64 x244000_17) := (blk_cell BK243.out 0).trans rfl
           have hcz50_1 : wc.cell? ⟨gb243, 1, none⟩ = some (.int .i64 x244001_17) := (blk_cell BK243.out 1).trans rfl
           have hcz50_2 : wc.cell? ⟨gb243, 2, none⟩ = some (.int .i64 x244002_17) := (blk_cell BK243.out 2).trans rfl
           have hcz50_3 : wc.cell? ⟨gb243, 3, none⟩ = some (.int .i64 x244003_17) := (blk_cell BK243.out 3).trans rfl
           have hcz50_4 : wc.cell? ⟨gb243, 4, none⟩ = some (.int .i64 x244004_17) := (blk_cell BK243.out 4).trans rfl
           have hcz50_5 : wc.cell? ⟨gb243, 5, none⟩ = some (.int .i64 x244005_17) := (blk_cell BK243.out 5).trans rfl
           have hcz50_6 : wc.cell? ⟨gb243, 6, none⟩ = some (.int .i64 x244006_17) := (blk_cell BK243.out 6).trans rfl
           have hcz50_7 : wc.cell? ⟨gb243, 7, none⟩ = some (.int .i64 x244007_23) := (blk_cell BK243.out 7).trans rfl
           have hcz50_8 : wc.cell? ⟨gb243, 8, none⟩ = some (.bool x244008_17) := (blk_cell BK243.out 8).trans rfl
           have hfz50_0 := blk_frozen BK243.out 0
           have hfz50_1 := blk_frozen BK243.out 1
           have hfz50_2 := blk_frozen BK243.out 2
           have hfz50_3 := blk_frozen BK243.out 3
           have hfz50_4 := blk_frozen BK243.out 4
           have hfz50_5 := blk_frozen BK243.out 5
           have hfz50_6 := blk_frozen BK243.out 6
           have hfz50_7 := blk_frozen BK243.out 7
           have hfz50_8 := blk_frozen BK243.out 8
           go_wp2_with (first | ((with_reducible refine gate_callee (f := 44) rfl ?_); refine goesL_ (some 48) rfl rfl Try.func44 (by kernel_rfl) rfl #[.int .i64 x244007_23, .int .i64 0, .int .i64 10] rfl (by (try simp only [List.map_toArray, List.map_cons, List.map_nil]); first | done | rfl | (simp only [List.length_drop, List.length_take]; rfl)) ?_; (with_reducible refine (spec_l10Toward.calls x244007_23 0 10 t260 _ A44.out).mono ?_); rintro e w' ⟨rfl, ⟨nd, rfl⟩⟩; refine ⟨_, rfl, ?_⟩; (try (rw [drewN_self wc]; generalize hq_ : World.drewN wc _ = wc; have n0_ : Aside0 (wc.heap[gb243]? = some (.cells #[.int .i64 x244000_17, .int .i64 x244001_17, .int .i64 x244002_17, .int .i64 x244003_17, .int .i64 x244004_17, .int .i64 x244005_17, .int .i64 x244006_17, .int .i64 x244007_23, .bool x244008_17] 25 (0, 0))) := ⟨by rw [← hq_]; exact (by (with_reducible repeat (first | refine blk_drewN ?_ _ | refine blk_drew ?_ | refine blk_alloc ?_ _)); exact BK243.out)⟩; have n1_ : Aside0 (wc.heap[gb244]? = some (.cells #[.int .i64 0, .int .i64 0, .int .i64 0, .int .i64 0, .int .i64 0, .int .i64 0, .int .i64 0, .int .i64 0, .bool false] 25 (0, 0))) := ⟨by rw [← hq_]; exact (by (with_reducible repeat (first | refine blk_drewN ?_ _ | refine blk_drew ?_ | refine blk_alloc ?_ _)); exact BK244.out)⟩; have n2_ : Aside0 (Below w.heap.size w wc) := ⟨by rw [← hq_]; exact (by repeat (first | (with_reducible first | exact HB.out | apply below_alloc | apply pw_below_drewN | apply below_drew1 | refine below_set ?_ GE243.out | refine below_set ?_ GE244.out) | exact HB.out))⟩; clear BK243 BK244 HB hq_; have BK243 := n0_; have BK244 := n1_; have HB := n2_; clear n0_ n1_ n2_)); (try have hfu243_0 := blk_frozen BK243.out 0); (try have hcu243_0 := (blk_cell BK243.out 0).trans rfl); (try have hfu243_1 := blk_frozen BK243.out 1); (try have hcu243_1 := (blk_cell BK243.out 1).trans rfl); (try have hfu243_2 := blk_frozen BK243.out 2); (try have hcu243_2 := (blk_cell BK243.out 2).trans rfl); (try have hfu243_3 := blk_frozen BK243.out 3); (try have hcu243_3 := (blk_cell BK243.out 3).trans rfl); (try have hfu243_4 := blk_frozen BK243.out 4); (try have hcu243_4 := (blk_cell BK243.out 4).trans rfl); (try have hfu243_5 := blk_frozen BK243.out 5); (try have hcu243_5 := (blk_cell BK243.out 5).trans rfl); (try have hfu243_6 := blk_frozen BK243.out 6); (try have hcu243_6 := (blk_cell BK243.out 6).trans rfl); (try have hfu243_7 := blk_frozen BK243.out 7); (try have hcu243_7 := (blk_cell BK243.out 7).trans rfl); (try have hfu243_8 := blk_frozen BK243.out 8); (try have hcu243_8 := (blk_cell BK243.out 8).trans rfl); (try have hfu244_0 := blk_frozen BK244.out 0); (try have hcu244_0 := (blk_cell BK244.out 0).trans rfl); (try have hfu244_1 := blk_frozen BK244.out 1); (try have hcu244_1 := (blk_cell BK244.out 1).trans rfl); (try have hfu244_2 := blk_frozen BK244.out 2); (try have hcu244_2 := (blk_cell BK244.out 2).trans rfl); (try have hfu244_3 := blk_frozen BK244.out 3); (try have hcu244_3 := (blk_cell BK244.out 3).trans rfl); (try have hfu244_4 := blk_frozen BK244.out 4); (try have hcu244_4 := (blk_cell BK244.out 4).trans rfl); (try have hfu244_5 := blk_frozen BK244.out 5); (try have hcu244_5 := (blk_cell BK244.out 5).trans rfl); (try have hfu244_6 := blk_frozen BK244.out 6); (try have hcu244_6 := (blk_cell BK244.out 6).trans rfl); (try have hfu244_7 := blk_frozen BK244.out 7); (try have hcu244_7 := (blk_cell BK244.out 7).trans rfl); (try have hfu244_8 := blk_frozen BK244.out 8); (try have hcu244_8 := (blk_cell BK244.out 8).trans rfl); have hcz51_0 : wc.cell? ⟨gb244, 0, none⟩ = some (.int .i64 0) := (blk_cell BK244.out 0).trans rfl; have hcz51_1 : wc.cell? ⟨gb244, 1, none⟩ = some (.int .i64 0) := (blk_cell BK244.out 1).trans rfl; have hcz51_2 : wc.cell? ⟨gb244, 2, none⟩ = some (.int .i64 0) := (blk_cell BK244.out 2).trans rfl; have hcz51_3 : wc.cell? ⟨gb244, 3, none⟩ = some (.int .i64 0) := (blk_cell BK244.out 3).trans rfl; have hcz51_4 : wc.cell? ⟨gb244, 4, none⟩ = some (.int .i64 0) := (blk_cell BK244.out 4).trans rfl; have hcz51_5 : wc.cell? ⟨gb244, 5, none⟩ = some (.int .i64 0) := (blk_cell BK244.out 5).trans rfl; have hcz51_6 : wc.cell? ⟨gb244, 6, none⟩ = some (.int .i64 0) := (blk_cell BK244.out 6).trans rfl; have hcz51_7 : wc.cell? ⟨gb244, 7, none⟩ = some (.int .i64 0) := (blk_cell BK244.out 7).trans rfl; have hcz51_8 : wc.cell? ⟨gb244, 8, none⟩ = some (.bool false) := (blk_cell BK244.out 8).trans rfl; have hfz51_0 := blk_frozen BK244.out 0; have hfz51_1 := blk_frozen BK244.out 1; have hfz51_2 := blk_frozen BK244.out 2; have hfz51_3 := blk_frozen BK244.out 3; have hfz51_4 := blk_frozen BK244.out 4; have hfz51_5 := blk_frozen BK244.out 5; have hfz51_6 := blk_frozen BK244.out 6; have hfz51_7 := blk_frozen BK244.out 7; have hfz51_8 := blk_frozen BK244.out 8))
           refine bodyPost_ret (results_ct rfl _ _ gb244 25 #[.int .i64 x244000_17, .int .i64 x244001_17, .int .i64 x244002_17, .int .i64 x244003_17, .int .i64 x244004_17, .int .i64 x244005_17, .int .i64 x244006_17, .int .i64 t260, .bool x244008_17] (0, 0) _ rfl (by (with_reducible repeat (first | refine blk_drewN ?_ _ | refine blk_drew ?_ | refine blk_alloc ?_ _)); refine blk_put (cs := #[.int .i64 x244000_17, .int .i64 x244001_17, .int .i64 x244002_17, .int .i64 x244003_17, .int .i64 x244004_17, .int .i64 x244005_17, .int .i64 x244006_17, .int .i64 t260, .bool false]) ?_ 8 _ rfl; (with_reducible repeat (first | refine blk_drewN ?_ _ | refine blk_drew ?_ | refine blk_alloc ?_ _)); refine blk_put (cs := #[.int .i64 x244000_17, .int .i64 x244001_17, .int .i64 x244002_17, .int .i64 x244003_17, .int .i64 x244004_17, .int .i64 x244005_17, .int .i64 x244006_17, .int .i64 0, .bool false]) ?_ 7 _ rfl; (with_reducible repeat (first | refine blk_drewN ?_ _ | refine blk_drew ?_ | refine blk_alloc ?_ _)); refine blk_put (cs := #[.int .i64 x244000_17, .int .i64 x244001_17, .int .i64 x244002_17, .int .i64 x244003_17, .int .i64 x244004_17, .int .i64 x244005_17, .int .i64 0, .int .i64 0, .bool false]) ?_ 6 _ rfl; (with_reducible repeat (first | refine blk_drewN ?_ _ | refine blk_drew ?_ | refine blk_alloc ?_ _)); refine blk_put (cs := #[.int .i64 x244000_17, .int .i64 x244001_17, .int .i64 x244002_17, .int .i64 x244003_17, .int .i64 x244004_17, .int .i64 0, .int .i64 0, .int .i64 0, .bool false]) ?_ 5 _ rfl; (with_reducible repeat (first | refine blk_drewN ?_ _ | refine blk_drew ?_ | refine blk_alloc ?_ _)); refine blk_put (cs := #[.int .i64 x244000_17, .int .i64 x244001_17, .int .i64 x244002_17, .int .i64 x244003_17, .int .i64 0, .int .i64 0, .int .i64 0, .int .i64 0, .bool false]) ?_ 4 _ rfl; (with_reducible repeat (first | refine blk_drewN ?_ _ | refine blk_drew ?_ | refine blk_alloc ?_ _)); refine blk_put (cs := #[.int .i64 x244000_17, .int .i64 x244001_17, .int .i64 x244002_17, .int .i64 0, .int .i64 0, .int .i64 0, .int .i64 0, .int .i64 0, .bool false]) ?_ 3 _ rfl; (with_reducible repeat (first | refine blk_drewN ?_ _ | refine blk_drew ?_ | refine blk_alloc ?_ _)); refine blk_put (cs := #[.int .i64 x244000_17, .int .i64 x244001_17, .int .i64 0, .int .i64 0, .int .i64 0, .int .i64 0, .int .i64 0, .int .i64 0, .bool false]) ?_ 2 _ rfl; (with_reducible repeat (first | refine blk_drewN ?_ _ | refine blk_drew ?_ | refine blk_alloc ?_ _)); refine blk_put (cs := #[.int .i64 x244000_17, .int .i64 0, .int .i64 0, .int .i64 0, .int .i64 0, .int .i64 0, .int .i64 0, .int .i64 0, .bool false]) ?_ 1 _ rfl; (with_reducible repeat (first | refine blk_drewN ?_ _ | refine blk_drew ?_ | refine blk_alloc ?_ _)); refine blk_put (cs := #[.int .i64 0, .int .i64 0, .int .i64 0, .int .i64 0, .int .i64 0, .int .i64 0, .int .i64 0, .int .i64 0, .bool false]) ?_ 0 _ rfl; (with_reducible repeat (first | refine blk_drewN ?_ _ | refine blk_drew ?_ | refine blk_alloc ?_ _)); refine blk_far ?_ NB244_243.out _; (with_reducible repeat (first | refine blk_drewN ?_ _ | refine blk_drew ?_ | refine blk_alloc ?_ _)); exact BK244.out) Try.underlying25 rfl (by kernel_rfl)) rfl ?_
           exact ⟨by first | rfl | (simp [errW_none, errW_some] <;> rfl) | (simp [*, errW_none, errW_some] <;> rfl), by repeat (first | (with_reducible first | exact HB.out | apply below_alloc | apply pw_below_drewN | apply below_drew1 | refine below_set ?_ GE243.out | refine below_set ?_ GE244.out) | exact HB.out)⟩
         ·
          rw [if_neg c43] at H
          have c43b0 : (x244001_17 == 3) = false := beq_eq_false_iff_ne.mpr c43
          have c43b1 : (x244001_17 != 3) = true := bne_iff_ne.mpr c43
          by_cases c52 : x244001_17 = 2
          ·
           rw [if_pos c52] at H
           have c52b0 : (x244001_17 == 2) = true := beq_iff_eq.mpr c52
           have c52b1 : (x244001_17 != 2) = false := bne_eq_false_iff_eq.mpr c52
           clear c52
           replace H := Option.bind_eq_some_iff.mp H
           obtain ⟨t261, A530, H⟩ := H
           replace H : (if t261 ≤ 20 then (some (x244000_17, x244001_17, x244002_17, x244003_17, x244004_17, x244005_17, x244006_17, 0, x244008_17, true)) else (some (x244000_17, 3, x244002_17, x244003_17, x244004_17, x244005_17, x244006_17, x244007_23, x244008_17, true))) = some (r1, r2, r3, r4, r5, r6, r7, r8, r9, r10) := H
           have A53 := Aside0.mk A530
           clear A530
           by_cases c54 : t261 ≤ 20
           ·
            rw [if_pos c54] at H
            have c54b0 : decide (t261 ≤ 20) = true := decide_eq_true c54
            clear c54
            simp only [Option.some.injEq, Prod.mk.injEq] at H
            obtain ⟨rfl, rfl, rfl, rfl, rfl, rfl, rfl, rfl, rfl, rfl⟩ := H
            have hnb55 := NB243_244.out
            have hnc55 := NB244_243.out
            have hcz56_0 : wc.cell? ⟨gb243, 0, none⟩ = some (.int .i64 x244000_17) := (blk_cell BK243.out 0).trans rfl
            have hcz56_1 : wc.cell? ⟨gb243, 1, none⟩ = some (.int .i64 x244001_17) := (blk_cell BK243.out 1).trans rfl
            have hcz56_2 : wc.cell? ⟨gb243, 2, none⟩ = some (.int .i64 x244002_17) := (blk_cell BK243.out 2).trans rfl
            have hcz56_3 : wc.cell? ⟨gb243, 3, none⟩ = some (.int .i64 x244003_17) := (blk_cell BK243.out 3).trans rfl
            have hcz56_4 : wc.cell? ⟨gb243, 4, none⟩ = some (.int .i64 x244004_17) := (blk_cell BK243.out 4).trans rfl
            have hcz56_5 : wc.cell? ⟨gb243, 5, none⟩ = some (.int .i64 x244005_17) := (blk_cell BK243.out 5).trans rfl
            have hcz56_6 : wc.cell? ⟨gb243, 6, none⟩ = some (.int .i64 x244006_17) := (blk_cell BK243.out 6).trans rfl
            have hcz56_7 : wc.cell? ⟨gb243, 7, none⟩ = some (.int .i64 x244007_23) := (blk_cell BK243.out 7).trans rfl
            have hcz56_8 : wc.cell? ⟨gb243, 8, none⟩ = some (.bool x244008_17) := (blk_cell BK243.out 8).trans rfl
            have hfz56_0 := blk_frozen BK243.out 0
            have hfz56_1 := blk_frozen BK243.out 1
            have hfz56_2 := blk_frozen BK243.out 2
            have hfz56_3 := blk_frozen BK243.out 3
            have hfz56_4 := blk_frozen BK243.out 4
            have hfz56_5 := blk_frozen BK243.out 5
            have hfz56_6 := blk_frozen BK243.out 6
            have hfz56_7 := blk_frozen BK243.out 7
            have hfz56_8 := blk_frozen BK243.out 8
            go_wp2_with (first | ((with_reducible refine gate_callee (f := 43) rfl ?_); refine goesL_ (some 58) rfl rfl Try.func43 (by kernel_rfl) rfl #[.int .i64 x244007_23] rfl (by (try simp only [List.map_toArray, List.map_cons, List.map_nil]); first | done | rfl | (simp only [List.length_drop, List.length_take]; rfl)) ?_; (with_reducible refine (spec_l1Abs.calls x244007_23 t261 _ A53.out).mono ?_); rintro e w' ⟨rfl, ⟨nd, rfl⟩⟩; refine ⟨_, rfl, ?_⟩; (try (rw [drewN_self wc]; generalize hq_ : World.drewN wc _ = wc; have n0_ : Aside0 (wc.heap[gb243]? = some (.cells #[.int .i64 x244000_17, .int .i64 x244001_17, .int .i64 x244002_17, .int .i64 x244003_17, .int .i64 x244004_17, .int .i64 x244005_17, .int .i64 x244006_17, .int .i64 x244007_23, .bool x244008_17] 25 (0, 0))) := ⟨by rw [← hq_]; exact (by (with_reducible repeat (first | refine blk_drewN ?_ _ | refine blk_drew ?_ | refine blk_alloc ?_ _)); exact BK243.out)⟩; have n1_ : Aside0 (wc.heap[gb244]? = some (.cells #[.int .i64 0, .int .i64 0, .int .i64 0, .int .i64 0, .int .i64 0, .int .i64 0, .int .i64 0, .int .i64 0, .bool false] 25 (0, 0))) := ⟨by rw [← hq_]; exact (by (with_reducible repeat (first | refine blk_drewN ?_ _ | refine blk_drew ?_ | refine blk_alloc ?_ _)); exact BK244.out)⟩; have n2_ : Aside0 (Below w.heap.size w wc) := ⟨by rw [← hq_]; exact (by repeat (first | (with_reducible first | exact HB.out | apply below_alloc | apply pw_below_drewN | apply below_drew1 | refine below_set ?_ GE243.out | refine below_set ?_ GE244.out) | exact HB.out))⟩; clear BK243 BK244 HB hq_; have BK243 := n0_; have BK244 := n1_; have HB := n2_; clear n0_ n1_ n2_)); (try have hfu243_0 := blk_frozen BK243.out 0); (try have hcu243_0 := (blk_cell BK243.out 0).trans rfl); (try have hfu243_1 := blk_frozen BK243.out 1); (try have hcu243_1 := (blk_cell BK243.out 1).trans rfl); (try have hfu243_2 := blk_frozen BK243.out 2); (try have hcu243_2 := (blk_cell BK243.out 2).trans rfl); (try have hfu243_3 := blk_frozen BK243.out 3); (try have hcu243_3 := (blk_cell BK243.out 3).trans rfl); (try have hfu243_4 := blk_frozen BK243.out 4); (try have hcu243_4 := (blk_cell BK243.out 4).trans rfl); (try have hfu243_5 := blk_frozen BK243.out 5); (try have hcu243_5 := (blk_cell BK243.out 5).trans rfl); (try have hfu243_6 := blk_frozen BK243.out 6); (try have hcu243_6 := (blk_cell BK243.out 6).trans rfl); (try have hfu243_7 := blk_frozen BK243.out 7); (try have hcu243_7 := (blk_cell BK243.out 7).trans rfl); (try have hfu243_8 := blk_frozen BK243.out 8); (try have hcu243_8 := (blk_cell BK243.out 8).trans rfl); (try have hfu244_0 := blk_frozen BK244.out 0); (try have hcu244_0 := (blk_cell BK244.out 0).trans rfl); (try have hfu244_1 := blk_frozen BK244.out 1); (try have hcu244_1 := (blk_cell BK244.out 1).trans rfl); (try have hfu244_2 := blk_frozen BK244.out 2); (try have hcu244_2 := (blk_cell BK244.out 2).trans rfl); (try have hfu244_3 := blk_frozen BK244.out 3); (try have hcu244_3 := (blk_cell BK244.out 3).trans rfl); (try have hfu244_4 := blk_frozen BK244.out 4); (try have hcu244_4 := (blk_cell BK244.out 4).trans rfl); (try have hfu244_5 := blk_frozen BK244.out 5); (try have hcu244_5 := (blk_cell BK244.out 5).trans rfl); (try have hfu244_6 := blk_frozen BK244.out 6); (try have hcu244_6 := (blk_cell BK244.out 6).trans rfl); (try have hfu244_7 := blk_frozen BK244.out 7); (try have hcu244_7 := (blk_cell BK244.out 7).trans rfl); (try have hfu244_8 := blk_frozen BK244.out 8); (try have hcu244_8 := (blk_cell BK244.out 8).trans rfl); have hcz57_0 : wc.cell? ⟨gb244, 0, none⟩ = some (.int .i64 0) := (blk_cell BK244.out 0).trans rfl; have hcz57_1 : wc.cell? ⟨gb244, 1, none⟩ = some (.int .i64 0) := (blk_cell BK244.out 1).trans rfl; have hcz57_2 : wc.cell? ⟨gb244, 2, none⟩ = some (.int .i64 0) := (blk_cell BK244.out 2).trans rfl; have hcz57_3 : wc.cell? ⟨gb244, 3, none⟩ = some (.int .i64 0) := (blk_cell BK244.out 3).trans rfl; have hcz57_4 : wc.cell? ⟨gb244, 4, none⟩ = some (.int .i64 0) := (blk_cell BK244.out 4).trans rfl; have hcz57_5 : wc.cell? ⟨gb244, 5, none⟩ = some (.int .i64 0) := (blk_cell BK244.out 5).trans rfl; have hcz57_6 : wc.cell? ⟨gb244, 6, none⟩ = some (.int .i64 0) := (blk_cell BK244.out 6).trans rfl; have hcz57_7 : wc.cell? ⟨gb244, 7, none⟩ = some (.int .i64 0) := (blk_cell BK244.out 7).trans rfl; have hcz57_8 : wc.cell? ⟨gb244, 8, none⟩ = some (.bool false) := (blk_cell BK244.out 8).trans rfl; have hfz57_0 := blk_frozen BK244.out 0; have hfz57_1 := blk_frozen BK244.out 1; have hfz57_2 := blk_frozen BK244.out 2; have hfz57_3 := blk_frozen BK244.out 3; have hfz57_4 := blk_frozen BK244.out 4; have hfz57_5 := blk_frozen BK244.out 5; have hfz57_6 := blk_frozen BK244.out 6; have hfz57_7 := blk_frozen BK244.out 7; have hfz57_8 := blk_frozen BK244.out 8))
            refine bodyPost_ret (results_ct rfl _ _ gb244 25 #[.int .i64 x244000_17, .int .i64 x244001_17, .int .i64 x244002_17, .int .i64 x244003_17, .int .i64 x244004_17, .int .i64 x244005_17, .int .i64 x244006_17, .int .i64 0, .bool x244008_17] (0, 0) _ rfl (by (with_reducible repeat (first | refine blk_drewN ?_ _ | refine blk_drew ?_ | refine blk_alloc ?_ _)); refine blk_put (cs := #[.int .i64 x244000_17, .int .i64 x244001_17, .int .i64 x244002_17, .int .i64 x244003_17, .int .i64 x244004_17, .int .i64 x244005_17, .int .i64 x244006_17, .int .i64 0, .bool false]) ?_ 8 _ rfl; (with_reducible repeat (first | refine blk_drewN ?_ _ | refine blk_drew ?_ | refine blk_alloc ?_ _)); refine blk_put (cs := #[.int .i64 x244000_17, .int .i64 x244001_17, .int .i64 x244002_17, .int .i64 x244003_17, .int .i64 x244004_17, .int .i64 x244005_17, .int .i64 x244006_17, .int .i64 0, .bool false]) ?_ 7 _ rfl; (with_reducible repeat (first | refine blk_drewN ?_ _ | refine blk_drew ?_ | refine blk_alloc ?_ _)); refine blk_put (cs := #[.int .i64 x244000_17, .int .i64 x244001_17, .int .i64 x244002_17, .int .i64 x244003_17, .int .i64 x244004_17, .int .i64 x244005_17, .int .i64 0, .int .i64 0, .bool false]) ?_ 6 _ rfl; (with_reducible repeat (first | refine blk_drewN ?_ _ | refine blk_drew ?_ | refine blk_alloc ?_ _)); refine blk_put (cs := #[.int .i64 x244000_17, .int .i64 x244001_17, .int .i64 x244002_17, .int .i64 x244003_17, .int .i64 x244004_17, .int .i64 0, .int .i64 0, .int .i64 0, .bool false]) ?_ 5 _ rfl; (with_reducible repeat (first | refine blk_drewN ?_ _ | refine blk_drew ?_ | refine blk_alloc ?_ _)); refine blk_put (cs := #[.int .i64 x244000_17, .int .i64 x244001_17, .int .i64 x244002_17, .int .i64 x244003_17, .int .i64 0, .int .i64 0, .int .i64 0, .int .i64 0, .bool false]) ?_ 4 _ rfl; (with_reducible repeat (first | refine blk_drewN ?_ _ | refine blk_drew ?_ | refine blk_alloc ?_ _)); refine blk_put (cs := #[.int .i64 x244000_17, .int .i64 x244001_17, .int .i64 x244002_17, .int .i64 0, .int .i64 0, .int .i64 0, .int .i64 0, .int .i64 0, .bool false]) ?_ 3 _ rfl; (with_reducible repeat (first | refine blk_drewN ?_ _ | refine blk_drew ?_ | refine blk_alloc ?_ _)); refine blk_put (cs := #[.int .i64 x244000_17, .int .i64 x244001_17, .int .i64 0, .int .i64 0, .int .i64 0, .int .i64 0, .int .i64 0, .int .i64 0, .bool false]) ?_ 2 _ rfl; (with_reducible repeat (first | refine blk_drewN ?_ _ | refine blk_drew ?_ | refine blk_alloc ?_ _)); refine blk_put (cs := #[.int .i64 x244000_17, .int .i64 0, .int .i64 0, .int .i64 0, .int .i64 0, .int .i64 0, .int .i64 0, .int .i64 0, .bool false]) ?_ 1 _ rfl; (with_reducible repeat (first | refine blk_drewN ?_ _ | refine blk_drew ?_ | refine blk_alloc ?_ _)); refine blk_put (cs := #[.int .i64 0, .int .i64 0, .int .i64 0, .int .i64 0, .int .i64 0, .int .i64 0, .int .i64 0, .int .i64 0, .bool false]) ?_ 0 _ rfl; (with_reducible repeat (first | refine blk_drewN ?_ _ | refine blk_drew ?_ | refine blk_alloc ?_ _)); refine blk_far ?_ NB244_243.out _; (with_reducible repeat (first | refine blk_drewN ?_ _ | refine blk_drew ?_ | refine blk_alloc ?_ _)); exact BK244.out) Try.underlying25 rfl (by kernel_rfl)) rfl ?_
            exact ⟨by first | rfl | (simp [errW_none, errW_some] <;> rfl) | (simp [*, errW_none, errW_some] <;> rfl), by repeat (first | (with_reducible first | exact HB.out | apply below_alloc | apply pw_below_drewN | apply below_drew1 | refine below_set ?_ GE243.out | refine below_set ?_ GE244.out) | exact HB.out)⟩
           ·
            rw [if_neg c54] at H
            have c54b0 : decide (t261 ≤ 20) = false := decide_eq_false c54
            clear c54
            simp only [Option.some.injEq, Prod.mk.injEq] at H
            obtain ⟨rfl, rfl, rfl, rfl, rfl, rfl, rfl, rfl, rfl, rfl⟩ := H
            have hnb58 := NB243_244.out
            have hnc58 := NB244_243.out
            have hcz59_0 : wc.cell? ⟨gb243, 0, none⟩ = some (.int .i64 x244000_17) := (blk_cell BK243.out 0).trans rfl
            have hcz59_1 : wc.cell? ⟨gb243, 1, none⟩ = some (.int .i64 x244001_17) := (blk_cell BK243.out 1).trans rfl
            have hcz59_2 : wc.cell? ⟨gb243, 2, none⟩ = some (.int .i64 x244002_17) := (blk_cell BK243.out 2).trans rfl
            have hcz59_3 : wc.cell? ⟨gb243, 3, none⟩ = some (.int .i64 x244003_17) := (blk_cell BK243.out 3).trans rfl
            have hcz59_4 : wc.cell? ⟨gb243, 4, none⟩ = some (.int .i64 x244004_17) := (blk_cell BK243.out 4).trans rfl
            have hcz59_5 : wc.cell? ⟨gb243, 5, none⟩ = some (.int .i64 x244005_17) := (blk_cell BK243.out 5).trans rfl
            have hcz59_6 : wc.cell? ⟨gb243, 6, none⟩ = some (.int .i64 x244006_17) := (blk_cell BK243.out 6).trans rfl
            have hcz59_7 : wc.cell? ⟨gb243, 7, none⟩ = some (.int .i64 x244007_23) := (blk_cell BK243.out 7).trans rfl
            have hcz59_8 : wc.cell? ⟨gb243, 8, none⟩ = some (.bool x244008_17) := (blk_cell BK243.out 8).trans rfl
            have hfz59_0 := blk_frozen BK243.out 0
            have hfz59_1 := blk_frozen BK243.out 1
            have hfz59_2 := blk_frozen BK243.out 2
            have hfz59_3 := blk_frozen BK243.out 3
            have hfz59_4 := blk_frozen BK243.out 4
            have hfz59_5 := blk_frozen BK243.out 5
            have hfz59_6 := blk_frozen BK243.out 6
            have hfz59_7 := blk_frozen BK243.out 7
            have hfz59_8 := blk_frozen BK243.out 8
            go_wp2_with (first | ((with_reducible refine gate_callee (f := 43) rfl ?_); refine goesL_ (some 58) rfl rfl Try.func43 (by kernel_rfl) rfl #[.int .i64 x244007_23] rfl (by (try simp only [List.map_toArray, List.map_cons, List.map_nil]); first | done | rfl | (simp only [List.length_drop, List.length_take]; rfl)) ?_; (with_reducible refine (spec_l1Abs.calls x244007_23 t261 _ A53.out).mono ?_); rintro e w' ⟨rfl, ⟨nd, rfl⟩⟩; refine ⟨_, rfl, ?_⟩; (try (rw [drewN_self wc]; generalize hq_ : World.drewN wc _ = wc; have n0_ : Aside0 (wc.heap[gb243]? = some (.cells #[.int .i64 x244000_17, .int .i64 x244001_17, .int .i64 x244002_17, .int .i64 x244003_17, .int .i64 x244004_17, .int .i64 x244005_17, .int .i64 x244006_17, .int .i64 x244007_23, .bool x244008_17] 25 (0, 0))) := ⟨by rw [← hq_]; exact (by (with_reducible repeat (first | refine blk_drewN ?_ _ | refine blk_drew ?_ | refine blk_alloc ?_ _)); exact BK243.out)⟩; have n1_ : Aside0 (wc.heap[gb244]? = some (.cells #[.int .i64 0, .int .i64 0, .int .i64 0, .int .i64 0, .int .i64 0, .int .i64 0, .int .i64 0, .int .i64 0, .bool false] 25 (0, 0))) := ⟨by rw [← hq_]; exact (by (with_reducible repeat (first | refine blk_drewN ?_ _ | refine blk_drew ?_ | refine blk_alloc ?_ _)); exact BK244.out)⟩; have n2_ : Aside0 (Below w.heap.size w wc) := ⟨by rw [← hq_]; exact (by repeat (first | (with_reducible first | exact HB.out | apply below_alloc | apply pw_below_drewN | apply below_drew1 | refine below_set ?_ GE243.out | refine below_set ?_ GE244.out) | exact HB.out))⟩; clear BK243 BK244 HB hq_; have BK243 := n0_; have BK244 := n1_; have HB := n2_; clear n0_ n1_ n2_)); (try have hfu243_0 := blk_frozen BK243.out 0); (try have hcu243_0 := (blk_cell BK243.out 0).trans rfl); (try have hfu243_1 := blk_frozen BK243.out 1); (try have hcu243_1 := (blk_cell BK243.out 1).trans rfl); (try have hfu243_2 := blk_frozen BK243.out 2); (try have hcu243_2 := (blk_cell BK243.out 2).trans rfl); (try have hfu243_3 := blk_frozen BK243.out 3); (try have hcu243_3 := (blk_cell BK243.out 3).trans rfl); (try have hfu243_4 := blk_frozen BK243.out 4); (try have hcu243_4 := (blk_cell BK243.out 4).trans rfl); (try have hfu243_5 := blk_frozen BK243.out 5); (try have hcu243_5 := (blk_cell BK243.out 5).trans rfl); (try have hfu243_6 := blk_frozen BK243.out 6); (try have hcu243_6 := (blk_cell BK243.out 6).trans rfl); (try have hfu243_7 := blk_frozen BK243.out 7); (try have hcu243_7 := (blk_cell BK243.out 7).trans rfl); (try have hfu243_8 := blk_frozen BK243.out 8); (try have hcu243_8 := (blk_cell BK243.out 8).trans rfl); (try have hfu244_0 := blk_frozen BK244.out 0); (try have hcu244_0 := (blk_cell BK244.out 0).trans rfl); (try have hfu244_1 := blk_frozen BK244.out 1); (try have hcu244_1 := (blk_cell BK244.out 1).trans rfl); (try have hfu244_2 := blk_frozen BK244.out 2); (try have hcu244_2 := (blk_cell BK244.out 2).trans rfl); (try have hfu244_3 := blk_frozen BK244.out 3); (try have hcu244_3 := (blk_cell BK244.out 3).trans rfl); (try have hfu244_4 := blk_frozen BK244.out 4); (try have hcu244_4 := (blk_cell BK244.out 4).trans rfl); (try have hfu244_5 := blk_frozen BK244.out 5); (try have hcu244_5 := (blk_cell BK244.out 5).trans rfl); (try have hfu244_6 := blk_frozen BK244.out 6); (try have hcu244_6 := (blk_cell BK244.out 6).trans rfl); (try have hfu244_7 := blk_frozen BK244.out 7); (try have hcu244_7 := (blk_cell BK244.out 7).trans rfl); (try have hfu244_8 := blk_frozen BK244.out 8); (try have hcu244_8 := (blk_cell BK244.out 8).trans rfl); have hcz60_0 : wc.cell? ⟨gb244, 0, none⟩ = some (.int .i64 0) := (blk_cell BK244.out 0).trans rfl; have hcz60_1 : wc.cell? ⟨gb244, 1, none⟩ = some (.int .i64 0) := (blk_cell BK244.out 1).trans rfl; have hcz60_2 : wc.cell? ⟨gb244, 2, none⟩ = some (.int .i64 0) := (blk_cell BK244.out 2).trans rfl; have hcz60_3 : wc.cell? ⟨gb244, 3, none⟩ = some (.int .i64 0) := (blk_cell BK244.out 3).trans rfl; have hcz60_4 : wc.cell? ⟨gb244, 4, none⟩ = some (.int .i64 0) := (blk_cell BK244.out 4).trans rfl; have hcz60_5 : wc.cell? ⟨gb244, 5, none⟩ = some (.int .i64 0) := (blk_cell BK244.out 5).trans rfl; have hcz60_6 : wc.cell? ⟨gb244, 6, none⟩ = some (.int .i64 0) := (blk_cell BK244.out 6).trans rfl; have hcz60_7 : wc.cell? ⟨gb244, 7, none⟩ = some (.int .i64 0) := (blk_cell BK244.out 7).trans rfl; have hcz60_8 : wc.cell? ⟨gb244, 8, none⟩ = some (.bool false) := (blk_cell BK244.out 8).trans rfl; have hfz60_0 := blk_frozen BK244.out 0; have hfz60_1 := blk_frozen BK244.out 1; have hfz60_2 := blk_frozen BK244.out 2; have hfz60_3 := blk_frozen BK244.out 3; have hfz60_4 := blk_frozen BK244.out 4; have hfz60_5 := blk_frozen BK244.out 5; have hfz60_6 := blk_frozen BK244.out 6; have hfz60_7 := blk_frozen BK244.out 7; have hfz60_8 := blk_frozen BK244.out 8))
            refine bodyPost_ret (results_ct rfl _ _ gb244 25 #[.int .i64 x244000_17, .int .i64 3, .int .i64 x244002_17, .int .i64 x244003_17, .int .i64 x244004_17, .int .i64 x244005_17, .int .i64 x244006_17, .int .i64 x244007_23, .bool x244008_17] (0, 0) _ rfl (by (with_reducible repeat (first | refine blk_drewN ?_ _ | refine blk_drew ?_ | refine blk_alloc ?_ _)); refine blk_put (cs := #[.int .i64 x244000_17, .int .i64 3, .int .i64 x244002_17, .int .i64 x244003_17, .int .i64 x244004_17, .int .i64 x244005_17, .int .i64 x244006_17, .int .i64 x244007_23, .bool false]) ?_ 8 _ rfl; (with_reducible repeat (first | refine blk_drewN ?_ _ | refine blk_drew ?_ | refine blk_alloc ?_ _)); refine blk_put (cs := #[.int .i64 x244000_17, .int .i64 3, .int .i64 x244002_17, .int .i64 x244003_17, .int .i64 x244004_17, .int .i64 x244005_17, .int .i64 x244006_17, .int .i64 0, .bool false]) ?_ 7 _ rfl; (with_reducible repeat (first | refine blk_drewN ?_ _ | refine blk_drew ?_ | refine blk_alloc ?_ _)); refine blk_put (cs := #[.int .i64 x244000_17, .int .i64 3, .int .i64 x244002_17, .int .i64 x244003_17, .int .i64 x244004_17, .int .i64 x244005_17, .int .i64 0, .int .i64 0, .bool false]) ?_ 6 _ rfl; (with_reducible repeat (first | refine blk_drewN ?_ _ | refine blk_drew ?_ | refine blk_alloc ?_ _)); refine blk_put (cs := #[.int .i64 x244000_17, .int .i64 3, .int .i64 x244002_17, .int .i64 x244003_17, .int .i64 x244004_17, .int .i64 0, .int .i64 0, .int .i64 0, .bool false]) ?_ 5 _ rfl; (with_reducible repeat (first | refine blk_drewN ?_ _ | refine blk_drew ?_ | refine blk_alloc ?_ _)); refine blk_put (cs := #[.int .i64 x244000_17, .int .i64 3, .int .i64 x244002_17, .int .i64 x244003_17, .int .i64 0, .int .i64 0, .int .i64 0, .int .i64 0, .bool false]) ?_ 4 _ rfl; (with_reducible repeat (first | refine blk_drewN ?_ _ | refine blk_drew ?_ | refine blk_alloc ?_ _)); refine blk_put (cs := #[.int .i64 x244000_17, .int .i64 3, .int .i64 x244002_17, .int .i64 0, .int .i64 0, .int .i64 0, .int .i64 0, .int .i64 0, .bool false]) ?_ 3 _ rfl; (with_reducible repeat (first | refine blk_drewN ?_ _ | refine blk_drew ?_ | refine blk_alloc ?_ _)); refine blk_put (cs := #[.int .i64 x244000_17, .int .i64 3, .int .i64 0, .int .i64 0, .int .i64 0, .int .i64 0, .int .i64 0, .int .i64 0, .bool false]) ?_ 2 _ rfl; (with_reducible repeat (first | refine blk_drewN ?_ _ | refine blk_drew ?_ | refine blk_alloc ?_ _)); refine blk_put (cs := #[.int .i64 x244000_17, .int .i64 0, .int .i64 0, .int .i64 0, .int .i64 0, .int .i64 0, .int .i64 0, .int .i64 0, .bool false]) ?_ 1 _ rfl; (with_reducible repeat (first | refine blk_drewN ?_ _ | refine blk_drew ?_ | refine blk_alloc ?_ _)); refine blk_put (cs := #[.int .i64 0, .int .i64 0, .int .i64 0, .int .i64 0, .int .i64 0, .int .i64 0, .int .i64 0, .int .i64 0, .bool false]) ?_ 0 _ rfl; (with_reducible repeat (first | refine blk_drewN ?_ _ | refine blk_drew ?_ | refine blk_alloc ?_ _)); refine blk_far ?_ NB244_243.out _; (with_reducible repeat (first | refine blk_drewN ?_ _ | refine blk_drew ?_ | refine blk_alloc ?_ _)); exact BK244.out) Try.underlying25 rfl (by kernel_rfl)) rfl ?_
            exact ⟨by first | rfl | (simp [errW_none, errW_some] <;> rfl) | (simp [*, errW_none, errW_some] <;> rfl), by repeat (first | (with_reducible first | exact HB.out | apply below_alloc | apply pw_below_drewN | apply below_drew1 | refine below_set ?_ GE243.out | refine below_set ?_ GE244.out) | exact HB.out)⟩
          ·
           rw [if_neg c52] at H
           have c52b0 : (x244001_17 == 2) = false := beq_eq_false_iff_ne.mpr c52
           have c52b1 : (x244001_17 != 2) = true := bne_iff_ne.mpr c52
           simp only [Option.some.injEq, Prod.mk.injEq] at H
           obtain ⟨rfl, rfl, rfl, rfl, rfl, rfl, rfl, rfl, rfl, rfl⟩ := H
           have hnb61 := NB243_244.out
           have hnc61 := NB244_243.out
           have hcz62_0 : wc.cell? ⟨gb243, 0, none⟩ = some (.int .i64 x244000_17) := (blk_cell BK243.out 0).trans rfl
           have hcz62_1 : wc.cell? ⟨gb243, 1, none⟩ = some (.int .i64 x244001_17) := (blk_cell BK243.out 1).trans rfl
           have hcz62_2 : wc.cell? ⟨gb243, 2, none⟩ = some (.int .i64 x244002_17) := (blk_cell BK243.out 2).trans rfl
           have hcz62_3 : wc.cell? ⟨gb243, 3, none⟩ = some (.int .i64 x244003_17) := (blk_cell BK243.out 3).trans rfl
           have hcz62_4 : wc.cell? ⟨gb243, 4, none⟩ = some (.int .i64 x244004_17) := (blk_cell BK243.out 4).trans rfl
           have hcz62_5 : wc.cell? ⟨gb243, 5, none⟩ = some (.int .i64 x244005_17) := (blk_cell BK243.out 5).trans rfl
           have hcz62_6 : wc.cell? ⟨gb243, 6, none⟩ = some (.int .i64 x244006_17) := (blk_cell BK243.out 6).trans rfl
           have hcz62_7 : wc.cell? ⟨gb243, 7, none⟩ = some (.int .i64 x244007_23) := (blk_cell BK243.out 7).trans rfl
           have hcz62_8 : wc.cell? ⟨gb243, 8, none⟩ = some (.bool x244008_17) := (blk_cell BK243.out 8).trans rfl
           have hfz62_0 := blk_frozen BK243.out 0
           have hfz62_1 := blk_frozen BK243.out 1
           have hfz62_2 := blk_frozen BK243.out 2
           have hfz62_3 := blk_frozen BK243.out 3
           have hfz62_4 := blk_frozen BK243.out 4
           have hfz62_5 := blk_frozen BK243.out 5
           have hfz62_6 := blk_frozen BK243.out 6
           have hfz62_7 := blk_frozen BK243.out 7
           have hfz62_8 := blk_frozen BK243.out 8
           have hcz63_0 : wc.cell? ⟨gb244, 0, none⟩ = some (.int .i64 0) := (blk_cell BK244.out 0).trans rfl
           have hcz63_1 : wc.cell? ⟨gb244, 1, none⟩ = some (.int .i64 0) := (blk_cell BK244.out 1).trans rfl
           have hcz63_2 : wc.cell? ⟨gb244, 2, none⟩ = some (.int .i64 0) := (blk_cell BK244.out 2).trans rfl
           have hcz63_3 : wc.cell? ⟨gb244, 3, none⟩ = some (.int .i64 0) := (blk_cell BK244.out 3).trans rfl
           have hcz63_4 : wc.cell? ⟨gb244, 4, none⟩ = some (.int .i64 0) := (blk_cell BK244.out 4).trans rfl
           have hcz63_5 : wc.cell? ⟨gb244, 5, none⟩ = some (.int .i64 0) := (blk_cell BK244.out 5).trans rfl
           have hcz63_6 : wc.cell? ⟨gb244, 6, none⟩ = some (.int .i64 0) := (blk_cell BK244.out 6).trans rfl
           have hcz63_7 : wc.cell? ⟨gb244, 7, none⟩ = some (.int .i64 0) := (blk_cell BK244.out 7).trans rfl
           have hcz63_8 : wc.cell? ⟨gb244, 8, none⟩ = some (.bool false) := (blk_cell BK244.out 8).trans rfl
           have hfz63_0 := blk_frozen BK244.out 0
           have hfz63_1 := blk_frozen BK244.out 1
           have hfz63_2 := blk_frozen BK244.out 2
           have hfz63_3 := blk_frozen BK244.out 3
           have hfz63_4 := blk_frozen BK244.out 4
           have hfz63_5 := blk_frozen BK244.out 5
           have hfz63_6 := blk_frozen BK244.out 6
           have hfz63_7 := blk_frozen BK244.out 7
           have hfz63_8 := blk_frozen BK244.out 8
           go_wp2
           refine bodyPost_ret (results_ct rfl _ _ gb244 25 #[.int .i64 x244000_17, .int .i64 x244001_17, .int .i64 x244002_17, .int .i64 x244003_17, .int .i64 x244004_17, .int .i64 x244005_17, .int .i64 x244006_17, .int .i64 x244007_23, .bool x244008_17] (0, 0) _ rfl (by (with_reducible repeat (first | refine blk_drewN ?_ _ | refine blk_drew ?_ | refine blk_alloc ?_ _)); refine blk_put (cs := #[.int .i64 x244000_17, .int .i64 x244001_17, .int .i64 x244002_17, .int .i64 x244003_17, .int .i64 x244004_17, .int .i64 x244005_17, .int .i64 x244006_17, .int .i64 x244007_23, .bool false]) ?_ 8 _ rfl; (with_reducible repeat (first | refine blk_drewN ?_ _ | refine blk_drew ?_ | refine blk_alloc ?_ _)); refine blk_put (cs := #[.int .i64 x244000_17, .int .i64 x244001_17, .int .i64 x244002_17, .int .i64 x244003_17, .int .i64 x244004_17, .int .i64 x244005_17, .int .i64 x244006_17, .int .i64 0, .bool false]) ?_ 7 _ rfl; (with_reducible repeat (first | refine blk_drewN ?_ _ | refine blk_drew ?_ | refine blk_alloc ?_ _)); refine blk_put (cs := #[.int .i64 x244000_17, .int .i64 x244001_17, .int .i64 x244002_17, .int .i64 x244003_17, .int .i64 x244004_17, .int .i64 x244005_17, .int .i64 0, .int .i64 0, .bool false]) ?_ 6 _ rfl; (with_reducible repeat (first | refine blk_drewN ?_ _ | refine blk_drew ?_ | refine blk_alloc ?_ _)); refine blk_put (cs := #[.int .i64 x244000_17, .int .i64 x244001_17, .int .i64 x244002_17, .int .i64 x244003_17, .int .i64 x244004_17, .int .i64 0, .int .i64 0, .int .i64 0, .bool false]) ?_ 5 _ rfl; (with_reducible repeat (first | refine blk_drewN ?_ _ | refine blk_drew ?_ | refine blk_alloc ?_ _)); refine blk_put (cs := #[.int .i64 x244000_17, .int .i64 x244001_17, .int .i64 x244002_17, .int .i64 x244003_17, .int .i64 0, .int .i64 0, .int .i64 0, .int .i64 0, .bool false]) ?_ 4 _ rfl; (with_reducible repeat (first | refine blk_drewN ?_ _ | refine blk_drew ?_ | refine blk_alloc ?_ _)); refine blk_put (cs := #[.int .i64 x244000_17, .int .i64 x244001_17, .int .i64 x244002_17, .int .i64 0, .int .i64 0, .int .i64 0, .int .i64 0, .int .i64 0, .bool false]) ?_ 3 _ rfl; (with_reducible repeat (first | refine blk_drewN ?_ _ | refine blk_drew ?_ | refine blk_alloc ?_ _)); refine blk_put (cs := #[.int .i64 x244000_17, .int .i64 x244001_17, .int .i64 0, .int .i64 0, .int .i64 0, .int .i64 0, .int .i64 0, .int .i64 0, .bool false]) ?_ 2 _ rfl; (with_reducible repeat (first | refine blk_drewN ?_ _ | refine blk_drew ?_ | refine blk_alloc ?_ _)); refine blk_put (cs := #[.int .i64 x244000_17, .int .i64 0, .int .i64 0, .int .i64 0, .int .i64 0, .int .i64 0, .int .i64 0, .int .i64 0, .bool false]) ?_ 1 _ rfl; (with_reducible repeat (first | refine blk_drewN ?_ _ | refine blk_drew ?_ | refine blk_alloc ?_ _)); refine blk_put (cs := #[.int .i64 0, .int .i64 0, .int .i64 0, .int .i64 0, .int .i64 0, .int .i64 0, .int .i64 0, .int .i64 0, .bool false]) ?_ 0 _ rfl; (with_reducible repeat (first | refine blk_drewN ?_ _ | refine blk_drew ?_ | refine blk_alloc ?_ _)); exact BK244.out) Try.underlying25 rfl (by kernel_rfl)) rfl ?_
           exact ⟨by first | rfl | (simp [errW_none, errW_some] <;> rfl) | (simp [*, errW_none, errW_some] <;> rfl), by repeat (first | (with_reducible first | exact HB.out | apply below_alloc | apply pw_below_drewN | apply below_drew1 | refine below_set ?_ GE243.out | refine below_set ?_ GE244.out) | exact HB.out)⟩

end Go.Proofs.Ytdodiflcmjbfdaa.PFnExactTicks
