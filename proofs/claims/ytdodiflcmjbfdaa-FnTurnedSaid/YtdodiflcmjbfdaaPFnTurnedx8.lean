/- Walks of the functions named below, by a program of the session over the kit's printer. -/
import Derived.Test.YtdodiflcmjbfdaaPFnTurnedx0
import Derived.Test.YtdodiflcmjbfdaaPFnTurnedx1
import Derived.Test.YtdodiflcmjbfdaaPFnTurnedx7
namespace Go.Proofs.Ytdodiflcmjbfdaa.PFnTurned
open Go.RowKit Go.Proofs.YtdodiflcmjbfdaaW.PrintWords Go.Proofs.YtdodiflcmjbfdaaW.PrintLast Go.Proofs.YtdodiflcmjbfdaaW.PrintMore
attribute [local go_sem] max2_int min2_int max_two min_two max_three min_three max_four min_four   -- for this text's walks alone
set_option linter.unusedVariables false
set_option linter.unusedSimpArgs false
abbrev t8 : Bool := true
abbrev f8 : Bool := false

/-! ### impl_Ticks: function 15 -/
mutual
def impl_Ticks.j0 : Nat → List Int → Bool → Int → Int → Int → Int → Int → Int → Int → Int → Bool → Option ((List (S25)) × Bool)
 | 0, _, _, _, _, _, _, _, _, _, _, _ => none
 | k + 1, x1, x18, x267000, x267001, x267002, x267003, x267004, x267005, x267006, x267007, x267008 => if x18 = true then (some (([] : List (S25)), false)) else (impl_Ticks.l0 k (([] : List (S25))) x1 (x1.length : Int) 0 x267000 x267001 x267002 x267003 x267004 x267005 x267006 x267007 x267008)
def impl_Ticks.l0 : Nat → List (S25) → List Int → Int → Int → Int → Int → Int → Int → Int → Int → Int → Int → Bool → Option ((List (S25)) × Bool)
 | 0, _, _, _, _, _, _, _, _, _, _, _, _, _ => none
 | k + 1, x6, x20, x21, x22, x267000, x267001, x267002, x267003, x267004, x267005, x267006, x267007, x267008 => if x22 < x21 then (if 0 ≤ x22 then (if x22 < (x20.length : Int) then ((impl_PilotTick.f k x267000 x267001 x267002 x267003 x267004 x267005 x267006 x267007 x267008 (rd x20 x22)).bind fun bt272 => (if bt272.2.2.2.2.2.2.2.2.2 = true then (if x6.length < 1954687338268 then (impl_Ticks.l0 k (x6 ++ [(⟨bt272.1, bt272.2.1, bt272.2.2.1, bt272.2.2.2.1, bt272.2.2.2.2.1, bt272.2.2.2.2.2.1, bt272.2.2.2.2.2.2.1, bt272.2.2.2.2.2.2.2.1, bt272.2.2.2.2.2.2.2.2.1⟩ : S25)]) x20 x21 (wrap64 (x22 + 1)) bt272.1 bt272.2.1 bt272.2.2.1 bt272.2.2.2.1 bt272.2.2.2.2.1 bt272.2.2.2.2.2.1 bt272.2.2.2.2.2.2.1 bt272.2.2.2.2.2.2.2.1 bt272.2.2.2.2.2.2.2.2.1) else (none)) else (some (([] : List (S25)), false)))) else (none)) else (none)) else (some (x6, true))
end
def impl_Ticks.f (k : Nat) (a0_0 : Int) (a0_1 : Int) (a0_2 : Int) (a0_3 : Int) (a0_4 : Int) (a0_5 : Int) (a0_6 : Int) (a0_7 : Int) (a0_8 : Bool) (l1 : List Int) : Option ((List (S25)) × Bool) := (impl_PilotOk.f k a0_0 a0_1 a0_2 a0_3 a0_4 a0_5 a0_6 a0_7 a0_8).bind fun t267 => (if t267 = true then (impl_Ticks.j0 k l1 (decide ((l1.length : Int) > 300)) a0_0 a0_1 a0_2 a0_3 a0_4 a0_5 a0_6 a0_7 a0_8) else (impl_Ticks.j0 k l1 true a0_0 a0_1 a0_2 a0_3 a0_4 a0_5 a0_6 a0_7 a0_8))
theorem impl_Ticks.mono_l : ∀ k, (∀ y0 y1 y2 y3 y4 y5 y6 y7 y8 y9 y10, LeO (impl_Ticks.j0 k y0 y1 y2 y3 y4 y5 y6 y7 y8 y9 y10) (impl_Ticks.j0 (k + 1) y0 y1 y2 y3 y4 y5 y6 y7 y8 y9 y10)) ∧ (∀ y0 y1 y2 y3 y4 y5 y6 y7 y8 y9 y10 y11 y12, LeO (impl_Ticks.l0 k y0 y1 y2 y3 y4 y5 y6 y7 y8 y9 y10 y11 y12) (impl_Ticks.l0 (k + 1) y0 y1 y2 y3 y4 y5 y6 y7 y8 y9 y10 y11 y12))
 | 0 => ⟨fun _ _ _ _ _ _ _ _ _ _ _ r h => by simp [impl_Ticks.j0] at h, fun _ _ _ _ _ _ _ _ _ _ _ _ _ r h => by simp [impl_Ticks.l0] at h⟩
 | k + 1 => by
  obtain ⟨ih0, ih1⟩ := impl_Ticks.mono_l k
  refine ⟨?_, ?_⟩
  ·
   intro y0 y1 y2 y3 y4 y5 y6 y7 y8 y9 y10
   unfold impl_Ticks.j0
   repeat' first
   | (with_reducible exact ih0 _ _ _ _ _ _ _ _ _ _ _)
   | (with_reducible exact ih1 _ _ _ _ _ _ _ _ _ _ _ _ _)
   | (with_reducible exact impl_PilotOk.mono _ _ _ _ _ _ _ _ _ _)
   | (with_reducible exact impl_PilotTick.mono _ _ _ _ _ _ _ _ _ _ _)
   | (with_reducible exact LeO.refl _)
   | (with_reducible exact LeO.none _)
   | (with_reducible refine LeO.ite ?_ ?_)
   | (with_reducible refine LeO.bind ?_ (fun _ => ?_))
   | exact ih0 _ _ _ _ _ _ _ _ _ _ _
   | exact ih1 _ _ _ _ _ _ _ _ _ _ _ _ _
   | exact impl_PilotOk.mono _ _ _ _ _ _ _ _ _ _
   | exact impl_PilotTick.mono _ _ _ _ _ _ _ _ _ _ _
   | exact LeO.none _
   | refine LeO.ite ?_ ?_
   | refine LeO.bind ?_ (fun _ => ?_)
  ·
   intro y0 y1 y2 y3 y4 y5 y6 y7 y8 y9 y10 y11 y12
   unfold impl_Ticks.l0
   repeat' first
   | (with_reducible exact ih0 _ _ _ _ _ _ _ _ _ _ _)
   | (with_reducible exact ih1 _ _ _ _ _ _ _ _ _ _ _ _ _)
   | (with_reducible exact impl_PilotOk.mono _ _ _ _ _ _ _ _ _ _)
   | (with_reducible exact impl_PilotTick.mono _ _ _ _ _ _ _ _ _ _ _)
   | (with_reducible exact LeO.refl _)
   | (with_reducible exact LeO.none _)
   | (with_reducible refine LeO.ite ?_ ?_)
   | (with_reducible refine LeO.bind ?_ (fun _ => ?_))
   | exact ih0 _ _ _ _ _ _ _ _ _ _ _
   | exact ih1 _ _ _ _ _ _ _ _ _ _ _ _ _
   | exact impl_PilotOk.mono _ _ _ _ _ _ _ _ _ _
   | exact impl_PilotTick.mono _ _ _ _ _ _ _ _ _ _ _
   | exact LeO.none _
   | refine LeO.ite ?_ ?_
   | refine LeO.bind ?_ (fun _ => ?_)
theorem impl_Ticks.mono : ∀ a0 a1 a2 a3 a4 a5 a6 a7 a8 a9 k, LeO (impl_Ticks.f k a0 a1 a2 a3 a4 a5 a6 a7 a8 a9) (impl_Ticks.f (k + 1) a0 a1 a2 a3 a4 a5 a6 a7 a8 a9) := by
 intro a0 a1 a2 a3 a4 a5 a6 a7 a8 a9 k
 obtain ⟨ih0, ih1⟩ := impl_Ticks.mono_l k
 unfold impl_Ticks.f
 repeat' first
   | (with_reducible exact ih0 _ _ _ _ _ _ _ _ _ _ _)
   | (with_reducible exact ih1 _ _ _ _ _ _ _ _ _ _ _ _ _)
   | (with_reducible exact impl_PilotOk.mono _ _ _ _ _ _ _ _ _ _)
   | (with_reducible exact impl_PilotTick.mono _ _ _ _ _ _ _ _ _ _ _)
   | (with_reducible exact LeO.refl _)
   | (with_reducible exact LeO.none _)
   | (with_reducible refine LeO.ite ?_ ?_)
   | (with_reducible refine LeO.bind ?_ (fun _ => ?_))
   | exact ih0 _ _ _ _ _ _ _ _ _ _ _
   | exact ih1 _ _ _ _ _ _ _ _ _ _ _ _ _
   | exact impl_PilotOk.mono _ _ _ _ _ _ _ _ _ _
   | exact impl_PilotTick.mono _ _ _ _ _ _ _ _ _ _ _
   | exact LeO.none _
   | refine LeO.ite ?_ ?_
   | refine LeO.bind ?_ (fun _ => ?_)
set_option maxHeartbeats 8000000 in
set_option maxRecDepth 100000 in
theorem impl_Ticks.calls (k : Nat) (a0_0 : Int) (a0_1 : Int) (a0_2 : Int) (a0_3 : Int) (a0_4 : Int) (a0_5 : Int) (a0_6 : Int) (a0_7 : Int) (a0_8 : Bool) (A1 : Option Addr) (c1 : Nat) (l1 : List Int) (r1 : List (S25)) (r2 : Bool) (w : World) (hr1 : Kd.C (Kd.int .i64) w A1 l1.length l1) (hc1 : l1.length ≤ c1) (h : impl_Ticks.f k a0_0 a0_1 a0_2 a0_3 a0_4 a0_5 a0_6 a0_7 a0_8 l1 = some (r1, r2)) :
  Calls Try.prog 15 #[.agg #[.int .i64 a0_0, .int .i64 a0_1, .int .i64 a0_2, .int .i64 a0_3, .int .i64 a0_4, .int .i64 a0_5, .int .i64 a0_6, .int .i64 a0_7, .bool a0_8], .slice A1 l1.length c1] w fun e w' => ∃ v0_ : Value, e = .returned (.tuple #[v0_, .bool r2]) ∧ Kd.R k25 25 w' w.heap.size (fun _ => True) v0_ r1 ∧ Below w.heap.size w w' := by
 have hu25 := Try.underlying25
 have HR1 := Aside0.mk hr1
 have HC1 := Aside0.mk hc1
 clear hr1 hc1
 have HB := Aside0.mk (Below.refl w.heap.size w)
 have H : ((impl_PilotOk.f k a0_0 a0_1 a0_2 a0_3 a0_4 a0_5 a0_6 a0_7 a0_8).bind fun t267 => (if t267 = true then (impl_Ticks.j0 k l1 (decide ((l1.length : Int) > 300)) a0_0 a0_1 a0_2 a0_3 a0_4 a0_5 a0_6 a0_7 a0_8) else (impl_Ticks.j0 k l1 true a0_0 a0_1 a0_2 a0_3 a0_4 a0_5 a0_6 a0_7 a0_8))) = some (r1, r2) := h
 clear h
 have HC3 := Aside0.mk H
 clear H
 go_enter Try.func15, Try.ntmps15
 go_upto_region 1 with (first | ((with_reducible refine gate_dst (N := 2) rfl ?_); (try (refine gate_guard (by rfl) ?_; dsimp only)); refine box_event ?hg (N := 2) ?hd (cs := #[.int .i64 a0_0, .int .i64 a0_1, .int .i64 a0_2, .int .i64 a0_3, .int .i64 a0_4, .int .i64 a0_5, .int .i64 a0_6, .int .i64 a0_7, .bool a0_8]) (t := 25) ?hr ?_; (case hd => rfl); (case hg => rfl); (case hr => first | (go_simp; done) | (go_simp; rfl)); intro gb266 hg w4 hbox hb; have n0_ := Aside0.mk (below_step (by repeat (first | (with_reducible first | exact HB.out | apply below_alloc | apply pw_below_drewN | apply below_drew1) | exact HB.out)) hb); have n1_ := Aside0.mk (hbox); have n2_ := Aside0.mk ((by rw [hg]; exact (below_size (by repeat (first | (with_reducible first | exact HB.out | apply below_alloc | apply pw_below_drewN | apply below_drew1) | exact HB.out))) : w.heap.size ≤ gb266)); have n3_ := Aside0.mk ((by rw [hg]; exact (below_size (by repeat (first | (with_reducible first | exact HB.out | apply below_alloc | apply pw_below_drewN | apply below_drew1) | exact HB.out))) : w.heap.size ≤ gb266)); clear HB; have HB := n0_; have BK266 := n1_; have GW266 := n2_; have GE266 := n3_; clear n0_ n1_ n2_ n3_; clear hb hbox hg))
 (try simp only [Act.put, List.setIfInBounds_toArray, List.set_cons_zero, List.set_cons_succ])
 go_cut [18] (fun v18 wc => ∃ (kq : Nat) (x18_2 : Bool), v18 = .bool x18_2 ∧ Aside0 (impl_Ticks.j0 kq l1 x18_2 a0_0 a0_1 a0_2 a0_3 a0_4 a0_5 a0_6 a0_7 a0_8 = some (r1, r2)) ∧ Aside0 (kq ≤ k) ∧ Aside0 (wc.heap[gb266]? = some (.cells #[.int .i64 a0_0, .int .i64 a0_1, .int .i64 a0_2, .int .i64 a0_3, .int .i64 a0_4, .int .i64 a0_5, .int .i64 a0_6, .int .i64 a0_7, .bool a0_8] 25 (0, 0))) ∧ Aside0 (Below w.heap.size w wc))
 case first =>
  have H := HC3.out
  clear HC3
  replace H := Option.bind_eq_some_iff.mp H
  obtain ⟨t267, A50, H⟩ := H
  replace H : (if t267 = true then (impl_Ticks.j0 k l1 (decide ((l1.length : Int) > 300)) a0_0 a0_1 a0_2 a0_3 a0_4 a0_5 a0_6 a0_7 a0_8) else (impl_Ticks.j0 k l1 true a0_0 a0_1 a0_2 a0_3 a0_4 a0_5 a0_6 a0_7 a0_8)) = some (r1, r2) := H
  have A5 := Aside0.mk A50
  clear A50
  by_cases c6 : t267 = true
  ·
   subst c6
   have H1 : (impl_Ticks.j0 k l1 (decide ((l1.length : Int) > 300)) a0_0 a0_1 a0_2 a0_3 a0_4 a0_5 a0_6 a0_7 a0_8) = some (r1, r2) := by rw [if_pos rfl] at H; exact H
   clear H
   have H := H1
   clear H1
   have H' := Aside0.mk H
   clear H
   have hcz7_0 : w4.cell? ⟨gb266, 0, none⟩ = some (.int .i64 a0_0) := (blk_cell BK266.out 0).trans rfl
   have hcz7_1 : w4.cell? ⟨gb266, 1, none⟩ = some (.int .i64 a0_1) := (blk_cell BK266.out 1).trans rfl
   have hcz7_2 : w4.cell? ⟨gb266, 2, none⟩ = some (.int .i64 a0_2) := (blk_cell BK266.out 2).trans rfl
   have hcz7_3 : w4.cell? ⟨gb266, 3, none⟩ = some (.int .i64 a0_3) := (blk_cell BK266.out 3).trans rfl
   have hcz7_4 : w4.cell? ⟨gb266, 4, none⟩ = some (.int .i64 a0_4) := (blk_cell BK266.out 4).trans rfl
   have hcz7_5 : w4.cell? ⟨gb266, 5, none⟩ = some (.int .i64 a0_5) := (blk_cell BK266.out 5).trans rfl
   have hcz7_6 : w4.cell? ⟨gb266, 6, none⟩ = some (.int .i64 a0_6) := (blk_cell BK266.out 6).trans rfl
   have hcz7_7 : w4.cell? ⟨gb266, 7, none⟩ = some (.int .i64 a0_7) := (blk_cell BK266.out 7).trans rfl
   have hcz7_8 : w4.cell? ⟨gb266, 8, none⟩ = some (.bool a0_8) := (blk_cell BK266.out 8).trans rfl
   have hfz7_0 := blk_frozen BK266.out 0
   have hfz7_1 := blk_frozen BK266.out 1
   have hfz7_2 := blk_frozen BK266.out 2
   have hfz7_3 := blk_frozen BK266.out 3
   have hfz7_4 := blk_frozen BK266.out 4
   have hfz7_5 := blk_frozen BK266.out 5
   have hfz7_6 := blk_frozen BK266.out 6
   have hfz7_7 := blk_frozen BK266.out 7
   have hfz7_8 := blk_frozen BK266.out 8
   go_wp2_with (first | ((with_reducible refine gate_callee (f := 11) rfl ?_); refine goesL_ (some 12) rfl rfl Try.func11 (by kernel_rfl) rfl #[.agg #[.int .i64 a0_0, .int .i64 a0_1, .int .i64 a0_2, .int .i64 a0_3, .int .i64 a0_4, .int .i64 a0_5, .int .i64 a0_6, .int .i64 a0_7, .bool a0_8]] rfl (by (try simp only [List.map_toArray, List.map_cons, List.map_nil]); first | done | rfl | (simp only [List.length_drop, List.length_take]; rfl)) ?_; (with_reducible refine (impl_PilotOk.calls k a0_0 a0_1 a0_2 a0_3 a0_4 a0_5 a0_6 a0_7 a0_8 true _ A5.out).mono ?_); rintro e w8 ⟨rfl, hb⟩; refine ⟨_, rfl, ?_⟩; have n0_ := Aside0.mk (blk_below (g := gb266) (o := .cells #[.int .i64 a0_0, .int .i64 a0_1, .int .i64 a0_2, .int .i64 a0_3, .int .i64 a0_4, .int .i64 a0_5, .int .i64 a0_6, .int .i64 a0_7, .bool a0_8] 25 (0, 0)) (by (with_reducible repeat (first | refine blk_drewN ?_ _ | refine blk_drew ?_ | refine blk_alloc ?_ _)); exact BK266.out) hb); have n1_ := Aside0.mk (below_step (by repeat (first | (with_reducible first | exact HB.out | apply below_alloc | apply pw_below_drewN | apply below_drew1 | refine below_set ?_ GE266.out) | exact HB.out)) hb); clear BK266; clear HB; have BK266 := n0_; have HB := n1_; clear n0_ n1_; (try clear hb); (try clear hb2); (try clear hk); (try clear hi)))
   go_meet
   case rel => exact ⟨_, (decide ((l1.length : Int) > 300)), (by first | rfl | (simp; done) | (simp [*]; done)), H', ⟨by first | omega | exact Nat.le_refl _⟩, ⟨by (with_reducible repeat (first | refine blk_drewN ?_ _ | refine blk_drew ?_ | refine blk_alloc ?_ _)); exact BK266.out⟩, ⟨by repeat (first | (with_reducible first | exact HB.out | apply below_alloc | apply pw_below_drewN | apply below_drew1 | refine below_set ?_ GE266.out) | exact HB.out)⟩⟩
  ·
   replace c6 := Bool.eq_false_iff.mpr c6
   subst c6
   have H1 : (impl_Ticks.j0 k l1 true a0_0 a0_1 a0_2 a0_3 a0_4 a0_5 a0_6 a0_7 a0_8) = some (r1, r2) := by rw [if_neg (show ¬ (false = true) by decide)] at H; exact H
   clear H
   have H := H1
   clear H1
   have H' := Aside0.mk H
   clear H
   have hcz9_0 : w4.cell? ⟨gb266, 0, none⟩ = some (.int .i64 a0_0) := (blk_cell BK266.out 0).trans rfl
   have hcz9_1 : w4.cell? ⟨gb266, 1, none⟩ = some (.int .i64 a0_1) := (blk_cell BK266.out 1).trans rfl
   have hcz9_2 : w4.cell? ⟨gb266, 2, none⟩ = some (.int .i64 a0_2) := (blk_cell BK266.out 2).trans rfl
   have hcz9_3 : w4.cell? ⟨gb266, 3, none⟩ = some (.int .i64 a0_3) := (blk_cell BK266.out 3).trans rfl
   have hcz9_4 : w4.cell? ⟨gb266, 4, none⟩ = some (.int .i64 a0_4) := (blk_cell BK266.out 4).trans rfl
   have hcz9_5 : w4.cell? ⟨gb266, 5, none⟩ = some (.int .i64 a0_5) := (blk_cell BK266.out 5).trans rfl
   have hcz9_6 : w4.cell? ⟨gb266, 6, none⟩ = some (.int .i64 a0_6) := (blk_cell BK266.out 6).trans rfl
   have hcz9_7 : w4.cell? ⟨gb266, 7, none⟩ = some (.int .i64 a0_7) := (blk_cell BK266.out 7).trans rfl
   have hcz9_8 : w4.cell? ⟨gb266, 8, none⟩ = some (.bool a0_8) := (blk_cell BK266.out 8).trans rfl
   have hfz9_0 := blk_frozen BK266.out 0
   have hfz9_1 := blk_frozen BK266.out 1
   have hfz9_2 := blk_frozen BK266.out 2
   have hfz9_3 := blk_frozen BK266.out 3
   have hfz9_4 := blk_frozen BK266.out 4
   have hfz9_5 := blk_frozen BK266.out 5
   have hfz9_6 := blk_frozen BK266.out 6
   have hfz9_7 := blk_frozen BK266.out 7
   have hfz9_8 := blk_frozen BK266.out 8
   go_wp2_with (first | ((with_reducible refine gate_callee (f := 11) rfl ?_); refine goesL_ (some 12) rfl rfl Try.func11 (by kernel_rfl) rfl #[.agg #[.int .i64 a0_0, .int .i64 a0_1, .int .i64 a0_2, .int .i64 a0_3, .int .i64 a0_4, .int .i64 a0_5, .int .i64 a0_6, .int .i64 a0_7, .bool a0_8]] rfl (by (try simp only [List.map_toArray, List.map_cons, List.map_nil]); first | done | rfl | (simp only [List.length_drop, List.length_take]; rfl)) ?_; (with_reducible refine (impl_PilotOk.calls k a0_0 a0_1 a0_2 a0_3 a0_4 a0_5 a0_6 a0_7 a0_8 false _ A5.out).mono ?_); rintro e w10 ⟨rfl, hb⟩; refine ⟨_, rfl, ?_⟩; have n0_ := Aside0.mk (blk_below (g := gb266) (o := .cells #[.int .i64 a0_0, .int .i64 a0_1, .int .i64 a0_2, .int .i64 a0_3, .int .i64 a0_4, .int .i64 a0_5, .int .i64 a0_6, .int .i64 a0_7, .bool a0_8] 25 (0, 0)) (by (with_reducible repeat (first | refine blk_drewN ?_ _ | refine blk_drew ?_ | refine blk_alloc ?_ _)); exact BK266.out) hb); have n1_ := Aside0.mk (below_step (by repeat (first | (with_reducible first | exact HB.out | apply below_alloc | apply pw_below_drewN | apply below_drew1 | refine below_set ?_ GE266.out) | exact HB.out)) hb); clear BK266; clear HB; have BK266 := n0_; have HB := n1_; clear n0_ n1_; (try clear hb); (try clear hb2); (try clear hk); (try clear hi)))
   go_meet
   case rel => exact ⟨_, (true), (by first | rfl | (simp; done) | (simp [*]; done)), H', ⟨by first | omega | exact Nat.le_refl _⟩, ⟨by (with_reducible repeat (first | refine blk_drewN ?_ _ | refine blk_drew ?_ | refine blk_alloc ?_ _)); exact BK266.out⟩, ⟨by repeat (first | (with_reducible first | exact HB.out | apply below_alloc | apply pw_below_drewN | apply below_drew1 | refine below_set ?_ GE266.out) | exact HB.out)⟩⟩
 case rest =>
  clear HC3
  try clear c1
  try clear p2
  try clear c6
  try clear hcz7_0
  try clear hcz7_1
  try clear hcz7_2
  try clear hcz7_3
  try clear hcz7_4
  try clear hcz7_5
  try clear hcz7_6
  try clear hcz7_7
  try clear hcz7_8
  try clear hcz9_0
  try clear hcz9_1
  try clear hcz9_2
  try clear hcz9_3
  try clear hcz9_4
  try clear hcz9_5
  try clear hcz9_6
  try clear hcz9_7
  try clear hcz9_8
  try clear hfz7_0
  try clear hfz7_1
  try clear hfz7_2
  try clear hfz7_3
  try clear hfz7_4
  try clear hfz7_5
  try clear hfz7_6
  try clear hfz7_7
  try clear hfz7_8
  try clear hfz9_0
  try clear hfz9_1
  try clear hfz9_2
  try clear hfz9_3
  try clear hfz9_4
  try clear hfz9_5
  try clear hfz9_6
  try clear hfz9_7
  try clear hfz9_8
  obtain ⟨kq, x18_2, rfl, HA, HJ2, BK266, HB⟩ := hcut
  cases kq with
  | zero => exact absurd HA.out (by simp [impl_Ticks.j0])
  | succ kj2 =>
   have H := HA.out
   clear HA
   simp only [impl_Ticks.j0] at H
   by_cases c11 : x18_2 = true
   ·
    subst c11
    have H1 : (some (([] : List (S25)), false)) = some (r1, r2) := by rw [if_pos rfl] at H; exact H
    clear H
    have H := H1
    clear H1
    simp only [Option.some.injEq, Prod.mk.injEq] at H
    obtain ⟨rfl, rfl⟩ := H
    go_wp2
    go_ret2
    exact ⟨_, by first | rfl | (simp [errW_none, errW_some] <;> rfl) | (simp [*, errW_none, errW_some] <;> rfl), by first | exact Kd.R_nil _ _ _ _ _ | exact Kd.N_nil _ _ _ _ _ | exact Kd.V_nil _ _ _ _ _ | exact Kd.Q_nil _ _ _ _ _ | exact Kd.S_nil _ _ _ _ _, by repeat (first | (with_reducible first | exact HB.out | apply below_alloc | apply pw_below_drewN | apply below_drew1 | refine below_set ?_ GE266.out) | exact HB.out)⟩
   ·
    replace c11 := Bool.eq_false_iff.mpr c11
    subst c11
    have H1 : (impl_Ticks.l0 kj2 (([] : List (S25))) l1 (l1.length : Int) 0 a0_0 a0_1 a0_2 a0_3 a0_4 a0_5 a0_6 a0_7 a0_8) = some (r1, r2) := by rw [if_neg (show ¬ (false = true) by decide)] at H; exact H
    clear H
    have H := H1
    clear H1
    obtain ⟨y268, hy268⟩ : ∃ y_ : List (S25), y_ = (([] : List (S25))) := ⟨_, rfl⟩
    replace H : (impl_Ticks.l0 kj2 y268 l1 (l1.length : Int) 0 a0_0 a0_1 a0_2 a0_3 a0_4 a0_5 a0_6 a0_7 a0_8) = some (r1, r2) := by first | (rw [hy268]; with_reducible exact H) | (have H2_ := (Option.bind_some _ _).symm.trans H; rw [hy268]; with_reducible exact H2_) | (have H2_ := (Option.bind_some _ _).symm.trans H; with_reducible exact H2_) | with_reducible exact H | (rw [hy268]; exact H) | exact H
    have Ny268 := Aside0.mk hy268
    clear hy268
    have H' := Aside0.mk H
    clear H
    go_wp2_with (first | ((with_reducible refine gate_dst (N := 19) rfl ?_); (try (refine gate_guard (by rfl) ?_; dsimp only)); refine Kd.R_lit k25 _ 25 ?hg (N := 19) ?hd (xs := ([] : List (S25))) (inner := []) (ok := fun _ => True) (okp := fun _ => True) ?hr ?hp (fun _ hk => hk) trivial (Below.refl _ _) (Nat.le_refl _) (by simp) ?_; (case hd => rfl); (case hg => rfl); (case hr => first | (go_simp; done) | (go_simp; rfl)); (case hp => exact (Reps.none _ _)); intro v269 w12 ho13 hb hg_ hnew_; clear hg_ hnew_; (first | rw [← Ny268.out] at ho13 | (simp only [Int.reduceToNat] at ho13; rw [← Ny268.out] at ho13)); have n0_ := Aside0.mk (Kd.R_lower (Kd.R_newB ho13 (g := gb266) (o := .cells #[.int .i64 a0_0, .int .i64 a0_1, .int .i64 a0_2, .int .i64 a0_3, .int .i64 a0_4, .int .i64 a0_5, .int .i64 a0_6, .int .i64 a0_7, .bool a0_8] 25 (0, 0)) (by (with_reducible repeat (first | refine blk_drewN ?_ _ | refine blk_drew ?_ | refine blk_alloc ?_ _)); exact BK266.out)) (below_size (by repeat (first | (with_reducible first | exact HB.out | apply below_alloc | apply pw_below_drewN | apply below_drew1 | refine below_set ?_ GE266.out) | exact HB.out)))); have n1_ := Aside0.mk (blk_below (g := gb266) (o := .cells #[.int .i64 a0_0, .int .i64 a0_1, .int .i64 a0_2, .int .i64 a0_3, .int .i64 a0_4, .int .i64 a0_5, .int .i64 a0_6, .int .i64 a0_7, .bool a0_8] 25 (0, 0)) (by (with_reducible repeat (first | refine blk_drewN ?_ _ | refine blk_drew ?_ | refine blk_alloc ?_ _)); exact BK266.out) hb); have n2_ := Aside0.mk (below_step (by repeat (first | (with_reducible first | exact HB.out | apply below_alloc | apply pw_below_drewN | apply below_drew1 | refine below_set ?_ GE266.out) | exact HB.out)) hb); clear BK266; clear HB; have HO270 := n0_; have BK266 := n1_; have HB := n2_; clear n0_ n1_ n2_; clear hb ho13))
    go_loopg [6, 22] kj2 (fun kq v6 v22 w' => ∃ (x6_2 : List (S25)) (x22_2 : Int) (x267000_2 : Int) (x267001_2 : Int) (x267002_2 : Int) (x267003_2 : Int) (x267004_2 : Int) (x267005_2 : Int) (x267006_2 : Int) (x267007_2 : Int) (x267008_2 : Bool), v22 = .int .i64 x22_2 ∧ Aside0 (impl_Ticks.l0 kq x6_2 l1 (l1.length : Int) x22_2 x267000_2 x267001_2 x267002_2 x267003_2 x267004_2 x267005_2 x267006_2 x267007_2 x267008_2 = some (r1, r2)) ∧ Aside0 (kq ≤ kj2) ∧ Aside0 (Kd.R k25 25 w' w.heap.size (fun k_ => k_ ≠ gb266) v6 x6_2) ∧ Aside0 (w'.heap[gb266]? = some (.cells #[.int .i64 x267000_2, .int .i64 x267001_2, .int .i64 x267002_2, .int .i64 x267003_2, .int .i64 x267004_2, .int .i64 x267005_2, .int .i64 x267006_2, .int .i64 x267007_2, .bool x267008_2] 25 (0, 0))) ∧ Aside0 (Below w.heap.size w w'))
    case atStart => exact ⟨(y268), (0), (a0_0), (a0_1), (a0_2), (a0_3), (a0_4), (a0_5), (a0_6), (a0_7), (a0_8), (by first | rfl | (simp; done) | (simp [*]; done)), H', ⟨Nat.le_refl _⟩, ⟨by (with_reducible repeat (first | apply Kd.R_alloc | apply Kd.R_drewN | apply Kd.R_drew)); exact Kd.R_mono HO270.out (fun _ hk => hk.2)⟩, ⟨by (with_reducible repeat (first | refine blk_drewN ?_ _ | refine blk_drew ?_ | refine blk_alloc ?_ _)); exact BK266.out⟩, ⟨by repeat (first | (with_reducible first | exact HB.out | apply below_alloc | apply pw_below_drewN | apply below_drew1 | refine below_set ?_ GE266.out) | exact HB.out)⟩⟩
    case round =>
     clear H'
     try clear c1
     try clear p2
     try clear c6
     try clear c11
     try clear hcz7_0
     try clear hcz7_1
     try clear hcz7_2
     try clear hcz7_3
     try clear hcz7_4
     try clear hcz7_5
     try clear hcz7_6
     try clear hcz7_7
     try clear hcz7_8
     try clear hcz9_0
     try clear hcz9_1
     try clear hcz9_2
     try clear hcz9_3
     try clear hcz9_4
     try clear hcz9_5
     try clear hcz9_6
     try clear hcz9_7
     try clear hcz9_8
     try clear hfz7_0
     try clear hfz7_1
     try clear hfz7_2
     try clear hfz7_3
     try clear hfz7_4
     try clear hfz7_5
     try clear hfz7_6
     try clear hfz7_7
     try clear hfz7_8
     try clear hfz9_0
     try clear hfz9_1
     try clear hfz9_2
     try clear hfz9_3
     try clear hfz9_4
     try clear hfz9_5
     try clear hfz9_6
     try clear hfz9_7
     try clear hfz9_8
     try clear p2
     obtain ⟨x6_2, x22_2, x267000_2, x267001_2, x267002_2, x267003_2, x267004_2, x267005_2, x267006_2, x267007_2, x267008_2, rfl, HA, HK2, HO_6, BK266, HB⟩ := hrel
     cases gk with
     | zero => exact absurd HA.out (by simp [impl_Ticks.l0])
     | succ k2 =>
      have H := HA.out
      clear HA
      simp only [impl_Ticks.l0] at H
      by_cases c14 : x22_2 < (l1.length : Int)
      ·
       rw [if_pos c14] at H
       have c14b0 : decide (x22_2 < (l1.length : Int)) = true := decide_eq_true c14
       clear c14
       by_cases c15 : 0 ≤ x22_2
       ·
        rw [if_pos c15] at H
        have c15b0 : decide (0 ≤ x22_2) = true := decide_eq_true c15
        clear c15
        by_cases c16 : x22_2 < (l1.length : Int)
        ·
         rw [if_pos c16] at H
         have c16b0 : decide (x22_2 < (l1.length : Int)) = true := decide_eq_true c16
         clear c16
         replace H := Option.bind_eq_some_iff.mp H
         obtain ⟨⟨t272, t273, t274, t275, t276, t277, t278, t279, t280, t281⟩, A170, H⟩ := H
         replace H : (if t281 = true then (if x6_2.length < 1954687338268 then (impl_Ticks.l0 k2 (x6_2 ++ [(⟨t272, t273, t274, t275, t276, t277, t278, t279, t280⟩ : S25)]) l1 (l1.length : Int) (wrap64 (x22_2 + 1)) t272 t273 t274 t275 t276 t277 t278 t279 t280) else (none)) else (some (([] : List (S25)), false))) = some (r1, r2) := H
         have A17 := Aside0.mk A170
         clear A170
         by_cases c18 : t281 = true
         ·
          subst c18
          have H1 : (if x6_2.length < 1954687338268 then (impl_Ticks.l0 k2 (x6_2 ++ [(⟨t272, t273, t274, t275, t276, t277, t278, t279, t280⟩ : S25)]) l1 (l1.length : Int) (wrap64 (x22_2 + 1)) t272 t273 t274 t275 t276 t277 t278 t279 t280) else (none)) = some (r1, r2) := by rw [if_pos rfl] at H; exact H
          clear H
          have H := H1
          clear H1
          by_cases c19 : x6_2.length < 1954687338268
          ·
           rw [if_pos c19] at H
           have LMc19 := Aside0.mk c19
           clear c19
           obtain ⟨y283, hy283⟩ : ∃ y_ : List (S25), y_ = (x6_2 ++ [(⟨t272, t273, t274, t275, t276, t277, t278, t279, t280⟩ : S25)]) := ⟨_, rfl⟩
           replace H : (impl_Ticks.l0 k2 y283 l1 (l1.length : Int) (wrap64 (x22_2 + 1)) t272 t273 t274 t275 t276 t277 t278 t279 t280) = some (r1, r2) := by first | (rw [hy283]; with_reducible exact H) | (have H2_ := (Option.bind_some _ _).symm.trans H; rw [hy283]; with_reducible exact H2_) | (have H2_ := (Option.bind_some _ _).symm.trans H; with_reducible exact H2_) | with_reducible exact H | (rw [hy283]; exact H) | exact H
           have Ny283 := Aside0.mk hy283
           clear hy283
           have H' := Aside0.mk H
           clear H
           have p271 : 0 ≤ (x22_2 : Int) := of_decide_eq_true (by first | (with_reducible assumption) | assumption)
           have q271 : x22_2 < (l1.length : Int) := of_decide_eq_true (by first | (with_reducible assumption) | assumption)
           obtain ⟨ad271, e271, hx271_0⟩ := Kd.at_int HR1.out x22_2 p271 q271
           cases e271
           replace hx271_0 := (HB.out.cell (World.block_lt_of_cell? w _ hx271_0)).trans hx271_0
           replace p271 := eq_true p271
           replace q271 := eq_true q271
           have hcz20_0 : wr.cell? ⟨gb266, 0, none⟩ = some (.int .i64 x267000_2) := (blk_cell BK266.out 0).trans rfl
           have hcz20_1 : wr.cell? ⟨gb266, 1, none⟩ = some (.int .i64 x267001_2) := (blk_cell BK266.out 1).trans rfl
           have hcz20_2 : wr.cell? ⟨gb266, 2, none⟩ = some (.int .i64 x267002_2) := (blk_cell BK266.out 2).trans rfl
           have hcz20_3 : wr.cell? ⟨gb266, 3, none⟩ = some (.int .i64 x267003_2) := (blk_cell BK266.out 3).trans rfl
           have hcz20_4 : wr.cell? ⟨gb266, 4, none⟩ = some (.int .i64 x267004_2) := (blk_cell BK266.out 4).trans rfl
           have hcz20_5 : wr.cell? ⟨gb266, 5, none⟩ = some (.int .i64 x267005_2) := (blk_cell BK266.out 5).trans rfl
           have hcz20_6 : wr.cell? ⟨gb266, 6, none⟩ = some (.int .i64 x267006_2) := (blk_cell BK266.out 6).trans rfl
           have hcz20_7 : wr.cell? ⟨gb266, 7, none⟩ = some (.int .i64 x267007_2) := (blk_cell BK266.out 7).trans rfl
           have hcz20_8 : wr.cell? ⟨gb266, 8, none⟩ = some (.bool x267008_2) := (blk_cell BK266.out 8).trans rfl
           have hfz20_0 := blk_frozen BK266.out 0
           have hfz20_1 := blk_frozen BK266.out 1
           have hfz20_2 := blk_frozen BK266.out 2
           have hfz20_3 := blk_frozen BK266.out 3
           have hfz20_4 := blk_frozen BK266.out 4
           have hfz20_5 := blk_frozen BK266.out 5
           have hfz20_6 := blk_frozen BK266.out 6
           have hfz20_7 := blk_frozen BK266.out 7
           have hfz20_8 := blk_frozen BK266.out 8
           try go_wp2_with (first | ((with_reducible refine gate_callee (f := 18) rfl ?_); refine goesL_ (some 29) rfl rfl Try.func18 (by kernel_rfl) rfl #[.agg #[.int .i64 x267000_2, .int .i64 x267001_2, .int .i64 x267002_2, .int .i64 x267003_2, .int .i64 x267004_2, .int .i64 x267005_2, .int .i64 x267006_2, .int .i64 x267007_2, .bool x267008_2], .int .i64 (rd l1 x22_2)] rfl (by (try simp only [List.map_toArray, List.map_cons, List.map_nil]); first | done | rfl | (simp only [List.length_drop, List.length_take]; rfl)) ?_; (with_reducible refine (impl_PilotTick.calls k2 x267000_2 x267001_2 x267002_2 x267003_2 x267004_2 x267005_2 x267006_2 x267007_2 x267008_2 (rd l1 x22_2) t272 t273 t274 t275 t276 t277 t278 t279 t280 true _ A17.out).mono ?_); rintro e w21 ⟨rfl, hb⟩; refine ⟨_, rfl, ?_⟩; have n0_ := Aside0.mk (Kd.R_below (by (with_reducible repeat (first | apply Kd.R_alloc | apply Kd.R_drewN | apply Kd.R_drew)); exact HO_6.out) hb); have n1_ := Aside0.mk (blk_below (g := gb266) (o := .cells #[.int .i64 x267000_2, .int .i64 x267001_2, .int .i64 x267002_2, .int .i64 x267003_2, .int .i64 x267004_2, .int .i64 x267005_2, .int .i64 x267006_2, .int .i64 x267007_2, .bool x267008_2] 25 (0, 0)) (by (with_reducible repeat (first | refine blk_drewN ?_ _ | refine blk_drew ?_ | refine blk_alloc ?_ _)); exact BK266.out) hb); have n2_ := Aside0.mk (below_step (by repeat (first | (with_reducible first | exact HB.out | apply below_alloc | apply pw_below_drewN | apply below_drew1 | refine below_set ?_ GE266.out) | exact HB.out)) hb); clear HO_6; clear BK266; clear HB; have HO_6 := n0_; have BK266 := n1_; have HB := n2_; clear n0_ n1_ n2_; (try clear hb); (try clear hb2); (try clear hk); (try clear hi)) | ((with_reducible refine gate_dst (N := 9) rfl ?_); (try (refine gate_guard (by rfl) ?_; dsimp only)); refine box_event ?hg (N := 9) ?hd (cs := #[.int .i64 0, .int .i64 0, .int .i64 0, .int .i64 0, .int .i64 0, .int .i64 0, .int .i64 0, .int .i64 0, .bool false]) (t := 25) ?hr ?_; (case hd => rfl); (case hg => rfl); (case hr => first | (go_simp; done) | (go_simp; rfl)); intro gb282 hg w22 hbox hb; have n0_ := Aside0.mk (Kd.R_below (Kd.R_elderB (by (with_reducible repeat (first | apply Kd.R_alloc | apply Kd.R_drewN | apply Kd.R_drew)); exact HO_6.out) gb282 (Nat.le_of_eq hg.symm)) hb); have n1_ := Aside0.mk (blk_below (g := gb266) (o := .cells #[.int .i64 x267000_2, .int .i64 x267001_2, .int .i64 x267002_2, .int .i64 x267003_2, .int .i64 x267004_2, .int .i64 x267005_2, .int .i64 x267006_2, .int .i64 x267007_2, .bool x267008_2] 25 (0, 0)) (by (with_reducible repeat (first | refine blk_drewN ?_ _ | refine blk_drew ?_ | refine blk_alloc ?_ _)); exact BK266.out) hb); have n2_ := Aside0.mk (below_step (by repeat (first | (with_reducible first | exact HB.out | apply below_alloc | apply pw_below_drewN | apply below_drew1 | refine below_set ?_ GE266.out) | exact HB.out)) hb); have n3_ := Aside0.mk (hbox); have n4_ := Aside0.mk ((by rw [hg]; exact (below_size (by repeat (first | (with_reducible first | exact HB.out | apply below_alloc | apply pw_below_drewN | apply below_drew1 | refine below_set ?_ GE266.out) | exact HB.out))) : w.heap.size ≤ gb282)); have n5_ := Aside0.mk ((by rw [hg]; exact (below_size (by repeat (first | (with_reducible first | exact HB.out | apply below_alloc | apply pw_below_drewN | apply below_drew1 | refine below_set ?_ GE266.out) | exact HB.out))) : w.heap.size ≤ gb282)); have n6_ := Aside0.mk ((by rw [hg]; exact Nat.ne_of_lt (blk_lt (g := gb266) (o := .cells #[.int .i64 x267000_2, .int .i64 x267001_2, .int .i64 x267002_2, .int .i64 x267003_2, .int .i64 x267004_2, .int .i64 x267005_2, .int .i64 x267006_2, .int .i64 x267007_2, .bool x267008_2] 25 (0, 0)) (by (with_reducible repeat (first | refine blk_drewN ?_ _ | refine blk_drew ?_ | refine blk_alloc ?_ _)); exact BK266.out)) : gb266 ≠ gb282)); have n7_ := Aside0.mk ((by rw [hg]; exact Nat.ne_of_gt (blk_lt (g := gb266) (o := .cells #[.int .i64 x267000_2, .int .i64 x267001_2, .int .i64 x267002_2, .int .i64 x267003_2, .int .i64 x267004_2, .int .i64 x267005_2, .int .i64 x267006_2, .int .i64 x267007_2, .bool x267008_2] 25 (0, 0)) (by (with_reducible repeat (first | refine blk_drewN ?_ _ | refine blk_drew ?_ | refine blk_alloc ?_ _)); exact BK266.out)) : gb282 ≠ gb266)); clear HO_6; clear BK266; clear HB; have HO_6 := n0_; have BK266 := n1_; have HB := n2_; have BK282 := n3_; have GW282 := n4_; have GE282 := n5_; have NB266_282 := n6_; have NB282_266 := n7_; clear n0_ n1_ n2_ n3_ n4_ n5_ n6_ n7_; clear hb hbox hg; have hnb23 := NB282_266.out; have hnc23 := NB266_282.out; have hcz24_0 : w22.cell? ⟨gb282, 0, none⟩ = some (.int .i64 0) := (blk_cell BK282.out 0).trans rfl; have hcz24_1 : w22.cell? ⟨gb282, 1, none⟩ = some (.int .i64 0) := (blk_cell BK282.out 1).trans rfl; have hcz24_2 : w22.cell? ⟨gb282, 2, none⟩ = some (.int .i64 0) := (blk_cell BK282.out 2).trans rfl; have hcz24_3 : w22.cell? ⟨gb282, 3, none⟩ = some (.int .i64 0) := (blk_cell BK282.out 3).trans rfl; have hcz24_4 : w22.cell? ⟨gb282, 4, none⟩ = some (.int .i64 0) := (blk_cell BK282.out 4).trans rfl; have hcz24_5 : w22.cell? ⟨gb282, 5, none⟩ = some (.int .i64 0) := (blk_cell BK282.out 5).trans rfl; have hcz24_6 : w22.cell? ⟨gb282, 6, none⟩ = some (.int .i64 0) := (blk_cell BK282.out 6).trans rfl; have hcz24_7 : w22.cell? ⟨gb282, 7, none⟩ = some (.int .i64 0) := (blk_cell BK282.out 7).trans rfl; have hcz24_8 : w22.cell? ⟨gb282, 8, none⟩ = some (.bool false) := (blk_cell BK282.out 8).trans rfl; have hfz24_0 := blk_frozen BK282.out 0; have hfz24_1 := blk_frozen BK282.out 1; have hfz24_2 := blk_frozen BK282.out 2; have hfz24_3 := blk_frozen BK282.out 3; have hfz24_4 := blk_frozen BK282.out 4; have hfz24_5 := blk_frozen BK282.out 5; have hfz24_6 := blk_frozen BK282.out 6; have hfz24_7 := blk_frozen BK282.out 7; have hfz24_8 := blk_frozen BK282.out 8))
           have n0_ : Aside0 (Kd.R k25 25 (((((((((w22.setCell ⟨gb282, 0, none⟩ (.int .i64 t272)).setCell ⟨gb282, 1, none⟩ (.int .i64 t273)).setCell ⟨gb282, 2, none⟩ (.int .i64 t274)).setCell ⟨gb282, 3, none⟩ (.int .i64 t275)).setCell ⟨gb282, 4, none⟩ (.int .i64 t276)).setCell ⟨gb282, 5, none⟩ (.int .i64 t277)).setCell ⟨gb282, 6, none⟩ (.int .i64 t278)).setCell ⟨gb282, 7, none⟩ (.int .i64 t279)).setCell ⟨gb282, 8, none⟩ (.bool t280)) w.heap.size (fun k_ => k_ ≠ gb266 ∧ k_ ≠ gb282) u6 x6_2) := ⟨by (with_reducible repeat (first | apply Kd.R_alloc | apply Kd.R_drewN | apply Kd.R_drew)); exact Kd.R_mono (Kd.R_far (p := ⟨gb282, 8, none⟩) (Kd.R_far (p := ⟨gb282, 7, none⟩) (Kd.R_far (p := ⟨gb282, 6, none⟩) (Kd.R_far (p := ⟨gb282, 5, none⟩) (Kd.R_far (p := ⟨gb282, 4, none⟩) (Kd.R_far (p := ⟨gb282, 3, none⟩) (Kd.R_far (p := ⟨gb282, 2, none⟩) (Kd.R_far (p := ⟨gb282, 1, none⟩) (Kd.R_far (p := ⟨gb282, 0, none⟩) (Kd.R_mono HO_6.out (fun k_ hk => (⟨hk, hk.2⟩ : _ ∧ k_ ≠ gb282))) (fun _ hk => hk.2) (.int .i64 t272)) (fun _ hk => hk.2) (.int .i64 t273)) (fun _ hk => hk.2) (.int .i64 t274)) (fun _ hk => hk.2) (.int .i64 t275)) (fun _ hk => hk.2) (.int .i64 t276)) (fun _ hk => hk.2) (.int .i64 t277)) (fun _ hk => hk.2) (.int .i64 t278)) (fun _ hk => hk.2) (.int .i64 t279)) (fun _ hk => hk.2) (.bool t280)) (fun _ hk => ⟨hk.1.1, hk.1.2⟩)⟩
           have n1_ : Aside0 ((((((((((w22.setCell ⟨gb282, 0, none⟩ (.int .i64 t272)).setCell ⟨gb282, 1, none⟩ (.int .i64 t273)).setCell ⟨gb282, 2, none⟩ (.int .i64 t274)).setCell ⟨gb282, 3, none⟩ (.int .i64 t275)).setCell ⟨gb282, 4, none⟩ (.int .i64 t276)).setCell ⟨gb282, 5, none⟩ (.int .i64 t277)).setCell ⟨gb282, 6, none⟩ (.int .i64 t278)).setCell ⟨gb282, 7, none⟩ (.int .i64 t279)).setCell ⟨gb282, 8, none⟩ (.bool t280)).heap[gb266]? = some (.cells #[.int .i64 x267000_2, .int .i64 x267001_2, .int .i64 x267002_2, .int .i64 x267003_2, .int .i64 x267004_2, .int .i64 x267005_2, .int .i64 x267006_2, .int .i64 x267007_2, .bool x267008_2] 25 (0, 0))) := ⟨by (with_reducible repeat (first | refine blk_drewN ?_ _ | refine blk_drew ?_ | refine blk_alloc ?_ _)); refine blk_far ?_ NB266_282.out _; (with_reducible repeat (first | refine blk_drewN ?_ _ | refine blk_drew ?_ | refine blk_alloc ?_ _)); refine blk_far ?_ NB266_282.out _; (with_reducible repeat (first | refine blk_drewN ?_ _ | refine blk_drew ?_ | refine blk_alloc ?_ _)); refine blk_far ?_ NB266_282.out _; (with_reducible repeat (first | refine blk_drewN ?_ _ | refine blk_drew ?_ | refine blk_alloc ?_ _)); refine blk_far ?_ NB266_282.out _; (with_reducible repeat (first | refine blk_drewN ?_ _ | refine blk_drew ?_ | refine blk_alloc ?_ _)); refine blk_far ?_ NB266_282.out _; (with_reducible repeat (first | refine blk_drewN ?_ _ | refine blk_drew ?_ | refine blk_alloc ?_ _)); refine blk_far ?_ NB266_282.out _; (with_reducible repeat (first | refine blk_drewN ?_ _ | refine blk_drew ?_ | refine blk_alloc ?_ _)); refine blk_far ?_ NB266_282.out _; (with_reducible repeat (first | refine blk_drewN ?_ _ | refine blk_drew ?_ | refine blk_alloc ?_ _)); refine blk_far ?_ NB266_282.out _; (with_reducible repeat (first | refine blk_drewN ?_ _ | refine blk_drew ?_ | refine blk_alloc ?_ _)); refine blk_far ?_ NB266_282.out _; (with_reducible repeat (first | refine blk_drewN ?_ _ | refine blk_drew ?_ | refine blk_alloc ?_ _)); exact BK266.out⟩
           have n2_ : Aside0 ((((((((((w22.setCell ⟨gb282, 0, none⟩ (.int .i64 t272)).setCell ⟨gb282, 1, none⟩ (.int .i64 t273)).setCell ⟨gb282, 2, none⟩ (.int .i64 t274)).setCell ⟨gb282, 3, none⟩ (.int .i64 t275)).setCell ⟨gb282, 4, none⟩ (.int .i64 t276)).setCell ⟨gb282, 5, none⟩ (.int .i64 t277)).setCell ⟨gb282, 6, none⟩ (.int .i64 t278)).setCell ⟨gb282, 7, none⟩ (.int .i64 t279)).setCell ⟨gb282, 8, none⟩ (.bool t280)).heap[gb282]? = some (.cells #[.int .i64 t272, .int .i64 t273, .int .i64 t274, .int .i64 t275, .int .i64 t276, .int .i64 t277, .int .i64 t278, .int .i64 t279, .bool t280] 25 (0, 0))) := ⟨by (with_reducible repeat (first | refine blk_drewN ?_ _ | refine blk_drew ?_ | refine blk_alloc ?_ _)); refine blk_put (cs := #[.int .i64 t272, .int .i64 t273, .int .i64 t274, .int .i64 t275, .int .i64 t276, .int .i64 t277, .int .i64 t278, .int .i64 t279, .bool false]) ?_ 8 _ rfl; (with_reducible repeat (first | refine blk_drewN ?_ _ | refine blk_drew ?_ | refine blk_alloc ?_ _)); refine blk_put (cs := #[.int .i64 t272, .int .i64 t273, .int .i64 t274, .int .i64 t275, .int .i64 t276, .int .i64 t277, .int .i64 t278, .int .i64 0, .bool false]) ?_ 7 _ rfl; (with_reducible repeat (first | refine blk_drewN ?_ _ | refine blk_drew ?_ | refine blk_alloc ?_ _)); refine blk_put (cs := #[.int .i64 t272, .int .i64 t273, .int .i64 t274, .int .i64 t275, .int .i64 t276, .int .i64 t277, .int .i64 0, .int .i64 0, .bool false]) ?_ 6 _ rfl; (with_reducible repeat (first | refine blk_drewN ?_ _ | refine blk_drew ?_ | refine blk_alloc ?_ _)); refine blk_put (cs := #[.int .i64 t272, .int .i64 t273, .int .i64 t274, .int .i64 t275, .int .i64 t276, .int .i64 0, .int .i64 0, .int .i64 0, .bool false]) ?_ 5 _ rfl; (with_reducible repeat (first | refine blk_drewN ?_ _ | refine blk_drew ?_ | refine blk_alloc ?_ _)); refine blk_put (cs := #[.int .i64 t272, .int .i64 t273, .int .i64 t274, .int .i64 t275, .int .i64 0, .int .i64 0, .int .i64 0, .int .i64 0, .bool false]) ?_ 4 _ rfl; (with_reducible repeat (first | refine blk_drewN ?_ _ | refine blk_drew ?_ | refine blk_alloc ?_ _)); refine blk_put (cs := #[.int .i64 t272, .int .i64 t273, .int .i64 t274, .int .i64 0, .int .i64 0, .int .i64 0, .int .i64 0, .int .i64 0, .bool false]) ?_ 3 _ rfl; (with_reducible repeat (first | refine blk_drewN ?_ _ | refine blk_drew ?_ | refine blk_alloc ?_ _)); refine blk_put (cs := #[.int .i64 t272, .int .i64 t273, .int .i64 0, .int .i64 0, .int .i64 0, .int .i64 0, .int .i64 0, .int .i64 0, .bool false]) ?_ 2 _ rfl; (with_reducible repeat (first | refine blk_drewN ?_ _ | refine blk_drew ?_ | refine blk_alloc ?_ _)); refine blk_put (cs := #[.int .i64 t272, .int .i64 0, .int .i64 0, .int .i64 0, .int .i64 0, .int .i64 0, .int .i64 0, .int .i64 0, .bool false]) ?_ 1 _ rfl; (with_reducible repeat (first | refine blk_drewN ?_ _ | refine blk_drew ?_ | refine blk_alloc ?_ _)); refine blk_put (cs := #[.int .i64 0, .int .i64 0, .int .i64 0, .int .i64 0, .int .i64 0, .int .i64 0, .int .i64 0, .int .i64 0, .bool false]) ?_ 0 _ rfl; (with_reducible repeat (first | refine blk_drewN ?_ _ | refine blk_drew ?_ | refine blk_alloc ?_ _)); exact BK282.out⟩
           have n3_ : Aside0 (Below w.heap.size w (((((((((w22.setCell ⟨gb282, 0, none⟩ (.int .i64 t272)).setCell ⟨gb282, 1, none⟩ (.int .i64 t273)).setCell ⟨gb282, 2, none⟩ (.int .i64 t274)).setCell ⟨gb282, 3, none⟩ (.int .i64 t275)).setCell ⟨gb282, 4, none⟩ (.int .i64 t276)).setCell ⟨gb282, 5, none⟩ (.int .i64 t277)).setCell ⟨gb282, 6, none⟩ (.int .i64 t278)).setCell ⟨gb282, 7, none⟩ (.int .i64 t279)).setCell ⟨gb282, 8, none⟩ (.bool t280))) := ⟨by repeat (first | (with_reducible first | exact HB.out | apply below_alloc | apply pw_below_drewN | apply below_drew1 | refine below_set ?_ GE266.out | refine below_set ?_ GE282.out) | exact HB.out)⟩
           (try (have hsd_ : ∀ (W_ : World) (n_ : Nat) (a_ : Addr) (v_ : Value), (W_.drewN n_).setCell a_ v_ = (W_.setCell a_ v_).drewN n_ := fun _ _ _ _ => rfl); simp only [hsd_]; clear hsd_)
           (try clear HO_6)
           (try clear BK266)
           (try clear BK282)
           (try clear HB)
           generalize (((((((((w22.setCell ⟨gb282, 0, none⟩ (.int .i64 t272)).setCell ⟨gb282, 1, none⟩ (.int .i64 t273)).setCell ⟨gb282, 2, none⟩ (.int .i64 t274)).setCell ⟨gb282, 3, none⟩ (.int .i64 t275)).setCell ⟨gb282, 4, none⟩ (.int .i64 t276)).setCell ⟨gb282, 5, none⟩ (.int .i64 t277)).setCell ⟨gb282, 6, none⟩ (.int .i64 t278)).setCell ⟨gb282, 7, none⟩ (.int .i64 t279)).setCell ⟨gb282, 8, none⟩ (.bool t280)) = w25 at n0_ n1_ n2_ n3_ ⊢
           have HO_6 := n0_
           have BK266 := n1_
           have BK282 := n2_
           have HB := n3_
           clear n0_ n1_ n2_ n3_
           have n0_ := Aside0.mk (Kd.R_drew HO_6.out)
           have n1_ := Aside0.mk (blk_drew BK266.out)
           have n2_ := Aside0.mk (blk_drew BK282.out)
           have n3_ := Aside0.mk (below_drew1 HB.out)
           clear HO_6
           clear BK266
           clear BK282
           clear HB
           have HO_6 := n0_
           have BK266 := n1_
           have BK282 := n2_
           have HB := n3_
           clear n0_ n1_ n2_ n3_
           refine start_ (n := 7) (S := fun w' => w'.cell? ⟨gb282, 0, none⟩ = some (.int .i64 t272) ∧ w'.cell? ⟨gb282, 1, none⟩ = some (.int .i64 t273) ∧ w'.cell? ⟨gb282, 2, none⟩ = some (.int .i64 t274) ∧ w'.cell? ⟨gb282, 3, none⟩ = some (.int .i64 t275) ∧ w'.cell? ⟨gb282, 4, none⟩ = some (.int .i64 t276) ∧ w'.cell? ⟨gb282, 5, none⟩ = some (.int .i64 t277) ∧ w'.cell? ⟨gb282, 6, none⟩ = some (.int .i64 t278) ∧ w'.cell? ⟨gb282, 7, none⟩ = some (.int .i64 t279) ∧ w'.cell? ⟨gb282, 8, none⟩ = some (.bool t280)) (ds := []) #[f8, f8, f8, f8, f8, f8, f8] (by kernel_rfl) rfl rfl ⟨(blk_cell BK282.out 0).trans rfl, (blk_cell BK282.out 1).trans rfl, (blk_cell BK282.out 2).trans rfl, (blk_cell BK282.out 3).trans rfl, (blk_cell BK282.out 4).trans rfl, (blk_cell BK282.out 5).trans rfl, (blk_cell BK282.out 6).trans rfl, (blk_cell BK282.out 7).trans rfl, (blk_cell BK282.out 8).trans rfl⟩ (fun hHeld => ?_)
           generalize w25.drew = w26 at HO_6 BK266 BK282 HB hHeld ⊢
           refine pure_ (i := 1) (N := some 35) (v := ?_) (a' := ?_) #[f8, t8, f8, f8, f8, f8, f8] rfl rfl (by kernel_rfl) (fun _ _ _ h => h) (Or.inl ⟨by rfl, ?_⟩) ?_ ?_
           rotate_left
           ·
            intro w'
            go_simp
            with_reducible rfl
           rotate_left
           ·
            simp only [Act.put, List.setIfInBounds_toArray, List.set_cons_zero, List.set_cons_succ, i64_w, i32_w]
            rfl
           refine take_ (i := 0) (N := some 34) (v := ?_) (a' := ?_) #[t8, t8, f8, f8, f8, f8, f8] rfl rfl (by kernel_rfl) (fun _ _ _ h => h) (Or.inl ⟨by rfl, ?_⟩) hHeld ?_ ?_
           rotate_left
           ·
            rintro w' ⟨s0, s1, s2, s3, s4, s5, s6, s7, s8⟩
            go_simp
            with_reducible rfl
           rotate_left
           ·
            simp only [Act.put, List.setIfInBounds_toArray, List.set_cons_zero, List.set_cons_succ, i64_w, i32_w]
            rfl
           refine take_ (i := 2) (N := some 36) (v := ?_) (a' := ?_) #[t8, t8, t8, f8, f8, f8, f8] rfl rfl (by kernel_rfl) (fun _ _ _ h => h) (Or.inl ⟨by rfl, ?_⟩) hHeld ?_ ?_
           rotate_left
           ·
            rintro w' ⟨s0, s1, s2, s3, s4, s5, s6, s7, s8⟩
            go_simp
            with_reducible rfl
           rotate_left
           ·
            simp only [Act.put, List.setIfInBounds_toArray, List.set_cons_zero, List.set_cons_succ, i64_w, i32_w]
            rfl
           refine one_ (i := 3) (N := some 37) #[t8, t8, t8, t8, f8, f8, f8] rfl rfl (by kernel_rfl) (by decide) (fun K hK => ?_)
           refine value_ (w1 := ?_) (v := ?_) (by rfl) rfl ?_ ?_
           rotate_left 2
           ·
            go_simp
            constructor
            ·
             rfl
            ·
             rfl
           refine hK.out _ _ ⟨(blk_cell (blk_alloc BK282.out _) 0).trans rfl, (blk_cell (blk_alloc BK282.out _) 1).trans rfl, (blk_cell (blk_alloc BK282.out _) 2).trans rfl, (blk_cell (blk_alloc BK282.out _) 3).trans rfl, (blk_cell (blk_alloc BK282.out _) 4).trans rfl, (blk_cell (blk_alloc BK282.out _) 5).trans rfl, (blk_cell (blk_alloc BK282.out _) 6).trans rfl, (blk_cell (blk_alloc BK282.out _) 7).trans rfl, (blk_cell (blk_alloc BK282.out _) 8).trans rfl⟩ (fun hHeld => ?_)
           clear hK K
           refine norm_ (a' := ?_) ?_ ?_
           rotate_left
           ·
            show Act.put _ (some 37) _ = _
            simp only [Act.put, List.setIfInBounds_toArray, List.set_cons_zero, List.set_cons_succ, i64_w, i32_w]
            rfl
           refine one_ (i := 4) (N := some 38) #[t8, t8, t8, t8, t8, f8, f8] rfl rfl (by kernel_rfl) (by decide) (fun K hK => ?_)
           refine Kd.R_append_step k25 (w0 := w) w.heap.size (by rfl) (.tmp 35) (.tmp 37) 33 25 (.agg #[(.int .i64 0), (.int .i64 0), (.int .i64 0), (.int .i64 0), (.int .i64 0), (.int .i64 0), (.int .i64 0), (.int .i64 0), (.bool false)]) 72 rfl Try.underlying33 info25 rfl (by decide) (by omega) u6 x6_2 (⟨t272, t273, t274, t275, t276, t277, t278, t279, t280⟩ : S25) [.int .i64 t272, .int .i64 t273, .int .i64 t274, .int .i64 t275, .int .i64 t276, .int .i64 t277, .int .i64 t278, .int .i64 t279, .bool t280] (fun k_ => k_ ≠ gb266 ∧ k_ ≠ gb282) (fun _ => False) rfl rfl ?aP (fun _ hk => hk.elim) ?aF ?aO ?aB ?aS ?aL ?_
           (case aP => exact k25_mkM _ _ _ (⟨t272, t273, t274, t275, t276, t277, t278, t279, t280⟩ : S25))
           (case aB => exact (by repeat (first | (with_reducible first | exact HB.out | apply below_alloc | apply pw_below_drewN | apply below_drew1 | refine below_set ?_ GE266.out | refine below_set ?_ GE282.out) | exact HB.out)))
           (case aF => exact (fun k_ hk => ⟨Kd.freshB (g := gb266) (o := .cells #[.int .i64 x267000_2, .int .i64 x267001_2, .int .i64 x267002_2, .int .i64 x267003_2, .int .i64 x267004_2, .int .i64 x267005_2, .int .i64 x267006_2, .int .i64 x267007_2, .bool x267008_2] 25 (0, 0)) (by (with_reducible repeat (first | refine blk_drewN ?_ _ | refine blk_drew ?_ | refine blk_alloc ?_ _)); exact BK266.out) k_ hk, Kd.freshB (g := gb282) (o := .cells #[.int .i64 t272, .int .i64 t273, .int .i64 t274, .int .i64 t275, .int .i64 t276, .int .i64 t277, .int .i64 t278, .int .i64 t279, .bool t280] 25 (0, 0)) (by (with_reducible repeat (first | refine blk_drewN ?_ _ | refine blk_drew ?_ | refine blk_alloc ?_ _)); exact BK282.out) k_ hk⟩))
           (case aO => exact (by (with_reducible repeat (first | apply Kd.R_alloc | apply Kd.R_drewN | apply Kd.R_drew)); exact HO_6.out))
           (case aS => exact (below_size (by repeat (first | (with_reducible first | exact HB.out | apply below_alloc | apply pw_below_drewN | apply below_drew1 | refine below_set ?_ GE266.out | refine below_set ?_ GE282.out) | exact HB.out))))
           (case aL => have := LMc19.out; omega)
           intro v284 w27 ho hb hg hat
           rw [← Ny283.out] at ho
           have n0_ := Aside0.mk (blk_grown (g := gb266) (o := .cells #[.int .i64 x267000_2, .int .i64 x267001_2, .int .i64 x267002_2, .int .i64 x267003_2, .int .i64 x267004_2, .int .i64 x267005_2, .int .i64 x267006_2, .int .i64 x267007_2, .bool x267008_2] 25 (0, 0)) (by (with_reducible repeat (first | refine blk_drewN ?_ _ | refine blk_drew ?_ | refine blk_alloc ?_ _)); exact BK266.out) hg (Kd.R_away HO_6.out (fun _ hk => hk.1)))
           have n1_ := Aside0.mk (blk_grown (g := gb282) (o := .cells #[.int .i64 t272, .int .i64 t273, .int .i64 t274, .int .i64 t275, .int .i64 t276, .int .i64 t277, .int .i64 t278, .int .i64 t279, .bool t280] 25 (0, 0)) (by (with_reducible repeat (first | refine blk_drewN ?_ _ | refine blk_drew ?_ | refine blk_alloc ?_ _)); exact BK282.out) hg (Kd.R_away HO_6.out (fun _ hk => hk.2)))
           have n2_ := Aside0.mk (hb)
           have n3_ := Aside0.mk (ho)
           clear BK266
           clear BK282
           clear HB
           clear HO_6
           have BK266 := n0_
           have BK282 := n1_
           have HB := n2_
           have HO285 := n3_
           clear n0_ n1_ n2_ n3_
           clear ho hb hg hat
           refine hK.out _ _ ⟨(blk_cell BK282.out 0).trans rfl, (blk_cell BK282.out 1).trans rfl, (blk_cell BK282.out 2).trans rfl, (blk_cell BK282.out 3).trans rfl, (blk_cell BK282.out 4).trans rfl, (blk_cell BK282.out 5).trans rfl, (blk_cell BK282.out 6).trans rfl, (blk_cell BK282.out 7).trans rfl, (blk_cell BK282.out 8).trans rfl⟩ (fun hHeld => ?_)
           clear hK K
           refine norm_ (a' := ?_) ?_ ?_
           rotate_left
           ·
            show Act.put _ (some 38) _ = _
            simp only [Act.put, List.setIfInBounds_toArray, List.set_cons_zero, List.set_cons_succ, i64_w, i32_w]
            rfl
           refine one_ (i := 5) (N := none) #[t8, t8, t8, t8, t8, t8, f8] rfl rfl (by kernel_rfl) (by decide) (fun K hK => ?_)
           have hs28 : w27.cell? ⟨gb266, 0, none⟩ = some (.int .i64 x267000_2) := (blk_cell BK266.out 0).trans rfl
           have hfs28 := blk_frozen BK266.out 0
           have hns28_1 := NB282_266.out
           have hms28_1 := NB266_282.out
           have hs29 : w27.cell? ⟨gb266, 1, none⟩ = some (.int .i64 x267001_2) := (blk_cell BK266.out 1).trans rfl
           have hfs29 := blk_frozen BK266.out 1
           have hns29_1 := NB282_266.out
           have hms29_1 := NB266_282.out
           have hs30 : w27.cell? ⟨gb266, 2, none⟩ = some (.int .i64 x267002_2) := (blk_cell BK266.out 2).trans rfl
           have hfs30 := blk_frozen BK266.out 2
           have hns30_1 := NB282_266.out
           have hms30_1 := NB266_282.out
           have hs31 : w27.cell? ⟨gb266, 3, none⟩ = some (.int .i64 x267003_2) := (blk_cell BK266.out 3).trans rfl
           have hfs31 := blk_frozen BK266.out 3
           have hns31_1 := NB282_266.out
           have hms31_1 := NB266_282.out
           have hs32 : w27.cell? ⟨gb266, 4, none⟩ = some (.int .i64 x267004_2) := (blk_cell BK266.out 4).trans rfl
           have hfs32 := blk_frozen BK266.out 4
           have hns32_1 := NB282_266.out
           have hms32_1 := NB266_282.out
           have hs33 : w27.cell? ⟨gb266, 5, none⟩ = some (.int .i64 x267005_2) := (blk_cell BK266.out 5).trans rfl
           have hfs33 := blk_frozen BK266.out 5
           have hns33_1 := NB282_266.out
           have hms33_1 := NB266_282.out
           have hs34 : w27.cell? ⟨gb266, 6, none⟩ = some (.int .i64 x267006_2) := (blk_cell BK266.out 6).trans rfl
           have hfs34 := blk_frozen BK266.out 6
           have hns34_1 := NB282_266.out
           have hms34_1 := NB266_282.out
           have hs35 : w27.cell? ⟨gb266, 7, none⟩ = some (.int .i64 x267007_2) := (blk_cell BK266.out 7).trans rfl
           have hfs35 := blk_frozen BK266.out 7
           have hns35_1 := NB282_266.out
           have hms35_1 := NB266_282.out
           have hs36 : w27.cell? ⟨gb266, 8, none⟩ = some (.bool x267008_2) := (blk_cell BK266.out 8).trans rfl
           have hfs36 := blk_frozen BK266.out 8
           have hns36_1 := NB282_266.out
           have hms36_1 := NB266_282.out
           refine skip_ (w1 := ?_) (by rfl) rfl ?_ ?_
           rotate_left
           ·
            go_simp
            rfl
           refine hK.out _ _ ⟨((cell_far (p := ⟨gb266, _, none⟩) NB282_266.out _).trans (((cell_far (p := ⟨gb266, _, none⟩) NB282_266.out _).trans (((cell_far (p := ⟨gb266, _, none⟩) NB282_266.out _).trans (((cell_far (p := ⟨gb266, _, none⟩) NB282_266.out _).trans (((cell_far (p := ⟨gb266, _, none⟩) NB282_266.out _).trans (((cell_far (p := ⟨gb266, _, none⟩) NB282_266.out _).trans (((cell_far (p := ⟨gb266, _, none⟩) NB282_266.out _).trans (((cell_far (p := ⟨gb266, _, none⟩) NB282_266.out _).trans (((cell_far (p := ⟨gb266, _, none⟩) NB282_266.out _).trans (hHeld.1)))))))))))))))))), ((cell_far (p := ⟨gb266, _, none⟩) NB282_266.out _).trans (((cell_far (p := ⟨gb266, _, none⟩) NB282_266.out _).trans (((cell_far (p := ⟨gb266, _, none⟩) NB282_266.out _).trans (((cell_far (p := ⟨gb266, _, none⟩) NB282_266.out _).trans (((cell_far (p := ⟨gb266, _, none⟩) NB282_266.out _).trans (((cell_far (p := ⟨gb266, _, none⟩) NB282_266.out _).trans (((cell_far (p := ⟨gb266, _, none⟩) NB282_266.out _).trans (((cell_far (p := ⟨gb266, _, none⟩) NB282_266.out _).trans (((cell_far (p := ⟨gb266, _, none⟩) NB282_266.out _).trans (hHeld.2.1)))))))))))))))))), ((cell_far (p := ⟨gb266, _, none⟩) NB282_266.out _).trans (((cell_far (p := ⟨gb266, _, none⟩) NB282_266.out _).trans (((cell_far (p := ⟨gb266, _, none⟩) NB282_266.out _).trans (((cell_far (p := ⟨gb266, _, none⟩) NB282_266.out _).trans (((cell_far (p := ⟨gb266, _, none⟩) NB282_266.out _).trans (((cell_far (p := ⟨gb266, _, none⟩) NB282_266.out _).trans (((cell_far (p := ⟨gb266, _, none⟩) NB282_266.out _).trans (((cell_far (p := ⟨gb266, _, none⟩) NB282_266.out _).trans (((cell_far (p := ⟨gb266, _, none⟩) NB282_266.out _).trans (hHeld.2.2.1)))))))))))))))))), ((cell_far (p := ⟨gb266, _, none⟩) NB282_266.out _).trans (((cell_far (p := ⟨gb266, _, none⟩) NB282_266.out _).trans (((cell_far (p := ⟨gb266, _, none⟩) NB282_266.out _).trans (((cell_far (p := ⟨gb266, _, none⟩) NB282_266.out _).trans (((cell_far (p := ⟨gb266, _, none⟩) NB282_266.out _).trans (((cell_far (p := ⟨gb266, _, none⟩) NB282_266.out _).trans (((cell_far (p := ⟨gb266, _, none⟩) NB282_266.out _).trans (((cell_far (p := ⟨gb266, _, none⟩) NB282_266.out _).trans (((cell_far (p := ⟨gb266, _, none⟩) NB282_266.out _).trans (hHeld.2.2.2.1)))))))))))))))))), ((cell_far (p := ⟨gb266, _, none⟩) NB282_266.out _).trans (((cell_far (p := ⟨gb266, _, none⟩) NB282_266.out _).trans (((cell_far (p := ⟨gb266, _, none⟩) NB282_266.out _).trans (((cell_far (p := ⟨gb266, _, none⟩) NB282_266.out _).trans (((cell_far (p := ⟨gb266, _, none⟩) NB282_266.out _).trans (((cell_far (p := ⟨gb266, _, none⟩) NB282_266.out _).trans (((cell_far (p := ⟨gb266, _, none⟩) NB282_266.out _).trans (((cell_far (p := ⟨gb266, _, none⟩) NB282_266.out _).trans (((cell_far (p := ⟨gb266, _, none⟩) NB282_266.out _).trans (hHeld.2.2.2.2.1)))))))))))))))))), ((cell_far (p := ⟨gb266, _, none⟩) NB282_266.out _).trans (((cell_far (p := ⟨gb266, _, none⟩) NB282_266.out _).trans (((cell_far (p := ⟨gb266, _, none⟩) NB282_266.out _).trans (((cell_far (p := ⟨gb266, _, none⟩) NB282_266.out _).trans (((cell_far (p := ⟨gb266, _, none⟩) NB282_266.out _).trans (((cell_far (p := ⟨gb266, _, none⟩) NB282_266.out _).trans (((cell_far (p := ⟨gb266, _, none⟩) NB282_266.out _).trans (((cell_far (p := ⟨gb266, _, none⟩) NB282_266.out _).trans (((cell_far (p := ⟨gb266, _, none⟩) NB282_266.out _).trans (hHeld.2.2.2.2.2.1)))))))))))))))))), ((cell_far (p := ⟨gb266, _, none⟩) NB282_266.out _).trans (((cell_far (p := ⟨gb266, _, none⟩) NB282_266.out _).trans (((cell_far (p := ⟨gb266, _, none⟩) NB282_266.out _).trans (((cell_far (p := ⟨gb266, _, none⟩) NB282_266.out _).trans (((cell_far (p := ⟨gb266, _, none⟩) NB282_266.out _).trans (((cell_far (p := ⟨gb266, _, none⟩) NB282_266.out _).trans (((cell_far (p := ⟨gb266, _, none⟩) NB282_266.out _).trans (((cell_far (p := ⟨gb266, _, none⟩) NB282_266.out _).trans (((cell_far (p := ⟨gb266, _, none⟩) NB282_266.out _).trans (hHeld.2.2.2.2.2.2.1)))))))))))))))))), ((cell_far (p := ⟨gb266, _, none⟩) NB282_266.out _).trans (((cell_far (p := ⟨gb266, _, none⟩) NB282_266.out _).trans (((cell_far (p := ⟨gb266, _, none⟩) NB282_266.out _).trans (((cell_far (p := ⟨gb266, _, none⟩) NB282_266.out _).trans (((cell_far (p := ⟨gb266, _, none⟩) NB282_266.out _).trans (((cell_far (p := ⟨gb266, _, none⟩) NB282_266.out _).trans (((cell_far (p := ⟨gb266, _, none⟩) NB282_266.out _).trans (((cell_far (p := ⟨gb266, _, none⟩) NB282_266.out _).trans (((cell_far (p := ⟨gb266, _, none⟩) NB282_266.out _).trans (hHeld.2.2.2.2.2.2.2.1)))))))))))))))))), ((cell_far (p := ⟨gb266, _, none⟩) NB282_266.out _).trans (((cell_far (p := ⟨gb266, _, none⟩) NB282_266.out _).trans (((cell_far (p := ⟨gb266, _, none⟩) NB282_266.out _).trans (((cell_far (p := ⟨gb266, _, none⟩) NB282_266.out _).trans (((cell_far (p := ⟨gb266, _, none⟩) NB282_266.out _).trans (((cell_far (p := ⟨gb266, _, none⟩) NB282_266.out _).trans (((cell_far (p := ⟨gb266, _, none⟩) NB282_266.out _).trans (((cell_far (p := ⟨gb266, _, none⟩) NB282_266.out _).trans (((cell_far (p := ⟨gb266, _, none⟩) NB282_266.out _).trans (hHeld.2.2.2.2.2.2.2.2))))))))))))))))))⟩ (fun hHeld => ?_)
           clear hK K
           refine pure_ (i := 6) (N := some 6) (v := ?_) (a' := ?_) #[t8, t8, t8, t8, t8, t8, t8] rfl rfl (by kernel_rfl) (fun _ _ _ h => h) (Or.inl ⟨by rfl, ?_⟩) ?_ ?_
           rotate_left
           ·
            intro w'
            go_simp
            with_reducible rfl
           rotate_left
           ·
            simp only [Act.put, List.setIfInBounds_toArray, List.set_cons_zero, List.set_cons_succ, i64_w, i32_w]
            rfl
           refine done_ (by kernel_rfl) ?_
           try go_wp2
           go_roundg k2
           case measure => have := HJ2.out; have := HK2.out; omega
           case rel => exact ⟨(y283), (wrap64 (x22_2 + 1)), (t272), (t273), (t274), (t275), (t276), (t277), (t278), (t279), (t280), (by first | rfl | (simp; done) | (simp [*]; done)), H', ⟨by have := HJ2.out; have := HK2.out; omega⟩, ⟨by (with_reducible repeat (first | apply Kd.R_alloc | apply Kd.R_drewN | apply Kd.R_drew)); exact Kd.R_mono (Kd.R_far (p := ⟨gb266, 8, none⟩) (Kd.R_far (p := ⟨gb266, 7, none⟩) (Kd.R_far (p := ⟨gb266, 6, none⟩) (Kd.R_far (p := ⟨gb266, 5, none⟩) (Kd.R_far (p := ⟨gb266, 4, none⟩) (Kd.R_far (p := ⟨gb266, 3, none⟩) (Kd.R_far (p := ⟨gb266, 2, none⟩) (Kd.R_far (p := ⟨gb266, 1, none⟩) (Kd.R_far (p := ⟨gb266, 0, none⟩) (Kd.R_mono HO285.out (fun k_ hk => (⟨hk, hk.1⟩ : _ ∧ k_ ≠ gb266))) (fun _ hk => hk.2) (.int .i64 t272)) (fun _ hk => hk.2) (.int .i64 t273)) (fun _ hk => hk.2) (.int .i64 t274)) (fun _ hk => hk.2) (.int .i64 t275)) (fun _ hk => hk.2) (.int .i64 t276)) (fun _ hk => hk.2) (.int .i64 t277)) (fun _ hk => hk.2) (.int .i64 t278)) (fun _ hk => hk.2) (.int .i64 t279)) (fun _ hk => hk.2) (.bool t280)) (fun _ hk => hk.1.1)⟩, ⟨by (with_reducible repeat (first | refine blk_drewN ?_ _ | refine blk_drew ?_ | refine blk_alloc ?_ _)); refine blk_put (cs := #[.int .i64 t272, .int .i64 t273, .int .i64 t274, .int .i64 t275, .int .i64 t276, .int .i64 t277, .int .i64 t278, .int .i64 t279, .bool x267008_2]) ?_ 8 _ rfl; (with_reducible repeat (first | refine blk_drewN ?_ _ | refine blk_drew ?_ | refine blk_alloc ?_ _)); refine blk_put (cs := #[.int .i64 t272, .int .i64 t273, .int .i64 t274, .int .i64 t275, .int .i64 t276, .int .i64 t277, .int .i64 t278, .int .i64 x267007_2, .bool x267008_2]) ?_ 7 _ rfl; (with_reducible repeat (first | refine blk_drewN ?_ _ | refine blk_drew ?_ | refine blk_alloc ?_ _)); refine blk_put (cs := #[.int .i64 t272, .int .i64 t273, .int .i64 t274, .int .i64 t275, .int .i64 t276, .int .i64 t277, .int .i64 x267006_2, .int .i64 x267007_2, .bool x267008_2]) ?_ 6 _ rfl; (with_reducible repeat (first | refine blk_drewN ?_ _ | refine blk_drew ?_ | refine blk_alloc ?_ _)); refine blk_put (cs := #[.int .i64 t272, .int .i64 t273, .int .i64 t274, .int .i64 t275, .int .i64 t276, .int .i64 x267005_2, .int .i64 x267006_2, .int .i64 x267007_2, .bool x267008_2]) ?_ 5 _ rfl; (with_reducible repeat (first | refine blk_drewN ?_ _ | refine blk_drew ?_ | refine blk_alloc ?_ _)); refine blk_put (cs := #[.int .i64 t272, .int .i64 t273, .int .i64 t274, .int .i64 t275, .int .i64 x267004_2, .int .i64 x267005_2, .int .i64 x267006_2, .int .i64 x267007_2, .bool x267008_2]) ?_ 4 _ rfl; (with_reducible repeat (first | refine blk_drewN ?_ _ | refine blk_drew ?_ | refine blk_alloc ?_ _)); refine blk_put (cs := #[.int .i64 t272, .int .i64 t273, .int .i64 t274, .int .i64 x267003_2, .int .i64 x267004_2, .int .i64 x267005_2, .int .i64 x267006_2, .int .i64 x267007_2, .bool x267008_2]) ?_ 3 _ rfl; (with_reducible repeat (first | refine blk_drewN ?_ _ | refine blk_drew ?_ | refine blk_alloc ?_ _)); refine blk_put (cs := #[.int .i64 t272, .int .i64 t273, .int .i64 x267002_2, .int .i64 x267003_2, .int .i64 x267004_2, .int .i64 x267005_2, .int .i64 x267006_2, .int .i64 x267007_2, .bool x267008_2]) ?_ 2 _ rfl; (with_reducible repeat (first | refine blk_drewN ?_ _ | refine blk_drew ?_ | refine blk_alloc ?_ _)); refine blk_put (cs := #[.int .i64 t272, .int .i64 x267001_2, .int .i64 x267002_2, .int .i64 x267003_2, .int .i64 x267004_2, .int .i64 x267005_2, .int .i64 x267006_2, .int .i64 x267007_2, .bool x267008_2]) ?_ 1 _ rfl; (with_reducible repeat (first | refine blk_drewN ?_ _ | refine blk_drew ?_ | refine blk_alloc ?_ _)); refine blk_put (cs := #[.int .i64 x267000_2, .int .i64 x267001_2, .int .i64 x267002_2, .int .i64 x267003_2, .int .i64 x267004_2, .int .i64 x267005_2, .int .i64 x267006_2, .int .i64 x267007_2, .bool x267008_2]) ?_ 0 _ rfl; (with_reducible repeat (first | refine blk_drewN ?_ _ | refine blk_drew ?_ | refine blk_alloc ?_ _)); exact BK266.out⟩, ⟨by repeat (first | (with_reducible first | exact HB.out | apply below_alloc | apply pw_below_drewN | apply below_drew1 | refine below_set ?_ GE266.out | refine below_set ?_ GE282.out) | exact HB.out)⟩⟩
          ·
           rw [if_neg c19] at H
           exact absurd H (by simp)
         ·
          replace c18 := Bool.eq_false_iff.mpr c18
          subst c18
          have H1 : (some (([] : List (S25)), false)) = some (r1, r2) := by rw [if_neg (show ¬ (false = true) by decide)] at H; exact H
          clear H
          have H := H1
          clear H1
          simp only [Option.some.injEq, Prod.mk.injEq] at H
          obtain ⟨rfl, rfl⟩ := H
          have p271 : 0 ≤ (x22_2 : Int) := of_decide_eq_true (by first | (with_reducible assumption) | assumption)
          have q271 : x22_2 < (l1.length : Int) := of_decide_eq_true (by first | (with_reducible assumption) | assumption)
          obtain ⟨ad271, e271, hx271_0⟩ := Kd.at_int HR1.out x22_2 p271 q271
          cases e271
          replace hx271_0 := (HB.out.cell (World.block_lt_of_cell? w _ hx271_0)).trans hx271_0
          replace p271 := eq_true p271
          replace q271 := eq_true q271
          have hcz37_0 : wr.cell? ⟨gb266, 0, none⟩ = some (.int .i64 x267000_2) := (blk_cell BK266.out 0).trans rfl
          have hcz37_1 : wr.cell? ⟨gb266, 1, none⟩ = some (.int .i64 x267001_2) := (blk_cell BK266.out 1).trans rfl
          have hcz37_2 : wr.cell? ⟨gb266, 2, none⟩ = some (.int .i64 x267002_2) := (blk_cell BK266.out 2).trans rfl
          have hcz37_3 : wr.cell? ⟨gb266, 3, none⟩ = some (.int .i64 x267003_2) := (blk_cell BK266.out 3).trans rfl
          have hcz37_4 : wr.cell? ⟨gb266, 4, none⟩ = some (.int .i64 x267004_2) := (blk_cell BK266.out 4).trans rfl
          have hcz37_5 : wr.cell? ⟨gb266, 5, none⟩ = some (.int .i64 x267005_2) := (blk_cell BK266.out 5).trans rfl
          have hcz37_6 : wr.cell? ⟨gb266, 6, none⟩ = some (.int .i64 x267006_2) := (blk_cell BK266.out 6).trans rfl
          have hcz37_7 : wr.cell? ⟨gb266, 7, none⟩ = some (.int .i64 x267007_2) := (blk_cell BK266.out 7).trans rfl
          have hcz37_8 : wr.cell? ⟨gb266, 8, none⟩ = some (.bool x267008_2) := (blk_cell BK266.out 8).trans rfl
          have hfz37_0 := blk_frozen BK266.out 0
          have hfz37_1 := blk_frozen BK266.out 1
          have hfz37_2 := blk_frozen BK266.out 2
          have hfz37_3 := blk_frozen BK266.out 3
          have hfz37_4 := blk_frozen BK266.out 4
          have hfz37_5 := blk_frozen BK266.out 5
          have hfz37_6 := blk_frozen BK266.out 6
          have hfz37_7 := blk_frozen BK266.out 7
          have hfz37_8 := blk_frozen BK266.out 8
          go_wp2_with (first | ((with_reducible refine gate_callee (f := 18) rfl ?_); refine goesL_ (some 29) rfl rfl Try.func18 (by kernel_rfl) rfl #[.agg #[.int .i64 x267000_2, .int .i64 x267001_2, .int .i64 x267002_2, .int .i64 x267003_2, .int .i64 x267004_2, .int .i64 x267005_2, .int .i64 x267006_2, .int .i64 x267007_2, .bool x267008_2], .int .i64 (rd l1 x22_2)] rfl (by (try simp only [List.map_toArray, List.map_cons, List.map_nil]); first | done | rfl | (simp only [List.length_drop, List.length_take]; rfl)) ?_; (with_reducible refine (impl_PilotTick.calls k2 x267000_2 x267001_2 x267002_2 x267003_2 x267004_2 x267005_2 x267006_2 x267007_2 x267008_2 (rd l1 x22_2) t272 t273 t274 t275 t276 t277 t278 t279 t280 false _ A17.out).mono ?_); rintro e w38 ⟨rfl, hb⟩; refine ⟨_, rfl, ?_⟩; have n0_ := Aside0.mk (Kd.R_below (by (with_reducible repeat (first | apply Kd.R_alloc | apply Kd.R_drewN | apply Kd.R_drew)); exact HO_6.out) hb); have n1_ := Aside0.mk (blk_below (g := gb266) (o := .cells #[.int .i64 x267000_2, .int .i64 x267001_2, .int .i64 x267002_2, .int .i64 x267003_2, .int .i64 x267004_2, .int .i64 x267005_2, .int .i64 x267006_2, .int .i64 x267007_2, .bool x267008_2] 25 (0, 0)) (by (with_reducible repeat (first | refine blk_drewN ?_ _ | refine blk_drew ?_ | refine blk_alloc ?_ _)); exact BK266.out) hb); have n2_ := Aside0.mk (below_step (by repeat (first | (with_reducible first | exact HB.out | apply below_alloc | apply pw_below_drewN | apply below_drew1 | refine below_set ?_ GE266.out) | exact HB.out)) hb); clear HO_6; clear BK266; clear HB; have HO_6 := n0_; have BK266 := n1_; have HB := n2_; clear n0_ n1_ n2_; (try clear hb); (try clear hb2); (try clear hk); (try clear hi)) | ((with_reducible refine gate_dst (N := 9) rfl ?_); (try (refine gate_guard (by rfl) ?_; dsimp only)); refine box_event ?hg (N := 9) ?hd (cs := #[.int .i64 0, .int .i64 0, .int .i64 0, .int .i64 0, .int .i64 0, .int .i64 0, .int .i64 0, .int .i64 0, .bool false]) (t := 25) ?hr ?_; (case hd => rfl); (case hg => rfl); (case hr => first | (go_simp; done) | (go_simp; rfl)); intro gb282 hg w39 hbox hb; have n0_ := Aside0.mk (Kd.R_below (Kd.R_elderB (by (with_reducible repeat (first | apply Kd.R_alloc | apply Kd.R_drewN | apply Kd.R_drew)); exact HO_6.out) gb282 (Nat.le_of_eq hg.symm)) hb); have n1_ := Aside0.mk (blk_below (g := gb266) (o := .cells #[.int .i64 x267000_2, .int .i64 x267001_2, .int .i64 x267002_2, .int .i64 x267003_2, .int .i64 x267004_2, .int .i64 x267005_2, .int .i64 x267006_2, .int .i64 x267007_2, .bool x267008_2] 25 (0, 0)) (by (with_reducible repeat (first | refine blk_drewN ?_ _ | refine blk_drew ?_ | refine blk_alloc ?_ _)); exact BK266.out) hb); have n2_ := Aside0.mk (below_step (by repeat (first | (with_reducible first | exact HB.out | apply below_alloc | apply pw_below_drewN | apply below_drew1 | refine below_set ?_ GE266.out) | exact HB.out)) hb); have n3_ := Aside0.mk (hbox); have n4_ := Aside0.mk ((by rw [hg]; exact (below_size (by repeat (first | (with_reducible first | exact HB.out | apply below_alloc | apply pw_below_drewN | apply below_drew1 | refine below_set ?_ GE266.out) | exact HB.out))) : w.heap.size ≤ gb282)); have n5_ := Aside0.mk ((by rw [hg]; exact (below_size (by repeat (first | (with_reducible first | exact HB.out | apply below_alloc | apply pw_below_drewN | apply below_drew1 | refine below_set ?_ GE266.out) | exact HB.out))) : w.heap.size ≤ gb282)); have n6_ := Aside0.mk ((by rw [hg]; exact Nat.ne_of_lt (blk_lt (g := gb266) (o := .cells #[.int .i64 x267000_2, .int .i64 x267001_2, .int .i64 x267002_2, .int .i64 x267003_2, .int .i64 x267004_2, .int .i64 x267005_2, .int .i64 x267006_2, .int .i64 x267007_2, .bool x267008_2] 25 (0, 0)) (by (with_reducible repeat (first | refine blk_drewN ?_ _ | refine blk_drew ?_ | refine blk_alloc ?_ _)); exact BK266.out)) : gb266 ≠ gb282)); have n7_ := Aside0.mk ((by rw [hg]; exact Nat.ne_of_gt (blk_lt (g := gb266) (o := .cells #[.int .i64 x267000_2, .int .i64 x267001_2, .int .i64 x267002_2, .int .i64 x267003_2, .int .i64 x267004_2, .int .i64 x267005_2, .int .i64 x267006_2, .int .i64 x267007_2, .bool x267008_2] 25 (0, 0)) (by (with_reducible repeat (first | refine blk_drewN ?_ _ | refine blk_drew ?_ | refine blk_alloc ?_ _)); exact BK266.out)) : gb282 ≠ gb266)); clear HO_6; clear BK266; clear HB; have HO_6 := n0_; have BK266 := n1_; have HB := n2_; have BK282 := n3_; have GW282 := n4_; have GE282 := n5_; have NB266_282 := n6_; have NB282_266 := n7_; clear n0_ n1_ n2_ n3_ n4_ n5_ n6_ n7_; clear hb hbox hg; have hnb40 := NB282_266.out; have hnc40 := NB266_282.out; have hcz41_0 : w39.cell? ⟨gb282, 0, none⟩ = some (.int .i64 0) := (blk_cell BK282.out 0).trans rfl; have hcz41_1 : w39.cell? ⟨gb282, 1, none⟩ = some (.int .i64 0) := (blk_cell BK282.out 1).trans rfl; have hcz41_2 : w39.cell? ⟨gb282, 2, none⟩ = some (.int .i64 0) := (blk_cell BK282.out 2).trans rfl; have hcz41_3 : w39.cell? ⟨gb282, 3, none⟩ = some (.int .i64 0) := (blk_cell BK282.out 3).trans rfl; have hcz41_4 : w39.cell? ⟨gb282, 4, none⟩ = some (.int .i64 0) := (blk_cell BK282.out 4).trans rfl; have hcz41_5 : w39.cell? ⟨gb282, 5, none⟩ = some (.int .i64 0) := (blk_cell BK282.out 5).trans rfl; have hcz41_6 : w39.cell? ⟨gb282, 6, none⟩ = some (.int .i64 0) := (blk_cell BK282.out 6).trans rfl; have hcz41_7 : w39.cell? ⟨gb282, 7, none⟩ = some (.int .i64 0) := (blk_cell BK282.out 7).trans rfl; have hcz41_8 : w39.cell? ⟨gb282, 8, none⟩ = some (.bool false) := (blk_cell BK282.out 8).trans rfl; have hfz41_0 := blk_frozen BK282.out 0; have hfz41_1 := blk_frozen BK282.out 1; have hfz41_2 := blk_frozen BK282.out 2; have hfz41_3 := blk_frozen BK282.out 3; have hfz41_4 := blk_frozen BK282.out 4; have hfz41_5 := blk_frozen BK282.out 5; have hfz41_6 := blk_frozen BK282.out 6; have hfz41_7 := blk_frozen BK282.out 7; have hfz41_8 := blk_frozen BK282.out 8))
          go_ret2
          exact ⟨_, by first | rfl | (simp [errW_none, errW_some] <;> rfl) | (simp [*, errW_none, errW_some] <;> rfl), by first | exact Kd.R_nil _ _ _ _ _ | exact Kd.N_nil _ _ _ _ _ | exact Kd.V_nil _ _ _ _ _ | exact Kd.Q_nil _ _ _ _ _ | exact Kd.S_nil _ _ _ _ _, by repeat (first | (with_reducible first | exact HB.out | apply below_alloc | apply pw_below_drewN | apply below_drew1 | refine below_set ?_ GE266.out | refine below_set ?_ GE282.out) | exact HB.out)⟩
        ·
         rw [if_neg c16] at H
         exact absurd H (by simp)
       ·
        rw [if_neg c15] at H
        exact absurd H (by simp)
      ·
       rw [if_neg c14] at H
       have c14b0 : decide (x22_2 < (l1.length : Int)) = false := decide_eq_false c14
       clear c14
       simp only [Option.some.injEq, Prod.mk.injEq] at H
       obtain ⟨rfl, rfl⟩ := H
       go_wp2
       go_ret2
       exact ⟨_, by first | rfl | (simp [errW_none, errW_some] <;> rfl) | (simp [*, errW_none, errW_some] <;> rfl), by (with_reducible repeat (first | apply Kd.R_alloc | apply Kd.R_drewN | apply Kd.R_drew)); exact Kd.R_mono HO_6.out (fun _ hk => trivial), by repeat (first | (with_reducible first | exact HB.out | apply below_alloc | apply pw_below_drewN | apply below_drew1 | refine below_set ?_ GE266.out) | exact HB.out)⟩

end Go.Proofs.Ytdodiflcmjbfdaa.PFnTurned
