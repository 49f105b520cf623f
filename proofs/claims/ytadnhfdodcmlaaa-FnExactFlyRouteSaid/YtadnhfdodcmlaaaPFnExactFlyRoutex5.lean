/- Walks of the functions named below, by a program of the session over the kit's printer. -/
import Derived.Test.YtadnhfdodcmlaaaPFnExactFlyRoutex0
import Derived.Test.YtadnhfdodcmlaaaPFnExactFlyRoutex4
namespace Go.Proofs.Ytadnhfdodcmlaaa.PFnExactFlyRoute
open Go.RowKit Go.Proofs.YtadnhfdodcmlaaaW.PrintWords Go.Proofs.YtadnhfdodcmlaaaW.PrintLast Go.Proofs.YtadnhfdodcmlaaaW.PrintMore
attribute [local go_sem] max2_int min2_int max_two min_two max_three min_three max_four min_four   -- for this text's walks alone
set_option linter.unusedVariables false
set_option linter.unusedSimpArgs false
abbrev t5 : Bool := true
abbrev f5 : Bool := false
abbrev A5_0 : Array Bool := #[f5, f5, f5, f5, f5, f5, f5, f5, f5, f5, f5, f5, f5, f5]
abbrev A5_1 : Array Bool := #[f5, t5, f5, f5, f5, f5, f5, f5, f5, f5, f5, f5, f5, f5]
abbrev A5_2 : Array Bool := #[f5, t5, t5, f5, f5, f5, f5, f5, f5, f5, f5, f5, f5, f5]
abbrev A5_3 : Array Bool := #[f5, t5, t5, t5, f5, f5, f5, f5, f5, f5, f5, f5, f5, f5]
abbrev A5_4 : Array Bool := #[t5, t5, t5, t5, f5, f5, f5, f5, f5, f5, f5, f5, f5, f5]
abbrev A5_5 : Array Bool := #[t5, t5, t5, t5, t5, f5, f5, f5, f5, f5, f5, f5, f5, f5]
abbrev A5_6 : Array Bool := #[t5, t5, t5, t5, t5, t5, t5, t5, t5, t5, t5, f5, f5, f5]
abbrev A5_7 : Array Bool := #[t5, t5, t5, t5, t5, t5, f5, f5, f5, f5, f5, f5, f5, f5]
abbrev A5_8 : Array Bool := #[t5, t5, t5, t5, t5, f5, f5, f5, f5, f5, t5, f5, f5, f5]
abbrev A5_9 : Array Bool := #[t5, t5, t5, t5, t5, t5, t5, f5, f5, f5, f5, f5, f5, f5]
abbrev A5_10 : Array Bool := #[t5, t5, t5, t5, t5, t5, t5, t5, f5, f5, f5, f5, f5, f5]
abbrev A5_11 : Array Bool := #[t5, t5, t5, t5, t5, t5, t5, t5, t5, f5, f5, f5, f5, f5]
abbrev A5_12 : Array Bool := #[t5, t5, t5, t5, t5, t5, t5, t5, t5, t5, f5, f5, f5, f5]
abbrev A5_13 : Array Bool := #[t5, t5, t5, t5, t5, t5, f5, f5, f5, f5, t5, f5, f5, f5]
abbrev A5_14 : Array Bool := #[t5, t5, t5, t5, t5, t5, t5, f5, f5, f5, t5, f5, f5, f5]
abbrev A5_15 : Array Bool := #[t5, t5, t5, t5, t5, t5, t5, t5, f5, f5, t5, f5, f5, f5]
abbrev A5_16 : Array Bool := #[t5, t5, t5, t5, t5, t5, t5, t5, t5, f5, t5, f5, f5, f5]
abbrev A5_17 : Array Bool := #[t5, t5, t5, t5, t5, t5, t5, t5, t5, t5, t5, t5, f5, f5]
abbrev A5_18 : Array Bool := #[t5, t5, t5, t5, t5, t5, t5, t5, t5, t5, t5, t5, t5, f5]
abbrev A5_19 : Array Bool := #[t5, t5, t5, t5, t5, t5, t5, t5, t5, t5, t5, t5, t5, t5]

/-! ### spec_FlyRoute: function 17 -/
mutual
def spec_FlyRoute.l0 : Nat → List (S31) → List Int → Int → Int → Int → Int → Int → Int → Int → Option (Int × Int × Int × Int × Int × List Int × Int)
 | 0, _, _, _, _, _, _, _, _, _ => none
 | k + 1, x1, x7, x8, x9, x192000, x192001, x192002, x192003, x192004 => if x9 < (x1.length : Int) then (if 0 ≤ x9 then ((spec_FlyLeg.f k x192000 x192001 x192002 x192003 x192004 ((rd_T31 x1 x9).f0) ((rd_T31 x1 x9).f1) ((rd_T31 x1 x9).f2) ((rd_T31 x1 x9).f3)).bind fun bt197 => (if bt197.2.2.2.2.2.2 = 0 then (spec_FlyRoute.j1 k x1 x7 x8 x9 bt197.2.2.2.2.2.1 bt197.2.2.2.2.2.2 (decide ((wrap64 (x8 + bt197.2.2.2.2.2.1)) > 2000)) x192000 x192001 x192002 x192003 x192004 bt197.1 bt197.2.1 bt197.2.2.1 bt197.2.2.2.1 bt197.2.2.2.2.1) else (spec_FlyRoute.j1 k x1 x7 x8 x9 bt197.2.2.2.2.2.1 bt197.2.2.2.2.2.2 false x192000 x192001 x192002 x192003 x192004 bt197.1 bt197.2.1 bt197.2.2.1 bt197.2.2.2.1 bt197.2.2.2.2.1))) else (none)) else (some (x192000, x192001, x192002, x192003, x192004, x7, 0))
def spec_FlyRoute.j1 : Nat → List (S31) → List Int → Int → Int → Int → Int → Bool → Int → Int → Int → Int → Int → Int → Int → Int → Int → Int → Option (Int × Int × Int × Int × Int × List Int × Int)
 | 0, _, _, _, _, _, _, _, _, _, _, _, _, _, _, _, _, _ => none
 | k + 1, x1, x7, x8, x9, x11, x12, x42, x192000, x192001, x192002, x192003, x192004, x205000, x205001, x205002, x205003, x205004 => if x42 = true then (if 2 = 0 then (if x7.length < 17592186044416 then (spec_FlyRoute.l0 k x1 (x7 ++ [x11]) (wrap64 (x8 + x11)) (wrap64 (x9 + 1)) x205000 x205001 x205002 x205003 x205004) else (none)) else (some (x192000, x192001, x192002, x192003, x192004, x7, 2))) else (if x12 = 0 then (if x7.length < 17592186044416 then (spec_FlyRoute.l0 k x1 (x7 ++ [x11]) (wrap64 (x8 + x11)) (wrap64 (x9 + 1)) x205000 x205001 x205002 x205003 x205004) else (none)) else (some (x192000, x192001, x192002, x192003, x192004, x7, x12)))
end
def spec_FlyRoute.f (k : Nat) (a0_0 : Int) (a0_1 : Int) (a0_2 : Int) (a0_3 : Int) (a0_4 : Int) (l1 : List (S31)) : Option (Int × Int × Int × Int × Int × List Int × Int) := (some (([] : List Int) : List Int)).bind fun y193 => (if (l1.length : Int) > 30 then (some (a0_0, a0_1, a0_2, a0_3, a0_4, y193, 1)) else (spec_FlyRoute.l0 k l1 y193 0 0 a0_0 a0_1 a0_2 a0_3 a0_4))
theorem spec_FlyRoute.mono_l : ∀ k, (∀ y0 y1 y2 y3 y4 y5 y6 y7 y8, LeO (spec_FlyRoute.l0 k y0 y1 y2 y3 y4 y5 y6 y7 y8) (spec_FlyRoute.l0 (k + 1) y0 y1 y2 y3 y4 y5 y6 y7 y8)) ∧ (∀ y0 y1 y2 y3 y4 y5 y6 y7 y8 y9 y10 y11 y12 y13 y14 y15 y16, LeO (spec_FlyRoute.j1 k y0 y1 y2 y3 y4 y5 y6 y7 y8 y9 y10 y11 y12 y13 y14 y15 y16) (spec_FlyRoute.j1 (k + 1) y0 y1 y2 y3 y4 y5 y6 y7 y8 y9 y10 y11 y12 y13 y14 y15 y16))
 | 0 => ⟨fun _ _ _ _ _ _ _ _ _ r h => by simp [spec_FlyRoute.l0] at h, fun _ _ _ _ _ _ _ _ _ _ _ _ _ _ _ _ _ r h => by simp [spec_FlyRoute.j1] at h⟩
 | k + 1 => by
  obtain ⟨ih0, ih1⟩ := spec_FlyRoute.mono_l k
  refine ⟨?_, ?_⟩
  ·
   intro y0 y1 y2 y3 y4 y5 y6 y7 y8
   unfold spec_FlyRoute.l0
   repeat' first
   | (with_reducible exact ih0 _ _ _ _ _ _ _ _ _)
   | (with_reducible exact ih1 _ _ _ _ _ _ _ _ _ _ _ _ _ _ _ _ _)
   | (with_reducible exact spec_FlyLeg.mono _ _ _ _ _ _ _ _ _ _)
   | (with_reducible exact LeO.refl _)
   | (with_reducible exact LeO.none _)
   | (with_reducible refine LeO.ite ?_ ?_)
   | (with_reducible refine LeO.bind ?_ (fun _ => ?_))
   | exact ih0 _ _ _ _ _ _ _ _ _
   | exact ih1 _ _ _ _ _ _ _ _ _ _ _ _ _ _ _ _ _
   | exact spec_FlyLeg.mono _ _ _ _ _ _ _ _ _ _
   | exact LeO.none _
   | refine LeO.ite ?_ ?_
   | refine LeO.bind ?_ (fun _ => ?_)
  ·
   intro y0 y1 y2 y3 y4 y5 y6 y7 y8 y9 y10 y11 y12 y13 y14 y15 y16
   unfold spec_FlyRoute.j1
   repeat' first
   | (with_reducible exact ih0 _ _ _ _ _ _ _ _ _)
   | (with_reducible exact ih1 _ _ _ _ _ _ _ _ _ _ _ _ _ _ _ _ _)
   | (with_reducible exact spec_FlyLeg.mono _ _ _ _ _ _ _ _ _ _)
   | (with_reducible exact LeO.refl _)
   | (with_reducible exact LeO.none _)
   | (with_reducible refine LeO.ite ?_ ?_)
   | (with_reducible refine LeO.bind ?_ (fun _ => ?_))
   | exact ih0 _ _ _ _ _ _ _ _ _
   | exact ih1 _ _ _ _ _ _ _ _ _ _ _ _ _ _ _ _ _
   | exact spec_FlyLeg.mono _ _ _ _ _ _ _ _ _ _
   | exact LeO.none _
   | refine LeO.ite ?_ ?_
   | refine LeO.bind ?_ (fun _ => ?_)
theorem spec_FlyRoute.mono : ∀ a0 a1 a2 a3 a4 a5 k, LeO (spec_FlyRoute.f k a0 a1 a2 a3 a4 a5) (spec_FlyRoute.f (k + 1) a0 a1 a2 a3 a4 a5) := by
 intro a0 a1 a2 a3 a4 a5 k
 obtain ⟨ih0, ih1⟩ := spec_FlyRoute.mono_l k
 unfold spec_FlyRoute.f
 repeat' first
   | (with_reducible exact ih0 _ _ _ _ _ _ _ _ _)
   | (with_reducible exact ih1 _ _ _ _ _ _ _ _ _ _ _ _ _ _ _ _ _)
   | (with_reducible exact spec_FlyLeg.mono _ _ _ _ _ _ _ _ _ _)
   | (with_reducible exact LeO.refl _)
   | (with_reducible exact LeO.none _)
   | (with_reducible refine LeO.ite ?_ ?_)
   | (with_reducible refine LeO.bind ?_ (fun _ => ?_))
   | exact ih0 _ _ _ _ _ _ _ _ _
   | exact ih1 _ _ _ _ _ _ _ _ _ _ _ _ _ _ _ _ _
   | exact spec_FlyLeg.mono _ _ _ _ _ _ _ _ _ _
   | exact LeO.none _
   | refine LeO.ite ?_ ?_
   | refine LeO.bind ?_ (fun _ => ?_)
def spec_FlyRoute.T8 : Bool × List (List Nat × List Nat) := (true, [([], []), ([], []), ([], []), ([1, 2], [1, 2]), ([3], [3]), ([0, 4], [0, 4]), ([5], [5]), ([6], [6]), ([6], [6]), ([6], [6]), ([], []), ([10, 7, 5, 0, 1, 2, 3, 4, 5, 6, 7, 10], [7, 10]), ([8, 11, 0, 1, 2, 3, 4, 5, 6, 7, 8, 10, 11], [8]), ([9, 12, 0, 1, 2, 3, 4, 5, 6, 7, 8, 9, 10, 11, 12], [9])])
def spec_FlyRoute.B8 : List Nat := [0, 0, 0, 6, 14, 31, 63, 127, 127, 127, 0, 1279, 3583, 8191]
theorem spec_FlyRoute.tab8 : rtab .any (opsOf Try.f17 8) = spec_FlyRoute.T8 := by kernel_rfl
theorem spec_FlyRoute.bits8 : waitsOk spec_FlyRoute.T8.2 spec_FlyRoute.B8 = true := by kernel_rfl
set_option maxHeartbeats 8000000 in
set_option maxRecDepth 100000 in
theorem spec_FlyRoute.calls (k : Nat) (a0_0 : Int) (a0_1 : Int) (a0_2 : Int) (a0_3 : Int) (a0_4 : Int) (A1 : Option Addr) (c1 : Nat) (l1 : List (S31)) (r1 : Int) (r2 : Int) (r3 : Int) (r4 : Int) (r5 : Int) (r6 : List Int) (r7 : Int) (w : World) (hr1 : Kd.C k31 w A1 l1.length l1) (hc1 : l1.length ≤ c1) (h : spec_FlyRoute.f k a0_0 a0_1 a0_2 a0_3 a0_4 l1 = some (r1, r2, r3, r4, r5, r6, r7)) :
  Calls Try.prog 17 #[.agg #[.int .i64 a0_0, .int .i64 a0_1, .int .i64 a0_2, .int .i64 a0_3, .int .i64 a0_4], .slice A1 l1.length c1] w fun e w' => ∃ v5_ : Value, e = .returned (.tuple #[.agg #[.int .i64 r1, .int .i64 r2, .int .i64 r3, .int .i64 r4, .int .i64 r5], v5_, .int .i64 r7]) ∧ Kd.R (Kd.int .i64) 3 w' w.heap.size (fun _ => True) v5_ r6 ∧ Below w.heap.size w w' := by
 have hu25 := Try.underlying25
 have hu31 := Try.underlying31
 have HR1 := Aside0.mk hr1
 have HC1 := Aside0.mk hc1
 clear hr1 hc1
 have HB := Aside0.mk (Below.refl w.heap.size w)
 have H : ((some (([] : List Int) : List Int)).bind fun y193 => (if (l1.length : Int) > 30 then (some (a0_0, a0_1, a0_2, a0_3, a0_4, y193, 1)) else (spec_FlyRoute.l0 k l1 y193 0 0 a0_0 a0_1 a0_2 a0_3 a0_4))) = some (r1, r2, r3, r4, r5, r6, r7) := h
 clear h
 obtain ⟨y193, hy193⟩ : ∃ y_ : List Int, y_ = (([] : List Int)) := ⟨_, rfl⟩
 replace H : (if (l1.length : Int) > 30 then (some (a0_0, a0_1, a0_2, a0_3, a0_4, y193, 1)) else (spec_FlyRoute.l0 k l1 y193 0 0 a0_0 a0_1 a0_2 a0_3 a0_4)) = some (r1, r2, r3, r4, r5, r6, r7) := by first | (rw [hy193]; with_reducible exact H) | (have H2_ := (Option.bind_some _ _).symm.trans H; rw [hy193]; with_reducible exact H2_) | (have H2_ := (Option.bind_some _ _).symm.trans H; with_reducible exact H2_) | with_reducible exact H | (rw [hy193]; exact H) | exact H
 have Ny193 := Aside0.mk hy193
 clear hy193
 by_cases c3 : (l1.length : Int) > 30
 ·
  rw [if_pos c3] at H
  have c3b0 : decide (30 < (l1.length : Int)) = true := decide_eq_true c3
  have c3b1 : decide (30 < l1.length) = true := decide_eq_true (by omega)
  clear c3
  simp only [Option.some.injEq, Prod.mk.injEq] at H
  obtain ⟨rfl, rfl, rfl, rfl, rfl, rfl, rfl⟩ := H
  go_enter Try.func17, Try.ntmps17
  go_wp2_with (first | ((with_reducible refine gate_dst (N := 2) rfl ?_); refine box_event ?hg (N := 2) ?hd (cs := #[.int .i64 a0_0, .int .i64 a0_1, .int .i64 a0_2, .int .i64 a0_3, .int .i64 a0_4]) (t := 25) ?hr ?_; (case hd => rfl); (case hg => rfl); (case hr => first | (go_simp; done) | (go_simp; rfl)); intro gb191 hg w4 hbox hb; have n0_ := Aside0.mk (below_step (by repeat (first | (with_reducible first | exact HB.out | apply ba | apply bn | apply bd) | exact HB.out)) hb); have n1_ := Aside0.mk (hbox); have n2_ := Aside0.mk ((by rw [hg]; exact (below_size (by repeat (first | (with_reducible first | exact HB.out | apply ba | apply bn | apply bd) | exact HB.out))) : w.heap.size ≤ gb191)); have n3_ := n2_; clear HB; have HB := n0_; have BK191 := n1_; have GW191 := n2_; have GE191 := n3_; clear n0_ n1_ n2_ n3_; clear hb hbox hg) | ((with_reducible refine gate_dst (N := 4) rfl ?_); refine box_event ?hg (N := 4) ?hd (cs := #[.int .i64 0, .int .i64 0, .int .i64 0, .int .i64 0, .int .i64 0]) (t := 25) ?hr ?_; (case hd => rfl); (case hg => rfl); (case hr => first | (go_simp; done) | (go_simp; rfl)); intro gb192 hg w5 hbox hb; have n0_ := Aside0.mk (blk_below (g := gb191) (o := .cells #[.int .i64 a0_0, .int .i64 a0_1, .int .i64 a0_2, .int .i64 a0_3, .int .i64 a0_4] 25 (0, 0)) (by exact bu BK191.out) hb); have n1_ := Aside0.mk (below_step (by repeat (first | (with_reducible first | exact HB.out | apply ba | apply bn | apply bd | refine bt ?_ GE191.out) | exact HB.out)) hb); have n2_ := Aside0.mk (hbox); have n3_ := Aside0.mk ((by rw [hg]; exact (below_size (by repeat (first | (with_reducible first | exact HB.out | apply ba | apply bn | apply bd | refine bt ?_ GE191.out) | exact HB.out))) : w.heap.size ≤ gb192)); have n4_ := n3_; have n5_ := Aside0.mk ((by rw [hg]; exact Nat.ne_of_lt (blk_lt (g := gb191) (o := .cells #[.int .i64 a0_0, .int .i64 a0_1, .int .i64 a0_2, .int .i64 a0_3, .int .i64 a0_4] 25 (0, 0)) (by exact bu BK191.out)) : gb191 ≠ gb192)); have n6_ := Aside0.mk n5_.out.symm; clear BK191; clear HB; have BK191 := n0_; have HB := n1_; have BK192 := n2_; have GW192 := n3_; have GE192 := n4_; have NB191_192 := n5_; have NB192_191 := n6_; clear n0_ n1_ n2_ n3_ n4_ n5_ n6_; clear hb hbox hg) | ((with_reducible refine gate_dst (N := 13) rfl ?_); refine Kd.R_lit (Kd.int .i64) _ 3 ?hg (N := 13) ?hd (xs := ([] : List Int)) (inner := []) (ok := fun _ => True) (okp := fun _ => True) ?hr ?hp (fun _ hk => hk) trivial (Below.refl _ _) (Nat.le_refl _) (by simp) ?_; (case hd => rfl); (case hg => rfl); (case hr => first | (go_simp; done) | (go_simp; rfl)); (case hp => exact (Reps.none _ _)); intro v194 w6 ho7 hb hg_ hnew_; clear hg_ hnew_; (first | rw [← Ny193.out] at ho7 | (simp only [Int.reduceToNat] at ho7; rw [← Ny193.out] at ho7)); have n0_ := Aside0.mk (Kd.R_lower ho7 (below_size (by repeat (first | (with_reducible first | exact HB.out | apply ba | apply bn | apply bd | refine bt ?_ GE191.out | refine bt ?_ GE192.out) | exact HB.out)))); have n1_ := Aside0.mk (blk_below (g := gb191) (o := .cells #[.int .i64 a0_0, .int .i64 a0_1, .int .i64 a0_2, .int .i64 a0_3, .int .i64 a0_4] 25 (0, 0)) (by exact bu BK191.out) hb); have n2_ := Aside0.mk (blk_below (g := gb192) (o := .cells #[.int .i64 0, .int .i64 0, .int .i64 0, .int .i64 0, .int .i64 0] 25 (0, 0)) (by exact bu BK192.out) hb); have n3_ := Aside0.mk (below_step (by repeat (first | (with_reducible first | exact HB.out | apply ba | apply bn | apply bd | refine bt ?_ GE191.out | refine bt ?_ GE192.out) | exact HB.out)) hb); clear BK191; clear BK192; clear HB; have HO195 := n0_; have BK191 := n1_; have BK192 := n2_; have HB := n3_; clear n0_ n1_ n2_ n3_; clear hb ho7; have hnb8 := NB191_192.out; have hnc8 := NB192_191.out; have hcz9_0 : w6.cell? ⟨gb191, 0, none⟩ = some (.int .i64 a0_0) := (blk_cell BK191.out 0).trans rfl; have hcz9_1 : w6.cell? ⟨gb191, 1, none⟩ = some (.int .i64 a0_1) := (blk_cell BK191.out 1).trans rfl; have hcz9_2 : w6.cell? ⟨gb191, 2, none⟩ = some (.int .i64 a0_2) := (blk_cell BK191.out 2).trans rfl; have hcz9_3 : w6.cell? ⟨gb191, 3, none⟩ = some (.int .i64 a0_3) := (blk_cell BK191.out 3).trans rfl; have hcz9_4 : w6.cell? ⟨gb191, 4, none⟩ = some (.int .i64 a0_4) := (blk_cell BK191.out 4).trans rfl; have hfz9_0 := blk_frozen BK191.out 0; have hfz9_1 := blk_frozen BK191.out 1; have hfz9_2 := blk_frozen BK191.out 2; have hfz9_3 := blk_frozen BK191.out 3; have hfz9_4 := blk_frozen BK191.out 4; have hcz10_0 : w6.cell? ⟨gb192, 0, none⟩ = some (.int .i64 0) := (blk_cell BK192.out 0).trans rfl; have hcz10_1 : w6.cell? ⟨gb192, 1, none⟩ = some (.int .i64 0) := (blk_cell BK192.out 1).trans rfl; have hcz10_2 : w6.cell? ⟨gb192, 2, none⟩ = some (.int .i64 0) := (blk_cell BK192.out 2).trans rfl; have hcz10_3 : w6.cell? ⟨gb192, 3, none⟩ = some (.int .i64 0) := (blk_cell BK192.out 3).trans rfl; have hcz10_4 : w6.cell? ⟨gb192, 4, none⟩ = some (.int .i64 0) := (blk_cell BK192.out 4).trans rfl; have hfz10_0 := blk_frozen BK192.out 0; have hfz10_1 := blk_frozen BK192.out 1; have hfz10_2 := blk_frozen BK192.out 2; have hfz10_3 := blk_frozen BK192.out 3; have hfz10_4 := blk_frozen BK192.out 4))
  refine bodyPost_ret (results_ctt rfl _ _ gb192 25 #[.int .i64 a0_0, .int .i64 a0_1, .int .i64 a0_2, .int .i64 a0_3, .int .i64 a0_4] (0, 0) _ rfl (by refine bu ?_; refine blk_put (cs := #[.int .i64 a0_0, .int .i64 a0_1, .int .i64 a0_2, .int .i64 a0_3, .int .i64 0]) ?_ 4 _ rfl; refine bu ?_; refine blk_put (cs := #[.int .i64 a0_0, .int .i64 a0_1, .int .i64 a0_2, .int .i64 0, .int .i64 0]) ?_ 3 _ rfl; refine bu ?_; refine blk_put (cs := #[.int .i64 a0_0, .int .i64 a0_1, .int .i64 0, .int .i64 0, .int .i64 0]) ?_ 2 _ rfl; refine bu ?_; refine blk_put (cs := #[.int .i64 a0_0, .int .i64 0, .int .i64 0, .int .i64 0, .int .i64 0]) ?_ 1 _ rfl; refine bu ?_; refine blk_put (cs := #[.int .i64 0, .int .i64 0, .int .i64 0, .int .i64 0, .int .i64 0]) ?_ 0 _ rfl; refine bu ?_; exact BK192.out) Try.underlying25 rfl (by kernel_rfl)) rfl ?_
  exact ⟨_, by first | rfl | (simp [errW_none, errW_some] <;> rfl) | (simp [*, errW_none, errW_some] <;> rfl), by refine ru ?_; exact Kd.R_mono (Kd.R_far (p := ⟨gb192, 4, none⟩) (Kd.R_far (p := ⟨gb192, 3, none⟩) (Kd.R_far (p := ⟨gb192, 2, none⟩) (Kd.R_far (p := ⟨gb192, 1, none⟩) (Kd.R_far (p := ⟨gb192, 0, none⟩) (Kd.R_types HO195.out BK192.out (by decide)) (fun _ hk => hk.2) (.int .i64 a0_0)) (fun _ hk => hk.2) (.int .i64 a0_1)) (fun _ hk => hk.2) (.int .i64 a0_2)) (fun _ hk => hk.2) (.int .i64 a0_3)) (fun _ hk => hk.2) (.int .i64 a0_4)) (fun _ hk => trivial), by repeat (first | (with_reducible first | exact HB.out | apply ba | apply bn | apply bd | refine bt ?_ GE191.out | refine bt ?_ GE192.out) | exact HB.out)⟩
 ·
  rw [if_neg c3] at H
  have c3b0 : decide (30 < (l1.length : Int)) = false := decide_eq_false c3
  have c3b1 : decide (30 < l1.length) = false := decide_eq_false (by omega)
  clear c3
  have H' := Aside0.mk H
  clear H
  go_enter Try.func17, Try.ntmps17
  go_wp2_with (first | ((with_reducible refine gate_dst (N := 2) rfl ?_); refine box_event ?hg (N := 2) ?hd (cs := #[.int .i64 a0_0, .int .i64 a0_1, .int .i64 a0_2, .int .i64 a0_3, .int .i64 a0_4]) (t := 25) ?hr ?_; (case hd => rfl); (case hg => rfl); (case hr => first | (go_simp; done) | (go_simp; rfl)); intro gb191 hg w11 hbox hb; have n0_ := Aside0.mk (below_step (by repeat (first | (with_reducible first | exact HB.out | apply ba | apply bn | apply bd) | exact HB.out)) hb); have n1_ := Aside0.mk (hbox); have n2_ := Aside0.mk ((by rw [hg]; exact (below_size (by repeat (first | (with_reducible first | exact HB.out | apply ba | apply bn | apply bd) | exact HB.out))) : w.heap.size ≤ gb191)); have n3_ := n2_; clear HB; have HB := n0_; have BK191 := n1_; have GW191 := n2_; have GE191 := n3_; clear n0_ n1_ n2_ n3_; clear hb hbox hg) | ((with_reducible refine gate_dst (N := 4) rfl ?_); refine box_event ?hg (N := 4) ?hd (cs := #[.int .i64 0, .int .i64 0, .int .i64 0, .int .i64 0, .int .i64 0]) (t := 25) ?hr ?_; (case hd => rfl); (case hg => rfl); (case hr => first | (go_simp; done) | (go_simp; rfl)); intro gb192 hg w12 hbox hb; have n0_ := Aside0.mk (blk_below (g := gb191) (o := .cells #[.int .i64 a0_0, .int .i64 a0_1, .int .i64 a0_2, .int .i64 a0_3, .int .i64 a0_4] 25 (0, 0)) (by exact bu BK191.out) hb); have n1_ := Aside0.mk (below_step (by repeat (first | (with_reducible first | exact HB.out | apply ba | apply bn | apply bd | refine bt ?_ GE191.out) | exact HB.out)) hb); have n2_ := Aside0.mk (hbox); have n3_ := Aside0.mk ((by rw [hg]; exact (below_size (by repeat (first | (with_reducible first | exact HB.out | apply ba | apply bn | apply bd | refine bt ?_ GE191.out) | exact HB.out))) : w.heap.size ≤ gb192)); have n4_ := n3_; have n5_ := Aside0.mk ((by rw [hg]; exact Nat.ne_of_lt (blk_lt (g := gb191) (o := .cells #[.int .i64 a0_0, .int .i64 a0_1, .int .i64 a0_2, .int .i64 a0_3, .int .i64 a0_4] 25 (0, 0)) (by exact bu BK191.out)) : gb191 ≠ gb192)); have n6_ := Aside0.mk n5_.out.symm; clear BK191; clear HB; have BK191 := n0_; have HB := n1_; have BK192 := n2_; have GW192 := n3_; have GE192 := n4_; have NB191_192 := n5_; have NB192_191 := n6_; clear n0_ n1_ n2_ n3_ n4_ n5_ n6_; clear hb hbox hg) | ((with_reducible refine gate_dst (N := 13) rfl ?_); refine Kd.R_lit (Kd.int .i64) _ 3 ?hg (N := 13) ?hd (xs := ([] : List Int)) (inner := []) (ok := fun _ => True) (okp := fun _ => True) ?hr ?hp (fun _ hk => hk) trivial (Below.refl _ _) (Nat.le_refl _) (by simp) ?_; (case hd => rfl); (case hg => rfl); (case hr => first | (go_simp; done) | (go_simp; rfl)); (case hp => exact (Reps.none _ _)); intro v194 w13 ho14 hb hg_ hnew_; clear hg_ hnew_; (first | rw [← Ny193.out] at ho14 | (simp only [Int.reduceToNat] at ho14; rw [← Ny193.out] at ho14)); have n0_ := Aside0.mk (Kd.R_lower ho14 (below_size (by repeat (first | (with_reducible first | exact HB.out | apply ba | apply bn | apply bd | refine bt ?_ GE191.out | refine bt ?_ GE192.out) | exact HB.out)))); have n1_ := Aside0.mk (blk_below (g := gb191) (o := .cells #[.int .i64 a0_0, .int .i64 a0_1, .int .i64 a0_2, .int .i64 a0_3, .int .i64 a0_4] 25 (0, 0)) (by exact bu BK191.out) hb); have n2_ := Aside0.mk (blk_below (g := gb192) (o := .cells #[.int .i64 0, .int .i64 0, .int .i64 0, .int .i64 0, .int .i64 0] 25 (0, 0)) (by exact bu BK192.out) hb); have n3_ := Aside0.mk (below_step (by repeat (first | (with_reducible first | exact HB.out | apply ba | apply bn | apply bd | refine bt ?_ GE191.out | refine bt ?_ GE192.out) | exact HB.out)) hb); clear BK191; clear BK192; clear HB; have HO195 := n0_; have BK191 := n1_; have BK192 := n2_; have HB := n3_; clear n0_ n1_ n2_ n3_; clear hb ho14))
  go_loopg [7, 8, 9] k (fun kq v7 v8 v9 w' => ∃ (x7_1 : List Int) (x8_1 : Int) (x9_1 : Int) (x192000_1 : Int) (x192001_1 : Int) (x192002_1 : Int) (x192003_1 : Int) (x192004_1 : Int) (x193000_1 : Int) (x193001_1 : Int) (x193002_1 : Int) (x193003_1 : Int) (x193004_1 : Int), v8 = .int .i64 x8_1 ∧ v9 = .int .i64 x9_1 ∧ Aside0 (spec_FlyRoute.l0 kq l1 x7_1 x8_1 x9_1 x192000_1 x192001_1 x192002_1 x192003_1 x192004_1 = some (r1, r2, r3, r4, r5, r6, r7)) ∧ Aside0 (kq ≤ k) ∧ Aside0 (Kd.R (Kd.int .i64) 3 w' w.heap.size (fun _ => True) v7 x7_1) ∧ Aside0 (w'.heap[gb191]? = some (.cells #[.int .i64 x192000_1, .int .i64 x192001_1, .int .i64 x192002_1, .int .i64 x192003_1, .int .i64 x192004_1] 25 (0, 0))) ∧ Aside0 (w'.heap[gb192]? = some (.cells #[.int .i64 x193000_1, .int .i64 x193001_1, .int .i64 x193002_1, .int .i64 x193003_1, .int .i64 x193004_1] 25 (0, 0))) ∧ Aside0 (Below w.heap.size w w'))
  case atStart => exact ⟨(y193), (0), (0), (a0_0), (a0_1), (a0_2), (a0_3), (a0_4), (0), (0), (0), (0), (0), (by first | rfl | (simp; done) | (simp [*]; done)), (by first | rfl | (simp; done) | (simp [*]; done)), H', ⟨Nat.le_refl _⟩, ⟨by refine ru ?_; exact HO195.out⟩, ⟨by refine bu ?_; exact BK191.out⟩, ⟨by refine bu ?_; exact BK192.out⟩, ⟨by repeat (first | (with_reducible first | exact HB.out | apply ba | apply bn | apply bd | refine bt ?_ GE191.out | refine bt ?_ GE192.out) | exact HB.out)⟩⟩
  case round =>
   clear H'
   try clear c1
   try clear p2
   try clear c3
   try clear c3b0
   try clear c3b1
   try clear c8
   try clear hcz10_0
   try clear hcz10_1
   try clear hcz10_2
   try clear hcz10_3
   try clear hcz10_4
   try clear hcz9_0
   try clear hcz9_1
   try clear hcz9_2
   try clear hcz9_3
   try clear hcz9_4
   try clear hfz10_0
   try clear hfz10_1
   try clear hfz10_2
   try clear hfz10_3
   try clear hfz10_4
   try clear hfz9_0
   try clear hfz9_1
   try clear hfz9_2
   try clear hfz9_3
   try clear hfz9_4
   obtain ⟨x7_1, x8_1, x9_1, x192000_1, x192001_1, x192002_1, x192003_1, x192004_1, x193000_1, x193001_1, x193002_1, x193003_1, x193004_1, rfl, rfl, HA, HK1, HO_7, BK191, BK192, HB⟩ := hrel
   cases gk with
   | zero => exact absurd HA.out (by simp [spec_FlyRoute.l0])
   | succ k1 =>
    have H := HA.out
    clear HA
    simp only [spec_FlyRoute.l0] at H
    by_cases c15 : x9_1 < (l1.length : Int)
    ·
     rw [if_pos c15] at H
     have c15b0 : decide (x9_1 < (l1.length : Int)) = true := decide_eq_true c15
     clear c15
     by_cases c16 : 0 ≤ x9_1
     ·
      rw [if_pos c16] at H
      have c16b0 : decide (0 ≤ x9_1) = true := decide_eq_true c16
      clear c16
      replace H := Option.bind_eq_some_iff.mp H
      obtain ⟨⟨t197, t198, t199, t200, t201, t202, t203⟩, A170, H⟩ := H
      replace H : (if t203 = 0 then (spec_FlyRoute.j1 k1 l1 x7_1 x8_1 x9_1 t202 t203 (decide ((wrap64 (x8_1 + t202)) > 2000)) x192000_1 x192001_1 x192002_1 x192003_1 x192004_1 t197 t198 t199 t200 t201) else (spec_FlyRoute.j1 k1 l1 x7_1 x8_1 x9_1 t202 t203 false x192000_1 x192001_1 x192002_1 x192003_1 x192004_1 t197 t198 t199 t200 t201)) = some (r1, r2, r3, r4, r5, r6, r7) := H
      have A17 := Aside0.mk A170
      clear A170
      have HC18 := Aside0.mk H
      clear H
      try go_wp2
      have n0_ := Aside0.mk (Kd.R_drew HO_7.out)
      have n1_ := Aside0.mk (blk_drew BK191.out)
      have n2_ := Aside0.mk (blk_drew BK192.out)
      have n3_ := Aside0.mk (below_drew1 HB.out)
      clear HO_7
      clear BK191
      clear BK192
      clear HB
      have HO_7 := n0_
      have BK191 := n1_
      have BK192 := n2_
      have HB := n3_
      clear n0_ n1_ n2_ n3_
      have p196 : 0 ≤ (x9_1 : Int) := of_decide_eq_true (by first | (with_reducible assumption) | assumption)
      have q196 : x9_1 < (l1.length : Int) := of_decide_eq_true (by first | (with_reducible assumption) | assumption)
      obtain ⟨ad196, e196, hx196_0, hx196_1, hx196_2, hx196_3⟩ := at_T31 HR1.out x9_1 p196 q196
      have hw196_3 := hx196_3
      have hw196_2 := hx196_2
      have hw196_1 := hx196_1
      have hw196_0 := hx196_0
      cases e196
      replace hx196_0 := (HB.out.cell (World.block_lt_of_cell? w _ hx196_0)).trans hx196_0
      replace hx196_1 := (HB.out.cell (World.block_lt_of_cell? w _ hx196_1)).trans hx196_1
      replace hx196_2 := (HB.out.cell (World.block_lt_of_cell? w _ hx196_2)).trans hx196_2
      replace hx196_3 := (HB.out.cell (World.block_lt_of_cell? w _ hx196_3)).trans hx196_3
      replace p196 := eq_true p196
      replace q196 := eq_true q196
      refine start_ (n := 14) (S := fun w' => w'.cell? ⟨gb191, 0, none⟩ = some (.int .i64 x192000_1) ∧ w'.cell? ⟨gb191, 1, none⟩ = some (.int .i64 x192001_1) ∧ w'.cell? ⟨gb191, 2, none⟩ = some (.int .i64 x192002_1) ∧ w'.cell? ⟨gb191, 3, none⟩ = some (.int .i64 x192003_1) ∧ w'.cell? ⟨gb191, 4, none⟩ = some (.int .i64 x192004_1) ∧ w'.cell? (ad196.add ((x9_1).toNat * 4)) = some (.int .i64 ((rd_T31 l1 x9_1).f0)) ∧ w'.cell? ⟨(ad196.add ((x9_1).toNat * 4)).block, (ad196.add ((x9_1).toNat * 4)).off + 1, none⟩ = some (.int .i64 ((rd_T31 l1 x9_1).f1)) ∧ w'.cell? ⟨(ad196.add ((x9_1).toNat * 4)).block, (ad196.add ((x9_1).toNat * 4)).off + 2, none⟩ = some (.int .i64 ((rd_T31 l1 x9_1).f2)) ∧ w'.cell? ⟨(ad196.add ((x9_1).toNat * 4)).block, (ad196.add ((x9_1).toNat * 4)).off + 3, none⟩ = some (.int .i64 ((rd_T31 l1 x9_1).f3))) (ds := []) A5_0 (by kernel_rfl) rfl rfl ⟨(blk_cell BK191.out 0).trans rfl, (blk_cell BK191.out 1).trans rfl, (blk_cell BK191.out 2).trans rfl, (blk_cell BK191.out 3).trans rfl, (blk_cell BK191.out 4).trans rfl, ((HB.out.cell (World.block_lt_of_cell? w _ hw196_0)).trans hw196_0), ((HB.out.cell (World.block_lt_of_cell? w _ hw196_1)).trans hw196_1), ((HB.out.cell (World.block_lt_of_cell? w _ hw196_2)).trans hw196_2), ((HB.out.cell (World.block_lt_of_cell? w _ hw196_3)).trans hw196_3)⟩ (fun hHeld => ?_); refine with_tabW spec_FlyRoute.tab8 spec_FlyRoute.bits8 (fun HT_ HW_ => ?_)
      generalize wr.drew = w19 at HO_7 BK191 BK192 HB hx196_0 hx196_1 hx196_2 hx196_3 hHeld ⊢
      refine pure_ (i := 1) (N := some 27) (v := ?_) (a' := ?_) A5_1 rfl rfl (any_of HT_.out (by kernel_rfl)) (fun _ _ _ h => h) (Or.inl ⟨by rfl, ?_⟩) ?_ ?_
      (rotate_left; (intro w'; go_simp; with_reducible rfl); rotate_left; (simp only [Act.put, List.setIfInBounds_toArray, List.set_cons_zero, List.set_cons_succ, i64_w, i32_w]; rfl))
      refine pure_ (i := 2) (N := some 28) (v := ?_) (a' := ?_) A5_2 rfl rfl (any_of HT_.out (by kernel_rfl)) (fun _ _ _ h => h) (Or.inl ⟨by rfl, ?_⟩) ?_ ?_
      (rotate_left; (intro w'; go_simp; with_reducible rfl); rotate_left; (simp only [Act.put, List.setIfInBounds_toArray, List.set_cons_zero, List.set_cons_succ, i64_w, i32_w]; rfl))
      refine pure_ (i := 3) (N := some 29) (v := ?_) (a' := ?_) A5_3 rfl rfl (any_of HT_.out (by kernel_rfl)) (fun _ _ _ h => h) (Or.inl ⟨by rfl, ?_⟩) ?_ ?_
      (rotate_left; (intro w'; go_simp; with_reducible rfl); rotate_left; (simp only [Act.put, List.setIfInBounds_toArray, List.set_cons_zero, List.set_cons_succ, i64_w, i32_w]; rfl))
      refine take_ (i := 0) (N := some 26) (v := ?_) (a' := ?_) A5_4 rfl rfl (take_ofW HT_.out HW_.out (by kernel_rfl)) (fun _ _ _ h => h) (Or.inl ⟨by rfl, ?_⟩) hHeld ?_ ?_
      rotate_left
      ·
       rintro w' ⟨s0, s1, s2, s3, s4, s5, s6, s7, s8⟩
       go_simp
       with_reducible rfl
      rotate_left
      ·
       simp only [Act.put, List.setIfInBounds_toArray, List.set_cons_zero, List.set_cons_succ, i64_w, i32_w]
       rfl
      refine take_ (i := 4) (N := some 30) (v := ?_) (a' := ?_) A5_5 rfl rfl (take_ofW HT_.out HW_.out (by kernel_rfl)) (fun _ _ _ h => h) (Or.inl ⟨by rfl, ?_⟩) hHeld ?_ ?_
      rotate_left
      ·
       rintro w' ⟨s0, s1, s2, s3, s4, s5, s6, s7, s8⟩
       go_simp
       with_reducible rfl
      rotate_left
      ·
       simp only [Act.put, List.setIfInBounds_toArray, List.set_cons_zero, List.set_cons_succ, i64_w, i32_w]
       rfl
      refine join_ (σ := Nat) 3 A5_6 (fun s_ => [(31, .tuple #[.agg #[.int .i64 t197, .int .i64 t198, .int .i64 t199, .int .i64 t200, .int .i64 t201], .int .i64 t202, .int .i64 t203]), (10, .pointer (some ⟨s_, 0, none⟩)), (25, .tuple #[.agg #[.int .i64 t197, .int .i64 t198, .int .i64 t199, .int .i64 t200, .int .i64 t201], .int .i64 t202, .int .i64 t203]), (32, .agg #[.int .i64 t197, .int .i64 t198, .int .i64 t199, .int .i64 t200, .int .i64 t201]), (33, .int .i64 t202), (34, .int .i64 t203)]) (fun s_ w' => (w'.cell? ⟨gb191, 0, none⟩ = some (.int .i64 x192000_1) ∧ w'.cell? ⟨gb191, 1, none⟩ = some (.int .i64 x192001_1) ∧ w'.cell? ⟨gb191, 2, none⟩ = some (.int .i64 x192002_1) ∧ w'.cell? ⟨gb191, 3, none⟩ = some (.int .i64 x192003_1) ∧ w'.cell? ⟨gb191, 4, none⟩ = some (.int .i64 x192004_1) ∧ w'.cell? (ad196.add ((x9_1).toNat * 4)) = some (.int .i64 ((rd_T31 l1 x9_1).f0)) ∧ w'.cell? ⟨(ad196.add ((x9_1).toNat * 4)).block, (ad196.add ((x9_1).toNat * 4)).off + 1, none⟩ = some (.int .i64 ((rd_T31 l1 x9_1).f1)) ∧ w'.cell? ⟨(ad196.add ((x9_1).toNat * 4)).block, (ad196.add ((x9_1).toNat * 4)).off + 2, none⟩ = some (.int .i64 ((rd_T31 l1 x9_1).f2)) ∧ w'.cell? ⟨(ad196.add ((x9_1).toNat * 4)).block, (ad196.add ((x9_1).toNat * 4)).off + 3, none⟩ = some (.int .i64 ((rd_T31 l1 x9_1).f3))) ∧ (Kd.R (Kd.int .i64) 3 w' w.heap.size (fun _ => True) u7 x7_1) ∧ (w'.heap[gb191]? = some (.cells #[.int .i64 x192000_1, .int .i64 x192001_1, .int .i64 x192002_1, .int .i64 x192003_1, .int .i64 x192004_1] 25 (0, 0))) ∧ (w'.heap[gb192]? = some (.cells #[.int .i64 x193000_1, .int .i64 x193001_1, .int .i64 x193002_1, .int .i64 x193003_1, .int .i64 x193004_1] 25 (0, 0))) ∧ (w'.heap[s_]? = some (.cells #[.int .i64 0, .int .i64 0, .int .i64 0, .int .i64 0, .int .i64 0] 25 (0, 0))) ∧ (w.heap.size ≤ s_) ∧ (w.heap.size ≤ s_) ∧ (gb191 ≠ s_) ∧ (s_ ≠ gb191) ∧ (gb192 ≠ s_) ∧ (s_ ≠ gb192) ∧ (Below w.heap.size w w')) ?_ ?_
      rotate_left
      ·
       intro hCont
       refine two_ (i := 5) (j := 10) (Ni := some 31) (Nj := some 10) A5_7 A5_8 rfl rfl rfl rfl (two_of HT_.out (by kernel_rfl)) (by decide) (by decide) (fun K hK => ?_) (fun K hK => ?_)
       ·
        skip
        refine goes_ Try.func13 (by kernel_rfl) rfl #[.agg #[.int .i64 x192000_1, .int .i64 x192001_1, .int .i64 x192002_1, .int .i64 x192003_1, .int .i64 x192004_1], .agg #[.int .i64 ((rd_T31 l1 x9_1).f0), .int .i64 ((rd_T31 l1 x9_1).f1), .int .i64 ((rd_T31 l1 x9_1).f2), .int .i64 ((rd_T31 l1 x9_1).f3)]] (by rfl) rfl rfl (by (try simp only [List.map_toArray, List.map_cons, List.map_nil]); first | done | rfl) ?_
        with_reducible refine (spec_FlyLeg.calls k1 x192000_1 x192001_1 x192002_1 x192003_1 x192004_1 ((rd_T31 l1 x9_1).f0) ((rd_T31 l1 x9_1).f1) ((rd_T31 l1 x9_1).f2) ((rd_T31 l1 x9_1).f3) t197 t198 t199 t200 t201 t202 t203 _ A17.out).mono ?_
        rintro e w20 ⟨rfl, hb⟩
        refine ⟨_, rfl, ?_⟩
        have n0_ := Aside0.mk (Kd.R_below (by exact ru HO_7.out) hb)
        have n1_ := Aside0.mk (blk_below (g := gb191) (o := .cells #[.int .i64 x192000_1, .int .i64 x192001_1, .int .i64 x192002_1, .int .i64 x192003_1, .int .i64 x192004_1] 25 (0, 0)) (by exact bu BK191.out) hb)
        have n2_ := Aside0.mk (blk_below (g := gb192) (o := .cells #[.int .i64 x193000_1, .int .i64 x193001_1, .int .i64 x193002_1, .int .i64 x193003_1, .int .i64 x193004_1] 25 (0, 0)) (by exact bu BK192.out) hb)
        have n3_ := Aside0.mk (below_step (by repeat (first | (with_reducible first | exact HB.out | apply ba | apply bn | apply bd | refine bt ?_ GE191.out | refine bt ?_ GE192.out) | exact HB.out)) hb)
        clear HO_7
        clear BK191
        clear BK192
        clear HB
        have HO_7 := n0_
        have BK191 := n1_
        have BK192 := n2_
        have HB := n3_
        clear n0_ n1_ n2_ n3_
        (try clear hb)
        (try clear hb2)
        (try clear hk)
        (try clear hi)
        refine hK.out _ _ ⟨(blk_cell BK191.out 0).trans rfl, (blk_cell BK191.out 1).trans rfl, (blk_cell BK191.out 2).trans rfl, (blk_cell BK191.out 3).trans rfl, (blk_cell BK191.out 4).trans rfl, ((HB.out.cell (World.block_lt_of_cell? w _ hw196_0)).trans hw196_0), ((HB.out.cell (World.block_lt_of_cell? w _ hw196_1)).trans hw196_1), ((HB.out.cell (World.block_lt_of_cell? w _ hw196_2)).trans hw196_2), ((HB.out.cell (World.block_lt_of_cell? w _ hw196_3)).trans hw196_3)⟩ (fun hHeld => ?_)
        clear hK K
        refine norm_ (a' := ?_) ?_ ?_
        rotate_left
        ·
         show Act.put _ (some 31) _ = _
         simp only [Act.put, List.setIfInBounds_toArray, List.set_cons_zero, List.set_cons_succ, i64_w, i32_w]
         rfl
        refine pure_ (i := 6) (N := some 25) (v := ?_) (a' := ?_) A5_9 rfl rfl (any_of HT_.out (by kernel_rfl)) (fun _ _ _ h => h) (Or.inl ⟨by rfl, ?_⟩) ?_ ?_
        (rotate_left; (intro w'; go_simp; with_reducible rfl); rotate_left; (simp only [Act.put, List.setIfInBounds_toArray, List.set_cons_zero, List.set_cons_succ, i64_w, i32_w]; rfl))
        refine pure_ (i := 7) (N := some 32) (v := ?_) (a' := ?_) A5_10 rfl rfl (any_of HT_.out (by kernel_rfl)) (fun _ _ _ h => h) (Or.inl ⟨by rfl, ?_⟩) ?_ ?_
        (rotate_left; (intro w'; go_simp; with_reducible rfl); rotate_left; (simp only [Act.put, List.setIfInBounds_toArray, List.set_cons_zero, List.set_cons_succ, i64_w, i32_w]; rfl))
        refine pure_ (i := 8) (N := some 33) (v := ?_) (a' := ?_) A5_11 rfl rfl (any_of HT_.out (by kernel_rfl)) (fun _ _ _ h => h) (Or.inl ⟨by rfl, ?_⟩) ?_ ?_
        (rotate_left; (intro w'; go_simp; with_reducible rfl); rotate_left; (simp only [Act.put, List.setIfInBounds_toArray, List.set_cons_zero, List.set_cons_succ, i64_w, i32_w]; rfl))
        refine pure_ (i := 9) (N := some 34) (v := ?_) (a' := ?_) A5_12 rfl rfl (any_of HT_.out (by kernel_rfl)) (fun _ _ _ h => h) (Or.inl ⟨by rfl, ?_⟩) ?_ ?_
        (rotate_left; (intro w'; go_simp; with_reducible rfl); rotate_left; (simp only [Act.put, List.setIfInBounds_toArray, List.set_cons_zero, List.set_cons_succ, i64_w, i32_w]; rfl))
        refine one_ (i := 10) (N := some 10) A5_6 rfl rfl (one_of HT_.out (by kernel_rfl)) (by decide) (fun K hK => ?_)
        refine box_step ?hg (N := 10) ?hd (cs := #[.int .i64 0, .int .i64 0, .int .i64 0, .int .i64 0, .int .i64 0]) (t := 25) ?hr ?_; (case hd => rfl); (case hg => rfl); (case hr => first | (go_simp; done) | (go_simp; rfl))
        intro gb204 hg w21 hbox hb
        have n0_ := Aside0.mk (Kd.R_below (by exact ru HO_7.out) hb)
        have n1_ := Aside0.mk (blk_below (g := gb191) (o := .cells #[.int .i64 x192000_1, .int .i64 x192001_1, .int .i64 x192002_1, .int .i64 x192003_1, .int .i64 x192004_1] 25 (0, 0)) (by exact bu BK191.out) hb)
        have n2_ := Aside0.mk (blk_below (g := gb192) (o := .cells #[.int .i64 x193000_1, .int .i64 x193001_1, .int .i64 x193002_1, .int .i64 x193003_1, .int .i64 x193004_1] 25 (0, 0)) (by exact bu BK192.out) hb)
        have n3_ := Aside0.mk (below_step (by repeat (first | (with_reducible first | exact HB.out | apply ba | apply bn | apply bd | refine bt ?_ GE191.out | refine bt ?_ GE192.out) | exact HB.out)) hb)
        have n4_ := Aside0.mk (hbox)
        have n5_ := Aside0.mk ((by rw [hg]; exact (below_size (by repeat (first | (with_reducible first | exact HB.out | apply ba | apply bn | apply bd | refine bt ?_ GE191.out | refine bt ?_ GE192.out) | exact HB.out))) : w.heap.size ≤ gb204))
        have n6_ := n5_
        have n7_ := Aside0.mk ((by rw [hg]; exact Nat.ne_of_lt (blk_lt (g := gb191) (o := .cells #[.int .i64 x192000_1, .int .i64 x192001_1, .int .i64 x192002_1, .int .i64 x192003_1, .int .i64 x192004_1] 25 (0, 0)) (by exact bu BK191.out)) : gb191 ≠ gb204))
        have n8_ := Aside0.mk n7_.out.symm
        have n9_ := Aside0.mk ((by rw [hg]; exact Nat.ne_of_lt (blk_lt (g := gb192) (o := .cells #[.int .i64 x193000_1, .int .i64 x193001_1, .int .i64 x193002_1, .int .i64 x193003_1, .int .i64 x193004_1] 25 (0, 0)) (by exact bu BK192.out)) : gb192 ≠ gb204))
        have n10_ := Aside0.mk n9_.out.symm
        clear HO_7
        clear BK191
        clear BK192
        clear HB
        have HO_7 := n0_
        have BK191 := n1_
        have BK192 := n2_
        have HB := n3_
        have BK204 := n4_
        have GW204 := n5_
        have GE204 := n6_
        have NB191_204 := n7_
        have NB204_191 := n8_
        have NB192_204 := n9_
        have NB204_192 := n10_
        clear n0_ n1_ n2_ n3_ n4_ n5_ n6_ n7_ n8_ n9_ n10_
        clear hb hbox hg
        refine hK.out _ _ ⟨(blk_cell BK191.out 0).trans rfl, (blk_cell BK191.out 1).trans rfl, (blk_cell BK191.out 2).trans rfl, (blk_cell BK191.out 3).trans rfl, (blk_cell BK191.out 4).trans rfl, ((HB.out.cell (World.block_lt_of_cell? w _ hw196_0)).trans hw196_0), ((HB.out.cell (World.block_lt_of_cell? w _ hw196_1)).trans hw196_1), ((HB.out.cell (World.block_lt_of_cell? w _ hw196_2)).trans hw196_2), ((HB.out.cell (World.block_lt_of_cell? w _ hw196_3)).trans hw196_3)⟩ (fun hHeld => ?_)
        clear hK K
        refine norm_ (a' := ?_) ?_ ?_
        rotate_left
        ·
         show Act.put _ (some 10) _ = _
         simp only [Act.put, List.setIfInBounds_toArray, List.set_cons_zero, List.set_cons_succ, i64_w, i32_w]
         rfl
        exact norm_ (by simp only [putAll, Act.put, List.setIfInBounds_toArray, List.set_cons_zero, List.set_cons_succ]) (hCont (gb204) _ ⟨hHeld, (by exact ru HO_7.out), (by exact bu BK191.out), (by exact bu BK192.out), (by exact bu BK204.out), GW204.out, GE204.out, NB191_204.out, NB204_191.out, NB192_204.out, NB204_192.out, (by repeat (first | (with_reducible first | exact HB.out | apply ba | apply bn | apply bd | refine bt ?_ GE191.out | refine bt ?_ GE192.out | refine bt ?_ GE204.out) | exact HB.out))⟩)
       ·
        skip
        refine box_step ?hg (N := 10) ?hd (cs := #[.int .i64 0, .int .i64 0, .int .i64 0, .int .i64 0, .int .i64 0]) (t := 25) ?hr ?_; (case hd => rfl); (case hg => rfl); (case hr => first | (go_simp; done) | (go_simp; rfl))
        intro gb204 hg w20 hbox hb
        have n0_ := Aside0.mk (Kd.R_below (by exact ru HO_7.out) hb)
        have n1_ := Aside0.mk (blk_below (g := gb191) (o := .cells #[.int .i64 x192000_1, .int .i64 x192001_1, .int .i64 x192002_1, .int .i64 x192003_1, .int .i64 x192004_1] 25 (0, 0)) (by exact bu BK191.out) hb)
        have n2_ := Aside0.mk (blk_below (g := gb192) (o := .cells #[.int .i64 x193000_1, .int .i64 x193001_1, .int .i64 x193002_1, .int .i64 x193003_1, .int .i64 x193004_1] 25 (0, 0)) (by exact bu BK192.out) hb)
        have n3_ := Aside0.mk (below_step (by repeat (first | (with_reducible first | exact HB.out | apply ba | apply bn | apply bd | refine bt ?_ GE191.out | refine bt ?_ GE192.out) | exact HB.out)) hb)
        have n4_ := Aside0.mk (hbox)
        have n5_ := Aside0.mk ((by rw [hg]; exact (below_size (by repeat (first | (with_reducible first | exact HB.out | apply ba | apply bn | apply bd | refine bt ?_ GE191.out | refine bt ?_ GE192.out) | exact HB.out))) : w.heap.size ≤ gb204))
        have n6_ := n5_
        have n7_ := Aside0.mk ((by rw [hg]; exact Nat.ne_of_lt (blk_lt (g := gb191) (o := .cells #[.int .i64 x192000_1, .int .i64 x192001_1, .int .i64 x192002_1, .int .i64 x192003_1, .int .i64 x192004_1] 25 (0, 0)) (by exact bu BK191.out)) : gb191 ≠ gb204))
        have n8_ := Aside0.mk n7_.out.symm
        have n9_ := Aside0.mk ((by rw [hg]; exact Nat.ne_of_lt (blk_lt (g := gb192) (o := .cells #[.int .i64 x193000_1, .int .i64 x193001_1, .int .i64 x193002_1, .int .i64 x193003_1, .int .i64 x193004_1] 25 (0, 0)) (by exact bu BK192.out)) : gb192 ≠ gb204))
        have n10_ := Aside0.mk n9_.out.symm
        clear HO_7
        clear BK191
        clear BK192
        clear HB
        have HO_7 := n0_
        have BK191 := n1_
        have BK192 := n2_
        have HB := n3_
        have BK204 := n4_
        have GW204 := n5_
        have GE204 := n6_
        have NB191_204 := n7_
        have NB204_191 := n8_
        have NB192_204 := n9_
        have NB204_192 := n10_
        clear n0_ n1_ n2_ n3_ n4_ n5_ n6_ n7_ n8_ n9_ n10_
        clear hb hbox hg
        refine hK.out _ _ ⟨(blk_cell BK191.out 0).trans rfl, (blk_cell BK191.out 1).trans rfl, (blk_cell BK191.out 2).trans rfl, (blk_cell BK191.out 3).trans rfl, (blk_cell BK191.out 4).trans rfl, ((HB.out.cell (World.block_lt_of_cell? w _ hw196_0)).trans hw196_0), ((HB.out.cell (World.block_lt_of_cell? w _ hw196_1)).trans hw196_1), ((HB.out.cell (World.block_lt_of_cell? w _ hw196_2)).trans hw196_2), ((HB.out.cell (World.block_lt_of_cell? w _ hw196_3)).trans hw196_3)⟩ (fun hHeld => ?_)
        clear hK K
        refine norm_ (a' := ?_) ?_ ?_
        rotate_left
        ·
         show Act.put _ (some 10) _ = _
         simp only [Act.put, List.setIfInBounds_toArray, List.set_cons_zero, List.set_cons_succ, i64_w, i32_w]
         rfl
        refine one_ (i := 5) (N := some 31) A5_13 rfl rfl (one_of HT_.out (by kernel_rfl)) (by decide) (fun K hK => ?_)
        refine goes_ Try.func13 (by kernel_rfl) rfl #[.agg #[.int .i64 x192000_1, .int .i64 x192001_1, .int .i64 x192002_1, .int .i64 x192003_1, .int .i64 x192004_1], .agg #[.int .i64 ((rd_T31 l1 x9_1).f0), .int .i64 ((rd_T31 l1 x9_1).f1), .int .i64 ((rd_T31 l1 x9_1).f2), .int .i64 ((rd_T31 l1 x9_1).f3)]] (by rfl) rfl rfl (by (try simp only [List.map_toArray, List.map_cons, List.map_nil]); first | done | rfl) ?_
        with_reducible refine (spec_FlyLeg.calls k1 x192000_1 x192001_1 x192002_1 x192003_1 x192004_1 ((rd_T31 l1 x9_1).f0) ((rd_T31 l1 x9_1).f1) ((rd_T31 l1 x9_1).f2) ((rd_T31 l1 x9_1).f3) t197 t198 t199 t200 t201 t202 t203 _ A17.out).mono ?_
        rintro e w21 ⟨rfl, hb⟩
        refine ⟨_, rfl, ?_⟩
        have n0_ := Aside0.mk (Kd.R_below (by exact ru HO_7.out) hb)
        have n1_ := Aside0.mk (blk_below (g := gb191) (o := .cells #[.int .i64 x192000_1, .int .i64 x192001_1, .int .i64 x192002_1, .int .i64 x192003_1, .int .i64 x192004_1] 25 (0, 0)) (by exact bu BK191.out) hb)
        have n2_ := Aside0.mk (blk_below (g := gb192) (o := .cells #[.int .i64 x193000_1, .int .i64 x193001_1, .int .i64 x193002_1, .int .i64 x193003_1, .int .i64 x193004_1] 25 (0, 0)) (by exact bu BK192.out) hb)
        have n3_ := Aside0.mk (blk_below (g := gb204) (o := .cells #[.int .i64 0, .int .i64 0, .int .i64 0, .int .i64 0, .int .i64 0] 25 (0, 0)) (by exact bu BK204.out) hb)
        have n4_ := Aside0.mk (below_step (by repeat (first | (with_reducible first | exact HB.out | apply ba | apply bn | apply bd | refine bt ?_ GE191.out | refine bt ?_ GE192.out | refine bt ?_ GE204.out) | exact HB.out)) hb)
        clear HO_7
        clear BK191
        clear BK192
        clear BK204
        clear HB
        have HO_7 := n0_
        have BK191 := n1_
        have BK192 := n2_
        have BK204 := n3_
        have HB := n4_
        clear n0_ n1_ n2_ n3_ n4_
        (try clear hb)
        (try clear hb2)
        (try clear hk)
        (try clear hi)
        refine hK.out _ _ ⟨(blk_cell BK191.out 0).trans rfl, (blk_cell BK191.out 1).trans rfl, (blk_cell BK191.out 2).trans rfl, (blk_cell BK191.out 3).trans rfl, (blk_cell BK191.out 4).trans rfl, ((HB.out.cell (World.block_lt_of_cell? w _ hw196_0)).trans hw196_0), ((HB.out.cell (World.block_lt_of_cell? w _ hw196_1)).trans hw196_1), ((HB.out.cell (World.block_lt_of_cell? w _ hw196_2)).trans hw196_2), ((HB.out.cell (World.block_lt_of_cell? w _ hw196_3)).trans hw196_3)⟩ (fun hHeld => ?_)
        clear hK K
        refine norm_ (a' := ?_) ?_ ?_
        rotate_left
        ·
         show Act.put _ (some 31) _ = _
         simp only [Act.put, List.setIfInBounds_toArray, List.set_cons_zero, List.set_cons_succ, i64_w, i32_w]
         rfl
        refine pure_ (i := 6) (N := some 25) (v := ?_) (a' := ?_) A5_14 rfl rfl (any_of HT_.out (by kernel_rfl)) (fun _ _ _ h => h) (Or.inl ⟨by rfl, ?_⟩) ?_ ?_
        (rotate_left; (intro w'; go_simp; with_reducible rfl); rotate_left; (simp only [Act.put, List.setIfInBounds_toArray, List.set_cons_zero, List.set_cons_succ, i64_w, i32_w]; rfl))
        refine pure_ (i := 7) (N := some 32) (v := ?_) (a' := ?_) A5_15 rfl rfl (any_of HT_.out (by kernel_rfl)) (fun _ _ _ h => h) (Or.inl ⟨by rfl, ?_⟩) ?_ ?_
        (rotate_left; (intro w'; go_simp; with_reducible rfl); rotate_left; (simp only [Act.put, List.setIfInBounds_toArray, List.set_cons_zero, List.set_cons_succ, i64_w, i32_w]; rfl))
        refine pure_ (i := 8) (N := some 33) (v := ?_) (a' := ?_) A5_16 rfl rfl (any_of HT_.out (by kernel_rfl)) (fun _ _ _ h => h) (Or.inl ⟨by rfl, ?_⟩) ?_ ?_
        (rotate_left; (intro w'; go_simp; with_reducible rfl); rotate_left; (simp only [Act.put, List.setIfInBounds_toArray, List.set_cons_zero, List.set_cons_succ, i64_w, i32_w]; rfl))
        refine pure_ (i := 9) (N := some 34) (v := ?_) (a' := ?_) A5_6 rfl rfl (any_of HT_.out (by kernel_rfl)) (fun _ _ _ h => h) (Or.inl ⟨by rfl, ?_⟩) ?_ ?_
        (rotate_left; (intro w'; go_simp; with_reducible rfl); rotate_left; (simp only [Act.put, List.setIfInBounds_toArray, List.set_cons_zero, List.set_cons_succ, i64_w, i32_w]; rfl))
        exact norm_ (by simp only [putAll, Act.put, List.setIfInBounds_toArray, List.set_cons_zero, List.set_cons_succ]) (hCont (gb204) _ ⟨hHeld, (by exact ru HO_7.out), (by exact bu BK191.out), (by exact bu BK192.out), (by exact bu BK204.out), GW204.out, GE204.out, NB191_204.out, NB204_191.out, NB192_204.out, NB204_192.out, (by repeat (first | (with_reducible first | exact HB.out | apply ba | apply bn | apply bd | refine bt ?_ GE191.out | refine bt ?_ GE192.out | refine bt ?_ GE204.out) | exact HB.out))⟩)
      rintro gb204 w22 ⟨hS_, h0_, h1_, h2_, h3_, h4_, h5_, h6_, h7_, h8_, h9_, h10_⟩
      have n0_ : Aside0 (Kd.R (Kd.int .i64) 3 w22 w.heap.size (fun _ => True) u7 x7_1) := ⟨h0_⟩
      have n1_ : Aside0 (w22.heap[gb191]? = some (.cells #[.int .i64 x192000_1, .int .i64 x192001_1, .int .i64 x192002_1, .int .i64 x192003_1, .int .i64 x192004_1] 25 (0, 0))) := ⟨h1_⟩
      have n2_ : Aside0 (w22.heap[gb192]? = some (.cells #[.int .i64 x193000_1, .int .i64 x193001_1, .int .i64 x193002_1, .int .i64 x193003_1, .int .i64 x193004_1] 25 (0, 0))) := ⟨h2_⟩
      have n3_ : Aside0 (w22.heap[gb204]? = some (.cells #[.int .i64 0, .int .i64 0, .int .i64 0, .int .i64 0, .int .i64 0] 25 (0, 0))) := ⟨h3_⟩
      have n4_ : Aside0 (w.heap.size ≤ gb204) := ⟨h4_⟩
      have n5_ : Aside0 (w.heap.size ≤ gb204) := ⟨h5_⟩
      have n6_ : Aside0 (gb191 ≠ gb204) := ⟨h6_⟩
      have n7_ : Aside0 (gb204 ≠ gb191) := ⟨h7_⟩
      have n8_ : Aside0 (gb192 ≠ gb204) := ⟨h8_⟩
      have n9_ : Aside0 (gb204 ≠ gb192) := ⟨h9_⟩
      have n10_ : Aside0 (Below w.heap.size w w22) := ⟨h10_⟩
      clear HO_7
      clear BK191
      clear BK192
      clear HB
      clear h0_ h1_ h2_ h3_ h4_ h5_ h6_ h7_ h8_ h9_ h10_
      have HO_7 := n0_
      have BK191 := n1_
      have BK192 := n2_
      have BK204 := n3_
      have GW204 := n4_
      have GE204 := n5_
      have NB191_204 := n6_
      have NB204_191 := n7_
      have NB192_204 := n8_
      have NB204_192 := n9_
      have HB := n10_
      clear n0_ n1_ n2_ n3_ n4_ n5_ n6_ n7_ n8_ n9_ n10_
      have hHeld : w22.cell? ⟨gb191, 0, none⟩ = some (.int .i64 x192000_1) ∧ w22.cell? ⟨gb191, 1, none⟩ = some (.int .i64 x192001_1) ∧ w22.cell? ⟨gb191, 2, none⟩ = some (.int .i64 x192002_1) ∧ w22.cell? ⟨gb191, 3, none⟩ = some (.int .i64 x192003_1) ∧ w22.cell? ⟨gb191, 4, none⟩ = some (.int .i64 x192004_1) ∧ w22.cell? (ad196.add ((x9_1).toNat * 4)) = some (.int .i64 ((rd_T31 l1 x9_1).f0)) ∧ w22.cell? ⟨(ad196.add ((x9_1).toNat * 4)).block, (ad196.add ((x9_1).toNat * 4)).off + 1, none⟩ = some (.int .i64 ((rd_T31 l1 x9_1).f1)) ∧ w22.cell? ⟨(ad196.add ((x9_1).toNat * 4)).block, (ad196.add ((x9_1).toNat * 4)).off + 2, none⟩ = some (.int .i64 ((rd_T31 l1 x9_1).f2)) ∧ w22.cell? ⟨(ad196.add ((x9_1).toNat * 4)).block, (ad196.add ((x9_1).toNat * 4)).off + 3, none⟩ = some (.int .i64 ((rd_T31 l1 x9_1).f3)) := hS_
      refine norm_ (a' := ?_) ?_ ?_
      rotate_left
      ·
       simp only [putAll, Act.put, List.setIfInBounds_toArray, List.set_cons_zero, List.set_cons_succ]
       rfl
      refine one_ (i := 11) (N := none) A5_17 rfl rfl (one_of HT_.out (by kernel_rfl)) (by decide) (fun K hK => ?_)
      have hs23 : w22.cell? ⟨gb204, 0, none⟩ = some (.int .i64 0) := (blk_cell BK204.out 0).trans rfl
      have hfs23 := blk_frozen BK204.out 0
      have hns23_0 := NB191_204.out
      have hns23_1 := NB192_204.out
      have hms23_0 := NB204_191.out
      have hms23_1 := NB204_192.out
      have hs24 : w22.cell? ⟨gb204, 1, none⟩ = some (.int .i64 0) := (blk_cell BK204.out 1).trans rfl
      have hfs24 := blk_frozen BK204.out 1
      have hns24_0 := NB191_204.out
      have hns24_1 := NB192_204.out
      have hms24_0 := NB204_191.out
      have hms24_1 := NB204_192.out
      have hs25 : w22.cell? ⟨gb204, 2, none⟩ = some (.int .i64 0) := (blk_cell BK204.out 2).trans rfl
      have hfs25 := blk_frozen BK204.out 2
      have hns25_0 := NB191_204.out
      have hns25_1 := NB192_204.out
      have hms25_0 := NB204_191.out
      have hms25_1 := NB204_192.out
      have hs26 : w22.cell? ⟨gb204, 3, none⟩ = some (.int .i64 0) := (blk_cell BK204.out 3).trans rfl
      have hfs26 := blk_frozen BK204.out 3
      have hns26_0 := NB191_204.out
      have hns26_1 := NB192_204.out
      have hms26_0 := NB204_191.out
      have hms26_1 := NB204_192.out
      have hs27 : w22.cell? ⟨gb204, 4, none⟩ = some (.int .i64 0) := (blk_cell BK204.out 4).trans rfl
      have hfs27 := blk_frozen BK204.out 4
      have hns27_0 := NB191_204.out
      have hns27_1 := NB192_204.out
      have hms27_0 := NB204_191.out
      have hms27_1 := NB204_192.out
      refine skip_ (w1 := ?_) (by rfl) rfl ?_ ?_
      rotate_left
      ·
       go_simp
       rfl
      refine hK.out _ _ ⟨((cell_far (p := ⟨gb204, _, none⟩) NB191_204.out _).trans (((cell_far (p := ⟨gb204, _, none⟩) NB191_204.out _).trans (((cell_far (p := ⟨gb204, _, none⟩) NB191_204.out _).trans (((cell_far (p := ⟨gb204, _, none⟩) NB191_204.out _).trans (((cell_far (p := ⟨gb204, _, none⟩) NB191_204.out _).trans (hHeld.1)))))))))), ((cell_far (p := ⟨gb204, _, none⟩) NB191_204.out _).trans (((cell_far (p := ⟨gb204, _, none⟩) NB191_204.out _).trans (((cell_far (p := ⟨gb204, _, none⟩) NB191_204.out _).trans (((cell_far (p := ⟨gb204, _, none⟩) NB191_204.out _).trans (((cell_far (p := ⟨gb204, _, none⟩) NB191_204.out _).trans (hHeld.2.1)))))))))), ((cell_far (p := ⟨gb204, _, none⟩) NB191_204.out _).trans (((cell_far (p := ⟨gb204, _, none⟩) NB191_204.out _).trans (((cell_far (p := ⟨gb204, _, none⟩) NB191_204.out _).trans (((cell_far (p := ⟨gb204, _, none⟩) NB191_204.out _).trans (((cell_far (p := ⟨gb204, _, none⟩) NB191_204.out _).trans (hHeld.2.2.1)))))))))), ((cell_far (p := ⟨gb204, _, none⟩) NB191_204.out _).trans (((cell_far (p := ⟨gb204, _, none⟩) NB191_204.out _).trans (((cell_far (p := ⟨gb204, _, none⟩) NB191_204.out _).trans (((cell_far (p := ⟨gb204, _, none⟩) NB191_204.out _).trans (((cell_far (p := ⟨gb204, _, none⟩) NB191_204.out _).trans (hHeld.2.2.2.1)))))))))), ((cell_far (p := ⟨gb204, _, none⟩) NB191_204.out _).trans (((cell_far (p := ⟨gb204, _, none⟩) NB191_204.out _).trans (((cell_far (p := ⟨gb204, _, none⟩) NB191_204.out _).trans (((cell_far (p := ⟨gb204, _, none⟩) NB191_204.out _).trans (((cell_far (p := ⟨gb204, _, none⟩) NB191_204.out _).trans (hHeld.2.2.2.2.1)))))))))), ((cell_far (p := ⟨gb204, _, none⟩) (by first | exact Nat.ne_of_lt (Nat.lt_of_lt_of_le (by have := World.block_lt_of_cell? _ _ hw196_0; first | rwa [add_block] at this | exact this) GW204.out) | (rw [add_block]; exact Nat.ne_of_lt (Nat.lt_of_lt_of_le (by have := World.block_lt_of_cell? _ _ hw196_0; first | rwa [add_block] at this | exact this) GW204.out)) | (show (Addr.add _ _).block ≠ _; rw [add_block]; exact Nat.ne_of_lt (Nat.lt_of_lt_of_le (by have := World.block_lt_of_cell? _ _ hw196_0; first | rwa [add_block] at this | exact this) GW204.out)) | (dsimp only; exact Nat.ne_of_lt (Nat.lt_of_lt_of_le (by have := World.block_lt_of_cell? _ _ hw196_0; first | rwa [add_block] at this | exact this) GW204.out))) _).trans (((cell_far (p := ⟨gb204, _, none⟩) (by first | exact Nat.ne_of_lt (Nat.lt_of_lt_of_le (by have := World.block_lt_of_cell? _ _ hw196_0; first | rwa [add_block] at this | exact this) GW204.out) | (rw [add_block]; exact Nat.ne_of_lt (Nat.lt_of_lt_of_le (by have := World.block_lt_of_cell? _ _ hw196_0; first | rwa [add_block] at this | exact this) GW204.out)) | (show (Addr.add _ _).block ≠ _; rw [add_block]; exact Nat.ne_of_lt (Nat.lt_of_lt_of_le (by have := World.block_lt_of_cell? _ _ hw196_0; first | rwa [add_block] at this | exact this) GW204.out)) | (dsimp only; exact Nat.ne_of_lt (Nat.lt_of_lt_of_le (by have := World.block_lt_of_cell? _ _ hw196_0; first | rwa [add_block] at this | exact this) GW204.out))) _).trans (((cell_far (p := ⟨gb204, _, none⟩) (by first | exact Nat.ne_of_lt (Nat.lt_of_lt_of_le (by have := World.block_lt_of_cell? _ _ hw196_0; first | rwa [add_block] at this | exact this) GW204.out) | (rw [add_block]; exact Nat.ne_of_lt (Nat.lt_of_lt_of_le (by have := World.block_lt_of_cell? _ _ hw196_0; first | rwa [add_block] at this | exact this) GW204.out)) | (show (Addr.add _ _).block ≠ _; rw [add_block]; exact Nat.ne_of_lt (Nat.lt_of_lt_of_le (by have := World.block_lt_of_cell? _ _ hw196_0; first | rwa [add_block] at this | exact this) GW204.out)) | (dsimp only; exact Nat.ne_of_lt (Nat.lt_of_lt_of_le (by have := World.block_lt_of_cell? _ _ hw196_0; first | rwa [add_block] at this | exact this) GW204.out))) _).trans (((cell_far (p := ⟨gb204, _, none⟩) (by first | exact Nat.ne_of_lt (Nat.lt_of_lt_of_le (by have := World.block_lt_of_cell? _ _ hw196_0; first | rwa [add_block] at this | exact this) GW204.out) | (rw [add_block]; exact Nat.ne_of_lt (Nat.lt_of_lt_of_le (by have := World.block_lt_of_cell? _ _ hw196_0; first | rwa [add_block] at this | exact this) GW204.out)) | (show (Addr.add _ _).block ≠ _; rw [add_block]; exact Nat.ne_of_lt (Nat.lt_of_lt_of_le (by have := World.block_lt_of_cell? _ _ hw196_0; first | rwa [add_block] at this | exact this) GW204.out)) | (dsimp only; exact Nat.ne_of_lt (Nat.lt_of_lt_of_le (by have := World.block_lt_of_cell? _ _ hw196_0; first | rwa [add_block] at this | exact this) GW204.out))) _).trans (((cell_far (p := ⟨gb204, _, none⟩) (by first | exact Nat.ne_of_lt (Nat.lt_of_lt_of_le (by have := World.block_lt_of_cell? _ _ hw196_0; first | rwa [add_block] at this | exact this) GW204.out) | (rw [add_block]; exact Nat.ne_of_lt (Nat.lt_of_lt_of_le (by have := World.block_lt_of_cell? _ _ hw196_0; first | rwa [add_block] at this | exact this) GW204.out)) | (show (Addr.add _ _).block ≠ _; rw [add_block]; exact Nat.ne_of_lt (Nat.lt_of_lt_of_le (by have := World.block_lt_of_cell? _ _ hw196_0; first | rwa [add_block] at this | exact this) GW204.out)) | (dsimp only; exact Nat.ne_of_lt (Nat.lt_of_lt_of_le (by have := World.block_lt_of_cell? _ _ hw196_0; first | rwa [add_block] at this | exact this) GW204.out))) _).trans (hHeld.2.2.2.2.2.1)))))))))), ((cell_far (p := ⟨gb204, _, none⟩) (by first | exact Nat.ne_of_lt (Nat.lt_of_lt_of_le (by have := World.block_lt_of_cell? _ _ hw196_1; first | rwa [add_block] at this | exact this) GW204.out) | (rw [add_block]; exact Nat.ne_of_lt (Nat.lt_of_lt_of_le (by have := World.block_lt_of_cell? _ _ hw196_1; first | rwa [add_block] at this | exact this) GW204.out)) | (show (Addr.add _ _).block ≠ _; rw [add_block]; exact Nat.ne_of_lt (Nat.lt_of_lt_of_le (by have := World.block_lt_of_cell? _ _ hw196_1; first | rwa [add_block] at this | exact this) GW204.out)) | (dsimp only; exact Nat.ne_of_lt (Nat.lt_of_lt_of_le (by have := World.block_lt_of_cell? _ _ hw196_1; first | rwa [add_block] at this | exact this) GW204.out))) _).trans (((cell_far (p := ⟨gb204, _, none⟩) (by first | exact Nat.ne_of_lt (Nat.lt_of_lt_of_le (by have := World.block_lt_of_cell? _ _ hw196_1; first | rwa [add_block] at this | exact this) GW204.out) | (rw [add_block]; exact Nat.ne_of_lt (Nat.lt_of_lt_of_le (by have := World.block_lt_of_cell? _ _ hw196_1; first | rwa [add_block] at this | exact this) GW204.out)) | (show (Addr.add _ _).block ≠ _; rw [add_block]; exact Nat.ne_of_lt (Nat.lt_of_lt_of_le (by have := World.block_lt_of_cell? _ _ hw196_1; first | rwa [add_block] at this | exact this) GW204.out)) | (dsimp only; exact Nat.ne_of_lt (Nat.lt_of_lt_of_le (by have := World.block_lt_of_cell? _ _ hw196_1; first | rwa [add_block] at this | exact this) GW204.out))) _).trans (((cell_far (p := ⟨gb204, _, none⟩) (by first | exact Nat.ne_of_lt (Nat.lt_of_lt_of_le (by have := World.block_lt_of_cell? _ _ hw196_1; first | rwa [add_block] at this | exact this) GW204.out) | (rw [add_block]; exact Nat.ne_of_lt (Nat.lt_of_lt_of_le (by have := World.block_lt_of_cell? _ _ hw196_1; first | rwa [add_block] at this | exact this) GW204.out)) | (show (Addr.add _ _).block ≠ _; rw [add_block]; exact Nat.ne_of_lt (Nat.lt_of_lt_of_le (by have := World.block_lt_of_cell? _ _ hw196_1; first | rwa [add_block] at this | exact this) GW204.out)) | (dsimp only; exact Nat.ne_of_lt (Nat.lt_of_lt_of_le (by have := World.block_lt_of_cell? _ _ hw196_1; first | rwa [add_block] at this | exact this) GW204.out))) _).trans (((cell_far (p := ⟨gb204, _, none⟩) (by first | exact Nat.ne_of_lt (Nat.lt_of_lt_of_le (by have := World.block_lt_of_cell? _ _ hw196_1; first | rwa [add_block] at this | exact this) GW204.out) | (rw [add_block]; exact Nat.ne_of_lt (Nat.lt_of_lt_of_le (by have := World.block_lt_of_cell? _ _ hw196_1; first | rwa [add_block] at this | exact this) GW204.out)) | (show (Addr.add _ _).block ≠ _; rw [add_block]; exact Nat.ne_of_lt (Nat.lt_of_lt_of_le (by have := World.block_lt_of_cell? _ _ hw196_1; first | rwa [add_block] at this | exact this) GW204.out)) | (dsimp only; exact Nat.ne_of_lt (Nat.lt_of_lt_of_le (by have := World.block_lt_of_cell? _ _ hw196_1; first | rwa [add_block] at this | exact this) GW204.out))) _).trans (((cell_far (p := ⟨gb204, _, none⟩) (by first | exact Nat.ne_of_lt (Nat.lt_of_lt_of_le (by have := World.block_lt_of_cell? _ _ hw196_1; first | rwa [add_block] at this | exact this) GW204.out) | (rw [add_block]; exact Nat.ne_of_lt (Nat.lt_of_lt_of_le (by have := World.block_lt_of_cell? _ _ hw196_1; first | rwa [add_block] at this | exact this) GW204.out)) | (show (Addr.add _ _).block ≠ _; rw [add_block]; exact Nat.ne_of_lt (Nat.lt_of_lt_of_le (by have := World.block_lt_of_cell? _ _ hw196_1; first | rwa [add_block] at this | exact this) GW204.out)) | (dsimp only; exact Nat.ne_of_lt (Nat.lt_of_lt_of_le (by have := World.block_lt_of_cell? _ _ hw196_1; first | rwa [add_block] at this | exact this) GW204.out))) _).trans (hHeld.2.2.2.2.2.2.1)))))))))), ((cell_far (p := ⟨gb204, _, none⟩) (by first | exact Nat.ne_of_lt (Nat.lt_of_lt_of_le (by have := World.block_lt_of_cell? _ _ hw196_2; first | rwa [add_block] at this | exact this) GW204.out) | (rw [add_block]; exact Nat.ne_of_lt (Nat.lt_of_lt_of_le (by have := World.block_lt_of_cell? _ _ hw196_2; first | rwa [add_block] at this | exact this) GW204.out)) | (show (Addr.add _ _).block ≠ _; rw [add_block]; exact Nat.ne_of_lt (Nat.lt_of_lt_of_le (by have := World.block_lt_of_cell? _ _ hw196_2; first | rwa [add_block] at this | exact this) GW204.out)) | (dsimp only; exact Nat.ne_of_lt (Nat.lt_of_lt_of_le (by have := World.block_lt_of_cell? _ _ hw196_2; first | rwa [add_block] at this | exact this) GW204.out))) _).trans (((cell_far (p := ⟨gb204, _, none⟩) (by first | exact Nat.ne_of_lt (Nat.lt_of_lt_of_le (by have := World.block_lt_of_cell? _ _ hw196_2; first | rwa [add_block] at this | exact this) GW204.out) | (rw [add_block]; exact Nat.ne_of_lt (Nat.lt_of_lt_of_le (by have := World.block_lt_of_cell? _ _ hw196_2; first | rwa [add_block] at this | exact this) GW204.out)) | (show (Addr.add _ _).block ≠ _; rw [add_block]; exact Nat.ne_of_lt (Nat.lt_of_lt_of_le (by have := World.block_lt_of_cell? _ _ hw196_2; first | rwa [add_block] at this | exact this) GW204.out)) | (dsimp only; exact Nat.ne_of_lt (Nat.lt_of_lt_of_le (by have := World.block_lt_of_cell? _ _ hw196_2; first | rwa [add_block] at this | exact this) GW204.out))) _).trans (((cell_far (p := ⟨gb204, _, none⟩) (by first | exact Nat.ne_of_lt (Nat.lt_of_lt_of_le (by have := World.block_lt_of_cell? _ _ hw196_2; first | rwa [add_block] at this | exact this) GW204.out) | (rw [add_block]; exact Nat.ne_of_lt (Nat.lt_of_lt_of_le (by have := World.block_lt_of_cell? _ _ hw196_2; first | rwa [add_block] at this | exact this) GW204.out)) | (show (Addr.add _ _).block ≠ _; rw [add_block]; exact Nat.ne_of_lt (Nat.lt_of_lt_of_le (by have := World.block_lt_of_cell? _ _ hw196_2; first | rwa [add_block] at this | exact this) GW204.out)) | (dsimp only; exact Nat.ne_of_lt (Nat.lt_of_lt_of_le (by have := World.block_lt_of_cell? _ _ hw196_2; first | rwa [add_block] at this | exact this) GW204.out))) _).trans (((cell_far (p := ⟨gb204, _, none⟩) (by first | exact Nat.ne_of_lt (Nat.lt_of_lt_of_le (by have := World.block_lt_of_cell? _ _ hw196_2; first | rwa [add_block] at this | exact this) GW204.out) | (rw [add_block]; exact Nat.ne_of_lt (Nat.lt_of_lt_of_le (by have := World.block_lt_of_cell? _ _ hw196_2; first | rwa [add_block] at this | exact this) GW204.out)) | (show (Addr.add _ _).block ≠ _; rw [add_block]; exact Nat.ne_of_lt (Nat.lt_of_lt_of_le (by have := World.block_lt_of_cell? _ _ hw196_2; first | rwa [add_block] at this | exact this) GW204.out)) | (dsimp only; exact Nat.ne_of_lt (Nat.lt_of_lt_of_le (by have := World.block_lt_of_cell? _ _ hw196_2; first | rwa [add_block] at this | exact this) GW204.out))) _).trans (((cell_far (p := ⟨gb204, _, none⟩) (by first | exact Nat.ne_of_lt (Nat.lt_of_lt_of_le (by have := World.block_lt_of_cell? _ _ hw196_2; first | rwa [add_block] at this | exact this) GW204.out) | (rw [add_block]; exact Nat.ne_of_lt (Nat.lt_of_lt_of_le (by have := World.block_lt_of_cell? _ _ hw196_2; first | rwa [add_block] at this | exact this) GW204.out)) | (show (Addr.add _ _).block ≠ _; rw [add_block]; exact Nat.ne_of_lt (Nat.lt_of_lt_of_le (by have := World.block_lt_of_cell? _ _ hw196_2; first | rwa [add_block] at this | exact this) GW204.out)) | (dsimp only; exact Nat.ne_of_lt (Nat.lt_of_lt_of_le (by have := World.block_lt_of_cell? _ _ hw196_2; first | rwa [add_block] at this | exact this) GW204.out))) _).trans (hHeld.2.2.2.2.2.2.2.1)))))))))), ((cell_far (p := ⟨gb204, _, none⟩) (by first | exact Nat.ne_of_lt (Nat.lt_of_lt_of_le (by have := World.block_lt_of_cell? _ _ hw196_3; first | rwa [add_block] at this | exact this) GW204.out) | (rw [add_block]; exact Nat.ne_of_lt (Nat.lt_of_lt_of_le (by have := World.block_lt_of_cell? _ _ hw196_3; first | rwa [add_block] at this | exact this) GW204.out)) | (show (Addr.add _ _).block ≠ _; rw [add_block]; exact Nat.ne_of_lt (Nat.lt_of_lt_of_le (by have := World.block_lt_of_cell? _ _ hw196_3; first | rwa [add_block] at this | exact this) GW204.out)) | (dsimp only; exact Nat.ne_of_lt (Nat.lt_of_lt_of_le (by have := World.block_lt_of_cell? _ _ hw196_3; first | rwa [add_block] at this | exact this) GW204.out))) _).trans (((cell_far (p := ⟨gb204, _, none⟩) (by first | exact Nat.ne_of_lt (Nat.lt_of_lt_of_le (by have := World.block_lt_of_cell? _ _ hw196_3; first | rwa [add_block] at this | exact this) GW204.out) | (rw [add_block]; exact Nat.ne_of_lt (Nat.lt_of_lt_of_le (by have := World.block_lt_of_cell? _ _ hw196_3; first | rwa [add_block] at this | exact this) GW204.out)) | (show (Addr.add _ _).block ≠ _; rw [add_block]; exact Nat.ne_of_lt (Nat.lt_of_lt_of_le (by have := World.block_lt_of_cell? _ _ hw196_3; first | rwa [add_block] at this | exact this) GW204.out)) | (dsimp only; exact Nat.ne_of_lt (Nat.lt_of_lt_of_le (by have := World.block_lt_of_cell? _ _ hw196_3; first | rwa [add_block] at this | exact this) GW204.out))) _).trans (((cell_far (p := ⟨gb204, _, none⟩) (by first | exact Nat.ne_of_lt (Nat.lt_of_lt_of_le (by have := World.block_lt_of_cell? _ _ hw196_3; first | rwa [add_block] at this | exact this) GW204.out) | (rw [add_block]; exact Nat.ne_of_lt (Nat.lt_of_lt_of_le (by have := World.block_lt_of_cell? _ _ hw196_3; first | rwa [add_block] at this | exact this) GW204.out)) | (show (Addr.add _ _).block ≠ _; rw [add_block]; exact Nat.ne_of_lt (Nat.lt_of_lt_of_le (by have := World.block_lt_of_cell? _ _ hw196_3; first | rwa [add_block] at this | exact this) GW204.out)) | (dsimp only; exact Nat.ne_of_lt (Nat.lt_of_lt_of_le (by have := World.block_lt_of_cell? _ _ hw196_3; first | rwa [add_block] at this | exact this) GW204.out))) _).trans (((cell_far (p := ⟨gb204, _, none⟩) (by first | exact Nat.ne_of_lt (Nat.lt_of_lt_of_le (by have := World.block_lt_of_cell? _ _ hw196_3; first | rwa [add_block] at this | exact this) GW204.out) | (rw [add_block]; exact Nat.ne_of_lt (Nat.lt_of_lt_of_le (by have := World.block_lt_of_cell? _ _ hw196_3; first | rwa [add_block] at this | exact this) GW204.out)) | (show (Addr.add _ _).block ≠ _; rw [add_block]; exact Nat.ne_of_lt (Nat.lt_of_lt_of_le (by have := World.block_lt_of_cell? _ _ hw196_3; first | rwa [add_block] at this | exact this) GW204.out)) | (dsimp only; exact Nat.ne_of_lt (Nat.lt_of_lt_of_le (by have := World.block_lt_of_cell? _ _ hw196_3; first | rwa [add_block] at this | exact this) GW204.out))) _).trans (((cell_far (p := ⟨gb204, _, none⟩) (by first | exact Nat.ne_of_lt (Nat.lt_of_lt_of_le (by have := World.block_lt_of_cell? _ _ hw196_3; first | rwa [add_block] at this | exact this) GW204.out) | (rw [add_block]; exact Nat.ne_of_lt (Nat.lt_of_lt_of_le (by have := World.block_lt_of_cell? _ _ hw196_3; first | rwa [add_block] at this | exact this) GW204.out)) | (show (Addr.add _ _).block ≠ _; rw [add_block]; exact Nat.ne_of_lt (Nat.lt_of_lt_of_le (by have := World.block_lt_of_cell? _ _ hw196_3; first | rwa [add_block] at this | exact this) GW204.out)) | (dsimp only; exact Nat.ne_of_lt (Nat.lt_of_lt_of_le (by have := World.block_lt_of_cell? _ _ hw196_3; first | rwa [add_block] at this | exact this) GW204.out))) _).trans (hHeld.2.2.2.2.2.2.2.2))))))))))⟩ (fun hHeld => ?_)
      clear hK K
      refine pure_ (i := 12) (N := some 11) (v := ?_) (a' := ?_) A5_18 rfl rfl (any_of HT_.out (by kernel_rfl)) (fun _ _ _ h => h) (Or.inl ⟨by rfl, ?_⟩) ?_ ?_
      (rotate_left; (intro w'; go_simp; with_reducible rfl); rotate_left; (simp only [Act.put, List.setIfInBounds_toArray, List.set_cons_zero, List.set_cons_succ, i64_w, i32_w]; rfl))
      refine pure_ (i := 13) (N := some 12) (v := ?_) (a' := ?_) A5_19 rfl rfl (any_of HT_.out (by kernel_rfl)) (fun _ _ _ h => h) (Or.inl ⟨by rfl, ?_⟩) ?_ ?_
      (rotate_left; (intro w'; go_simp; with_reducible rfl); rotate_left; (simp only [Act.put, List.setIfInBounds_toArray, List.set_cons_zero, List.set_cons_succ, i64_w, i32_w]; rfl))
      refine done_ (done_of HT_.out (by kernel_rfl)) ?_
      go_upto_region 9 with (fail)
      go_cut [42, 22] (fun v42 v22 wc => ∃ (kq : Nat) (x42_17 : Bool), v42 = .bool x42_17 ∧ Aside0 (spec_FlyRoute.j1 kq l1 x7_1 x8_1 x9_1 t202 t203 x42_17 x192000_1 x192001_1 x192002_1 x192003_1 x192004_1 t197 t198 t199 t200 t201 = some (r1, r2, r3, r4, r5, r6, r7)) ∧ Aside0 (kq ≤ k1) ∧ Aside0 (Kd.R (Kd.int .i64) 3 wc w.heap.size (fun _ => True) u7 x7_1) ∧ Aside0 (wc.heap[gb191]? = some (.cells #[.int .i64 x192000_1, .int .i64 x192001_1, .int .i64 x192002_1, .int .i64 x192003_1, .int .i64 x192004_1] 25 (0, 0))) ∧ Aside0 (wc.heap[gb192]? = some (.cells #[.int .i64 x193000_1, .int .i64 x193001_1, .int .i64 x193002_1, .int .i64 x193003_1, .int .i64 x193004_1] 25 (0, 0))) ∧ Aside0 (wc.heap[gb204]? = some (.cells #[.int .i64 t197, .int .i64 t198, .int .i64 t199, .int .i64 t200, .int .i64 t201] 25 (0, 0))) ∧ Aside0 (Below w.heap.size w wc))
      case first =>
       have H := HC18.out
       clear HC18
       by_cases c28 : t203 = 0
       ·
        rw [if_pos c28] at H
        have c28b0 : (t203 == 0) = true := beq_iff_eq.mpr c28
        have c28b1 : (t203 != 0) = false := bne_eq_false_iff_eq.mpr c28
        clear c28
        (first | rw [c28b0] | (simp only [i64_w, i32_w]; rw [c28b0]) | skip)
        have H' := Aside0.mk H
        clear H
        go_wp2
        go_meet
        case rel => exact ⟨_, (decide ((wrap64 (x8_1 + t202)) > 2000)), (by first | rfl | (simp; done) | (simp [*]; done)), H', ⟨by have := HK1.out; first | omega | exact Nat.le_refl _⟩, ⟨by refine ru ?_; exact Kd.R_mono (Kd.R_far (p := ⟨gb204, 4, none⟩) (Kd.R_far (p := ⟨gb204, 3, none⟩) (Kd.R_far (p := ⟨gb204, 2, none⟩) (Kd.R_far (p := ⟨gb204, 1, none⟩) (Kd.R_far (p := ⟨gb204, 0, none⟩) (Kd.R_types HO_7.out BK204.out (by decide)) (fun _ hk => hk.2) (.int .i64 t197)) (fun _ hk => hk.2) (.int .i64 t198)) (fun _ hk => hk.2) (.int .i64 t199)) (fun _ hk => hk.2) (.int .i64 t200)) (fun _ hk => hk.2) (.int .i64 t201)) (fun _ hk => trivial)⟩, ⟨by refine bu ?_; refine blk_far ?_ NB191_204.out _; refine bu ?_; refine blk_far ?_ NB191_204.out _; refine bu ?_; refine blk_far ?_ NB191_204.out _; refine bu ?_; refine blk_far ?_ NB191_204.out _; refine bu ?_; refine blk_far ?_ NB191_204.out _; refine bu ?_; exact BK191.out⟩, ⟨by refine bu ?_; refine blk_far ?_ NB192_204.out _; refine bu ?_; refine blk_far ?_ NB192_204.out _; refine bu ?_; refine blk_far ?_ NB192_204.out _; refine bu ?_; refine blk_far ?_ NB192_204.out _; refine bu ?_; refine blk_far ?_ NB192_204.out _; refine bu ?_; exact BK192.out⟩, ⟨by refine bu ?_; refine blk_put (cs := #[.int .i64 t197, .int .i64 t198, .int .i64 t199, .int .i64 t200, .int .i64 0]) ?_ 4 _ rfl; refine bu ?_; refine blk_put (cs := #[.int .i64 t197, .int .i64 t198, .int .i64 t199, .int .i64 0, .int .i64 0]) ?_ 3 _ rfl; refine bu ?_; refine blk_put (cs := #[.int .i64 t197, .int .i64 t198, .int .i64 0, .int .i64 0, .int .i64 0]) ?_ 2 _ rfl; refine bu ?_; refine blk_put (cs := #[.int .i64 t197, .int .i64 0, .int .i64 0, .int .i64 0, .int .i64 0]) ?_ 1 _ rfl; refine bu ?_; refine blk_put (cs := #[.int .i64 0, .int .i64 0, .int .i64 0, .int .i64 0, .int .i64 0]) ?_ 0 _ rfl; refine bu ?_; exact BK204.out⟩, ⟨by repeat (first | (with_reducible first | exact HB.out | apply ba | apply bn | apply bd | refine bt ?_ GE191.out | refine bt ?_ GE192.out | refine bt ?_ GE204.out) | exact HB.out)⟩⟩
       ·
        rw [if_neg c28] at H
        have c28b0 : (t203 == 0) = false := beq_eq_false_iff_ne.mpr c28
        have c28b1 : (t203 != 0) = true := bne_iff_ne.mpr c28
        (first | rw [c28b0] | (simp only [i64_w, i32_w]; rw [c28b0]) | skip)
        have H' := Aside0.mk H
        clear H
        go_wp2
        go_meet
        case rel => exact ⟨_, (false), (by first | rfl | (simp; done) | (simp [*]; done)), H', ⟨by have := HK1.out; first | omega | exact Nat.le_refl _⟩, ⟨by refine ru ?_; exact Kd.R_mono (Kd.R_far (p := ⟨gb204, 4, none⟩) (Kd.R_far (p := ⟨gb204, 3, none⟩) (Kd.R_far (p := ⟨gb204, 2, none⟩) (Kd.R_far (p := ⟨gb204, 1, none⟩) (Kd.R_far (p := ⟨gb204, 0, none⟩) (Kd.R_types HO_7.out BK204.out (by decide)) (fun _ hk => hk.2) (.int .i64 t197)) (fun _ hk => hk.2) (.int .i64 t198)) (fun _ hk => hk.2) (.int .i64 t199)) (fun _ hk => hk.2) (.int .i64 t200)) (fun _ hk => hk.2) (.int .i64 t201)) (fun _ hk => trivial)⟩, ⟨by refine bu ?_; refine blk_far ?_ NB191_204.out _; refine bu ?_; refine blk_far ?_ NB191_204.out _; refine bu ?_; refine blk_far ?_ NB191_204.out _; refine bu ?_; refine blk_far ?_ NB191_204.out _; refine bu ?_; refine blk_far ?_ NB191_204.out _; refine bu ?_; exact BK191.out⟩, ⟨by refine bu ?_; refine blk_far ?_ NB192_204.out _; refine bu ?_; refine blk_far ?_ NB192_204.out _; refine bu ?_; refine blk_far ?_ NB192_204.out _; refine bu ?_; refine blk_far ?_ NB192_204.out _; refine bu ?_; refine blk_far ?_ NB192_204.out _; refine bu ?_; exact BK192.out⟩, ⟨by refine bu ?_; refine blk_put (cs := #[.int .i64 t197, .int .i64 t198, .int .i64 t199, .int .i64 t200, .int .i64 0]) ?_ 4 _ rfl; refine bu ?_; refine blk_put (cs := #[.int .i64 t197, .int .i64 t198, .int .i64 t199, .int .i64 0, .int .i64 0]) ?_ 3 _ rfl; refine bu ?_; refine blk_put (cs := #[.int .i64 t197, .int .i64 t198, .int .i64 0, .int .i64 0, .int .i64 0]) ?_ 2 _ rfl; refine bu ?_; refine blk_put (cs := #[.int .i64 t197, .int .i64 0, .int .i64 0, .int .i64 0, .int .i64 0]) ?_ 1 _ rfl; refine bu ?_; refine blk_put (cs := #[.int .i64 0, .int .i64 0, .int .i64 0, .int .i64 0, .int .i64 0]) ?_ 0 _ rfl; refine bu ?_; exact BK204.out⟩, ⟨by repeat (first | (with_reducible first | exact HB.out | apply ba | apply bn | apply bd | refine bt ?_ GE191.out | refine bt ?_ GE192.out | refine bt ?_ GE204.out) | exact HB.out)⟩⟩
      case rest =>
       clear HC18
       try clear c1
       try clear p1
       try clear q1
       try clear hx1
       try clear c2
       try clear p2
       try clear c3
       try clear c3b0
       try clear c3b1
       try clear p6
       try clear c8
       try clear c13
       try clear c15
       try clear c15b0
       try clear c16
       try clear c16b0
       try clear c17
       try clear p19
       try clear q19
       try clear hx19
       try clear c28
       try clear c28b0
       try clear c28b1
       try clear hcz10_0
       try clear hcz10_1
       try clear hcz10_2
       try clear hcz10_3
       try clear hcz10_4
       try clear hcz9_0
       try clear hcz9_1
       try clear hcz9_2
       try clear hcz9_3
       try clear hcz9_4
       try clear hfz10_0
       try clear hfz10_1
       try clear hfz10_2
       try clear hfz10_3
       try clear hfz10_4
       try clear hfz9_0
       try clear hfz9_1
       try clear hfz9_2
       try clear hfz9_3
       try clear hfz9_4
       try clear hx196_0
       try clear hx196_1
       try clear hx196_2
       try clear hx196_3
       try clear p196
       try clear p2
       try clear q196
       obtain ⟨kq, x42_17, rfl, HA, HJ17, HO_7, BK191, BK192, BK204, HB⟩ := hcut
       cases kq with
       | zero => exact absurd HA.out (by simp [spec_FlyRoute.j1])
       | succ kj17 =>
        have H := HA.out
        clear HA
        simp only [spec_FlyRoute.j1] at H
        by_cases c29 : x42_17 = true
        ·
         subst c29
         have H1 : (if 2 = 0 then (if x7_1.length < 17592186044416 then (spec_FlyRoute.l0 kj17 l1 (x7_1 ++ [t202]) (wrap64 (x8_1 + t202)) (wrap64 (x9_1 + 1)) t197 t198 t199 t200 t201) else (none)) else (some (x192000_1, x192001_1, x192002_1, x192003_1, x192004_1, x7_1, 2))) = some (r1, r2, r3, r4, r5, r6, r7) := by rw [if_pos rfl] at H; exact H
         clear H
         have H := H1
         clear H1
         by_cases c30 : 2 = 0
         ·
          exact absurd c30 (by decide)
         ·
          rw [if_neg c30] at H
          have c30b0 : (2 == 0) = false := beq_eq_false_iff_ne.mpr c30
          have c30b1 : (2 != 0) = true := bne_iff_ne.mpr c30
          simp only [Option.some.injEq, Prod.mk.injEq] at H
          obtain ⟨rfl, rfl, rfl, rfl, rfl, rfl, rfl⟩ := H
          have hnb38 := NB191_192.out
          have hnc38 := NB192_191.out
          have hnb39 := NB191_204.out
          have hnc39 := NB204_191.out
          have hcz40_0 : wc.cell? ⟨gb191, 0, none⟩ = some (.int .i64 x192000_1) := (blk_cell BK191.out 0).trans rfl
          have hcz40_1 : wc.cell? ⟨gb191, 1, none⟩ = some (.int .i64 x192001_1) := (blk_cell BK191.out 1).trans rfl
          have hcz40_2 : wc.cell? ⟨gb191, 2, none⟩ = some (.int .i64 x192002_1) := (blk_cell BK191.out 2).trans rfl
          have hcz40_3 : wc.cell? ⟨gb191, 3, none⟩ = some (.int .i64 x192003_1) := (blk_cell BK191.out 3).trans rfl
          have hcz40_4 : wc.cell? ⟨gb191, 4, none⟩ = some (.int .i64 x192004_1) := (blk_cell BK191.out 4).trans rfl
          have hfz40_0 := blk_frozen BK191.out 0
          have hfz40_1 := blk_frozen BK191.out 1
          have hfz40_2 := blk_frozen BK191.out 2
          have hfz40_3 := blk_frozen BK191.out 3
          have hfz40_4 := blk_frozen BK191.out 4
          have hnb41 := NB192_204.out
          have hnc41 := NB204_192.out
          have hcz42_0 : wc.cell? ⟨gb192, 0, none⟩ = some (.int .i64 x193000_1) := (blk_cell BK192.out 0).trans rfl
          have hcz42_1 : wc.cell? ⟨gb192, 1, none⟩ = some (.int .i64 x193001_1) := (blk_cell BK192.out 1).trans rfl
          have hcz42_2 : wc.cell? ⟨gb192, 2, none⟩ = some (.int .i64 x193002_1) := (blk_cell BK192.out 2).trans rfl
          have hcz42_3 : wc.cell? ⟨gb192, 3, none⟩ = some (.int .i64 x193003_1) := (blk_cell BK192.out 3).trans rfl
          have hcz42_4 : wc.cell? ⟨gb192, 4, none⟩ = some (.int .i64 x193004_1) := (blk_cell BK192.out 4).trans rfl
          have hfz42_0 := blk_frozen BK192.out 0
          have hfz42_1 := blk_frozen BK192.out 1
          have hfz42_2 := blk_frozen BK192.out 2
          have hfz42_3 := blk_frozen BK192.out 3
          have hfz42_4 := blk_frozen BK192.out 4
          go_wp2
          refine bodyPost_ret (results_ctt rfl _ _ gb192 25 #[.int .i64 x192000_1, .int .i64 x192001_1, .int .i64 x192002_1, .int .i64 x192003_1, .int .i64 x192004_1] (0, 0) _ rfl (by refine bu ?_; refine blk_put (cs := #[.int .i64 x192000_1, .int .i64 x192001_1, .int .i64 x192002_1, .int .i64 x192003_1, .int .i64 x193004_1]) ?_ 4 _ rfl; refine bu ?_; refine blk_put (cs := #[.int .i64 x192000_1, .int .i64 x192001_1, .int .i64 x192002_1, .int .i64 x193003_1, .int .i64 x193004_1]) ?_ 3 _ rfl; refine bu ?_; refine blk_put (cs := #[.int .i64 x192000_1, .int .i64 x192001_1, .int .i64 x193002_1, .int .i64 x193003_1, .int .i64 x193004_1]) ?_ 2 _ rfl; refine bu ?_; refine blk_put (cs := #[.int .i64 x192000_1, .int .i64 x193001_1, .int .i64 x193002_1, .int .i64 x193003_1, .int .i64 x193004_1]) ?_ 1 _ rfl; refine bu ?_; refine blk_put (cs := #[.int .i64 x193000_1, .int .i64 x193001_1, .int .i64 x193002_1, .int .i64 x193003_1, .int .i64 x193004_1]) ?_ 0 _ rfl; refine bu ?_; exact BK192.out) Try.underlying25 rfl (by kernel_rfl)) rfl ?_
          exact ⟨_, by first | rfl | (simp [errW_none, errW_some] <;> rfl) | (simp [*, errW_none, errW_some] <;> rfl), by refine ru ?_; exact Kd.R_mono (Kd.R_far (p := ⟨gb192, 4, none⟩) (Kd.R_far (p := ⟨gb192, 3, none⟩) (Kd.R_far (p := ⟨gb192, 2, none⟩) (Kd.R_far (p := ⟨gb192, 1, none⟩) (Kd.R_far (p := ⟨gb192, 0, none⟩) (Kd.R_types HO_7.out BK192.out (by decide)) (fun _ hk => hk.2) (.int .i64 x192000_1)) (fun _ hk => hk.2) (.int .i64 x192001_1)) (fun _ hk => hk.2) (.int .i64 x192002_1)) (fun _ hk => hk.2) (.int .i64 x192003_1)) (fun _ hk => hk.2) (.int .i64 x192004_1)) (fun _ hk => trivial), by repeat (first | (with_reducible first | exact HB.out | apply ba | apply bn | apply bd | refine bt ?_ GE191.out | refine bt ?_ GE192.out | refine bt ?_ GE204.out) | exact HB.out)⟩
        ·
         replace c29 := Bool.eq_false_iff.mpr c29
         subst c29
         have H1 : (if t203 = 0 then (if x7_1.length < 17592186044416 then (spec_FlyRoute.l0 kj17 l1 (x7_1 ++ [t202]) (wrap64 (x8_1 + t202)) (wrap64 (x9_1 + 1)) t197 t198 t199 t200 t201) else (none)) else (some (x192000_1, x192001_1, x192002_1, x192003_1, x192004_1, x7_1, t203))) = some (r1, r2, r3, r4, r5, r6, r7) := by rw [if_neg (show ¬ (false = true) by decide)] at H; exact H
         clear H
         have H := H1
         clear H1
         by_cases c43 : t203 = 0
         ·
          rw [if_pos c43] at H
          have c43b0 : (t203 == 0) = true := beq_iff_eq.mpr c43
          have c43b1 : (t203 != 0) = false := bne_eq_false_iff_eq.mpr c43
          clear c43
          by_cases c44 : x7_1.length < 17592186044416
          ·
           rw [if_pos c44] at H
           have LMc44 := Aside0.mk c44
           clear c44
           obtain ⟨y208, hy208⟩ : ∃ y_ : List Int, y_ = (x7_1 ++ [t202]) := ⟨_, rfl⟩
           replace H : (spec_FlyRoute.l0 kj17 l1 y208 (wrap64 (x8_1 + t202)) (wrap64 (x9_1 + 1)) t197 t198 t199 t200 t201) = some (r1, r2, r3, r4, r5, r6, r7) := by first | (rw [hy208]; with_reducible exact H) | (have H2_ := (Option.bind_some _ _).symm.trans H; rw [hy208]; with_reducible exact H2_) | (have H2_ := (Option.bind_some _ _).symm.trans H; with_reducible exact H2_) | with_reducible exact H | (rw [hy208]; exact H) | exact H
           have Ny208 := Aside0.mk hy208
           clear hy208
           have H' := Aside0.mk H
           clear H
           have hnb45 := NB204_191.out
           have hnc45 := NB191_204.out
           have hnb46 := NB204_192.out
           have hnc46 := NB192_204.out
           have hcz47_0 : wc.cell? ⟨gb204, 0, none⟩ = some (.int .i64 t197) := (blk_cell BK204.out 0).trans rfl
           have hcz47_1 : wc.cell? ⟨gb204, 1, none⟩ = some (.int .i64 t198) := (blk_cell BK204.out 1).trans rfl
           have hcz47_2 : wc.cell? ⟨gb204, 2, none⟩ = some (.int .i64 t199) := (blk_cell BK204.out 2).trans rfl
           have hcz47_3 : wc.cell? ⟨gb204, 3, none⟩ = some (.int .i64 t200) := (blk_cell BK204.out 3).trans rfl
           have hcz47_4 : wc.cell? ⟨gb204, 4, none⟩ = some (.int .i64 t201) := (blk_cell BK204.out 4).trans rfl
           have hfz47_0 := blk_frozen BK204.out 0
           have hfz47_1 := blk_frozen BK204.out 1
           have hfz47_2 := blk_frozen BK204.out 2
           have hfz47_3 := blk_frozen BK204.out 3
           have hfz47_4 := blk_frozen BK204.out 4
           have hnb48 := NB191_192.out
           have hnc48 := NB192_191.out
           have hcz49_0 : wc.cell? ⟨gb191, 0, none⟩ = some (.int .i64 x192000_1) := (blk_cell BK191.out 0).trans rfl
           have hcz49_1 : wc.cell? ⟨gb191, 1, none⟩ = some (.int .i64 x192001_1) := (blk_cell BK191.out 1).trans rfl
           have hcz49_2 : wc.cell? ⟨gb191, 2, none⟩ = some (.int .i64 x192002_1) := (blk_cell BK191.out 2).trans rfl
           have hcz49_3 : wc.cell? ⟨gb191, 3, none⟩ = some (.int .i64 x192003_1) := (blk_cell BK191.out 3).trans rfl
           have hcz49_4 : wc.cell? ⟨gb191, 4, none⟩ = some (.int .i64 x192004_1) := (blk_cell BK191.out 4).trans rfl
           have hfz49_0 := blk_frozen BK191.out 0
           have hfz49_1 := blk_frozen BK191.out 1
           have hfz49_2 := blk_frozen BK191.out 2
           have hfz49_3 := blk_frozen BK191.out 3
           have hfz49_4 := blk_frozen BK191.out 4
           go_wp2_with (first | ((with_reducible refine gate_builtin (b := .append) (xs := #[.tmp 52, .tmp 54]) rfl ?_); at_builtin; refine Kd.R_append (Kd.int .i64) (w0 := w) w.heap.size rfl (.tmp 52) (.tmp 54) 40 3 (.int .i64 0) 8 rfl Try.underlying40 info3 rfl (by decide) (by omega) u7 x7_1 t202 [.int .i64 t202] (fun _ => True) (fun _ => False) rfl (by first | (go_simp; done) | (go_simp; rfl)) ?aP (fun _ hk => hk.elim) ?aF ?aO ?aB ?aS ?aL ?_; (case aP => exact rfl); (case aB => exact (by repeat (first | (with_reducible first | exact HB.out | apply ba | apply bn | apply bd | refine bt ?_ GE191.out | refine bt ?_ GE192.out | refine bt ?_ GE204.out) | exact HB.out))); (case aF => exact (fun _ _ => trivial)); (case aO => exact (by refine ru ?_; exact Kd.R_mono (Kd.R_far (p := ⟨gb191, 4, none⟩) (Kd.R_far (p := ⟨gb191, 3, none⟩) (Kd.R_far (p := ⟨gb191, 2, none⟩) (Kd.R_far (p := ⟨gb191, 1, none⟩) (Kd.R_far (p := ⟨gb191, 0, none⟩) (Kd.R_types HO_7.out BK191.out (by decide)) (fun _ hk => hk.2) (.int .i64 t197)) (fun _ hk => hk.2) (.int .i64 t198)) (fun _ hk => hk.2) (.int .i64 t199)) (fun _ hk => hk.2) (.int .i64 t200)) (fun _ hk => hk.2) (.int .i64 t201)) (fun _ hk => trivial))); (case aS => exact (below_size (by repeat (first | (with_reducible first | exact HB.out | apply ba | apply bn | apply bd | refine bt ?_ GE191.out | refine bt ?_ GE192.out | refine bt ?_ GE204.out) | exact HB.out)))); (case aL => have := LMc44.out; omega); intro v209 w50 ho hb hg hat; rw [← Ny208.out] at ho; have n0_ := Aside0.mk (blk_grown (g := gb191) (o := .cells #[.int .i64 t197, .int .i64 t198, .int .i64 t199, .int .i64 t200, .int .i64 t201] 25 (0, 0)) (by refine bu ?_; refine blk_put (cs := #[.int .i64 t197, .int .i64 t198, .int .i64 t199, .int .i64 t200, .int .i64 x192004_1]) ?_ 4 _ rfl; refine bu ?_; refine blk_put (cs := #[.int .i64 t197, .int .i64 t198, .int .i64 t199, .int .i64 x192003_1, .int .i64 x192004_1]) ?_ 3 _ rfl; refine bu ?_; refine blk_put (cs := #[.int .i64 t197, .int .i64 t198, .int .i64 x192002_1, .int .i64 x192003_1, .int .i64 x192004_1]) ?_ 2 _ rfl; refine bu ?_; refine blk_put (cs := #[.int .i64 t197, .int .i64 x192001_1, .int .i64 x192002_1, .int .i64 x192003_1, .int .i64 x192004_1]) ?_ 1 _ rfl; refine bu ?_; refine blk_put (cs := #[.int .i64 x192000_1, .int .i64 x192001_1, .int .i64 x192002_1, .int .i64 x192003_1, .int .i64 x192004_1]) ?_ 0 _ rfl; refine bu ?_; exact BK191.out) hg (Kd.R_ne HO_7.out BK191.out (by decide))); have n1_ := Aside0.mk (blk_grown (g := gb192) (o := .cells #[.int .i64 x193000_1, .int .i64 x193001_1, .int .i64 x193002_1, .int .i64 x193003_1, .int .i64 x193004_1] 25 (0, 0)) (by refine bu ?_; refine blk_far ?_ NB192_191.out _; refine bu ?_; refine blk_far ?_ NB192_191.out _; refine bu ?_; refine blk_far ?_ NB192_191.out _; refine bu ?_; refine blk_far ?_ NB192_191.out _; refine bu ?_; refine blk_far ?_ NB192_191.out _; refine bu ?_; exact BK192.out) hg (Kd.R_ne HO_7.out BK192.out (by decide))); have n2_ := Aside0.mk (blk_grown (g := gb204) (o := .cells #[.int .i64 t197, .int .i64 t198, .int .i64 t199, .int .i64 t200, .int .i64 t201] 25 (0, 0)) (by refine bu ?_; refine blk_far ?_ NB204_191.out _; refine bu ?_; refine blk_far ?_ NB204_191.out _; refine bu ?_; refine blk_far ?_ NB204_191.out _; refine bu ?_; refine blk_far ?_ NB204_191.out _; refine bu ?_; refine blk_far ?_ NB204_191.out _; refine bu ?_; exact BK204.out) hg (Kd.R_ne HO_7.out BK204.out (by decide))); have n3_ := Aside0.mk (hb); have n4_ := Aside0.mk (ho); clear BK191; clear BK192; clear BK204; clear HB; clear HO_7; have BK191 := n0_; have BK192 := n1_; have BK204 := n2_; have HB := n3_; have HO210 := n4_; clear n0_ n1_ n2_ n3_ n4_; clear ho hb hg hat))
           go_roundg kj17
           case measure => have := HK1.out; have := HJ17.out; omega
           case rel => exact ⟨(y208), (wrap64 (x8_1 + t202)), (wrap64 (x9_1 + 1)), (t197), (t198), (t199), (t200), (t201), (x193000_1), (x193001_1), (x193002_1), (x193003_1), (x193004_1), (by first | rfl | (simp; done) | (simp [*]; done)), (by first | rfl | (simp; done) | (simp [*]; done)), H', ⟨by have := HK1.out; have := HJ17.out; omega⟩, ⟨by refine ru ?_; exact HO210.out⟩, ⟨by refine bu ?_; exact BK191.out⟩, ⟨by refine bu ?_; exact BK192.out⟩, ⟨by repeat (first | (with_reducible first | exact HB.out | apply ba | apply bn | apply bd | refine bt ?_ GE191.out | refine bt ?_ GE192.out | refine bt ?_ GE204.out) | exact HB.out)⟩⟩
          ·
           rw [if_neg c44] at H
           exact absurd H (by simp)
         ·
          rw [if_neg c43] at H
          have c43b0 : (t203 == 0) = false := beq_eq_false_iff_ne.mpr c43
          have c43b1 : (t203 != 0) = true := bne_iff_ne.mpr c43
          simp only [Option.some.injEq, Prod.mk.injEq] at H
          obtain ⟨rfl, rfl, rfl, rfl, rfl, rfl, rfl⟩ := H
          have hnb51 := NB191_192.out
          have hnc51 := NB192_191.out
          have hnb52 := NB191_204.out
          have hnc52 := NB204_191.out
          have hcz53_0 : wc.cell? ⟨gb191, 0, none⟩ = some (.int .i64 x192000_1) := (blk_cell BK191.out 0).trans rfl
          have hcz53_1 : wc.cell? ⟨gb191, 1, none⟩ = some (.int .i64 x192001_1) := (blk_cell BK191.out 1).trans rfl
          have hcz53_2 : wc.cell? ⟨gb191, 2, none⟩ = some (.int .i64 x192002_1) := (blk_cell BK191.out 2).trans rfl
          have hcz53_3 : wc.cell? ⟨gb191, 3, none⟩ = some (.int .i64 x192003_1) := (blk_cell BK191.out 3).trans rfl
          have hcz53_4 : wc.cell? ⟨gb191, 4, none⟩ = some (.int .i64 x192004_1) := (blk_cell BK191.out 4).trans rfl
          have hfz53_0 := blk_frozen BK191.out 0
          have hfz53_1 := blk_frozen BK191.out 1
          have hfz53_2 := blk_frozen BK191.out 2
          have hfz53_3 := blk_frozen BK191.out 3
          have hfz53_4 := blk_frozen BK191.out 4
          have hnb54 := NB192_204.out
          have hnc54 := NB204_192.out
          have hcz55_0 : wc.cell? ⟨gb192, 0, none⟩ = some (.int .i64 x193000_1) := (blk_cell BK192.out 0).trans rfl
          have hcz55_1 : wc.cell? ⟨gb192, 1, none⟩ = some (.int .i64 x193001_1) := (blk_cell BK192.out 1).trans rfl
          have hcz55_2 : wc.cell? ⟨gb192, 2, none⟩ = some (.int .i64 x193002_1) := (blk_cell BK192.out 2).trans rfl
          have hcz55_3 : wc.cell? ⟨gb192, 3, none⟩ = some (.int .i64 x193003_1) := (blk_cell BK192.out 3).trans rfl
          have hcz55_4 : wc.cell? ⟨gb192, 4, none⟩ = some (.int .i64 x193004_1) := (blk_cell BK192.out 4).trans rfl
          have hfz55_0 := blk_frozen BK192.out 0
          have hfz55_1 := blk_frozen BK192.out 1
          have hfz55_2 := blk_frozen BK192.out 2
          have hfz55_3 := blk_frozen BK192.out 3
          have hfz55_4 := blk_frozen BK192.out 4
          go_wp2
          refine bodyPost_ret (results_ctt rfl _ _ gb192 25 #[.int .i64 x192000_1, .int .i64 x192001_1, .int .i64 x192002_1, .int .i64 x192003_1, .int .i64 x192004_1] (0, 0) _ rfl (by refine bu ?_; refine blk_put (cs := #[.int .i64 x192000_1, .int .i64 x192001_1, .int .i64 x192002_1, .int .i64 x192003_1, .int .i64 x193004_1]) ?_ 4 _ rfl; refine bu ?_; refine blk_put (cs := #[.int .i64 x192000_1, .int .i64 x192001_1, .int .i64 x192002_1, .int .i64 x193003_1, .int .i64 x193004_1]) ?_ 3 _ rfl; refine bu ?_; refine blk_put (cs := #[.int .i64 x192000_1, .int .i64 x192001_1, .int .i64 x193002_1, .int .i64 x193003_1, .int .i64 x193004_1]) ?_ 2 _ rfl; refine bu ?_; refine blk_put (cs := #[.int .i64 x192000_1, .int .i64 x193001_1, .int .i64 x193002_1, .int .i64 x193003_1, .int .i64 x193004_1]) ?_ 1 _ rfl; refine bu ?_; refine blk_put (cs := #[.int .i64 x193000_1, .int .i64 x193001_1, .int .i64 x193002_1, .int .i64 x193003_1, .int .i64 x193004_1]) ?_ 0 _ rfl; refine bu ?_; exact BK192.out) Try.underlying25 rfl (by kernel_rfl)) rfl ?_
          exact ⟨_, by first | rfl | (simp [errW_none, errW_some] <;> rfl) | (simp [*, errW_none, errW_some] <;> rfl), by refine ru ?_; exact Kd.R_mono (Kd.R_far (p := ⟨gb192, 4, none⟩) (Kd.R_far (p := ⟨gb192, 3, none⟩) (Kd.R_far (p := ⟨gb192, 2, none⟩) (Kd.R_far (p := ⟨gb192, 1, none⟩) (Kd.R_far (p := ⟨gb192, 0, none⟩) (Kd.R_types HO_7.out BK192.out (by decide)) (fun _ hk => hk.2) (.int .i64 x192000_1)) (fun _ hk => hk.2) (.int .i64 x192001_1)) (fun _ hk => hk.2) (.int .i64 x192002_1)) (fun _ hk => hk.2) (.int .i64 x192003_1)) (fun _ hk => hk.2) (.int .i64 x192004_1)) (fun _ hk => trivial), by repeat (first | (with_reducible first | exact HB.out | apply ba | apply bn | apply bd | refine bt ?_ GE191.out | refine bt ?_ GE192.out | refine bt ?_ GE204.out) | exact HB.out)⟩
     ·
      rw [if_neg c16] at H
      exact absurd H (by simp)
    ·
     rw [if_neg c15] at H
     have c15b0 : decide (x9_1 < (l1.length : Int)) = false := decide_eq_false c15
     clear c15
     simp only [Option.some.injEq, Prod.mk.injEq] at H
     obtain ⟨rfl, rfl, rfl, rfl, rfl, rfl, rfl⟩ := H
     have hnb56 := NB191_192.out
     have hnc56 := NB192_191.out
     have hcz57_0 : wr.cell? ⟨gb191, 0, none⟩ = some (.int .i64 x192000_1) := (blk_cell BK191.out 0).trans rfl
     have hcz57_1 : wr.cell? ⟨gb191, 1, none⟩ = some (.int .i64 x192001_1) := (blk_cell BK191.out 1).trans rfl
     have hcz57_2 : wr.cell? ⟨gb191, 2, none⟩ = some (.int .i64 x192002_1) := (blk_cell BK191.out 2).trans rfl
     have hcz57_3 : wr.cell? ⟨gb191, 3, none⟩ = some (.int .i64 x192003_1) := (blk_cell BK191.out 3).trans rfl
     have hcz57_4 : wr.cell? ⟨gb191, 4, none⟩ = some (.int .i64 x192004_1) := (blk_cell BK191.out 4).trans rfl
     have hfz57_0 := blk_frozen BK191.out 0
     have hfz57_1 := blk_frozen BK191.out 1
     have hfz57_2 := blk_frozen BK191.out 2
     have hfz57_3 := blk_frozen BK191.out 3
     have hfz57_4 := blk_frozen BK191.out 4
     have hcz58_0 : wr.cell? ⟨gb192, 0, none⟩ = some (.int .i64 x193000_1) := (blk_cell BK192.out 0).trans rfl
     have hcz58_1 : wr.cell? ⟨gb192, 1, none⟩ = some (.int .i64 x193001_1) := (blk_cell BK192.out 1).trans rfl
     have hcz58_2 : wr.cell? ⟨gb192, 2, none⟩ = some (.int .i64 x193002_1) := (blk_cell BK192.out 2).trans rfl
     have hcz58_3 : wr.cell? ⟨gb192, 3, none⟩ = some (.int .i64 x193003_1) := (blk_cell BK192.out 3).trans rfl
     have hcz58_4 : wr.cell? ⟨gb192, 4, none⟩ = some (.int .i64 x193004_1) := (blk_cell BK192.out 4).trans rfl
     have hfz58_0 := blk_frozen BK192.out 0
     have hfz58_1 := blk_frozen BK192.out 1
     have hfz58_2 := blk_frozen BK192.out 2
     have hfz58_3 := blk_frozen BK192.out 3
     have hfz58_4 := blk_frozen BK192.out 4
     go_wp2
     refine bodyPost_ret (results_ctt rfl _ _ gb192 25 #[.int .i64 x192000_1, .int .i64 x192001_1, .int .i64 x192002_1, .int .i64 x192003_1, .int .i64 x192004_1] (0, 0) _ rfl (by refine bu ?_; refine blk_put (cs := #[.int .i64 x192000_1, .int .i64 x192001_1, .int .i64 x192002_1, .int .i64 x192003_1, .int .i64 x193004_1]) ?_ 4 _ rfl; refine bu ?_; refine blk_put (cs := #[.int .i64 x192000_1, .int .i64 x192001_1, .int .i64 x192002_1, .int .i64 x193003_1, .int .i64 x193004_1]) ?_ 3 _ rfl; refine bu ?_; refine blk_put (cs := #[.int .i64 x192000_1, .int .i64 x192001_1, .int .i64 x193002_1, .int .i64 x193003_1, .int .i64 x193004_1]) ?_ 2 _ rfl; refine bu ?_; refine blk_put (cs := #[.int .i64 x192000_1, .int .i64 x193001_1, .int .i64 x193002_1, .int .i64 x193003_1, .int .i64 x193004_1]) ?_ 1 _ rfl; refine bu ?_; refine blk_put (cs := #[.int .i64 x193000_1, .int .i64 x193001_1, .int .i64 x193002_1, .int .i64 x193003_1, .int .i64 x193004_1]) ?_ 0 _ rfl; refine bu ?_; exact BK192.out) Try.underlying25 rfl (by kernel_rfl)) rfl ?_
     exact ⟨_, by first | rfl | (simp [errW_none, errW_some] <;> rfl) | (simp [*, errW_none, errW_some] <;> rfl), by refine ru ?_; exact Kd.R_mono (Kd.R_far (p := ⟨gb192, 4, none⟩) (Kd.R_far (p := ⟨gb192, 3, none⟩) (Kd.R_far (p := ⟨gb192, 2, none⟩) (Kd.R_far (p := ⟨gb192, 1, none⟩) (Kd.R_far (p := ⟨gb192, 0, none⟩) (Kd.R_types HO_7.out BK192.out (by decide)) (fun _ hk => hk.2) (.int .i64 x192000_1)) (fun _ hk => hk.2) (.int .i64 x192001_1)) (fun _ hk => hk.2) (.int .i64 x192002_1)) (fun _ hk => hk.2) (.int .i64 x192003_1)) (fun _ hk => hk.2) (.int .i64 x192004_1)) (fun _ hk => trivial), by repeat (first | (with_reducible first | exact HB.out | apply ba | apply bn | apply bd | refine bt ?_ GE191.out | refine bt ?_ GE192.out) | exact HB.out)⟩

/-! ### laws_toLeg: function 11 -/
def laws_toLeg.f (a0_0 : Int) (a0_1 : Int) (a0_2 : Int) (a0_3 : Int) : Option (Int × Int × Int × Int) := some (a0_0, a0_1, a0_2, a0_3)
set_option maxHeartbeats 8000000 in
set_option maxRecDepth 100000 in
theorem laws_toLeg.calls (a0_0 : Int) (a0_1 : Int) (a0_2 : Int) (a0_3 : Int) (r1 : Int) (r2 : Int) (r3 : Int) (r4 : Int) (w : World) (h : laws_toLeg.f a0_0 a0_1 a0_2 a0_3 = some (r1, r2, r3, r4)) :
  Calls Try.prog 11 #[.agg #[.int .i64 a0_0, .int .i64 a0_1, .int .i64 a0_2, .int .i64 a0_3]] w fun e w' => e = .returned (.agg #[.int .i64 r1, .int .i64 r2, .int .i64 r3, .int .i64 r4]) ∧ Below w.heap.size w w' := by
 have hu29 := Try.underlying29
 have hu31 := Try.underlying31
 have HB := Aside0.mk (Below.refl w.heap.size w)
 have H : (some (a0_0, a0_1, a0_2, a0_3)) = some (r1, r2, r3, r4) := h
 clear h
 simp only [Option.some.injEq, Prod.mk.injEq] at H
 obtain ⟨rfl, rfl, rfl, rfl⟩ := H
 go_enter Try.func11, Try.ntmps11
 go_wp2_with (first | ((with_reducible refine gate_dst (N := 1) rfl ?_); refine box_event ?hg (N := 1) ?hd (cs := #[.int .i64 a0_0, .int .i64 a0_1, .int .i64 a0_2, .int .i64 a0_3]) (t := 29) ?hr ?_; (case hd => rfl); (case hg => rfl); (case hr => first | (go_simp; done) | (go_simp; rfl)); intro gb211 hg w2 hbox hb; have n0_ := Aside0.mk (below_step (by repeat (first | (with_reducible first | exact HB.out | apply ba | apply bn | apply bd) | exact HB.out)) hb); have n1_ := Aside0.mk (hbox); have n2_ := Aside0.mk ((by rw [hg]; exact (below_size (by repeat (first | (with_reducible first | exact HB.out | apply ba | apply bn | apply bd) | exact HB.out))) : w.heap.size ≤ gb211)); have n3_ := n2_; clear HB; have HB := n0_; have BK211 := n1_; have GW211 := n2_; have GE211 := n3_; clear n0_ n1_ n2_ n3_; clear hb hbox hg) | ((with_reducible refine gate_dst (N := 2) rfl ?_); refine box_event ?hg (N := 2) ?hd (cs := #[.int .i64 0, .int .i64 0, .int .i64 0, .int .i64 0]) (t := 31) ?hr ?_; (case hd => rfl); (case hg => rfl); (case hr => first | (go_simp; done) | (go_simp; rfl)); intro gb212 hg w3 hbox hb; have n0_ := Aside0.mk (blk_below (g := gb211) (o := .cells #[.int .i64 a0_0, .int .i64 a0_1, .int .i64 a0_2, .int .i64 a0_3] 29 (0, 0)) (by exact bu BK211.out) hb); have n1_ := Aside0.mk (below_step (by repeat (first | (with_reducible first | exact HB.out | apply ba | apply bn | apply bd | refine bt ?_ GE211.out) | exact HB.out)) hb); have n2_ := Aside0.mk (hbox); have n3_ := Aside0.mk ((by rw [hg]; exact (below_size (by repeat (first | (with_reducible first | exact HB.out | apply ba | apply bn | apply bd | refine bt ?_ GE211.out) | exact HB.out))) : w.heap.size ≤ gb212)); have n4_ := n3_; have n5_ := Aside0.mk ((by rw [hg]; exact Nat.ne_of_lt (blk_lt (g := gb211) (o := .cells #[.int .i64 a0_0, .int .i64 a0_1, .int .i64 a0_2, .int .i64 a0_3] 29 (0, 0)) (by exact bu BK211.out)) : gb211 ≠ gb212)); have n6_ := Aside0.mk n5_.out.symm; clear BK211; clear HB; have BK211 := n0_; have HB := n1_; have BK212 := n2_; have GW212 := n3_; have GE212 := n4_; have NB211_212 := n5_; have NB212_211 := n6_; clear n0_ n1_ n2_ n3_ n4_ n5_ n6_; clear hb hbox hg) | ((with_reducible refine gate_dst (N := 3) rfl ?_); refine box_event ?hg (N := 3) ?hd (cs := #[.int .i64 0, .int .i64 0, .int .i64 0, .int .i64 0]) (t := 31) ?hr ?_; (case hd => rfl); (case hg => rfl); (case hr => first | (go_simp; done) | (go_simp; rfl)); intro gb213 hg w4 hbox hb; have n0_ := Aside0.mk (blk_below (g := gb211) (o := .cells #[.int .i64 a0_0, .int .i64 a0_1, .int .i64 a0_2, .int .i64 a0_3] 29 (0, 0)) (by exact bu BK211.out) hb); have n1_ := Aside0.mk (blk_below (g := gb212) (o := .cells #[.int .i64 0, .int .i64 0, .int .i64 0, .int .i64 0] 31 (0, 0)) (by exact bu BK212.out) hb); have n2_ := Aside0.mk (below_step (by repeat (first | (with_reducible first | exact HB.out | apply ba | apply bn | apply bd | refine bt ?_ GE211.out | refine bt ?_ GE212.out) | exact HB.out)) hb); have n3_ := Aside0.mk (hbox); have n4_ := Aside0.mk ((by rw [hg]; exact (below_size (by repeat (first | (with_reducible first | exact HB.out | apply ba | apply bn | apply bd | refine bt ?_ GE211.out | refine bt ?_ GE212.out) | exact HB.out))) : w.heap.size ≤ gb213)); have n5_ := n4_; have n6_ := Aside0.mk ((by rw [hg]; exact Nat.ne_of_lt (blk_lt (g := gb211) (o := .cells #[.int .i64 a0_0, .int .i64 a0_1, .int .i64 a0_2, .int .i64 a0_3] 29 (0, 0)) (by exact bu BK211.out)) : gb211 ≠ gb213)); have n7_ := Aside0.mk n6_.out.symm; have n8_ := Aside0.mk ((by rw [hg]; exact Nat.ne_of_lt (blk_lt (g := gb212) (o := .cells #[.int .i64 0, .int .i64 0, .int .i64 0, .int .i64 0] 31 (0, 0)) (by exact bu BK212.out)) : gb212 ≠ gb213)); have n9_ := Aside0.mk n8_.out.symm; clear BK211; clear BK212; clear HB; have BK211 := n0_; have BK212 := n1_; have HB := n2_; have BK213 := n3_; have GW213 := n4_; have GE213 := n5_; have NB211_213 := n6_; have NB213_211 := n7_; have NB212_213 := n8_; have NB213_212 := n9_; clear n0_ n1_ n2_ n3_ n4_ n5_ n6_ n7_ n8_ n9_; clear hb hbox hg; have hnb5 := NB211_212.out; have hnc5 := NB212_211.out; have hnb6 := NB211_213.out; have hnc6 := NB213_211.out; have hcz7_0 : w4.cell? ⟨gb211, 0, none⟩ = some (.int .i64 a0_0) := (blk_cell BK211.out 0).trans rfl; have hcz7_1 : w4.cell? ⟨gb211, 1, none⟩ = some (.int .i64 a0_1) := (blk_cell BK211.out 1).trans rfl; have hcz7_2 : w4.cell? ⟨gb211, 2, none⟩ = some (.int .i64 a0_2) := (blk_cell BK211.out 2).trans rfl; have hcz7_3 : w4.cell? ⟨gb211, 3, none⟩ = some (.int .i64 a0_3) := (blk_cell BK211.out 3).trans rfl; have hfz7_0 := blk_frozen BK211.out 0; have hfz7_1 := blk_frozen BK211.out 1; have hfz7_2 := blk_frozen BK211.out 2; have hfz7_3 := blk_frozen BK211.out 3; have hnb8 := NB213_212.out; have hnc8 := NB212_213.out; have hcz9_0 : w4.cell? ⟨gb213, 0, none⟩ = some (.int .i64 0) := (blk_cell BK213.out 0).trans rfl; have hcz9_1 : w4.cell? ⟨gb213, 1, none⟩ = some (.int .i64 0) := (blk_cell BK213.out 1).trans rfl; have hcz9_2 : w4.cell? ⟨gb213, 2, none⟩ = some (.int .i64 0) := (blk_cell BK213.out 2).trans rfl; have hcz9_3 : w4.cell? ⟨gb213, 3, none⟩ = some (.int .i64 0) := (blk_cell BK213.out 3).trans rfl; have hfz9_0 := blk_frozen BK213.out 0; have hfz9_1 := blk_frozen BK213.out 1; have hfz9_2 := blk_frozen BK213.out 2; have hfz9_3 := blk_frozen BK213.out 3; have hcz10_0 : w4.cell? ⟨gb212, 0, none⟩ = some (.int .i64 0) := (blk_cell BK212.out 0).trans rfl; have hcz10_1 : w4.cell? ⟨gb212, 1, none⟩ = some (.int .i64 0) := (blk_cell BK212.out 1).trans rfl; have hcz10_2 : w4.cell? ⟨gb212, 2, none⟩ = some (.int .i64 0) := (blk_cell BK212.out 2).trans rfl; have hcz10_3 : w4.cell? ⟨gb212, 3, none⟩ = some (.int .i64 0) := (blk_cell BK212.out 3).trans rfl; have hfz10_0 := blk_frozen BK212.out 0; have hfz10_1 := blk_frozen BK212.out 1; have hfz10_2 := blk_frozen BK212.out 2; have hfz10_3 := blk_frozen BK212.out 3))
 refine bodyPost_ret (results_cell_row rfl _ _ gb212 31 #[.int .i64 a0_0, .int .i64 a0_1, .int .i64 a0_2, .int .i64 a0_3] (0, 0) _ rfl (by refine bu ?_; refine blk_put (cs := #[.int .i64 a0_0, .int .i64 a0_1, .int .i64 a0_2, .int .i64 0]) ?_ 3 _ rfl; refine bu ?_; refine blk_put (cs := #[.int .i64 a0_0, .int .i64 a0_1, .int .i64 0, .int .i64 0]) ?_ 2 _ rfl; refine bu ?_; refine blk_put (cs := #[.int .i64 a0_0, .int .i64 0, .int .i64 0, .int .i64 0]) ?_ 1 _ rfl; refine bu ?_; refine blk_put (cs := #[.int .i64 0, .int .i64 0, .int .i64 0, .int .i64 0]) ?_ 0 _ rfl; refine bu ?_; refine blk_far ?_ NB212_213.out _; refine bu ?_; refine blk_far ?_ NB212_213.out _; refine bu ?_; refine blk_far ?_ NB212_213.out _; refine bu ?_; refine blk_far ?_ NB212_213.out _; refine bu ?_; exact BK212.out) Try.underlying31 rfl (by kernel_rfl)) rfl ?_
 exact ⟨by first | rfl | (simp [errW_none, errW_some] <;> rfl) | (simp [*, errW_none, errW_some] <;> rfl), by repeat (first | (with_reducible first | exact HB.out | apply ba | apply bn | apply bd | refine bt ?_ GE211.out | refine bt ?_ GE212.out | refine bt ?_ GE213.out) | exact HB.out)⟩

end Go.Proofs.Ytadnhfdodcmlaaa.PFnExactFlyRoute
