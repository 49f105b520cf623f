/- Walks of the functions named below, by a program of the session over the kit's printer. -/
import Derived.Test.YtadnhfdodcmlaaaPFnExactFlyRoutex0
import Derived.Test.YtadnhfdodcmlaaaPFnExactFlyRoutex1
import Derived.Test.YtadnhfdodcmlaaaPFnExactFlyRoutex3
namespace Go.Proofs.Ytadnhfdodcmlaaa.PFnExactFlyRoute
open Go.RowKit Go.Proofs.YtadnhfdodcmlaaaW.PrintWords Go.Proofs.YtadnhfdodcmlaaaW.PrintLast Go.Proofs.YtadnhfdodcmlaaaW.PrintMore
attribute [local go_sem] max2_int min2_int max_two min_two max_three min_three max_four min_four   -- for this text's walks alone
set_option linter.unusedVariables false
set_option linter.unusedSimpArgs false

/-! ### spec_FlyLeg: function 13 -/
mutual
def spec_FlyLeg.j0 : Nat → Bool → Int → Int → Int → Int → Int → Int → Int → Int → Int → Option (Int × Int × Int × Int × Int × Int × Int)
 | 0, _, _, _, _, _, _, _, _, _, _ => none
 | k + 1, x18, x178000, x178001, x178002, x178003, x178004, x179000, x179001, x179002, x179003 => if x18 = true then (some (x178000, x178001, x178002, x178003, x178004, 0, 1)) else (if x179000 = 3 then (if x178003 < x179003 then (spec_FlyLeg.j1 k (decide (x178004 ≤ 0)) x178000 x178001 x178002 x178003 x178004 x179000 x179001 x179002 x179003) else (spec_FlyLeg.j1 k false x178000 x178001 x178002 x178003 x178004 x179000 x179001 x179002 x179003)) else (spec_FlyLeg.j1 k false x178000 x178001 x178002 x178003 x178004 x179000 x179001 x179002 x179003))
def spec_FlyLeg.j1 : Nat → Bool → Int → Int → Int → Int → Int → Int → Int → Int → Int → Option (Int × Int × Int × Int × Int × Int × Int)
 | 0, _, _, _, _, _, _, _, _, _, _ => none
 | k + 1, x34, x178000, x178001, x178002, x178003, x178004, x179000, x179001, x179002, x179003 => if x34 = true then (some (x178000, x178001, x178002, x178003, x178004, 0, 3)) else (spec_FlyLeg.l0 k 0 x178000 x178001 x178002 x178003 x178004 x179000 x179001 x179002 x179003 x178000 x178001 x178002 x178003 x178004)
def spec_FlyLeg.l0 : Nat → Int → Int → Int → Int → Int → Int → Int → Int → Int → Int → Int → Int → Int → Int → Int → Option (Int × Int × Int × Int × Int × Int × Int)
 | 0, _, _, _, _, _, _, _, _, _, _, _, _, _, _, _ => none
 | k + 1, x8, x178000, x178001, x178002, x178003, x178004, x179000, x179001, x179002, x179003, x183000, x183001, x183002, x183003, x183004 => (spec_l12Next.f k x178000 x178001 x178002 x178003 x178004 x179000 x179001 x179002 x179003 x8).bind fun bt183 => (if bt183.2.2.2.2.2 = true then (some (bt183.1, bt183.2.1, bt183.2.2.1, bt183.2.2.2.1, bt183.2.2.2.2.1, x8, 0)) else ((spec_CraftOk.f bt183.1 bt183.2.1 bt183.2.2.1 bt183.2.2.2.1 bt183.2.2.2.2.1).bind fun t190 => (if t190 = true then (spec_FlyLeg.l0 k (wrap64 (x8 + 1)) bt183.1 bt183.2.1 bt183.2.2.1 bt183.2.2.2.1 bt183.2.2.2.2.1 x179000 x179001 x179002 x179003 x183000 x183001 x183002 x183003 x183004) else (some (x183000, x183001, x183002, x183003, x183004, 0, 2)))))
end
def spec_FlyLeg.f (k : Nat) (a0_0 : Int) (a0_1 : Int) (a0_2 : Int) (a0_3 : Int) (a0_4 : Int) (a1_0 : Int) (a1_1 : Int) (a1_2 : Int) (a1_3 : Int) : Option (Int × Int × Int × Int × Int × Int × Int) := (spec_CraftOk.f a0_0 a0_1 a0_2 a0_3 a0_4).bind fun t180 => (if t180 = true then ((spec_LegOk.f a1_0 a1_1 a1_2 a1_3).bind fun t181 => (spec_FlyLeg.j0 k (!t181) a0_0 a0_1 a0_2 a0_3 a0_4 a1_0 a1_1 a1_2 a1_3)) else (spec_FlyLeg.j0 k true a0_0 a0_1 a0_2 a0_3 a0_4 a1_0 a1_1 a1_2 a1_3))
theorem spec_FlyLeg.mono_l : ∀ k, (∀ y0 y1 y2 y3 y4 y5 y6 y7 y8 y9, LeO (spec_FlyLeg.j0 k y0 y1 y2 y3 y4 y5 y6 y7 y8 y9) (spec_FlyLeg.j0 (k + 1) y0 y1 y2 y3 y4 y5 y6 y7 y8 y9)) ∧ (∀ y0 y1 y2 y3 y4 y5 y6 y7 y8 y9, LeO (spec_FlyLeg.j1 k y0 y1 y2 y3 y4 y5 y6 y7 y8 y9) (spec_FlyLeg.j1 (k + 1) y0 y1 y2 y3 y4 y5 y6 y7 y8 y9)) ∧ (∀ y0 y1 y2 y3 y4 y5 y6 y7 y8 y9 y10 y11 y12 y13 y14, LeO (spec_FlyLeg.l0 k y0 y1 y2 y3 y4 y5 y6 y7 y8 y9 y10 y11 y12 y13 y14) (spec_FlyLeg.l0 (k + 1) y0 y1 y2 y3 y4 y5 y6 y7 y8 y9 y10 y11 y12 y13 y14))
 | 0 => ⟨fun _ _ _ _ _ _ _ _ _ _ r h => by simp [spec_FlyLeg.j0] at h, fun _ _ _ _ _ _ _ _ _ _ r h => by simp [spec_FlyLeg.j1] at h, fun _ _ _ _ _ _ _ _ _ _ _ _ _ _ _ r h => by simp [spec_FlyLeg.l0] at h⟩
 | k + 1 => by
  obtain ⟨ih0, ih1, ih2⟩ := spec_FlyLeg.mono_l k
  refine ⟨?_, ?_, ?_⟩
  ·
   intro y0 y1 y2 y3 y4 y5 y6 y7 y8 y9
   unfold spec_FlyLeg.j0
   repeat' first
   | (with_reducible exact ih0 _ _ _ _ _ _ _ _ _ _)
   | (with_reducible exact ih1 _ _ _ _ _ _ _ _ _ _)
   | (with_reducible exact ih2 _ _ _ _ _ _ _ _ _ _ _ _ _ _ _)
   | (with_reducible exact spec_l12Next.mono _ _ _ _ _ _ _ _ _ _ _)
   | (with_reducible exact LeO.refl _)
   | (with_reducible exact LeO.none _)
   | (with_reducible refine LeO.ite ?_ ?_)
   | (with_reducible refine LeO.bind ?_ (fun _ => ?_))
   | exact ih0 _ _ _ _ _ _ _ _ _ _
   | exact ih1 _ _ _ _ _ _ _ _ _ _
   | exact ih2 _ _ _ _ _ _ _ _ _ _ _ _ _ _ _
   | exact spec_l12Next.mono _ _ _ _ _ _ _ _ _ _ _
   | exact LeO.none _
   | refine LeO.ite ?_ ?_
   | refine LeO.bind ?_ (fun _ => ?_)
  ·
   intro y0 y1 y2 y3 y4 y5 y6 y7 y8 y9
   unfold spec_FlyLeg.j1
   repeat' first
   | (with_reducible exact ih0 _ _ _ _ _ _ _ _ _ _)
   | (with_reducible exact ih1 _ _ _ _ _ _ _ _ _ _)
   | (with_reducible exact ih2 _ _ _ _ _ _ _ _ _ _ _ _ _ _ _)
   | (with_reducible exact spec_l12Next.mono _ _ _ _ _ _ _ _ _ _ _)
   | (with_reducible exact LeO.refl _)
   | (with_reducible exact LeO.none _)
   | (with_reducible refine LeO.ite ?_ ?_)
   | (with_reducible refine LeO.bind ?_ (fun _ => ?_))
   | exact ih0 _ _ _ _ _ _ _ _ _ _
   | exact ih1 _ _ _ _ _ _ _ _ _ _
   | exact ih2 _ _ _ _ _ _ _ _ _ _ _ _ _ _ _
   | exact spec_l12Next.mono _ _ _ _ _ _ _ _ _ _ _
   | exact LeO.none _
   | refine LeO.ite ?_ ?_
   | refine LeO.bind ?_ (fun _ => ?_)
  ·
   intro y0 y1 y2 y3 y4 y5 y6 y7 y8 y9 y10 y11 y12 y13 y14
   unfold spec_FlyLeg.l0
   repeat' first
   | (with_reducible exact ih0 _ _ _ _ _ _ _ _ _ _)
   | (with_reducible exact ih1 _ _ _ _ _ _ _ _ _ _)
   | (with_reducible exact ih2 _ _ _ _ _ _ _ _ _ _ _ _ _ _ _)
   | (with_reducible exact spec_l12Next.mono _ _ _ _ _ _ _ _ _ _ _)
   | (with_reducible exact LeO.refl _)
   | (with_reducible exact LeO.none _)
   | (with_reducible refine LeO.ite ?_ ?_)
   | (with_reducible refine LeO.bind ?_ (fun _ => ?_))
   | exact ih0 _ _ _ _ _ _ _ _ _ _
   | exact ih1 _ _ _ _ _ _ _ _ _ _
   | exact ih2 _ _ _ _ _ _ _ _ _ _ _ _ _ _ _
   | exact spec_l12Next.mono _ _ _ _ _ _ _ _ _ _ _
   | exact LeO.none _
   | refine LeO.ite ?_ ?_
   | refine LeO.bind ?_ (fun _ => ?_)
theorem spec_FlyLeg.mono : ∀ a0 a1 a2 a3 a4 a5 a6 a7 a8 k, LeO (spec_FlyLeg.f k a0 a1 a2 a3 a4 a5 a6 a7 a8) (spec_FlyLeg.f (k + 1) a0 a1 a2 a3 a4 a5 a6 a7 a8) := by
 intro a0 a1 a2 a3 a4 a5 a6 a7 a8 k
 obtain ⟨ih0, ih1, ih2⟩ := spec_FlyLeg.mono_l k
 unfold spec_FlyLeg.f
 repeat' first
   | (with_reducible exact ih0 _ _ _ _ _ _ _ _ _ _)
   | (with_reducible exact ih1 _ _ _ _ _ _ _ _ _ _)
   | (with_reducible exact ih2 _ _ _ _ _ _ _ _ _ _ _ _ _ _ _)
   | (with_reducible exact spec_l12Next.mono _ _ _ _ _ _ _ _ _ _ _)
   | (with_reducible exact LeO.refl _)
   | (with_reducible exact LeO.none _)
   | (with_reducible refine LeO.ite ?_ ?_)
   | (with_reducible refine LeO.bind ?_ (fun _ => ?_))
   | exact ih0 _ _ _ _ _ _ _ _ _ _
   | exact ih1 _ _ _ _ _ _ _ _ _ _
   | exact ih2 _ _ _ _ _ _ _ _ _ _ _ _ _ _ _
   | exact spec_l12Next.mono _ _ _ _ _ _ _ _ _ _ _
   | exact LeO.none _
   | refine LeO.ite ?_ ?_
   | refine LeO.bind ?_ (fun _ => ?_)
set_option maxHeartbeats 8000000 in
set_option maxRecDepth 100000 in
theorem spec_FlyLeg.calls (k : Nat) (a0_0 : Int) (a0_1 : Int) (a0_2 : Int) (a0_3 : Int) (a0_4 : Int) (a1_0 : Int) (a1_1 : Int) (a1_2 : Int) (a1_3 : Int) (r1 : Int) (r2 : Int) (r3 : Int) (r4 : Int) (r5 : Int) (r6 : Int) (r7 : Int) (w : World) (h : spec_FlyLeg.f k a0_0 a0_1 a0_2 a0_3 a0_4 a1_0 a1_1 a1_2 a1_3 = some (r1, r2, r3, r4, r5, r6, r7)) :
  Calls Try.prog 13 #[.agg #[.int .i64 a0_0, .int .i64 a0_1, .int .i64 a0_2, .int .i64 a0_3, .int .i64 a0_4], .agg #[.int .i64 a1_0, .int .i64 a1_1, .int .i64 a1_2, .int .i64 a1_3]] w fun e w' => e = .returned (.tuple #[.agg #[.int .i64 r1, .int .i64 r2, .int .i64 r3, .int .i64 r4, .int .i64 r5], .int .i64 r6, .int .i64 r7]) ∧ Below w.heap.size w w' := by
 have hu25 := Try.underlying25
 have hu31 := Try.underlying31
 have HB := Aside0.mk (Below.refl w.heap.size w)
 have H : ((spec_CraftOk.f a0_0 a0_1 a0_2 a0_3 a0_4).bind fun t180 => (if t180 = true then ((spec_LegOk.f a1_0 a1_1 a1_2 a1_3).bind fun t181 => (spec_FlyLeg.j0 k (!t181) a0_0 a0_1 a0_2 a0_3 a0_4 a1_0 a1_1 a1_2 a1_3)) else (spec_FlyLeg.j0 k true a0_0 a0_1 a0_2 a0_3 a0_4 a1_0 a1_1 a1_2 a1_3))) = some (r1, r2, r3, r4, r5, r6, r7) := h
 clear h
 have HC3 := Aside0.mk H
 clear H
 go_enter Try.func13, Try.ntmps13
 go_upto_region 1 with (first | ((with_reducible refine gate_dst (N := 2) rfl ?_); refine box_event ?hg (N := 2) ?hd (cs := #[.int .i64 a0_0, .int .i64 a0_1, .int .i64 a0_2, .int .i64 a0_3, .int .i64 a0_4]) (t := 25) ?hr ?_; (case hd => rfl); (case hg => rfl); (case hr => first | (go_simp; done) | (go_simp; rfl)); intro gb177 hg w4 hbox hb; have n0_ := Aside0.mk (below_step (by repeat (first | (with_reducible first | exact HB.out | apply ba | apply bn | apply bd) | exact HB.out)) hb); have n1_ := Aside0.mk (hbox); have n2_ := Aside0.mk ((by rw [hg]; exact (below_size (by repeat (first | (with_reducible first | exact HB.out | apply ba | apply bn | apply bd) | exact HB.out))) : w.heap.size ≤ gb177)); have n3_ := n2_; clear HB; have HB := n0_; have BK177 := n1_; have GW177 := n2_; have GE177 := n3_; clear n0_ n1_ n2_ n3_; clear hb hbox hg) | ((with_reducible refine gate_dst (N := 3) rfl ?_); refine box_event ?hg (N := 3) ?hd (cs := #[.int .i64 a1_0, .int .i64 a1_1, .int .i64 a1_2, .int .i64 a1_3]) (t := 31) ?hr ?_; (case hd => rfl); (case hg => rfl); (case hr => first | (go_simp; done) | (go_simp; rfl)); intro gb178 hg w5 hbox hb; have n0_ := Aside0.mk (blk_below (g := gb177) (o := .cells #[.int .i64 a0_0, .int .i64 a0_1, .int .i64 a0_2, .int .i64 a0_3, .int .i64 a0_4] 25 (0, 0)) (by exact bu BK177.out) hb); have n1_ := Aside0.mk (below_step (by repeat (first | (with_reducible first | exact HB.out | apply ba | apply bn | apply bd | refine bt ?_ GE177.out) | exact HB.out)) hb); have n2_ := Aside0.mk (hbox); have n3_ := Aside0.mk ((by rw [hg]; exact (below_size (by repeat (first | (with_reducible first | exact HB.out | apply ba | apply bn | apply bd | refine bt ?_ GE177.out) | exact HB.out))) : w.heap.size ≤ gb178)); have n4_ := n3_; have n5_ := Aside0.mk ((by rw [hg]; exact Nat.ne_of_lt (blk_lt (g := gb177) (o := .cells #[.int .i64 a0_0, .int .i64 a0_1, .int .i64 a0_2, .int .i64 a0_3, .int .i64 a0_4] 25 (0, 0)) (by exact bu BK177.out)) : gb177 ≠ gb178)); have n6_ := Aside0.mk n5_.out.symm; clear BK177; clear HB; have BK177 := n0_; have HB := n1_; have BK178 := n2_; have GW178 := n3_; have GE178 := n4_; have NB177_178 := n5_; have NB178_177 := n6_; clear n0_ n1_ n2_ n3_ n4_ n5_ n6_; clear hb hbox hg) | ((with_reducible refine gate_dst (N := 4) rfl ?_); refine box_event ?hg (N := 4) ?hd (cs := #[.int .i64 0, .int .i64 0, .int .i64 0, .int .i64 0, .int .i64 0]) (t := 25) ?hr ?_; (case hd => rfl); (case hg => rfl); (case hr => first | (go_simp; done) | (go_simp; rfl)); intro gb179 hg w6 hbox hb; have n0_ := Aside0.mk (blk_below (g := gb177) (o := .cells #[.int .i64 a0_0, .int .i64 a0_1, .int .i64 a0_2, .int .i64 a0_3, .int .i64 a0_4] 25 (0, 0)) (by exact bu BK177.out) hb); have n1_ := Aside0.mk (blk_below (g := gb178) (o := .cells #[.int .i64 a1_0, .int .i64 a1_1, .int .i64 a1_2, .int .i64 a1_3] 31 (0, 0)) (by exact bu BK178.out) hb); have n2_ := Aside0.mk (below_step (by repeat (first | (with_reducible first | exact HB.out | apply ba | apply bn | apply bd | refine bt ?_ GE177.out | refine bt ?_ GE178.out) | exact HB.out)) hb); have n3_ := Aside0.mk (hbox); have n4_ := Aside0.mk ((by rw [hg]; exact (below_size (by repeat (first | (with_reducible first | exact HB.out | apply ba | apply bn | apply bd | refine bt ?_ GE177.out | refine bt ?_ GE178.out) | exact HB.out))) : w.heap.size ≤ gb179)); have n5_ := n4_; have n6_ := Aside0.mk ((by rw [hg]; exact Nat.ne_of_lt (blk_lt (g := gb177) (o := .cells #[.int .i64 a0_0, .int .i64 a0_1, .int .i64 a0_2, .int .i64 a0_3, .int .i64 a0_4] 25 (0, 0)) (by exact bu BK177.out)) : gb177 ≠ gb179)); have n7_ := Aside0.mk n6_.out.symm; have n8_ := Aside0.mk ((by rw [hg]; exact Nat.ne_of_lt (blk_lt (g := gb178) (o := .cells #[.int .i64 a1_0, .int .i64 a1_1, .int .i64 a1_2, .int .i64 a1_3] 31 (0, 0)) (by exact bu BK178.out)) : gb178 ≠ gb179)); have n9_ := Aside0.mk n8_.out.symm; clear BK177; clear BK178; clear HB; have BK177 := n0_; have BK178 := n1_; have HB := n2_; have BK179 := n3_; have GW179 := n4_; have GE179 := n5_; have NB177_179 := n6_; have NB179_177 := n7_; have NB178_179 := n8_; have NB179_178 := n9_; clear n0_ n1_ n2_ n3_ n4_ n5_ n6_ n7_ n8_ n9_; clear hb hbox hg))
 (try simp only [Act.put, List.setIfInBounds_toArray, List.set_cons_zero, List.set_cons_succ])
 go_cut [18] (fun v18 wc => ∃ (kq : Nat) (x18_2 : Bool), v18 = .bool x18_2 ∧ Aside0 (spec_FlyLeg.j0 kq x18_2 a0_0 a0_1 a0_2 a0_3 a0_4 a1_0 a1_1 a1_2 a1_3 = some (r1, r2, r3, r4, r5, r6, r7)) ∧ Aside0 (kq ≤ k) ∧ Aside0 (wc.heap[gb177]? = some (.cells #[.int .i64 a0_0, .int .i64 a0_1, .int .i64 a0_2, .int .i64 a0_3, .int .i64 a0_4] 25 (0, 0))) ∧ Aside0 (wc.heap[gb178]? = some (.cells #[.int .i64 a1_0, .int .i64 a1_1, .int .i64 a1_2, .int .i64 a1_3] 31 (0, 0))) ∧ Aside0 (wc.heap[gb179]? = some (.cells #[.int .i64 0, .int .i64 0, .int .i64 0, .int .i64 0, .int .i64 0] 25 (0, 0))) ∧ Aside0 (Below w.heap.size w wc))
 case first =>
  have H := HC3.out
  clear HC3
  replace H := Option.bind_eq_some_iff.mp H
  obtain ⟨t180, A70, H⟩ := H
  replace H : (if t180 = true then ((spec_LegOk.f a1_0 a1_1 a1_2 a1_3).bind fun t181 => (spec_FlyLeg.j0 k (!t181) a0_0 a0_1 a0_2 a0_3 a0_4 a1_0 a1_1 a1_2 a1_3)) else (spec_FlyLeg.j0 k true a0_0 a0_1 a0_2 a0_3 a0_4 a1_0 a1_1 a1_2 a1_3)) = some (r1, r2, r3, r4, r5, r6, r7) := H
  have A7 := Aside0.mk A70
  clear A70
  by_cases c8 : t180 = true
  ·
   subst c8
   have H1 : ((spec_LegOk.f a1_0 a1_1 a1_2 a1_3).bind fun t181 => (spec_FlyLeg.j0 k (!t181) a0_0 a0_1 a0_2 a0_3 a0_4 a1_0 a1_1 a1_2 a1_3)) = some (r1, r2, r3, r4, r5, r6, r7) := by rw [if_pos rfl] at H; exact H
   clear H
   have H := H1
   clear H1
   replace H := Option.bind_eq_some_iff.mp H
   obtain ⟨t181, A90, H⟩ := H
   replace H : (spec_FlyLeg.j0 k (!t181) a0_0 a0_1 a0_2 a0_3 a0_4 a1_0 a1_1 a1_2 a1_3) = some (r1, r2, r3, r4, r5, r6, r7) := H
   have A9 := Aside0.mk A90
   clear A90
   have H' := Aside0.mk H
   clear H
   have hnb10 := NB177_178.out
   have hnc10 := NB178_177.out
   have hnb11 := NB177_179.out
   have hnc11 := NB179_177.out
   have hcz12_0 : w6.cell? ⟨gb177, 0, none⟩ = some (.int .i64 a0_0) := (blk_cell BK177.out 0).trans rfl
   have hcz12_1 : w6.cell? ⟨gb177, 1, none⟩ = some (.int .i64 a0_1) := (blk_cell BK177.out 1).trans rfl
   have hcz12_2 : w6.cell? ⟨gb177, 2, none⟩ = some (.int .i64 a0_2) := (blk_cell BK177.out 2).trans rfl
   have hcz12_3 : w6.cell? ⟨gb177, 3, none⟩ = some (.int .i64 a0_3) := (blk_cell BK177.out 3).trans rfl
   have hcz12_4 : w6.cell? ⟨gb177, 4, none⟩ = some (.int .i64 a0_4) := (blk_cell BK177.out 4).trans rfl
   have hfz12_0 := blk_frozen BK177.out 0
   have hfz12_1 := blk_frozen BK177.out 1
   have hfz12_2 := blk_frozen BK177.out 2
   have hfz12_3 := blk_frozen BK177.out 3
   have hfz12_4 := blk_frozen BK177.out 4
   go_wp2_with (first | ((with_reducible refine gate_callee (f := 7) rfl ?_); refine goesL_ (some 12) rfl rfl Try.func7 (by kernel_rfl) rfl #[.agg #[.int .i64 a0_0, .int .i64 a0_1, .int .i64 a0_2, .int .i64 a0_3, .int .i64 a0_4]] rfl (by (try simp only [List.map_toArray, List.map_cons, List.map_nil]); first | done | rfl) ?_; (with_reducible refine (spec_CraftOk.calls a0_0 a0_1 a0_2 a0_3 a0_4 true _ A7.out).mono ?_); rintro e w13 ⟨rfl, hb⟩; refine ⟨_, rfl, ?_⟩; have n0_ := Aside0.mk (blk_below (g := gb177) (o := .cells #[.int .i64 a0_0, .int .i64 a0_1, .int .i64 a0_2, .int .i64 a0_3, .int .i64 a0_4] 25 (0, 0)) (by exact bu BK177.out) hb); have n1_ := Aside0.mk (blk_below (g := gb178) (o := .cells #[.int .i64 a1_0, .int .i64 a1_1, .int .i64 a1_2, .int .i64 a1_3] 31 (0, 0)) (by exact bu BK178.out) hb); have n2_ := Aside0.mk (blk_below (g := gb179) (o := .cells #[.int .i64 0, .int .i64 0, .int .i64 0, .int .i64 0, .int .i64 0] 25 (0, 0)) (by exact bu BK179.out) hb); have n3_ := Aside0.mk (below_step (by repeat (first | (with_reducible first | exact HB.out | apply ba | apply bn | apply bd | refine bt ?_ GE177.out | refine bt ?_ GE178.out | refine bt ?_ GE179.out) | exact HB.out)) hb); clear BK177; clear BK178; clear BK179; clear HB; have BK177 := n0_; have BK178 := n1_; have BK179 := n2_; have HB := n3_; clear n0_ n1_ n2_ n3_; (try clear hb); (try clear hb2); (try clear hk); (try clear hi); have hnb14 := NB178_179.out; have hnc14 := NB179_178.out; have hcz15_0 : w13.cell? ⟨gb178, 0, none⟩ = some (.int .i64 a1_0) := (blk_cell BK178.out 0).trans rfl; have hcz15_1 : w13.cell? ⟨gb178, 1, none⟩ = some (.int .i64 a1_1) := (blk_cell BK178.out 1).trans rfl; have hcz15_2 : w13.cell? ⟨gb178, 2, none⟩ = some (.int .i64 a1_2) := (blk_cell BK178.out 2).trans rfl; have hcz15_3 : w13.cell? ⟨gb178, 3, none⟩ = some (.int .i64 a1_3) := (blk_cell BK178.out 3).trans rfl; have hfz15_0 := blk_frozen BK178.out 0; have hfz15_1 := blk_frozen BK178.out 1; have hfz15_2 := blk_frozen BK178.out 2; have hfz15_3 := blk_frozen BK178.out 3) | (go_at_call 10; (with_reducible refine (spec_LegOk.calls a1_0 a1_1 a1_2 a1_3 t181 _ A9.out).mono ?_); rintro e w16 ⟨rfl, hb⟩; have n0_ := Aside0.mk (blk_below (g := gb177) (o := .cells #[.int .i64 a0_0, .int .i64 a0_1, .int .i64 a0_2, .int .i64 a0_3, .int .i64 a0_4] 25 (0, 0)) (by exact bu BK177.out) hb); have n1_ := Aside0.mk (blk_below (g := gb178) (o := .cells #[.int .i64 a1_0, .int .i64 a1_1, .int .i64 a1_2, .int .i64 a1_3] 31 (0, 0)) (by exact bu BK178.out) hb); have n2_ := Aside0.mk (blk_below (g := gb179) (o := .cells #[.int .i64 0, .int .i64 0, .int .i64 0, .int .i64 0, .int .i64 0] 25 (0, 0)) (by exact bu BK179.out) hb); have n3_ := Aside0.mk (below_step (by repeat (first | (with_reducible first | exact HB.out | apply ba | apply bn | apply bd | refine bt ?_ GE177.out | refine bt ?_ GE178.out | refine bt ?_ GE179.out) | exact HB.out)) hb); clear BK177; clear BK178; clear BK179; clear HB; have BK177 := n0_; have BK178 := n1_; have BK179 := n2_; have HB := n3_; clear n0_ n1_ n2_ n3_; (try clear hb); (try clear hb2); (try clear hk); (try clear hi)))
   go_meet
   case rel => exact ⟨_, (!t181), (by first | rfl | (simp; done) | (simp [*]; done)), H', ⟨by first | omega | exact Nat.le_refl _⟩, ⟨by refine bu ?_; exact BK177.out⟩, ⟨by refine bu ?_; exact BK178.out⟩, ⟨by refine bu ?_; exact BK179.out⟩, ⟨by repeat (first | (with_reducible first | exact HB.out | apply ba | apply bn | apply bd | refine bt ?_ GE177.out | refine bt ?_ GE178.out | refine bt ?_ GE179.out) | exact HB.out)⟩⟩
  ·
   replace c8 := Bool.eq_false_iff.mpr c8
   subst c8
   have H1 : (spec_FlyLeg.j0 k true a0_0 a0_1 a0_2 a0_3 a0_4 a1_0 a1_1 a1_2 a1_3) = some (r1, r2, r3, r4, r5, r6, r7) := by rw [if_neg (show ¬ (false = true) by decide)] at H; exact H
   clear H
   have H := H1
   clear H1
   have H' := Aside0.mk H
   clear H
   have hnb17 := NB177_178.out
   have hnc17 := NB178_177.out
   have hnb18 := NB177_179.out
   have hnc18 := NB179_177.out
   have hcz19_0 : w6.cell? ⟨gb177, 0, none⟩ = some (.int .i64 a0_0) := (blk_cell BK177.out 0).trans rfl
   have hcz19_1 : w6.cell? ⟨gb177, 1, none⟩ = some (.int .i64 a0_1) := (blk_cell BK177.out 1).trans rfl
   have hcz19_2 : w6.cell? ⟨gb177, 2, none⟩ = some (.int .i64 a0_2) := (blk_cell BK177.out 2).trans rfl
   have hcz19_3 : w6.cell? ⟨gb177, 3, none⟩ = some (.int .i64 a0_3) := (blk_cell BK177.out 3).trans rfl
   have hcz19_4 : w6.cell? ⟨gb177, 4, none⟩ = some (.int .i64 a0_4) := (blk_cell BK177.out 4).trans rfl
   have hfz19_0 := blk_frozen BK177.out 0
   have hfz19_1 := blk_frozen BK177.out 1
   have hfz19_2 := blk_frozen BK177.out 2
   have hfz19_3 := blk_frozen BK177.out 3
   have hfz19_4 := blk_frozen BK177.out 4
   go_wp2_with (first | ((with_reducible refine gate_callee (f := 7) rfl ?_); refine goesL_ (some 12) rfl rfl Try.func7 (by kernel_rfl) rfl #[.agg #[.int .i64 a0_0, .int .i64 a0_1, .int .i64 a0_2, .int .i64 a0_3, .int .i64 a0_4]] rfl (by (try simp only [List.map_toArray, List.map_cons, List.map_nil]); first | done | rfl) ?_; (with_reducible refine (spec_CraftOk.calls a0_0 a0_1 a0_2 a0_3 a0_4 false _ A7.out).mono ?_); rintro e w20 ⟨rfl, hb⟩; refine ⟨_, rfl, ?_⟩; have n0_ := Aside0.mk (blk_below (g := gb177) (o := .cells #[.int .i64 a0_0, .int .i64 a0_1, .int .i64 a0_2, .int .i64 a0_3, .int .i64 a0_4] 25 (0, 0)) (by exact bu BK177.out) hb); have n1_ := Aside0.mk (blk_below (g := gb178) (o := .cells #[.int .i64 a1_0, .int .i64 a1_1, .int .i64 a1_2, .int .i64 a1_3] 31 (0, 0)) (by exact bu BK178.out) hb); have n2_ := Aside0.mk (blk_below (g := gb179) (o := .cells #[.int .i64 0, .int .i64 0, .int .i64 0, .int .i64 0, .int .i64 0] 25 (0, 0)) (by exact bu BK179.out) hb); have n3_ := Aside0.mk (below_step (by repeat (first | (with_reducible first | exact HB.out | apply ba | apply bn | apply bd | refine bt ?_ GE177.out | refine bt ?_ GE178.out | refine bt ?_ GE179.out) | exact HB.out)) hb); clear BK177; clear BK178; clear BK179; clear HB; have BK177 := n0_; have BK178 := n1_; have BK179 := n2_; have HB := n3_; clear n0_ n1_ n2_ n3_; (try clear hb); (try clear hb2); (try clear hk); (try clear hi)))
   go_meet
   case rel => exact ⟨_, (true), (by first | rfl | (simp; done) | (simp [*]; done)), H', ⟨by first | omega | exact Nat.le_refl _⟩, ⟨by refine bu ?_; exact BK177.out⟩, ⟨by refine bu ?_; exact BK178.out⟩, ⟨by refine bu ?_; exact BK179.out⟩, ⟨by repeat (first | (with_reducible first | exact HB.out | apply ba | apply bn | apply bd | refine bt ?_ GE177.out | refine bt ?_ GE178.out | refine bt ?_ GE179.out) | exact HB.out)⟩⟩
 case rest =>
  clear HC3
  try clear c1
  try clear p2
  try clear c7
  try clear c8
  try clear c10
  try clear c11
  try clear c13
  try clear c14
  try clear c17
  try clear c18
  try clear hcz12_0
  try clear hcz12_1
  try clear hcz12_2
  try clear hcz12_3
  try clear hcz12_4
  try clear hcz15_0
  try clear hcz15_1
  try clear hcz15_2
  try clear hcz15_3
  try clear hcz19_0
  try clear hcz19_1
  try clear hcz19_2
  try clear hcz19_3
  try clear hcz19_4
  try clear hfz12_0
  try clear hfz12_1
  try clear hfz12_2
  try clear hfz12_3
  try clear hfz12_4
  try clear hfz15_0
  try clear hfz15_1
  try clear hfz15_2
  try clear hfz15_3
  try clear hfz19_0
  try clear hfz19_1
  try clear hfz19_2
  try clear hfz19_3
  try clear hfz19_4
  obtain ⟨kq, x18_2, rfl, HA, HJ2, BK177, BK178, BK179, HB⟩ := hcut
  cases kq with
  | zero => exact absurd HA.out (by simp [spec_FlyLeg.j0])
  | succ kj2 =>
   have H := HA.out
   clear HA
   simp only [spec_FlyLeg.j0] at H
   by_cases c21 : x18_2 = true
   ·
    subst c21
    have H1 : (some (a0_0, a0_1, a0_2, a0_3, a0_4, 0, 1)) = some (r1, r2, r3, r4, r5, r6, r7) := by rw [if_pos rfl] at H; exact H
    clear H
    have H := H1
    clear H1
    simp only [Option.some.injEq, Prod.mk.injEq] at H
    obtain ⟨rfl, rfl, rfl, rfl, rfl, rfl, rfl⟩ := H
    have hnb22 := NB177_178.out
    have hnc22 := NB178_177.out
    have hnb23 := NB177_179.out
    have hnc23 := NB179_177.out
    have hcz24_0 : wc.cell? ⟨gb177, 0, none⟩ = some (.int .i64 a0_0) := (blk_cell BK177.out 0).trans rfl
    have hcz24_1 : wc.cell? ⟨gb177, 1, none⟩ = some (.int .i64 a0_1) := (blk_cell BK177.out 1).trans rfl
    have hcz24_2 : wc.cell? ⟨gb177, 2, none⟩ = some (.int .i64 a0_2) := (blk_cell BK177.out 2).trans rfl
    have hcz24_3 : wc.cell? ⟨gb177, 3, none⟩ = some (.int .i64 a0_3) := (blk_cell BK177.out 3).trans rfl
    have hcz24_4 : wc.cell? ⟨gb177, 4, none⟩ = some (.int .i64 a0_4) := (blk_cell BK177.out 4).trans rfl
    have hfz24_0 := blk_frozen BK177.out 0
    have hfz24_1 := blk_frozen BK177.out 1
    have hfz24_2 := blk_frozen BK177.out 2
    have hfz24_3 := blk_frozen BK177.out 3
    have hfz24_4 := blk_frozen BK177.out 4
    have hnb25 := NB179_178.out
    have hnc25 := NB178_179.out
    have hcz26_0 : wc.cell? ⟨gb179, 0, none⟩ = some (.int .i64 0) := (blk_cell BK179.out 0).trans rfl
    have hcz26_1 : wc.cell? ⟨gb179, 1, none⟩ = some (.int .i64 0) := (blk_cell BK179.out 1).trans rfl
    have hcz26_2 : wc.cell? ⟨gb179, 2, none⟩ = some (.int .i64 0) := (blk_cell BK179.out 2).trans rfl
    have hcz26_3 : wc.cell? ⟨gb179, 3, none⟩ = some (.int .i64 0) := (blk_cell BK179.out 3).trans rfl
    have hcz26_4 : wc.cell? ⟨gb179, 4, none⟩ = some (.int .i64 0) := (blk_cell BK179.out 4).trans rfl
    have hfz26_0 := blk_frozen BK179.out 0
    have hfz26_1 := blk_frozen BK179.out 1
    have hfz26_2 := blk_frozen BK179.out 2
    have hfz26_3 := blk_frozen BK179.out 3
    have hfz26_4 := blk_frozen BK179.out 4
    go_wp2
    refine bodyPost_ret (results_ctt rfl _ _ gb179 25 #[.int .i64 a0_0, .int .i64 a0_1, .int .i64 a0_2, .int .i64 a0_3, .int .i64 a0_4] (0, 0) _ rfl (by refine bu ?_; refine blk_put (cs := #[.int .i64 a0_0, .int .i64 a0_1, .int .i64 a0_2, .int .i64 a0_3, .int .i64 0]) ?_ 4 _ rfl; refine bu ?_; refine blk_put (cs := #[.int .i64 a0_0, .int .i64 a0_1, .int .i64 a0_2, .int .i64 0, .int .i64 0]) ?_ 3 _ rfl; refine bu ?_; refine blk_put (cs := #[.int .i64 a0_0, .int .i64 a0_1, .int .i64 0, .int .i64 0, .int .i64 0]) ?_ 2 _ rfl; refine bu ?_; refine blk_put (cs := #[.int .i64 a0_0, .int .i64 0, .int .i64 0, .int .i64 0, .int .i64 0]) ?_ 1 _ rfl; refine bu ?_; refine blk_put (cs := #[.int .i64 0, .int .i64 0, .int .i64 0, .int .i64 0, .int .i64 0]) ?_ 0 _ rfl; refine bu ?_; exact BK179.out) Try.underlying25 rfl (by kernel_rfl)) rfl ?_
    exact ⟨by first | rfl | (simp [errW_none, errW_some] <;> rfl) | (simp [*, errW_none, errW_some] <;> rfl), by repeat (first | (with_reducible first | exact HB.out | apply ba | apply bn | apply bd | refine bt ?_ GE177.out | refine bt ?_ GE178.out | refine bt ?_ GE179.out) | exact HB.out)⟩
   ·
    replace c21 := Bool.eq_false_iff.mpr c21
    subst c21
    have H1 : (if a1_0 = 3 then (if a0_3 < a1_3 then (spec_FlyLeg.j1 kj2 (decide (a0_4 ≤ 0)) a0_0 a0_1 a0_2 a0_3 a0_4 a1_0 a1_1 a1_2 a1_3) else (spec_FlyLeg.j1 kj2 false a0_0 a0_1 a0_2 a0_3 a0_4 a1_0 a1_1 a1_2 a1_3)) else (spec_FlyLeg.j1 kj2 false a0_0 a0_1 a0_2 a0_3 a0_4 a1_0 a1_1 a1_2 a1_3)) = some (r1, r2, r3, r4, r5, r6, r7) := by rw [if_neg (show ¬ (false = true) by decide)] at H; exact H
    clear H
    have H := H1
    clear H1
    have HC27 := Aside0.mk H
    clear H
    go_upto_region 3 with (fail)
    go_cut [34] (fun v34 wc => ∃ (kq : Nat) (x34_26 : Bool), v34 = .bool x34_26 ∧ Aside0 (spec_FlyLeg.j1 kq x34_26 a0_0 a0_1 a0_2 a0_3 a0_4 a1_0 a1_1 a1_2 a1_3 = some (r1, r2, r3, r4, r5, r6, r7)) ∧ Aside0 (kq ≤ kj2) ∧ Aside0 (wc.heap[gb177]? = some (.cells #[.int .i64 a0_0, .int .i64 a0_1, .int .i64 a0_2, .int .i64 a0_3, .int .i64 a0_4] 25 (0, 0))) ∧ Aside0 (wc.heap[gb178]? = some (.cells #[.int .i64 a1_0, .int .i64 a1_1, .int .i64 a1_2, .int .i64 a1_3] 31 (0, 0))) ∧ Aside0 (wc.heap[gb179]? = some (.cells #[.int .i64 0, .int .i64 0, .int .i64 0, .int .i64 0, .int .i64 0] 25 (0, 0))) ∧ Aside0 (Below w.heap.size w wc))
    case first =>
     have H := HC27.out
     clear HC27
     by_cases c28 : a1_0 = 3
     ·
      rw [if_pos c28] at H
      have c28b0 : (a1_0 == 3) = true := beq_iff_eq.mpr c28
      have c28b1 : (a1_0 != 3) = false := bne_eq_false_iff_eq.mpr c28
      clear c28
      (first | rw [c28b0] | (simp only [i64_w, i32_w]; rw [c28b0]) | skip)
      by_cases c29 : a0_3 < a1_3
      ·
       rw [if_pos c29] at H
       have c29b0 : decide (a0_3 < a1_3) = true := decide_eq_true c29
       clear c29
       have H' := Aside0.mk H
       clear H
       have hnb30 := NB178_177.out
       have hnc30 := NB177_178.out
       have hnb31 := NB178_179.out
       have hnc31 := NB179_178.out
       have hcz32_0 : wc.cell? ⟨gb178, 0, none⟩ = some (.int .i64 a1_0) := (blk_cell BK178.out 0).trans rfl
       have hcz32_1 : wc.cell? ⟨gb178, 1, none⟩ = some (.int .i64 a1_1) := (blk_cell BK178.out 1).trans rfl
       have hcz32_2 : wc.cell? ⟨gb178, 2, none⟩ = some (.int .i64 a1_2) := (blk_cell BK178.out 2).trans rfl
       have hcz32_3 : wc.cell? ⟨gb178, 3, none⟩ = some (.int .i64 a1_3) := (blk_cell BK178.out 3).trans rfl
       have hfz32_0 := blk_frozen BK178.out 0
       have hfz32_1 := blk_frozen BK178.out 1
       have hfz32_2 := blk_frozen BK178.out 2
       have hfz32_3 := blk_frozen BK178.out 3
       have hnb33 := NB177_179.out
       have hnc33 := NB179_177.out
       have hcz34_0 : wc.cell? ⟨gb177, 0, none⟩ = some (.int .i64 a0_0) := (blk_cell BK177.out 0).trans rfl
       have hcz34_1 : wc.cell? ⟨gb177, 1, none⟩ = some (.int .i64 a0_1) := (blk_cell BK177.out 1).trans rfl
       have hcz34_2 : wc.cell? ⟨gb177, 2, none⟩ = some (.int .i64 a0_2) := (blk_cell BK177.out 2).trans rfl
       have hcz34_3 : wc.cell? ⟨gb177, 3, none⟩ = some (.int .i64 a0_3) := (blk_cell BK177.out 3).trans rfl
       have hcz34_4 : wc.cell? ⟨gb177, 4, none⟩ = some (.int .i64 a0_4) := (blk_cell BK177.out 4).trans rfl
       have hfz34_0 := blk_frozen BK177.out 0
       have hfz34_1 := blk_frozen BK177.out 1
       have hfz34_2 := blk_frozen BK177.out 2
       have hfz34_3 := blk_frozen BK177.out 3
       have hfz34_4 := blk_frozen BK177.out 4
       go_wp2
       go_meet
       case rel => exact ⟨_, (decide (a0_4 ≤ 0)), (by first | rfl | (simp; done) | (simp [*]; done)), H', ⟨by have := HJ2.out; first | omega | exact Nat.le_refl _⟩, ⟨by refine bu ?_; exact BK177.out⟩, ⟨by refine bu ?_; exact BK178.out⟩, ⟨by refine bu ?_; exact BK179.out⟩, ⟨by repeat (first | (with_reducible first | exact HB.out | apply ba | apply bn | apply bd | refine bt ?_ GE177.out | refine bt ?_ GE178.out | refine bt ?_ GE179.out) | exact HB.out)⟩⟩
      ·
       rw [if_neg c29] at H
       have c29b0 : decide (a0_3 < a1_3) = false := decide_eq_false c29
       clear c29
       have H' := Aside0.mk H
       clear H
       have hnb35 := NB178_177.out
       have hnc35 := NB177_178.out
       have hnb36 := NB178_179.out
       have hnc36 := NB179_178.out
       have hcz37_0 : wc.cell? ⟨gb178, 0, none⟩ = some (.int .i64 a1_0) := (blk_cell BK178.out 0).trans rfl
       have hcz37_1 : wc.cell? ⟨gb178, 1, none⟩ = some (.int .i64 a1_1) := (blk_cell BK178.out 1).trans rfl
       have hcz37_2 : wc.cell? ⟨gb178, 2, none⟩ = some (.int .i64 a1_2) := (blk_cell BK178.out 2).trans rfl
       have hcz37_3 : wc.cell? ⟨gb178, 3, none⟩ = some (.int .i64 a1_3) := (blk_cell BK178.out 3).trans rfl
       have hfz37_0 := blk_frozen BK178.out 0
       have hfz37_1 := blk_frozen BK178.out 1
       have hfz37_2 := blk_frozen BK178.out 2
       have hfz37_3 := blk_frozen BK178.out 3
       have hnb38 := NB177_179.out
       have hnc38 := NB179_177.out
       have hcz39_0 : wc.cell? ⟨gb177, 0, none⟩ = some (.int .i64 a0_0) := (blk_cell BK177.out 0).trans rfl
       have hcz39_1 : wc.cell? ⟨gb177, 1, none⟩ = some (.int .i64 a0_1) := (blk_cell BK177.out 1).trans rfl
       have hcz39_2 : wc.cell? ⟨gb177, 2, none⟩ = some (.int .i64 a0_2) := (blk_cell BK177.out 2).trans rfl
       have hcz39_3 : wc.cell? ⟨gb177, 3, none⟩ = some (.int .i64 a0_3) := (blk_cell BK177.out 3).trans rfl
       have hcz39_4 : wc.cell? ⟨gb177, 4, none⟩ = some (.int .i64 a0_4) := (blk_cell BK177.out 4).trans rfl
       have hfz39_0 := blk_frozen BK177.out 0
       have hfz39_1 := blk_frozen BK177.out 1
       have hfz39_2 := blk_frozen BK177.out 2
       have hfz39_3 := blk_frozen BK177.out 3
       have hfz39_4 := blk_frozen BK177.out 4
       go_wp2
       go_meet
       case rel => exact ⟨_, (false), (by first | rfl | (simp; done) | (simp [*]; done)), H', ⟨by have := HJ2.out; first | omega | exact Nat.le_refl _⟩, ⟨by refine bu ?_; exact BK177.out⟩, ⟨by refine bu ?_; exact BK178.out⟩, ⟨by refine bu ?_; exact BK179.out⟩, ⟨by repeat (first | (with_reducible first | exact HB.out | apply ba | apply bn | apply bd | refine bt ?_ GE177.out | refine bt ?_ GE178.out | refine bt ?_ GE179.out) | exact HB.out)⟩⟩
     ·
      rw [if_neg c28] at H
      have c28b0 : (a1_0 == 3) = false := beq_eq_false_iff_ne.mpr c28
      have c28b1 : (a1_0 != 3) = true := bne_iff_ne.mpr c28
      (first | rw [c28b0] | (simp only [i64_w, i32_w]; rw [c28b0]) | skip)
      have H' := Aside0.mk H
      clear H
      have hnb40 := NB178_177.out
      have hnc40 := NB177_178.out
      have hnb41 := NB178_179.out
      have hnc41 := NB179_178.out
      have hcz42_0 : wc.cell? ⟨gb178, 0, none⟩ = some (.int .i64 a1_0) := (blk_cell BK178.out 0).trans rfl
      have hcz42_1 : wc.cell? ⟨gb178, 1, none⟩ = some (.int .i64 a1_1) := (blk_cell BK178.out 1).trans rfl
      have hcz42_2 : wc.cell? ⟨gb178, 2, none⟩ = some (.int .i64 a1_2) := (blk_cell BK178.out 2).trans rfl
      have hcz42_3 : wc.cell? ⟨gb178, 3, none⟩ = some (.int .i64 a1_3) := (blk_cell BK178.out 3).trans rfl
      have hfz42_0 := blk_frozen BK178.out 0
      have hfz42_1 := blk_frozen BK178.out 1
      have hfz42_2 := blk_frozen BK178.out 2
      have hfz42_3 := blk_frozen BK178.out 3
      go_wp2
      go_meet
      case rel => exact ⟨_, (false), (by first | rfl | (simp; done) | (simp [*]; done)), H', ⟨by have := HJ2.out; first | omega | exact Nat.le_refl _⟩, ⟨by refine bu ?_; exact BK177.out⟩, ⟨by refine bu ?_; exact BK178.out⟩, ⟨by refine bu ?_; exact BK179.out⟩, ⟨by repeat (first | (with_reducible first | exact HB.out | apply ba | apply bn | apply bd | refine bt ?_ GE177.out | refine bt ?_ GE178.out | refine bt ?_ GE179.out) | exact HB.out)⟩⟩
    case rest =>
     clear HC27
     try clear c1
     try clear c2
     try clear p2
     try clear c3
     try clear c4
     try clear c7
     try clear c8
     try clear c10
     try clear c11
     try clear c13
     try clear c14
     try clear c17
     try clear c18
     try clear c21
     try clear c22
     try clear c23
     try clear c25
     try clear c28
     try clear c28b0
     try clear c28b1
     try clear c29
     try clear c29b0
     try clear c30
     try clear c31
     try clear c33
     try clear c35
     try clear c36
     try clear c38
     try clear c40
     try clear c41
     try clear hcz12_0
     try clear hcz12_1
     try clear hcz12_2
     try clear hcz12_3
     try clear hcz12_4
     try clear hcz15_0
     try clear hcz15_1
     try clear hcz15_2
     try clear hcz15_3
     try clear hcz19_0
     try clear hcz19_1
     try clear hcz19_2
     try clear hcz19_3
     try clear hcz19_4
     try clear hcz24_0
     try clear hcz24_1
     try clear hcz24_2
     try clear hcz24_3
     try clear hcz24_4
     try clear hcz26_0
     try clear hcz26_1
     try clear hcz26_2
     try clear hcz26_3
     try clear hcz26_4
     try clear hcz32_0
     try clear hcz32_1
     try clear hcz32_2
     try clear hcz32_3
     try clear hcz34_0
     try clear hcz34_1
     try clear hcz34_2
     try clear hcz34_3
     try clear hcz34_4
     try clear hcz37_0
     try clear hcz37_1
     try clear hcz37_2
     try clear hcz37_3
     try clear hcz39_0
     try clear hcz39_1
     try clear hcz39_2
     try clear hcz39_3
     try clear hcz39_4
     try clear hcz42_0
     try clear hcz42_1
     try clear hcz42_2
     try clear hcz42_3
     try clear hfz12_0
     try clear hfz12_1
     try clear hfz12_2
     try clear hfz12_3
     try clear hfz12_4
     try clear hfz15_0
     try clear hfz15_1
     try clear hfz15_2
     try clear hfz15_3
     try clear hfz19_0
     try clear hfz19_1
     try clear hfz19_2
     try clear hfz19_3
     try clear hfz19_4
     try clear hfz24_0
     try clear hfz24_1
     try clear hfz24_2
     try clear hfz24_3
     try clear hfz24_4
     try clear hfz26_0
     try clear hfz26_1
     try clear hfz26_2
     try clear hfz26_3
     try clear hfz26_4
     try clear hfz32_0
     try clear hfz32_1
     try clear hfz32_2
     try clear hfz32_3
     try clear hfz34_0
     try clear hfz34_1
     try clear hfz34_2
     try clear hfz34_3
     try clear hfz34_4
     try clear hfz37_0
     try clear hfz37_1
     try clear hfz37_2
     try clear hfz37_3
     try clear hfz39_0
     try clear hfz39_1
     try clear hfz39_2
     try clear hfz39_3
     try clear hfz39_4
     try clear hfz42_0
     try clear hfz42_1
     try clear hfz42_2
     try clear hfz42_3
     try clear p2
     obtain ⟨kq, x34_26, rfl, HA, HJ26, BK177, BK178, BK179, HB⟩ := hcut
     cases kq with
     | zero => exact absurd HA.out (by simp [spec_FlyLeg.j1])
     | succ kj26 =>
      have H := HA.out
      clear HA
      simp only [spec_FlyLeg.j1] at H
      by_cases c43 : x34_26 = true
      ·
       subst c43
       have H1 : (some (a0_0, a0_1, a0_2, a0_3, a0_4, 0, 3)) = some (r1, r2, r3, r4, r5, r6, r7) := by rw [if_pos rfl] at H; exact H
       clear H
       have H := H1
       clear H1
       simp only [Option.some.injEq, Prod.mk.injEq] at H
       obtain ⟨rfl, rfl, rfl, rfl, rfl, rfl, rfl⟩ := H
       have hnb44 := NB177_178.out
       have hnc44 := NB178_177.out
       have hnb45 := NB177_179.out
       have hnc45 := NB179_177.out
       have hcz46_0 : wc.cell? ⟨gb177, 0, none⟩ = some (.int .i64 a0_0) := (blk_cell BK177.out 0).trans rfl
       have hcz46_1 : wc.cell? ⟨gb177, 1, none⟩ = some (.int .i64 a0_1) := (blk_cell BK177.out 1).trans rfl
       have hcz46_2 : wc.cell? ⟨gb177, 2, none⟩ = some (.int .i64 a0_2) := (blk_cell BK177.out 2).trans rfl
       have hcz46_3 : wc.cell? ⟨gb177, 3, none⟩ = some (.int .i64 a0_3) := (blk_cell BK177.out 3).trans rfl
       have hcz46_4 : wc.cell? ⟨gb177, 4, none⟩ = some (.int .i64 a0_4) := (blk_cell BK177.out 4).trans rfl
       have hfz46_0 := blk_frozen BK177.out 0
       have hfz46_1 := blk_frozen BK177.out 1
       have hfz46_2 := blk_frozen BK177.out 2
       have hfz46_3 := blk_frozen BK177.out 3
       have hfz46_4 := blk_frozen BK177.out 4
       have hnb47 := NB179_178.out
       have hnc47 := NB178_179.out
       have hcz48_0 : wc.cell? ⟨gb179, 0, none⟩ = some (.int .i64 0) := (blk_cell BK179.out 0).trans rfl
       have hcz48_1 : wc.cell? ⟨gb179, 1, none⟩ = some (.int .i64 0) := (blk_cell BK179.out 1).trans rfl
       have hcz48_2 : wc.cell? ⟨gb179, 2, none⟩ = some (.int .i64 0) := (blk_cell BK179.out 2).trans rfl
       have hcz48_3 : wc.cell? ⟨gb179, 3, none⟩ = some (.int .i64 0) := (blk_cell BK179.out 3).trans rfl
       have hcz48_4 : wc.cell? ⟨gb179, 4, none⟩ = some (.int .i64 0) := (blk_cell BK179.out 4).trans rfl
       have hfz48_0 := blk_frozen BK179.out 0
       have hfz48_1 := blk_frozen BK179.out 1
       have hfz48_2 := blk_frozen BK179.out 2
       have hfz48_3 := blk_frozen BK179.out 3
       have hfz48_4 := blk_frozen BK179.out 4
       go_wp2
       refine bodyPost_ret (results_ctt rfl _ _ gb179 25 #[.int .i64 a0_0, .int .i64 a0_1, .int .i64 a0_2, .int .i64 a0_3, .int .i64 a0_4] (0, 0) _ rfl (by refine bu ?_; refine blk_put (cs := #[.int .i64 a0_0, .int .i64 a0_1, .int .i64 a0_2, .int .i64 a0_3, .int .i64 0]) ?_ 4 _ rfl; refine bu ?_; refine blk_put (cs := #[.int .i64 a0_0, .int .i64 a0_1, .int .i64 a0_2, .int .i64 0, .int .i64 0]) ?_ 3 _ rfl; refine bu ?_; refine blk_put (cs := #[.int .i64 a0_0, .int .i64 a0_1, .int .i64 0, .int .i64 0, .int .i64 0]) ?_ 2 _ rfl; refine bu ?_; refine blk_put (cs := #[.int .i64 a0_0, .int .i64 0, .int .i64 0, .int .i64 0, .int .i64 0]) ?_ 1 _ rfl; refine bu ?_; refine blk_put (cs := #[.int .i64 0, .int .i64 0, .int .i64 0, .int .i64 0, .int .i64 0]) ?_ 0 _ rfl; refine bu ?_; exact BK179.out) Try.underlying25 rfl (by kernel_rfl)) rfl ?_
       exact ⟨by first | rfl | (simp [errW_none, errW_some] <;> rfl) | (simp [*, errW_none, errW_some] <;> rfl), by repeat (first | (with_reducible first | exact HB.out | apply ba | apply bn | apply bd | refine bt ?_ GE177.out | refine bt ?_ GE178.out | refine bt ?_ GE179.out) | exact HB.out)⟩
      ·
       replace c43 := Bool.eq_false_iff.mpr c43
       subst c43
       have H1 : (spec_FlyLeg.l0 kj26 0 a0_0 a0_1 a0_2 a0_3 a0_4 a1_0 a1_1 a1_2 a1_3 a0_0 a0_1 a0_2 a0_3 a0_4) = some (r1, r2, r3, r4, r5, r6, r7) := by rw [if_neg (show ¬ (false = true) by decide)] at H; exact H
       clear H
       have H := H1
       clear H1
       have H' := Aside0.mk H
       clear H
       have hnb49 := NB177_178.out
       have hnc49 := NB178_177.out
       have hnb50 := NB177_179.out
       have hnc50 := NB179_177.out
       have hcz51_0 : wc.cell? ⟨gb177, 0, none⟩ = some (.int .i64 a0_0) := (blk_cell BK177.out 0).trans rfl
       have hcz51_1 : wc.cell? ⟨gb177, 1, none⟩ = some (.int .i64 a0_1) := (blk_cell BK177.out 1).trans rfl
       have hcz51_2 : wc.cell? ⟨gb177, 2, none⟩ = some (.int .i64 a0_2) := (blk_cell BK177.out 2).trans rfl
       have hcz51_3 : wc.cell? ⟨gb177, 3, none⟩ = some (.int .i64 a0_3) := (blk_cell BK177.out 3).trans rfl
       have hcz51_4 : wc.cell? ⟨gb177, 4, none⟩ = some (.int .i64 a0_4) := (blk_cell BK177.out 4).trans rfl
       have hfz51_0 := blk_frozen BK177.out 0
       have hfz51_1 := blk_frozen BK177.out 1
       have hfz51_2 := blk_frozen BK177.out 2
       have hfz51_3 := blk_frozen BK177.out 3
       have hfz51_4 := blk_frozen BK177.out 4
       go_wp2_with (first | ((with_reducible refine gate_dst (N := 7) rfl ?_); refine box_event ?hg (N := 7) ?hd (cs := #[.int .i64 0, .int .i64 0, .int .i64 0, .int .i64 0, .int .i64 0]) (t := 25) ?hr ?_; (case hd => rfl); (case hg => rfl); (case hr => first | (go_simp; done) | (go_simp; rfl)); intro gb182 hg w52 hbox hb; have n0_ := Aside0.mk (blk_below (g := gb177) (o := .cells #[.int .i64 a0_0, .int .i64 a0_1, .int .i64 a0_2, .int .i64 a0_3, .int .i64 a0_4] 25 (0, 0)) (by exact bu BK177.out) hb); have n1_ := Aside0.mk (blk_below (g := gb178) (o := .cells #[.int .i64 a1_0, .int .i64 a1_1, .int .i64 a1_2, .int .i64 a1_3] 31 (0, 0)) (by exact bu BK178.out) hb); have n2_ := Aside0.mk (blk_below (g := gb179) (o := .cells #[.int .i64 0, .int .i64 0, .int .i64 0, .int .i64 0, .int .i64 0] 25 (0, 0)) (by exact bu BK179.out) hb); have n3_ := Aside0.mk (below_step (by repeat (first | (with_reducible first | exact HB.out | apply ba | apply bn | apply bd | refine bt ?_ GE177.out | refine bt ?_ GE178.out | refine bt ?_ GE179.out) | exact HB.out)) hb); have n4_ := Aside0.mk (hbox); have n5_ := Aside0.mk ((by rw [hg]; exact (below_size (by repeat (first | (with_reducible first | exact HB.out | apply ba | apply bn | apply bd | refine bt ?_ GE177.out | refine bt ?_ GE178.out | refine bt ?_ GE179.out) | exact HB.out))) : w.heap.size ≤ gb182)); have n6_ := n5_; have n7_ := Aside0.mk ((by rw [hg]; exact Nat.ne_of_lt (blk_lt (g := gb177) (o := .cells #[.int .i64 a0_0, .int .i64 a0_1, .int .i64 a0_2, .int .i64 a0_3, .int .i64 a0_4] 25 (0, 0)) (by exact bu BK177.out)) : gb177 ≠ gb182)); have n8_ := Aside0.mk n7_.out.symm; have n9_ := Aside0.mk ((by rw [hg]; exact Nat.ne_of_lt (blk_lt (g := gb178) (o := .cells #[.int .i64 a1_0, .int .i64 a1_1, .int .i64 a1_2, .int .i64 a1_3] 31 (0, 0)) (by exact bu BK178.out)) : gb178 ≠ gb182)); have n10_ := Aside0.mk n9_.out.symm; have n11_ := Aside0.mk ((by rw [hg]; exact Nat.ne_of_lt (blk_lt (g := gb179) (o := .cells #[.int .i64 0, .int .i64 0, .int .i64 0, .int .i64 0, .int .i64 0] 25 (0, 0)) (by exact bu BK179.out)) : gb179 ≠ gb182)); have n12_ := Aside0.mk n11_.out.symm; clear BK177; clear BK178; clear BK179; clear HB; have BK177 := n0_; have BK178 := n1_; have BK179 := n2_; have HB := n3_; have BK182 := n4_; have GW182 := n5_; have GE182 := n6_; have NB177_182 := n7_; have NB182_177 := n8_; have NB178_182 := n9_; have NB182_178 := n10_; have NB179_182 := n11_; have NB182_179 := n12_; clear n0_ n1_ n2_ n3_ n4_ n5_ n6_ n7_ n8_ n9_ n10_ n11_ n12_; clear hb hbox hg; have hnb53 := NB182_177.out; have hnc53 := NB177_182.out; have hnb54 := NB182_178.out; have hnc54 := NB178_182.out; have hnb55 := NB182_179.out; have hnc55 := NB179_182.out; have hcz56_0 : w52.cell? ⟨gb182, 0, none⟩ = some (.int .i64 0) := (blk_cell BK182.out 0).trans rfl; have hcz56_1 : w52.cell? ⟨gb182, 1, none⟩ = some (.int .i64 0) := (blk_cell BK182.out 1).trans rfl; have hcz56_2 : w52.cell? ⟨gb182, 2, none⟩ = some (.int .i64 0) := (blk_cell BK182.out 2).trans rfl; have hcz56_3 : w52.cell? ⟨gb182, 3, none⟩ = some (.int .i64 0) := (blk_cell BK182.out 3).trans rfl; have hcz56_4 : w52.cell? ⟨gb182, 4, none⟩ = some (.int .i64 0) := (blk_cell BK182.out 4).trans rfl; have hfz56_0 := blk_frozen BK182.out 0; have hfz56_1 := blk_frozen BK182.out 1; have hfz56_2 := blk_frozen BK182.out 2; have hfz56_3 := blk_frozen BK182.out 3; have hfz56_4 := blk_frozen BK182.out 4))
       go_loopg [8] kj26 (fun kq v8 w' => ∃ (x8_3 : Int) (x178000_3 : Int) (x178001_3 : Int) (x178002_3 : Int) (x178003_3 : Int) (x178004_3 : Int) (x180000_3 : Int) (x180001_3 : Int) (x180002_3 : Int) (x180003_3 : Int) (x180004_3 : Int), v8 = .int .i64 x8_3 ∧ Aside0 (spec_FlyLeg.l0 kq x8_3 x178000_3 x178001_3 x178002_3 x178003_3 x178004_3 a1_0 a1_1 a1_2 a1_3 a0_0 a0_1 a0_2 a0_3 a0_4 = some (r1, r2, r3, r4, r5, r6, r7)) ∧ Aside0 (kq ≤ kj26) ∧ Aside0 (w'.heap[gb177]? = some (.cells #[.int .i64 x178000_3, .int .i64 x178001_3, .int .i64 x178002_3, .int .i64 x178003_3, .int .i64 x178004_3] 25 (0, 0))) ∧ Aside0 (w'.heap[gb178]? = some (.cells #[.int .i64 a1_0, .int .i64 a1_1, .int .i64 a1_2, .int .i64 a1_3] 31 (0, 0))) ∧ Aside0 (w'.heap[gb179]? = some (.cells #[.int .i64 x180000_3, .int .i64 x180001_3, .int .i64 x180002_3, .int .i64 x180003_3, .int .i64 x180004_3] 25 (0, 0))) ∧ Aside0 (w'.heap[gb182]? = some (.cells #[.int .i64 a0_0, .int .i64 a0_1, .int .i64 a0_2, .int .i64 a0_3, .int .i64 a0_4] 25 (0, 0))) ∧ Aside0 (Below w.heap.size w w'))
       case atStart => exact ⟨(0), (a0_0), (a0_1), (a0_2), (a0_3), (a0_4), (0), (0), (0), (0), (0), (by first | rfl | (simp; done) | (simp [*]; done)), H', ⟨Nat.le_refl _⟩, ⟨by refine bu ?_; refine blk_far ?_ NB177_182.out _; refine bu ?_; refine blk_far ?_ NB177_182.out _; refine bu ?_; refine blk_far ?_ NB177_182.out _; refine bu ?_; refine blk_far ?_ NB177_182.out _; refine bu ?_; refine blk_far ?_ NB177_182.out _; refine bu ?_; exact BK177.out⟩, ⟨by refine bu ?_; refine blk_far ?_ NB178_182.out _; refine bu ?_; refine blk_far ?_ NB178_182.out _; refine bu ?_; refine blk_far ?_ NB178_182.out _; refine bu ?_; refine blk_far ?_ NB178_182.out _; refine bu ?_; refine blk_far ?_ NB178_182.out _; refine bu ?_; exact BK178.out⟩, ⟨by refine bu ?_; refine blk_far ?_ NB179_182.out _; refine bu ?_; refine blk_far ?_ NB179_182.out _; refine bu ?_; refine blk_far ?_ NB179_182.out _; refine bu ?_; refine blk_far ?_ NB179_182.out _; refine bu ?_; refine blk_far ?_ NB179_182.out _; refine bu ?_; exact BK179.out⟩, ⟨by refine bu ?_; refine blk_put (cs := #[.int .i64 a0_0, .int .i64 a0_1, .int .i64 a0_2, .int .i64 a0_3, .int .i64 0]) ?_ 4 _ rfl; refine bu ?_; refine blk_put (cs := #[.int .i64 a0_0, .int .i64 a0_1, .int .i64 a0_2, .int .i64 0, .int .i64 0]) ?_ 3 _ rfl; refine bu ?_; refine blk_put (cs := #[.int .i64 a0_0, .int .i64 a0_1, .int .i64 0, .int .i64 0, .int .i64 0]) ?_ 2 _ rfl; refine bu ?_; refine blk_put (cs := #[.int .i64 a0_0, .int .i64 0, .int .i64 0, .int .i64 0, .int .i64 0]) ?_ 1 _ rfl; refine bu ?_; refine blk_put (cs := #[.int .i64 0, .int .i64 0, .int .i64 0, .int .i64 0, .int .i64 0]) ?_ 0 _ rfl; refine bu ?_; exact BK182.out⟩, ⟨by repeat (first | (with_reducible first | exact HB.out | apply ba | apply bn | apply bd | refine bt ?_ GE177.out | refine bt ?_ GE178.out | refine bt ?_ GE179.out | refine bt ?_ GE182.out) | exact HB.out)⟩⟩
       case round =>
        clear H'
        try clear c1
        try clear c2
        try clear p2
        try clear c3
        try clear c4
        try clear c5
        try clear c7
        try clear c8
        try clear c10
        try clear c11
        try clear c13
        try clear c14
        try clear c17
        try clear c18
        try clear c21
        try clear c22
        try clear c23
        try clear c25
        try clear c28
        try clear c28b0
        try clear c28b1
        try clear c29
        try clear c29b0
        try clear c30
        try clear c31
        try clear c33
        try clear c35
        try clear c36
        try clear c38
        try clear c40
        try clear c41
        try clear c43
        try clear c44
        try clear c45
        try clear c47
        try clear c49
        try clear c50
        try clear c53
        try clear c54
        try clear c55
        try clear hcz12_0
        try clear hcz12_1
        try clear hcz12_2
        try clear hcz12_3
        try clear hcz12_4
        try clear hcz15_0
        try clear hcz15_1
        try clear hcz15_2
        try clear hcz15_3
        try clear hcz19_0
        try clear hcz19_1
        try clear hcz19_2
        try clear hcz19_3
        try clear hcz19_4
        try clear hcz24_0
        try clear hcz24_1
        try clear hcz24_2
        try clear hcz24_3
        try clear hcz24_4
        try clear hcz26_0
        try clear hcz26_1
        try clear hcz26_2
        try clear hcz26_3
        try clear hcz26_4
        try clear hcz32_0
        try clear hcz32_1
        try clear hcz32_2
        try clear hcz32_3
        try clear hcz34_0
        try clear hcz34_1
        try clear hcz34_2
        try clear hcz34_3
        try clear hcz34_4
        try clear hcz37_0
        try clear hcz37_1
        try clear hcz37_2
        try clear hcz37_3
        try clear hcz39_0
        try clear hcz39_1
        try clear hcz39_2
        try clear hcz39_3
        try clear hcz39_4
        try clear hcz42_0
        try clear hcz42_1
        try clear hcz42_2
        try clear hcz42_3
        try clear hcz46_0
        try clear hcz46_1
        try clear hcz46_2
        try clear hcz46_3
        try clear hcz46_4
        try clear hcz48_0
        try clear hcz48_1
        try clear hcz48_2
        try clear hcz48_3
        try clear hcz48_4
        try clear hcz51_0
        try clear hcz51_1
        try clear hcz51_2
        try clear hcz51_3
        try clear hcz51_4
        try clear hcz56_0
        try clear hcz56_1
        try clear hcz56_2
        try clear hcz56_3
        try clear hcz56_4
        try clear hfz12_0
        try clear hfz12_1
        try clear hfz12_2
        try clear hfz12_3
        try clear hfz12_4
        try clear hfz15_0
        try clear hfz15_1
        try clear hfz15_2
        try clear hfz15_3
        try clear hfz19_0
        try clear hfz19_1
        try clear hfz19_2
        try clear hfz19_3
        try clear hfz19_4
        try clear hfz24_0
        try clear hfz24_1
        try clear hfz24_2
        try clear hfz24_3
        try clear hfz24_4
        try clear hfz26_0
        try clear hfz26_1
        try clear hfz26_2
        try clear hfz26_3
        try clear hfz26_4
        try clear hfz32_0
        try clear hfz32_1
        try clear hfz32_2
        try clear hfz32_3
        try clear hfz34_0
        try clear hfz34_1
        try clear hfz34_2
        try clear hfz34_3
        try clear hfz34_4
        try clear hfz37_0
        try clear hfz37_1
        try clear hfz37_2
        try clear hfz37_3
        try clear hfz39_0
        try clear hfz39_1
        try clear hfz39_2
        try clear hfz39_3
        try clear hfz39_4
        try clear hfz42_0
        try clear hfz42_1
        try clear hfz42_2
        try clear hfz42_3
        try clear hfz46_0
        try clear hfz46_1
        try clear hfz46_2
        try clear hfz46_3
        try clear hfz46_4
        try clear hfz48_0
        try clear hfz48_1
        try clear hfz48_2
        try clear hfz48_3
        try clear hfz48_4
        try clear hfz51_0
        try clear hfz51_1
        try clear hfz51_2
        try clear hfz51_3
        try clear hfz51_4
        try clear hfz56_0
        try clear hfz56_1
        try clear hfz56_2
        try clear hfz56_3
        try clear hfz56_4
        try clear p2
        obtain ⟨x8_3, x178000_3, x178001_3, x178002_3, x178003_3, x178004_3, x180000_3, x180001_3, x180002_3, x180003_3, x180004_3, rfl, HA, HK3, BK177, BK178, BK179, BK182, HB⟩ := hrel
        cases gk with
        | zero => exact absurd HA.out (by simp [spec_FlyLeg.l0])
        | succ k3 =>
         have H := HA.out
         clear HA
         simp only [spec_FlyLeg.l0] at H
         replace H := Option.bind_eq_some_iff.mp H
         obtain ⟨⟨t183, t184, t185, t186, t187, t188⟩, A570, H⟩ := H
         replace H : (if t188 = true then (some (t183, t184, t185, t186, t187, x8_3, 0)) else ((spec_CraftOk.f t183 t184 t185 t186 t187).bind fun t190 => (if t190 = true then (spec_FlyLeg.l0 k3 (wrap64 (x8_3 + 1)) t183 t184 t185 t186 t187 a1_0 a1_1 a1_2 a1_3 a0_0 a0_1 a0_2 a0_3 a0_4) else (some (a0_0, a0_1, a0_2, a0_3, a0_4, 0, 2))))) = some (r1, r2, r3, r4, r5, r6, r7) := H
         have A57 := Aside0.mk A570
         clear A570
         by_cases c58 : t188 = true
         ·
          subst c58
          have H1 : (some (t183, t184, t185, t186, t187, x8_3, 0)) = some (r1, r2, r3, r4, r5, r6, r7) := by rw [if_pos rfl] at H; exact H
          clear H
          have H := H1
          clear H1
          simp only [Option.some.injEq, Prod.mk.injEq] at H
          obtain ⟨rfl, rfl, rfl, rfl, rfl, rfl, rfl⟩ := H
          have hnb59 := NB177_178.out
          have hnc59 := NB178_177.out
          have hnb60 := NB177_179.out
          have hnc60 := NB179_177.out
          have hnb61 := NB177_182.out
          have hnc61 := NB182_177.out
          have hcz62_0 : wr.cell? ⟨gb177, 0, none⟩ = some (.int .i64 x178000_3) := (blk_cell BK177.out 0).trans rfl
          have hcz62_1 : wr.cell? ⟨gb177, 1, none⟩ = some (.int .i64 x178001_3) := (blk_cell BK177.out 1).trans rfl
          have hcz62_2 : wr.cell? ⟨gb177, 2, none⟩ = some (.int .i64 x178002_3) := (blk_cell BK177.out 2).trans rfl
          have hcz62_3 : wr.cell? ⟨gb177, 3, none⟩ = some (.int .i64 x178003_3) := (blk_cell BK177.out 3).trans rfl
          have hcz62_4 : wr.cell? ⟨gb177, 4, none⟩ = some (.int .i64 x178004_3) := (blk_cell BK177.out 4).trans rfl
          have hfz62_0 := blk_frozen BK177.out 0
          have hfz62_1 := blk_frozen BK177.out 1
          have hfz62_2 := blk_frozen BK177.out 2
          have hfz62_3 := blk_frozen BK177.out 3
          have hfz62_4 := blk_frozen BK177.out 4
          have hnb63 := NB178_179.out
          have hnc63 := NB179_178.out
          have hnb64 := NB178_182.out
          have hnc64 := NB182_178.out
          have hcz65_0 : wr.cell? ⟨gb178, 0, none⟩ = some (.int .i64 a1_0) := (blk_cell BK178.out 0).trans rfl
          have hcz65_1 : wr.cell? ⟨gb178, 1, none⟩ = some (.int .i64 a1_1) := (blk_cell BK178.out 1).trans rfl
          have hcz65_2 : wr.cell? ⟨gb178, 2, none⟩ = some (.int .i64 a1_2) := (blk_cell BK178.out 2).trans rfl
          have hcz65_3 : wr.cell? ⟨gb178, 3, none⟩ = some (.int .i64 a1_3) := (blk_cell BK178.out 3).trans rfl
          have hfz65_0 := blk_frozen BK178.out 0
          have hfz65_1 := blk_frozen BK178.out 1
          have hfz65_2 := blk_frozen BK178.out 2
          have hfz65_3 := blk_frozen BK178.out 3
          go_wp2_with (first | ((with_reducible refine gate_callee (f := 28) rfl ?_); refine goesL_ (some 43) rfl rfl Try.func28 (by kernel_rfl) rfl #[.agg #[.int .i64 x178000_3, .int .i64 x178001_3, .int .i64 x178002_3, .int .i64 x178003_3, .int .i64 x178004_3], .agg #[.int .i64 a1_0, .int .i64 a1_1, .int .i64 a1_2, .int .i64 a1_3], .int .i64 x8_3] rfl (by (try simp only [List.map_toArray, List.map_cons, List.map_nil]); first | done | rfl) ?_; (with_reducible refine (spec_l12Next.calls k3 x178000_3 x178001_3 x178002_3 x178003_3 x178004_3 a1_0 a1_1 a1_2 a1_3 x8_3 t183 t184 t185 t186 t187 true _ A57.out).mono ?_); rintro e w66 ⟨rfl, hb⟩; refine ⟨_, rfl, ?_⟩; have n0_ := Aside0.mk (blk_below (g := gb177) (o := .cells #[.int .i64 x178000_3, .int .i64 x178001_3, .int .i64 x178002_3, .int .i64 x178003_3, .int .i64 x178004_3] 25 (0, 0)) (by exact bu BK177.out) hb); have n1_ := Aside0.mk (blk_below (g := gb178) (o := .cells #[.int .i64 a1_0, .int .i64 a1_1, .int .i64 a1_2, .int .i64 a1_3] 31 (0, 0)) (by exact bu BK178.out) hb); have n2_ := Aside0.mk (blk_below (g := gb179) (o := .cells #[.int .i64 x180000_3, .int .i64 x180001_3, .int .i64 x180002_3, .int .i64 x180003_3, .int .i64 x180004_3] 25 (0, 0)) (by exact bu BK179.out) hb); have n3_ := Aside0.mk (blk_below (g := gb182) (o := .cells #[.int .i64 a0_0, .int .i64 a0_1, .int .i64 a0_2, .int .i64 a0_3, .int .i64 a0_4] 25 (0, 0)) (by exact bu BK182.out) hb); have n4_ := Aside0.mk (below_step (by repeat (first | (with_reducible first | exact HB.out | apply ba | apply bn | apply bd | refine bt ?_ GE177.out | refine bt ?_ GE178.out | refine bt ?_ GE179.out | refine bt ?_ GE182.out) | exact HB.out)) hb); clear BK177; clear BK178; clear BK179; clear BK182; clear HB; have BK177 := n0_; have BK178 := n1_; have BK179 := n2_; have BK182 := n3_; have HB := n4_; clear n0_ n1_ n2_ n3_ n4_; (try clear hb); (try clear hb2); (try clear hk); (try clear hi)) | ((with_reducible refine gate_dst (N := 9) rfl ?_); refine box_event ?hg (N := 9) ?hd (cs := #[.int .i64 0, .int .i64 0, .int .i64 0, .int .i64 0, .int .i64 0]) (t := 25) ?hr ?_; (case hd => rfl); (case hg => rfl); (case hr => first | (go_simp; done) | (go_simp; rfl)); intro gb189 hg w67 hbox hb; have n0_ := Aside0.mk (blk_below (g := gb177) (o := .cells #[.int .i64 x178000_3, .int .i64 x178001_3, .int .i64 x178002_3, .int .i64 x178003_3, .int .i64 x178004_3] 25 (0, 0)) (by exact bu BK177.out) hb); have n1_ := Aside0.mk (blk_below (g := gb178) (o := .cells #[.int .i64 a1_0, .int .i64 a1_1, .int .i64 a1_2, .int .i64 a1_3] 31 (0, 0)) (by exact bu BK178.out) hb); have n2_ := Aside0.mk (blk_below (g := gb179) (o := .cells #[.int .i64 x180000_3, .int .i64 x180001_3, .int .i64 x180002_3, .int .i64 x180003_3, .int .i64 x180004_3] 25 (0, 0)) (by exact bu BK179.out) hb); have n3_ := Aside0.mk (blk_below (g := gb182) (o := .cells #[.int .i64 a0_0, .int .i64 a0_1, .int .i64 a0_2, .int .i64 a0_3, .int .i64 a0_4] 25 (0, 0)) (by exact bu BK182.out) hb); have n4_ := Aside0.mk (below_step (by repeat (first | (with_reducible first | exact HB.out | apply ba | apply bn | apply bd | refine bt ?_ GE177.out | refine bt ?_ GE178.out | refine bt ?_ GE179.out | refine bt ?_ GE182.out) | exact HB.out)) hb); have n5_ := Aside0.mk (hbox); have n6_ := Aside0.mk ((by rw [hg]; exact (below_size (by repeat (first | (with_reducible first | exact HB.out | apply ba | apply bn | apply bd | refine bt ?_ GE177.out | refine bt ?_ GE178.out | refine bt ?_ GE179.out | refine bt ?_ GE182.out) | exact HB.out))) : w.heap.size ≤ gb189)); have n7_ := n6_; have n8_ := Aside0.mk ((by rw [hg]; exact Nat.ne_of_lt (blk_lt (g := gb177) (o := .cells #[.int .i64 x178000_3, .int .i64 x178001_3, .int .i64 x178002_3, .int .i64 x178003_3, .int .i64 x178004_3] 25 (0, 0)) (by exact bu BK177.out)) : gb177 ≠ gb189)); have n9_ := Aside0.mk n8_.out.symm; have n10_ := Aside0.mk ((by rw [hg]; exact Nat.ne_of_lt (blk_lt (g := gb178) (o := .cells #[.int .i64 a1_0, .int .i64 a1_1, .int .i64 a1_2, .int .i64 a1_3] 31 (0, 0)) (by exact bu BK178.out)) : gb178 ≠ gb189)); have n11_ := Aside0.mk n10_.out.symm; have n12_ := Aside0.mk ((by rw [hg]; exact Nat.ne_of_lt (blk_lt (g := gb179) (o := .cells #[.int .i64 x180000_3, .int .i64 x180001_3, .int .i64 x180002_3, .int .i64 x180003_3, .int .i64 x180004_3] 25 (0, 0)) (by exact bu BK179.out)) : gb179 ≠ gb189)); have n13_ := Aside0.mk n12_.out.symm; have n14_ := Aside0.mk ((by rw [hg]; exact Nat.ne_of_lt (blk_lt (g := gb182) (o := .cells #[.int .i64 a0_0, .int .i64 a0_1, .int .i64 a0_2, .int .i64 a0_3, .int .i64 a0_4] 25 (0, 0)) (by exact bu BK182.out)) : gb182 ≠ gb189)); have n15_ := Aside0.mk n14_.out.symm; clear BK177; clear BK178; clear BK179; clear BK182; clear HB; have BK177 := n0_; have BK178 := n1_; have BK179 := n2_; have BK182 := n3_; have HB := n4_; have BK189 := n5_; have GW189 := n6_; have GE189 := n7_; have NB177_189 := n8_; have NB189_177 := n9_; have NB178_189 := n10_; have NB189_178 := n11_; have NB179_189 := n12_; have NB189_179 := n13_; have NB182_189 := n14_; have NB189_182 := n15_; clear n0_ n1_ n2_ n3_ n4_ n5_ n6_ n7_ n8_ n9_ n10_ n11_ n12_ n13_ n14_ n15_; clear hb hbox hg; have hnb68 := NB189_177.out; have hnc68 := NB177_189.out; have hnb69 := NB189_178.out; have hnc69 := NB178_189.out; have hnb70 := NB189_179.out; have hnc70 := NB179_189.out; have hnb71 := NB189_182.out; have hnc71 := NB182_189.out; have hcz72_0 : w67.cell? ⟨gb189, 0, none⟩ = some (.int .i64 0) := (blk_cell BK189.out 0).trans rfl; have hcz72_1 : w67.cell? ⟨gb189, 1, none⟩ = some (.int .i64 0) := (blk_cell BK189.out 1).trans rfl; have hcz72_2 : w67.cell? ⟨gb189, 2, none⟩ = some (.int .i64 0) := (blk_cell BK189.out 2).trans rfl; have hcz72_3 : w67.cell? ⟨gb189, 3, none⟩ = some (.int .i64 0) := (blk_cell BK189.out 3).trans rfl; have hcz72_4 : w67.cell? ⟨gb189, 4, none⟩ = some (.int .i64 0) := (blk_cell BK189.out 4).trans rfl; have hfz72_0 := blk_frozen BK189.out 0; have hfz72_1 := blk_frozen BK189.out 1; have hfz72_2 := blk_frozen BK189.out 2; have hfz72_3 := blk_frozen BK189.out 3; have hfz72_4 := blk_frozen BK189.out 4; have hnb73 := NB179_182.out; have hnc73 := NB182_179.out; have hcz74_0 : w67.cell? ⟨gb179, 0, none⟩ = some (.int .i64 x180000_3) := (blk_cell BK179.out 0).trans rfl; have hcz74_1 : w67.cell? ⟨gb179, 1, none⟩ = some (.int .i64 x180001_3) := (blk_cell BK179.out 1).trans rfl; have hcz74_2 : w67.cell? ⟨gb179, 2, none⟩ = some (.int .i64 x180002_3) := (blk_cell BK179.out 2).trans rfl; have hcz74_3 : w67.cell? ⟨gb179, 3, none⟩ = some (.int .i64 x180003_3) := (blk_cell BK179.out 3).trans rfl; have hcz74_4 : w67.cell? ⟨gb179, 4, none⟩ = some (.int .i64 x180004_3) := (blk_cell BK179.out 4).trans rfl; have hfz74_0 := blk_frozen BK179.out 0; have hfz74_1 := blk_frozen BK179.out 1; have hfz74_2 := blk_frozen BK179.out 2; have hfz74_3 := blk_frozen BK179.out 3; have hfz74_4 := blk_frozen BK179.out 4))
          refine bodyPost_ret (results_ctt rfl _ _ gb179 25 #[.int .i64 t183, .int .i64 t184, .int .i64 t185, .int .i64 t186, .int .i64 t187] (0, 0) _ rfl (by refine bu ?_; refine blk_put (cs := #[.int .i64 t183, .int .i64 t184, .int .i64 t185, .int .i64 t186, .int .i64 x180004_3]) ?_ 4 _ rfl; refine bu ?_; refine blk_put (cs := #[.int .i64 t183, .int .i64 t184, .int .i64 t185, .int .i64 x180003_3, .int .i64 x180004_3]) ?_ 3 _ rfl; refine bu ?_; refine blk_put (cs := #[.int .i64 t183, .int .i64 t184, .int .i64 x180002_3, .int .i64 x180003_3, .int .i64 x180004_3]) ?_ 2 _ rfl; refine bu ?_; refine blk_put (cs := #[.int .i64 t183, .int .i64 x180001_3, .int .i64 x180002_3, .int .i64 x180003_3, .int .i64 x180004_3]) ?_ 1 _ rfl; refine bu ?_; refine blk_put (cs := #[.int .i64 x180000_3, .int .i64 x180001_3, .int .i64 x180002_3, .int .i64 x180003_3, .int .i64 x180004_3]) ?_ 0 _ rfl; refine bu ?_; refine blk_far ?_ NB179_189.out _; refine bu ?_; refine blk_far ?_ NB179_189.out _; refine bu ?_; refine blk_far ?_ NB179_189.out _; refine bu ?_; refine blk_far ?_ NB179_189.out _; refine bu ?_; refine blk_far ?_ NB179_189.out _; refine bu ?_; exact BK179.out) Try.underlying25 rfl (by kernel_rfl)) rfl ?_
          exact ⟨by first | rfl | (simp [errW_none, errW_some] <;> rfl) | (simp [*, errW_none, errW_some] <;> rfl), by repeat (first | (with_reducible first | exact HB.out | apply ba | apply bn | apply bd | refine bt ?_ GE177.out | refine bt ?_ GE178.out | refine bt ?_ GE179.out | refine bt ?_ GE182.out | refine bt ?_ GE189.out) | exact HB.out)⟩
         ·
          replace c58 := Bool.eq_false_iff.mpr c58
          subst c58
          have H1 : ((spec_CraftOk.f t183 t184 t185 t186 t187).bind fun t190 => (if t190 = true then (spec_FlyLeg.l0 k3 (wrap64 (x8_3 + 1)) t183 t184 t185 t186 t187 a1_0 a1_1 a1_2 a1_3 a0_0 a0_1 a0_2 a0_3 a0_4) else (some (a0_0, a0_1, a0_2, a0_3, a0_4, 0, 2)))) = some (r1, r2, r3, r4, r5, r6, r7) := by rw [if_neg (show ¬ (false = true) by decide)] at H; exact H
          clear H
          have H := H1
          clear H1
          replace H := Option.bind_eq_some_iff.mp H
          obtain ⟨t190, A750, H⟩ := H
          replace H : (if t190 = true then (spec_FlyLeg.l0 k3 (wrap64 (x8_3 + 1)) t183 t184 t185 t186 t187 a1_0 a1_1 a1_2 a1_3 a0_0 a0_1 a0_2 a0_3 a0_4) else (some (a0_0, a0_1, a0_2, a0_3, a0_4, 0, 2))) = some (r1, r2, r3, r4, r5, r6, r7) := H
          have A75 := Aside0.mk A750
          clear A750
          by_cases c76 : t190 = true
          ·
           subst c76
           have H1 : (spec_FlyLeg.l0 k3 (wrap64 (x8_3 + 1)) t183 t184 t185 t186 t187 a1_0 a1_1 a1_2 a1_3 a0_0 a0_1 a0_2 a0_3 a0_4) = some (r1, r2, r3, r4, r5, r6, r7) := by rw [if_pos rfl] at H; exact H
           clear H
           have H := H1
           clear H1
           have H' := Aside0.mk H
           clear H
           have hnb77 := NB177_178.out
           have hnc77 := NB178_177.out
           have hnb78 := NB177_179.out
           have hnc78 := NB179_177.out
           have hnb79 := NB177_182.out
           have hnc79 := NB182_177.out
           have hcz80_0 : wr.cell? ⟨gb177, 0, none⟩ = some (.int .i64 x178000_3) := (blk_cell BK177.out 0).trans rfl
           have hcz80_1 : wr.cell? ⟨gb177, 1, none⟩ = some (.int .i64 x178001_3) := (blk_cell BK177.out 1).trans rfl
           have hcz80_2 : wr.cell? ⟨gb177, 2, none⟩ = some (.int .i64 x178002_3) := (blk_cell BK177.out 2).trans rfl
           have hcz80_3 : wr.cell? ⟨gb177, 3, none⟩ = some (.int .i64 x178003_3) := (blk_cell BK177.out 3).trans rfl
           have hcz80_4 : wr.cell? ⟨gb177, 4, none⟩ = some (.int .i64 x178004_3) := (blk_cell BK177.out 4).trans rfl
           have hfz80_0 := blk_frozen BK177.out 0
           have hfz80_1 := blk_frozen BK177.out 1
           have hfz80_2 := blk_frozen BK177.out 2
           have hfz80_3 := blk_frozen BK177.out 3
           have hfz80_4 := blk_frozen BK177.out 4
           have hnb81 := NB178_179.out
           have hnc81 := NB179_178.out
           have hnb82 := NB178_182.out
           have hnc82 := NB182_178.out
           have hcz83_0 : wr.cell? ⟨gb178, 0, none⟩ = some (.int .i64 a1_0) := (blk_cell BK178.out 0).trans rfl
           have hcz83_1 : wr.cell? ⟨gb178, 1, none⟩ = some (.int .i64 a1_1) := (blk_cell BK178.out 1).trans rfl
           have hcz83_2 : wr.cell? ⟨gb178, 2, none⟩ = some (.int .i64 a1_2) := (blk_cell BK178.out 2).trans rfl
           have hcz83_3 : wr.cell? ⟨gb178, 3, none⟩ = some (.int .i64 a1_3) := (blk_cell BK178.out 3).trans rfl
           have hfz83_0 := blk_frozen BK178.out 0
           have hfz83_1 := blk_frozen BK178.out 1
           have hfz83_2 := blk_frozen BK178.out 2
           have hfz83_3 := blk_frozen BK178.out 3
           go_wp2_with (first | ((with_reducible refine gate_callee (f := 28) rfl ?_); refine goesL_ (some 43) rfl rfl Try.func28 (by kernel_rfl) rfl #[.agg #[.int .i64 x178000_3, .int .i64 x178001_3, .int .i64 x178002_3, .int .i64 x178003_3, .int .i64 x178004_3], .agg #[.int .i64 a1_0, .int .i64 a1_1, .int .i64 a1_2, .int .i64 a1_3], .int .i64 x8_3] rfl (by (try simp only [List.map_toArray, List.map_cons, List.map_nil]); first | done | rfl) ?_; (with_reducible refine (spec_l12Next.calls k3 x178000_3 x178001_3 x178002_3 x178003_3 x178004_3 a1_0 a1_1 a1_2 a1_3 x8_3 t183 t184 t185 t186 t187 false _ A57.out).mono ?_); rintro e w84 ⟨rfl, hb⟩; refine ⟨_, rfl, ?_⟩; have n0_ := Aside0.mk (blk_below (g := gb177) (o := .cells #[.int .i64 x178000_3, .int .i64 x178001_3, .int .i64 x178002_3, .int .i64 x178003_3, .int .i64 x178004_3] 25 (0, 0)) (by exact bu BK177.out) hb); have n1_ := Aside0.mk (blk_below (g := gb178) (o := .cells #[.int .i64 a1_0, .int .i64 a1_1, .int .i64 a1_2, .int .i64 a1_3] 31 (0, 0)) (by exact bu BK178.out) hb); have n2_ := Aside0.mk (blk_below (g := gb179) (o := .cells #[.int .i64 x180000_3, .int .i64 x180001_3, .int .i64 x180002_3, .int .i64 x180003_3, .int .i64 x180004_3] 25 (0, 0)) (by exact bu BK179.out) hb); have n3_ := Aside0.mk (blk_below (g := gb182) (o := .cells #[.int .i64 a0_0, .int .i64 a0_1, .int .i64 a0_2, .int .i64 a0_3, .int .i64 a0_4] 25 (0, 0)) (by exact bu BK182.out) hb); have n4_ := Aside0.mk (below_step (by repeat (first | (with_reducible first | exact HB.out | apply ba | apply bn | apply bd | refine bt ?_ GE177.out | refine bt ?_ GE178.out | refine bt ?_ GE179.out | refine bt ?_ GE182.out) | exact HB.out)) hb); clear BK177; clear BK178; clear BK179; clear BK182; clear HB; have BK177 := n0_; have BK178 := n1_; have BK179 := n2_; have BK182 := n3_; have HB := n4_; clear n0_ n1_ n2_ n3_ n4_; (try clear hb); (try clear hb2); (try clear hk); (try clear hi)) | ((with_reducible refine gate_dst (N := 9) rfl ?_); refine box_event ?hg (N := 9) ?hd (cs := #[.int .i64 0, .int .i64 0, .int .i64 0, .int .i64 0, .int .i64 0]) (t := 25) ?hr ?_; (case hd => rfl); (case hg => rfl); (case hr => first | (go_simp; done) | (go_simp; rfl)); intro gb189 hg w85 hbox hb; have n0_ := Aside0.mk (blk_below (g := gb177) (o := .cells #[.int .i64 x178000_3, .int .i64 x178001_3, .int .i64 x178002_3, .int .i64 x178003_3, .int .i64 x178004_3] 25 (0, 0)) (by exact bu BK177.out) hb); have n1_ := Aside0.mk (blk_below (g := gb178) (o := .cells #[.int .i64 a1_0, .int .i64 a1_1, .int .i64 a1_2, .int .i64 a1_3] 31 (0, 0)) (by exact bu BK178.out) hb); have n2_ := Aside0.mk (blk_below (g := gb179) (o := .cells #[.int .i64 x180000_3, .int .i64 x180001_3, .int .i64 x180002_3, .int .i64 x180003_3, .int .i64 x180004_3] 25 (0, 0)) (by exact bu BK179.out) hb); have n3_ := Aside0.mk (blk_below (g := gb182) (o := .cells #[.int .i64 a0_0, .int .i64 a0_1, .int .i64 a0_2, .int .i64 a0_3, .int .i64 a0_4] 25 (0, 0)) (by exact bu BK182.out) hb); have n4_ := Aside0.mk (below_step (by repeat (first | (with_reducible first | exact HB.out | apply ba | apply bn | apply bd | refine bt ?_ GE177.out | refine bt ?_ GE178.out | refine bt ?_ GE179.out | refine bt ?_ GE182.out) | exact HB.out)) hb); have n5_ := Aside0.mk (hbox); have n6_ := Aside0.mk ((by rw [hg]; exact (below_size (by repeat (first | (with_reducible first | exact HB.out | apply ba | apply bn | apply bd | refine bt ?_ GE177.out | refine bt ?_ GE178.out | refine bt ?_ GE179.out | refine bt ?_ GE182.out) | exact HB.out))) : w.heap.size ≤ gb189)); have n7_ := n6_; have n8_ := Aside0.mk ((by rw [hg]; exact Nat.ne_of_lt (blk_lt (g := gb177) (o := .cells #[.int .i64 x178000_3, .int .i64 x178001_3, .int .i64 x178002_3, .int .i64 x178003_3, .int .i64 x178004_3] 25 (0, 0)) (by exact bu BK177.out)) : gb177 ≠ gb189)); have n9_ := Aside0.mk n8_.out.symm; have n10_ := Aside0.mk ((by rw [hg]; exact Nat.ne_of_lt (blk_lt (g := gb178) (o := .cells #[.int .i64 a1_0, .int .i64 a1_1, .int .i64 a1_2, .int .i64 a1_3] 31 (0, 0)) (by exact bu BK178.out)) : gb178 ≠ gb189)); have n11_ := Aside0.mk n10_.out.symm; have n12_ := Aside0.mk ((by rw [hg]; exact Nat.ne_of_lt (blk_lt (g := gb179) (o := .cells #[.int .i64 x180000_3, .int .i64 x180001_3, .int .i64 x180002_3, .int .i64 x180003_3, .int .i64 x180004_3] 25 (0, 0)) (by exact bu BK179.out)) : gb179 ≠ gb189)); have n13_ := Aside0.mk n12_.out.symm; have n14_ := Aside0.mk ((by rw [hg]; exact Nat.ne_of_lt (blk_lt (g := gb182) (o := .cells #[.int .i64 a0_0, .int .i64 a0_1, .int .i64 a0_2, .int .i64 a0_3, .int .i64 a0_4] 25 (0, 0)) (by exact bu BK182.out)) : gb182 ≠ gb189)); have n15_ := Aside0.mk n14_.out.symm; clear BK177; clear BK178; clear BK179; clear BK182; clear HB; have BK177 := n0_; have BK178 := n1_; have BK179 := n2_; have BK182 := n3_; have HB := n4_; have BK189 := n5_; have GW189 := n6_; have GE189 := n7_; have NB177_189 := n8_; have NB189_177 := n9_; have NB178_189 := n10_; have NB189_178 := n11_; have NB179_189 := n12_; have NB189_179 := n13_; have NB182_189 := n14_; have NB189_182 := n15_; clear n0_ n1_ n2_ n3_ n4_ n5_ n6_ n7_ n8_ n9_ n10_ n11_ n12_ n13_ n14_ n15_; clear hb hbox hg; have hnb86 := NB189_177.out; have hnc86 := NB177_189.out; have hnb87 := NB189_178.out; have hnc87 := NB178_189.out; have hnb88 := NB189_179.out; have hnc88 := NB179_189.out; have hnb89 := NB189_182.out; have hnc89 := NB182_189.out; have hcz90_0 : w85.cell? ⟨gb189, 0, none⟩ = some (.int .i64 0) := (blk_cell BK189.out 0).trans rfl; have hcz90_1 : w85.cell? ⟨gb189, 1, none⟩ = some (.int .i64 0) := (blk_cell BK189.out 1).trans rfl; have hcz90_2 : w85.cell? ⟨gb189, 2, none⟩ = some (.int .i64 0) := (blk_cell BK189.out 2).trans rfl; have hcz90_3 : w85.cell? ⟨gb189, 3, none⟩ = some (.int .i64 0) := (blk_cell BK189.out 3).trans rfl; have hcz90_4 : w85.cell? ⟨gb189, 4, none⟩ = some (.int .i64 0) := (blk_cell BK189.out 4).trans rfl; have hfz90_0 := blk_frozen BK189.out 0; have hfz90_1 := blk_frozen BK189.out 1; have hfz90_2 := blk_frozen BK189.out 2; have hfz90_3 := blk_frozen BK189.out 3; have hfz90_4 := blk_frozen BK189.out 4; have hcz91_0 : w85.cell? ⟨gb177, 0, none⟩ = some (.int .i64 x178000_3) := (blk_cell BK177.out 0).trans rfl; have hcz91_1 : w85.cell? ⟨gb177, 1, none⟩ = some (.int .i64 x178001_3) := (blk_cell BK177.out 1).trans rfl; have hcz91_2 : w85.cell? ⟨gb177, 2, none⟩ = some (.int .i64 x178002_3) := (blk_cell BK177.out 2).trans rfl; have hcz91_3 : w85.cell? ⟨gb177, 3, none⟩ = some (.int .i64 x178003_3) := (blk_cell BK177.out 3).trans rfl; have hcz91_4 : w85.cell? ⟨gb177, 4, none⟩ = some (.int .i64 x178004_3) := (blk_cell BK177.out 4).trans rfl; have hfz91_0 := blk_frozen BK177.out 0; have hfz91_1 := blk_frozen BK177.out 1; have hfz91_2 := blk_frozen BK177.out 2; have hfz91_3 := blk_frozen BK177.out 3; have hfz91_4 := blk_frozen BK177.out 4) | ((with_reducible refine gate_callee (f := 7) rfl ?_); refine goesL_ (some 51) rfl rfl Try.func7 (by kernel_rfl) rfl #[.agg #[.int .i64 t183, .int .i64 t184, .int .i64 t185, .int .i64 t186, .int .i64 t187]] rfl (by (try simp only [List.map_toArray, List.map_cons, List.map_nil]); first | done | rfl) ?_; (with_reducible refine (spec_CraftOk.calls t183 t184 t185 t186 t187 true _ A75.out).mono ?_); rintro e w92 ⟨rfl, hb⟩; refine ⟨_, rfl, ?_⟩; have n0_ := Aside0.mk (blk_below (g := gb177) (o := .cells #[.int .i64 t183, .int .i64 t184, .int .i64 t185, .int .i64 t186, .int .i64 t187] 25 (0, 0)) (by refine bu ?_; refine blk_put (cs := #[.int .i64 t183, .int .i64 t184, .int .i64 t185, .int .i64 t186, .int .i64 x178004_3]) ?_ 4 _ rfl; refine bu ?_; refine blk_put (cs := #[.int .i64 t183, .int .i64 t184, .int .i64 t185, .int .i64 x178003_3, .int .i64 x178004_3]) ?_ 3 _ rfl; refine bu ?_; refine blk_put (cs := #[.int .i64 t183, .int .i64 t184, .int .i64 x178002_3, .int .i64 x178003_3, .int .i64 x178004_3]) ?_ 2 _ rfl; refine bu ?_; refine blk_put (cs := #[.int .i64 t183, .int .i64 x178001_3, .int .i64 x178002_3, .int .i64 x178003_3, .int .i64 x178004_3]) ?_ 1 _ rfl; refine bu ?_; refine blk_put (cs := #[.int .i64 x178000_3, .int .i64 x178001_3, .int .i64 x178002_3, .int .i64 x178003_3, .int .i64 x178004_3]) ?_ 0 _ rfl; refine bu ?_; refine blk_far ?_ NB177_189.out _; refine bu ?_; refine blk_far ?_ NB177_189.out _; refine bu ?_; refine blk_far ?_ NB177_189.out _; refine bu ?_; refine blk_far ?_ NB177_189.out _; refine bu ?_; refine blk_far ?_ NB177_189.out _; refine bu ?_; exact BK177.out) hb); have n1_ := Aside0.mk (blk_below (g := gb178) (o := .cells #[.int .i64 a1_0, .int .i64 a1_1, .int .i64 a1_2, .int .i64 a1_3] 31 (0, 0)) (by refine bu ?_; refine blk_far ?_ NB178_177.out _; refine bu ?_; refine blk_far ?_ NB178_177.out _; refine bu ?_; refine blk_far ?_ NB178_177.out _; refine bu ?_; refine blk_far ?_ NB178_177.out _; refine bu ?_; refine blk_far ?_ NB178_177.out _; refine bu ?_; refine blk_far ?_ NB178_189.out _; refine bu ?_; refine blk_far ?_ NB178_189.out _; refine bu ?_; refine blk_far ?_ NB178_189.out _; refine bu ?_; refine blk_far ?_ NB178_189.out _; refine bu ?_; refine blk_far ?_ NB178_189.out _; refine bu ?_; exact BK178.out) hb); have n2_ := Aside0.mk (blk_below (g := gb179) (o := .cells #[.int .i64 x180000_3, .int .i64 x180001_3, .int .i64 x180002_3, .int .i64 x180003_3, .int .i64 x180004_3] 25 (0, 0)) (by refine bu ?_; refine blk_far ?_ NB179_177.out _; refine bu ?_; refine blk_far ?_ NB179_177.out _; refine bu ?_; refine blk_far ?_ NB179_177.out _; refine bu ?_; refine blk_far ?_ NB179_177.out _; refine bu ?_; refine blk_far ?_ NB179_177.out _; refine bu ?_; refine blk_far ?_ NB179_189.out _; refine bu ?_; refine blk_far ?_ NB179_189.out _; refine bu ?_; refine blk_far ?_ NB179_189.out _; refine bu ?_; refine blk_far ?_ NB179_189.out _; refine bu ?_; refine blk_far ?_ NB179_189.out _; refine bu ?_; exact BK179.out) hb); have n3_ := Aside0.mk (blk_below (g := gb182) (o := .cells #[.int .i64 a0_0, .int .i64 a0_1, .int .i64 a0_2, .int .i64 a0_3, .int .i64 a0_4] 25 (0, 0)) (by refine bu ?_; refine blk_far ?_ NB182_177.out _; refine bu ?_; refine blk_far ?_ NB182_177.out _; refine bu ?_; refine blk_far ?_ NB182_177.out _; refine bu ?_; refine blk_far ?_ NB182_177.out _; refine bu ?_; refine blk_far ?_ NB182_177.out _; refine bu ?_; refine blk_far ?_ NB182_189.out _; refine bu ?_; refine blk_far ?_ NB182_189.out _; refine bu ?_; refine blk_far ?_ NB182_189.out _; refine bu ?_; refine blk_far ?_ NB182_189.out _; refine bu ?_; refine blk_far ?_ NB182_189.out _; refine bu ?_; exact BK182.out) hb); have n4_ := Aside0.mk (blk_below (g := gb189) (o := .cells #[.int .i64 t183, .int .i64 t184, .int .i64 t185, .int .i64 t186, .int .i64 t187] 25 (0, 0)) (by refine bu ?_; refine blk_far ?_ NB189_177.out _; refine bu ?_; refine blk_far ?_ NB189_177.out _; refine bu ?_; refine blk_far ?_ NB189_177.out _; refine bu ?_; refine blk_far ?_ NB189_177.out _; refine bu ?_; refine blk_far ?_ NB189_177.out _; refine bu ?_; refine blk_put (cs := #[.int .i64 t183, .int .i64 t184, .int .i64 t185, .int .i64 t186, .int .i64 0]) ?_ 4 _ rfl; refine bu ?_; refine blk_put (cs := #[.int .i64 t183, .int .i64 t184, .int .i64 t185, .int .i64 0, .int .i64 0]) ?_ 3 _ rfl; refine bu ?_; refine blk_put (cs := #[.int .i64 t183, .int .i64 t184, .int .i64 0, .int .i64 0, .int .i64 0]) ?_ 2 _ rfl; refine bu ?_; refine blk_put (cs := #[.int .i64 t183, .int .i64 0, .int .i64 0, .int .i64 0, .int .i64 0]) ?_ 1 _ rfl; refine bu ?_; refine blk_put (cs := #[.int .i64 0, .int .i64 0, .int .i64 0, .int .i64 0, .int .i64 0]) ?_ 0 _ rfl; refine bu ?_; exact BK189.out) hb); have n5_ := Aside0.mk (below_step (by repeat (first | (with_reducible first | exact HB.out | apply ba | apply bn | apply bd | refine bt ?_ GE177.out | refine bt ?_ GE178.out | refine bt ?_ GE179.out | refine bt ?_ GE182.out | refine bt ?_ GE189.out) | exact HB.out)) hb); clear BK177; clear BK178; clear BK179; clear BK182; clear BK189; clear HB; have BK177 := n0_; have BK178 := n1_; have BK179 := n2_; have BK182 := n3_; have BK189 := n4_; have HB := n5_; clear n0_ n1_ n2_ n3_ n4_ n5_; (try clear hb); (try clear hb2); (try clear hk); (try clear hi)))
           go_roundg k3
           case measure => have := HJ2.out; have := HJ26.out; have := HK3.out; omega
           case rel => exact ⟨(wrap64 (x8_3 + 1)), (t183), (t184), (t185), (t186), (t187), (x180000_3), (x180001_3), (x180002_3), (x180003_3), (x180004_3), (by first | rfl | (simp; done) | (simp [*]; done)), H', ⟨by have := HJ2.out; have := HJ26.out; have := HK3.out; omega⟩, ⟨by refine bu ?_; exact BK177.out⟩, ⟨by refine bu ?_; exact BK178.out⟩, ⟨by refine bu ?_; exact BK179.out⟩, ⟨by refine bu ?_; exact BK182.out⟩, ⟨by repeat (first | (with_reducible first | exact HB.out | apply ba | apply bn | apply bd | refine bt ?_ GE177.out | refine bt ?_ GE178.out | refine bt ?_ GE179.out | refine bt ?_ GE182.out | refine bt ?_ GE189.out) | exact HB.out)⟩⟩
          ·
           replace c76 := Bool.eq_false_iff.mpr c76
           subst c76
           have H1 : (some (a0_0, a0_1, a0_2, a0_3, a0_4, 0, 2)) = some (r1, r2, r3, r4, r5, r6, r7) := by rw [if_neg (show ¬ (false = true) by decide)] at H; exact H
           clear H
           have H := H1
           clear H1
           simp only [Option.some.injEq, Prod.mk.injEq] at H
           obtain ⟨rfl, rfl, rfl, rfl, rfl, rfl, rfl⟩ := H
           have hnb93 := NB177_178.out
           have hnc93 := NB178_177.out
           have hnb94 := NB177_179.out
           have hnc94 := NB179_177.out
           have hnb95 := NB177_182.out
           have hnc95 := NB182_177.out
           have hcz96_0 : wr.cell? ⟨gb177, 0, none⟩ = some (.int .i64 x178000_3) := (blk_cell BK177.out 0).trans rfl
           have hcz96_1 : wr.cell? ⟨gb177, 1, none⟩ = some (.int .i64 x178001_3) := (blk_cell BK177.out 1).trans rfl
           have hcz96_2 : wr.cell? ⟨gb177, 2, none⟩ = some (.int .i64 x178002_3) := (blk_cell BK177.out 2).trans rfl
           have hcz96_3 : wr.cell? ⟨gb177, 3, none⟩ = some (.int .i64 x178003_3) := (blk_cell BK177.out 3).trans rfl
           have hcz96_4 : wr.cell? ⟨gb177, 4, none⟩ = some (.int .i64 x178004_3) := (blk_cell BK177.out 4).trans rfl
           have hfz96_0 := blk_frozen BK177.out 0
           have hfz96_1 := blk_frozen BK177.out 1
           have hfz96_2 := blk_frozen BK177.out 2
           have hfz96_3 := blk_frozen BK177.out 3
           have hfz96_4 := blk_frozen BK177.out 4
           have hnb97 := NB178_179.out
           have hnc97 := NB179_178.out
           have hnb98 := NB178_182.out
           have hnc98 := NB182_178.out
           have hcz99_0 : wr.cell? ⟨gb178, 0, none⟩ = some (.int .i64 a1_0) := (blk_cell BK178.out 0).trans rfl
           have hcz99_1 : wr.cell? ⟨gb178, 1, none⟩ = some (.int .i64 a1_1) := (blk_cell BK178.out 1).trans rfl
           have hcz99_2 : wr.cell? ⟨gb178, 2, none⟩ = some (.int .i64 a1_2) := (blk_cell BK178.out 2).trans rfl
           have hcz99_3 : wr.cell? ⟨gb178, 3, none⟩ = some (.int .i64 a1_3) := (blk_cell BK178.out 3).trans rfl
           have hfz99_0 := blk_frozen BK178.out 0
           have hfz99_1 := blk_frozen BK178.out 1
           have hfz99_2 := blk_frozen BK178.out 2
           have hfz99_3 := blk_frozen BK178.out 3
           go_wp2_with (first | ((with_reducible refine gate_callee (f := 28) rfl ?_); refine goesL_ (some 43) rfl rfl Try.func28 (by kernel_rfl) rfl #[.agg #[.int .i64 x178000_3, .int .i64 x178001_3, .int .i64 x178002_3, .int .i64 x178003_3, .int .i64 x178004_3], .agg #[.int .i64 a1_0, .int .i64 a1_1, .int .i64 a1_2, .int .i64 a1_3], .int .i64 x8_3] rfl (by (try simp only [List.map_toArray, List.map_cons, List.map_nil]); first | done | rfl) ?_; (with_reducible refine (spec_l12Next.calls k3 x178000_3 x178001_3 x178002_3 x178003_3 x178004_3 a1_0 a1_1 a1_2 a1_3 x8_3 t183 t184 t185 t186 t187 false _ A57.out).mono ?_); rintro e w100 ⟨rfl, hb⟩; refine ⟨_, rfl, ?_⟩; have n0_ := Aside0.mk (blk_below (g := gb177) (o := .cells #[.int .i64 x178000_3, .int .i64 x178001_3, .int .i64 x178002_3, .int .i64 x178003_3, .int .i64 x178004_3] 25 (0, 0)) (by exact bu BK177.out) hb); have n1_ := Aside0.mk (blk_below (g := gb178) (o := .cells #[.int .i64 a1_0, .int .i64 a1_1, .int .i64 a1_2, .int .i64 a1_3] 31 (0, 0)) (by exact bu BK178.out) hb); have n2_ := Aside0.mk (blk_below (g := gb179) (o := .cells #[.int .i64 x180000_3, .int .i64 x180001_3, .int .i64 x180002_3, .int .i64 x180003_3, .int .i64 x180004_3] 25 (0, 0)) (by exact bu BK179.out) hb); have n3_ := Aside0.mk (blk_below (g := gb182) (o := .cells #[.int .i64 a0_0, .int .i64 a0_1, .int .i64 a0_2, .int .i64 a0_3, .int .i64 a0_4] 25 (0, 0)) (by exact bu BK182.out) hb); have n4_ := Aside0.mk (below_step (by repeat (first | (with_reducible first | exact HB.out | apply ba | apply bn | apply bd | refine bt ?_ GE177.out | refine bt ?_ GE178.out | refine bt ?_ GE179.out | refine bt ?_ GE182.out) | exact HB.out)) hb); clear BK177; clear BK178; clear BK179; clear BK182; clear HB; have BK177 := n0_; have BK178 := n1_; have BK179 := n2_; have BK182 := n3_; have HB := n4_; clear n0_ n1_ n2_ n3_ n4_; (try clear hb); (try clear hb2); (try clear hk); (try clear hi)) | ((with_reducible refine gate_dst (N := 9) rfl ?_); refine box_event ?hg (N := 9) ?hd (cs := #[.int .i64 0, .int .i64 0, .int .i64 0, .int .i64 0, .int .i64 0]) (t := 25) ?hr ?_; (case hd => rfl); (case hg => rfl); (case hr => first | (go_simp; done) | (go_simp; rfl)); intro gb189 hg w101 hbox hb; have n0_ := Aside0.mk (blk_below (g := gb177) (o := .cells #[.int .i64 x178000_3, .int .i64 x178001_3, .int .i64 x178002_3, .int .i64 x178003_3, .int .i64 x178004_3] 25 (0, 0)) (by exact bu BK177.out) hb); have n1_ := Aside0.mk (blk_below (g := gb178) (o := .cells #[.int .i64 a1_0, .int .i64 a1_1, .int .i64 a1_2, .int .i64 a1_3] 31 (0, 0)) (by exact bu BK178.out) hb); have n2_ := Aside0.mk (blk_below (g := gb179) (o := .cells #[.int .i64 x180000_3, .int .i64 x180001_3, .int .i64 x180002_3, .int .i64 x180003_3, .int .i64 x180004_3] 25 (0, 0)) (by exact bu BK179.out) hb); have n3_ := Aside0.mk (blk_below (g := gb182) (o := .cells #[.int .i64 a0_0, .int .i64 a0_1, .int .i64 a0_2, .int .i64 a0_3, .int .i64 a0_4] 25 (0, 0)) (by exact bu BK182.out) hb); have n4_ := Aside0.mk (below_step (by repeat (first | (with_reducible first | exact HB.out | apply ba | apply bn | apply bd | refine bt ?_ GE177.out | refine bt ?_ GE178.out | refine bt ?_ GE179.out | refine bt ?_ GE182.out) | exact HB.out)) hb); have n5_ := Aside0.mk (hbox); have n6_ := Aside0.mk ((by rw [hg]; exact (below_size (by repeat (first | (with_reducible first | exact HB.out | apply ba | apply bn | apply bd | refine bt ?_ GE177.out | refine bt ?_ GE178.out | refine bt ?_ GE179.out | refine bt ?_ GE182.out) | exact HB.out))) : w.heap.size ≤ gb189)); have n7_ := n6_; have n8_ := Aside0.mk ((by rw [hg]; exact Nat.ne_of_lt (blk_lt (g := gb177) (o := .cells #[.int .i64 x178000_3, .int .i64 x178001_3, .int .i64 x178002_3, .int .i64 x178003_3, .int .i64 x178004_3] 25 (0, 0)) (by exact bu BK177.out)) : gb177 ≠ gb189)); have n9_ := Aside0.mk n8_.out.symm; have n10_ := Aside0.mk ((by rw [hg]; exact Nat.ne_of_lt (blk_lt (g := gb178) (o := .cells #[.int .i64 a1_0, .int .i64 a1_1, .int .i64 a1_2, .int .i64 a1_3] 31 (0, 0)) (by exact bu BK178.out)) : gb178 ≠ gb189)); have n11_ := Aside0.mk n10_.out.symm; have n12_ := Aside0.mk ((by rw [hg]; exact Nat.ne_of_lt (blk_lt (g := gb179) (o := .cells #[.int .i64 x180000_3, .int .i64 x180001_3, .int .i64 x180002_3, .int .i64 x180003_3, .int .i64 x180004_3] 25 (0, 0)) (by exact bu BK179.out)) : gb179 ≠ gb189)); have n13_ := Aside0.mk n12_.out.symm; have n14_ := Aside0.mk ((by rw [hg]; exact Nat.ne_of_lt (blk_lt (g := gb182) (o := .cells #[.int .i64 a0_0, .int .i64 a0_1, .int .i64 a0_2, .int .i64 a0_3, .int .i64 a0_4] 25 (0, 0)) (by exact bu BK182.out)) : gb182 ≠ gb189)); have n15_ := Aside0.mk n14_.out.symm; clear BK177; clear BK178; clear BK179; clear BK182; clear HB; have BK177 := n0_; have BK178 := n1_; have BK179 := n2_; have BK182 := n3_; have HB := n4_; have BK189 := n5_; have GW189 := n6_; have GE189 := n7_; have NB177_189 := n8_; have NB189_177 := n9_; have NB178_189 := n10_; have NB189_178 := n11_; have NB179_189 := n12_; have NB189_179 := n13_; have NB182_189 := n14_; have NB189_182 := n15_; clear n0_ n1_ n2_ n3_ n4_ n5_ n6_ n7_ n8_ n9_ n10_ n11_ n12_ n13_ n14_ n15_; clear hb hbox hg; have hnb102 := NB189_177.out; have hnc102 := NB177_189.out; have hnb103 := NB189_178.out; have hnc103 := NB178_189.out; have hnb104 := NB189_179.out; have hnc104 := NB179_189.out; have hnb105 := NB189_182.out; have hnc105 := NB182_189.out; have hcz106_0 : w101.cell? ⟨gb189, 0, none⟩ = some (.int .i64 0) := (blk_cell BK189.out 0).trans rfl; have hcz106_1 : w101.cell? ⟨gb189, 1, none⟩ = some (.int .i64 0) := (blk_cell BK189.out 1).trans rfl; have hcz106_2 : w101.cell? ⟨gb189, 2, none⟩ = some (.int .i64 0) := (blk_cell BK189.out 2).trans rfl; have hcz106_3 : w101.cell? ⟨gb189, 3, none⟩ = some (.int .i64 0) := (blk_cell BK189.out 3).trans rfl; have hcz106_4 : w101.cell? ⟨gb189, 4, none⟩ = some (.int .i64 0) := (blk_cell BK189.out 4).trans rfl; have hfz106_0 := blk_frozen BK189.out 0; have hfz106_1 := blk_frozen BK189.out 1; have hfz106_2 := blk_frozen BK189.out 2; have hfz106_3 := blk_frozen BK189.out 3; have hfz106_4 := blk_frozen BK189.out 4; have hcz107_0 : w101.cell? ⟨gb177, 0, none⟩ = some (.int .i64 x178000_3) := (blk_cell BK177.out 0).trans rfl; have hcz107_1 : w101.cell? ⟨gb177, 1, none⟩ = some (.int .i64 x178001_3) := (blk_cell BK177.out 1).trans rfl; have hcz107_2 : w101.cell? ⟨gb177, 2, none⟩ = some (.int .i64 x178002_3) := (blk_cell BK177.out 2).trans rfl; have hcz107_3 : w101.cell? ⟨gb177, 3, none⟩ = some (.int .i64 x178003_3) := (blk_cell BK177.out 3).trans rfl; have hcz107_4 : w101.cell? ⟨gb177, 4, none⟩ = some (.int .i64 x178004_3) := (blk_cell BK177.out 4).trans rfl; have hfz107_0 := blk_frozen BK177.out 0; have hfz107_1 := blk_frozen BK177.out 1; have hfz107_2 := blk_frozen BK177.out 2; have hfz107_3 := blk_frozen BK177.out 3; have hfz107_4 := blk_frozen BK177.out 4) | ((with_reducible refine gate_callee (f := 7) rfl ?_); refine goesL_ (some 51) rfl rfl Try.func7 (by kernel_rfl) rfl #[.agg #[.int .i64 t183, .int .i64 t184, .int .i64 t185, .int .i64 t186, .int .i64 t187]] rfl (by (try simp only [List.map_toArray, List.map_cons, List.map_nil]); first | done | rfl) ?_; (with_reducible refine (spec_CraftOk.calls t183 t184 t185 t186 t187 false _ A75.out).mono ?_); rintro e w108 ⟨rfl, hb⟩; refine ⟨_, rfl, ?_⟩; have n0_ := Aside0.mk (blk_below (g := gb177) (o := .cells #[.int .i64 t183, .int .i64 t184, .int .i64 t185, .int .i64 t186, .int .i64 t187] 25 (0, 0)) (by refine bu ?_; refine blk_put (cs := #[.int .i64 t183, .int .i64 t184, .int .i64 t185, .int .i64 t186, .int .i64 x178004_3]) ?_ 4 _ rfl; refine bu ?_; refine blk_put (cs := #[.int .i64 t183, .int .i64 t184, .int .i64 t185, .int .i64 x178003_3, .int .i64 x178004_3]) ?_ 3 _ rfl; refine bu ?_; refine blk_put (cs := #[.int .i64 t183, .int .i64 t184, .int .i64 x178002_3, .int .i64 x178003_3, .int .i64 x178004_3]) ?_ 2 _ rfl; refine bu ?_; refine blk_put (cs := #[.int .i64 t183, .int .i64 x178001_3, .int .i64 x178002_3, .int .i64 x178003_3, .int .i64 x178004_3]) ?_ 1 _ rfl; refine bu ?_; refine blk_put (cs := #[.int .i64 x178000_3, .int .i64 x178001_3, .int .i64 x178002_3, .int .i64 x178003_3, .int .i64 x178004_3]) ?_ 0 _ rfl; refine bu ?_; refine blk_far ?_ NB177_189.out _; refine bu ?_; refine blk_far ?_ NB177_189.out _; refine bu ?_; refine blk_far ?_ NB177_189.out _; refine bu ?_; refine blk_far ?_ NB177_189.out _; refine bu ?_; refine blk_far ?_ NB177_189.out _; refine bu ?_; exact BK177.out) hb); have n1_ := Aside0.mk (blk_below (g := gb178) (o := .cells #[.int .i64 a1_0, .int .i64 a1_1, .int .i64 a1_2, .int .i64 a1_3] 31 (0, 0)) (by refine bu ?_; refine blk_far ?_ NB178_177.out _; refine bu ?_; refine blk_far ?_ NB178_177.out _; refine bu ?_; refine blk_far ?_ NB178_177.out _; refine bu ?_; refine blk_far ?_ NB178_177.out _; refine bu ?_; refine blk_far ?_ NB178_177.out _; refine bu ?_; refine blk_far ?_ NB178_189.out _; refine bu ?_; refine blk_far ?_ NB178_189.out _; refine bu ?_; refine blk_far ?_ NB178_189.out _; refine bu ?_; refine blk_far ?_ NB178_189.out _; refine bu ?_; refine blk_far ?_ NB178_189.out _; refine bu ?_; exact BK178.out) hb); have n2_ := Aside0.mk (blk_below (g := gb179) (o := .cells #[.int .i64 x180000_3, .int .i64 x180001_3, .int .i64 x180002_3, .int .i64 x180003_3, .int .i64 x180004_3] 25 (0, 0)) (by refine bu ?_; refine blk_far ?_ NB179_177.out _; refine bu ?_; refine blk_far ?_ NB179_177.out _; refine bu ?_; refine blk_far ?_ NB179_177.out _; refine bu ?_; refine blk_far ?_ NB179_177.out _; refine bu ?_; refine blk_far ?_ NB179_177.out _; refine bu ?_; refine blk_far ?_ NB179_189.out _; refine bu ?_; refine blk_far ?_ NB179_189.out _; refine bu ?_; refine blk_far ?_ NB179_189.out _; refine bu ?_; refine blk_far ?_ NB179_189.out _; refine bu ?_; refine blk_far ?_ NB179_189.out _; refine bu ?_; exact BK179.out) hb); have n3_ := Aside0.mk (blk_below (g := gb182) (o := .cells #[.int .i64 a0_0, .int .i64 a0_1, .int .i64 a0_2, .int .i64 a0_3, .int .i64 a0_4] 25 (0, 0)) (by refine bu ?_; refine blk_far ?_ NB182_177.out _; refine bu ?_; refine blk_far ?_ NB182_177.out _; refine bu ?_; refine blk_far ?_ NB182_177.out _; refine bu ?_; refine blk_far ?_ NB182_177.out _; refine bu ?_; refine blk_far ?_ NB182_177.out _; refine bu ?_; refine blk_far ?_ NB182_189.out _; refine bu ?_; refine blk_far ?_ NB182_189.out _; refine bu ?_; refine blk_far ?_ NB182_189.out _; refine bu ?_; refine blk_far ?_ NB182_189.out _; refine bu ?_; refine blk_far ?_ NB182_189.out _; refine bu ?_; exact BK182.out) hb); have n4_ := Aside0.mk (blk_below (g := gb189) (o := .cells #[.int .i64 t183, .int .i64 t184, .int .i64 t185, .int .i64 t186, .int .i64 t187] 25 (0, 0)) (by refine bu ?_; refine blk_far ?_ NB189_177.out _; refine bu ?_; refine blk_far ?_ NB189_177.out _; refine bu ?_; refine blk_far ?_ NB189_177.out _; refine bu ?_; refine blk_far ?_ NB189_177.out _; refine bu ?_; refine blk_far ?_ NB189_177.out _; refine bu ?_; refine blk_put (cs := #[.int .i64 t183, .int .i64 t184, .int .i64 t185, .int .i64 t186, .int .i64 0]) ?_ 4 _ rfl; refine bu ?_; refine blk_put (cs := #[.int .i64 t183, .int .i64 t184, .int .i64 t185, .int .i64 0, .int .i64 0]) ?_ 3 _ rfl; refine bu ?_; refine blk_put (cs := #[.int .i64 t183, .int .i64 t184, .int .i64 0, .int .i64 0, .int .i64 0]) ?_ 2 _ rfl; refine bu ?_; refine blk_put (cs := #[.int .i64 t183, .int .i64 0, .int .i64 0, .int .i64 0, .int .i64 0]) ?_ 1 _ rfl; refine bu ?_; refine blk_put (cs := #[.int .i64 0, .int .i64 0, .int .i64 0, .int .i64 0, .int .i64 0]) ?_ 0 _ rfl; refine bu ?_; exact BK189.out) hb); have n5_ := Aside0.mk (below_step (by repeat (first | (with_reducible first | exact HB.out | apply ba | apply bn | apply bd | refine bt ?_ GE177.out | refine bt ?_ GE178.out | refine bt ?_ GE179.out | refine bt ?_ GE182.out | refine bt ?_ GE189.out) | exact HB.out)) hb); clear BK177; clear BK178; clear BK179; clear BK182; clear BK189; clear HB; have BK177 := n0_; have BK178 := n1_; have BK179 := n2_; have BK182 := n3_; have BK189 := n4_; have HB := n5_; clear n0_ n1_ n2_ n3_ n4_ n5_; (try clear hb); (try clear hb2); (try clear hk); (try clear hi); have hnb109 := NB182_179.out; have hnc109 := NB179_182.out; have hcz110_0 : w108.cell? ⟨gb182, 0, none⟩ = some (.int .i64 a0_0) := (blk_cell BK182.out 0).trans rfl; have hcz110_1 : w108.cell? ⟨gb182, 1, none⟩ = some (.int .i64 a0_1) := (blk_cell BK182.out 1).trans rfl; have hcz110_2 : w108.cell? ⟨gb182, 2, none⟩ = some (.int .i64 a0_2) := (blk_cell BK182.out 2).trans rfl; have hcz110_3 : w108.cell? ⟨gb182, 3, none⟩ = some (.int .i64 a0_3) := (blk_cell BK182.out 3).trans rfl; have hcz110_4 : w108.cell? ⟨gb182, 4, none⟩ = some (.int .i64 a0_4) := (blk_cell BK182.out 4).trans rfl; have hfz110_0 := blk_frozen BK182.out 0; have hfz110_1 := blk_frozen BK182.out 1; have hfz110_2 := blk_frozen BK182.out 2; have hfz110_3 := blk_frozen BK182.out 3; have hfz110_4 := blk_frozen BK182.out 4; have hcz111_0 : w108.cell? ⟨gb179, 0, none⟩ = some (.int .i64 x180000_3) := (blk_cell BK179.out 0).trans rfl; have hcz111_1 : w108.cell? ⟨gb179, 1, none⟩ = some (.int .i64 x180001_3) := (blk_cell BK179.out 1).trans rfl; have hcz111_2 : w108.cell? ⟨gb179, 2, none⟩ = some (.int .i64 x180002_3) := (blk_cell BK179.out 2).trans rfl; have hcz111_3 : w108.cell? ⟨gb179, 3, none⟩ = some (.int .i64 x180003_3) := (blk_cell BK179.out 3).trans rfl; have hcz111_4 : w108.cell? ⟨gb179, 4, none⟩ = some (.int .i64 x180004_3) := (blk_cell BK179.out 4).trans rfl; have hfz111_0 := blk_frozen BK179.out 0; have hfz111_1 := blk_frozen BK179.out 1; have hfz111_2 := blk_frozen BK179.out 2; have hfz111_3 := blk_frozen BK179.out 3; have hfz111_4 := blk_frozen BK179.out 4))
           refine bodyPost_ret (results_ctt rfl _ _ gb179 25 #[.int .i64 a0_0, .int .i64 a0_1, .int .i64 a0_2, .int .i64 a0_3, .int .i64 a0_4] (0, 0) _ rfl (by refine bu ?_; refine blk_put (cs := #[.int .i64 a0_0, .int .i64 a0_1, .int .i64 a0_2, .int .i64 a0_3, .int .i64 x180004_3]) ?_ 4 _ rfl; refine bu ?_; refine blk_put (cs := #[.int .i64 a0_0, .int .i64 a0_1, .int .i64 a0_2, .int .i64 x180003_3, .int .i64 x180004_3]) ?_ 3 _ rfl; refine bu ?_; refine blk_put (cs := #[.int .i64 a0_0, .int .i64 a0_1, .int .i64 x180002_3, .int .i64 x180003_3, .int .i64 x180004_3]) ?_ 2 _ rfl; refine bu ?_; refine blk_put (cs := #[.int .i64 a0_0, .int .i64 x180001_3, .int .i64 x180002_3, .int .i64 x180003_3, .int .i64 x180004_3]) ?_ 1 _ rfl; refine bu ?_; refine blk_put (cs := #[.int .i64 x180000_3, .int .i64 x180001_3, .int .i64 x180002_3, .int .i64 x180003_3, .int .i64 x180004_3]) ?_ 0 _ rfl; refine bu ?_; exact BK179.out) Try.underlying25 rfl (by kernel_rfl)) rfl ?_
           exact ⟨by first | rfl | (simp [errW_none, errW_some] <;> rfl) | (simp [*, errW_none, errW_some] <;> rfl), by repeat (first | (with_reducible first | exact HB.out | apply ba | apply bn | apply bd | refine bt ?_ GE177.out | refine bt ?_ GE178.out | refine bt ?_ GE179.out | refine bt ?_ GE182.out | refine bt ?_ GE189.out) | exact HB.out)⟩

end Go.Proofs.Ytadnhfdodcmlaaa.PFnExactFlyRoute
