/- Walks of the functions named below, by a program of the session over the kit's printer. -/
import Derived.Test.YtdodiflcmjbfdaaPFnTurnedx0
import Derived.Test.YtdodiflcmjbfdaaPFnTurnedx1
import Derived.Test.YtdodiflcmjbfdaaPFnTurnedx3
namespace Go.Proofs.Ytdodiflcmjbfdaa.PFnTurned
open Go.RowKit Go.Proofs.YtdodiflcmjbfdaaW.PrintWords Go.Proofs.YtdodiflcmjbfdaaW.PrintLast Go.Proofs.YtdodiflcmjbfdaaW.PrintMore
attribute [local go_sem] max2_int min2_int max_two min_two max_three min_three max_four min_four   -- for this text's walks alone
set_option linter.unusedVariables false
set_option linter.unusedSimpArgs false
abbrev t4 : Bool := true
abbrev f4 : Bool := false

/-! ### impl_Pilot_climb: function 35 -/
def impl_Pilot_climb.j0 : Nat → Int → Bool → Int → Int → Int → Int → Int → Int → Int → Int → Bool → Option (Int × Int × Int × Int × Int × Int × Int × Int × Bool)
 | 0, _, _, _, _, _, _, _, _, _, _, _ => none
 | k + 1, x2, x28, x1000, x1001, x1002, x1003, x1004, x1005, x1006, x1007, x1008 => if x28 = true then (some (1, x1001, x1003, x1003, 0, x1005, x1006, x1007, x1008)) else ((impl_size.f x2).bind fun t185 => ((impl_size.f x1004).bind fun t186 => (if t185 ≤ (wrap64 (10 * t186)) then (some (3, x1001, x1002, x1003, x1004, x1005, x1006, x1007, x1008)) else (some (x1000, x1001, x1002, x1003, x1004, x1005, x1006, x1007, x1008)))))
def impl_Pilot_climb.f (k : Nat) (s0_0 : Int) (s0_1 : Int) (s0_2 : Int) (s0_3 : Int) (s0_4 : Int) (s0_5 : Int) (s0_6 : Int) (s0_7 : Int) (s0_8 : Bool) : Option (Int × Int × Int × Int × Int × Int × Int × Int × Bool) := if s0_4 = 0 then (some (s0_0, s0_1, s0_2, s0_3, s0_4, s0_5, s0_6, s0_7, s0_8)) else (if s0_4 > 0 then (if (wrap64 (s0_3 - (wrap64 (s0_2 + s0_4)))) ≤ 0 then (impl_Pilot_climb.j0 k (wrap64 (s0_3 - (wrap64 (s0_2 + s0_4)))) true s0_0 s0_1 (wrap64 (s0_2 + s0_4)) s0_3 s0_4 s0_5 s0_6 s0_7 s0_8) else (if s0_4 < 0 then (impl_Pilot_climb.j0 k (wrap64 (s0_3 - (wrap64 (s0_2 + s0_4)))) (decide ((wrap64 (s0_3 - (wrap64 (s0_2 + s0_4)))) ≥ 0)) s0_0 s0_1 (wrap64 (s0_2 + s0_4)) s0_3 s0_4 s0_5 s0_6 s0_7 s0_8) else (impl_Pilot_climb.j0 k (wrap64 (s0_3 - (wrap64 (s0_2 + s0_4)))) false s0_0 s0_1 (wrap64 (s0_2 + s0_4)) s0_3 s0_4 s0_5 s0_6 s0_7 s0_8))) else (if s0_4 < 0 then (impl_Pilot_climb.j0 k (wrap64 (s0_3 - (wrap64 (s0_2 + s0_4)))) (decide ((wrap64 (s0_3 - (wrap64 (s0_2 + s0_4)))) ≥ 0)) s0_0 s0_1 (wrap64 (s0_2 + s0_4)) s0_3 s0_4 s0_5 s0_6 s0_7 s0_8) else (impl_Pilot_climb.j0 k (wrap64 (s0_3 - (wrap64 (s0_2 + s0_4)))) false s0_0 s0_1 (wrap64 (s0_2 + s0_4)) s0_3 s0_4 s0_5 s0_6 s0_7 s0_8)))
theorem impl_Pilot_climb.mono_l : ∀ k, (∀ y0 y1 y2 y3 y4 y5 y6 y7 y8 y9 y10, LeO (impl_Pilot_climb.j0 k y0 y1 y2 y3 y4 y5 y6 y7 y8 y9 y10) (impl_Pilot_climb.j0 (k + 1) y0 y1 y2 y3 y4 y5 y6 y7 y8 y9 y10))
 | 0 => fun _ _ _ _ _ _ _ _ _ _ _ r h => by simp [impl_Pilot_climb.j0] at h
 | k + 1 => by
  have ih0 := impl_Pilot_climb.mono_l k
  ·
   intro y0 y1 y2 y3 y4 y5 y6 y7 y8 y9 y10
   unfold impl_Pilot_climb.j0
   repeat' first
   | (with_reducible exact ih0 _ _ _ _ _ _ _ _ _ _ _)
   | (with_reducible exact LeO.refl _)
   | (with_reducible exact LeO.none _)
   | (with_reducible refine LeO.ite ?_ ?_)
   | (with_reducible refine LeO.bind ?_ (fun _ => ?_))
   | exact ih0 _ _ _ _ _ _ _ _ _ _ _
   | exact LeO.none _
   | refine LeO.ite ?_ ?_
   | refine LeO.bind ?_ (fun _ => ?_)
theorem impl_Pilot_climb.mono : ∀ a0 a1 a2 a3 a4 a5 a6 a7 a8 k, LeO (impl_Pilot_climb.f k a0 a1 a2 a3 a4 a5 a6 a7 a8) (impl_Pilot_climb.f (k + 1) a0 a1 a2 a3 a4 a5 a6 a7 a8) := by
 intro a0 a1 a2 a3 a4 a5 a6 a7 a8 k
 have ih0 := impl_Pilot_climb.mono_l k
 unfold impl_Pilot_climb.f
 repeat' first
   | (with_reducible exact ih0 _ _ _ _ _ _ _ _ _ _ _)
   | (with_reducible exact LeO.refl _)
   | (with_reducible exact LeO.none _)
   | (with_reducible refine LeO.ite ?_ ?_)
   | (with_reducible refine LeO.bind ?_ (fun _ => ?_))
   | exact ih0 _ _ _ _ _ _ _ _ _ _ _
   | exact LeO.none _
   | refine LeO.ite ?_ ?_
   | refine LeO.bind ?_ (fun _ => ?_)
def impl_Pilot_climb.T1 : Bool × List (List Nat × List Nat) := (true, [([], []), ([0], [0]), ([1], [1]), ([2], [2]), ([], []), ([4], [4]), ([5], [5]), ([6], [6]), ([3, 7], [3, 7]), ([0, 0, 1, 2, 3, 4, 5, 6, 7, 8], [0]), ([9, 0, 1, 2, 3, 4, 5, 6, 7, 8], [9]), ([10, 8, 0, 1, 2, 3, 4, 5, 6, 7, 8], [8, 10])])
def impl_Pilot_climb.B1 : List Nat := [0, 1, 3, 7, 0, 16, 48, 112, 255, 511, 1023, 2047]
theorem impl_Pilot_climb.tab1 : rtab .any (opsOf Try.f35 1) = impl_Pilot_climb.T1 := by kernel_rfl
theorem impl_Pilot_climb.bits1 : waitsOk impl_Pilot_climb.T1.2 impl_Pilot_climb.B1 = true := by kernel_rfl
def impl_Pilot_climb.T2 : Bool × List (List Nat × List Nat) := (true, [([], []), ([0], [0]), ([1], [1]), ([2], [2]), ([], []), ([4], [4]), ([5], [5]), ([6], [6]), ([3, 7], [3, 7]), ([8, 0, 1, 2, 3, 4, 5, 6, 7, 8], [8])])
def impl_Pilot_climb.B2 : List Nat := [0, 1, 3, 7, 0, 16, 48, 112, 255, 511]
theorem impl_Pilot_climb.tab2 : rtab .any (opsOf Try.f35 2) = impl_Pilot_climb.T2 := by kernel_rfl
theorem impl_Pilot_climb.bits2 : waitsOk impl_Pilot_climb.T2.2 impl_Pilot_climb.B2 = true := by kernel_rfl
def impl_Pilot_climb.T5 : Bool × List (List Nat × List Nat) := (true, [([], []), ([0], [0]), ([], []), ([2], [2]), ([3], [3]), ([4], [4]), ([5, 1], [5]), ([6], [6]), ([1, 7], [1, 7]), ([8, 6], [8])])
def impl_Pilot_climb.B5 : List Nat := [0, 1, 0, 4, 12, 28, 63, 127, 255, 511]
theorem impl_Pilot_climb.tab5 : rtab .any (opsOf Try.f35 5) = impl_Pilot_climb.T5 := by kernel_rfl
theorem impl_Pilot_climb.bits5 : waitsOk impl_Pilot_climb.T5.2 impl_Pilot_climb.B5 = true := by kernel_rfl
set_option maxHeartbeats 8000000 in
set_option maxRecDepth 100000 in
theorem impl_Pilot_climb.calls (k : Nat) (g : Nat) (s0_0 : Int) (s0_1 : Int) (s0_2 : Int) (s0_3 : Int) (s0_4 : Int) (s0_5 : Int) (s0_6 : Int) (s0_7 : Int) (s0_8 : Bool) (r1 : Int) (r2 : Int) (r3 : Int) (r4 : Int) (r5 : Int) (r6 : Int) (r7 : Int) (r8 : Int) (r9 : Bool) (w0 w : World) (hI : IsS25 w0 w g s0_0 s0_1 s0_2 s0_3 s0_4 s0_5 s0_6 s0_7 s0_8) (hB : Below w0.heap.size w0 w) (h : impl_Pilot_climb.f k s0_0 s0_1 s0_2 s0_3 s0_4 s0_5 s0_6 s0_7 s0_8 = some (r1, r2, r3, r4, r5, r6, r7, r8, r9)) :
  Calls Try.prog 35 #[.pointer (some ⟨g, 0, none⟩)] w fun e w' => e = .returned (.tuple #[]) ∧ IsS25 w0 w' g r1 r2 r3 r4 r5 r6 r7 r8 r9 ∧ Below w0.heap.size w0 w' ∧ KeepBut w w' g none := by
 have HI0 := Aside0.mk hI
 have HK := Aside0.mk (KeepBut.refl w g none)
 have HL := Aside0.mk hB.size
 clear hI
 have HW0 := Aside0.mk hB.size
 have HB := Aside0.mk hB
 clear hB
 have H : (if s0_4 = 0 then (some (s0_0, s0_1, s0_2, s0_3, s0_4, s0_5, s0_6, s0_7, s0_8)) else (if s0_4 > 0 then (if (wrap64 (s0_3 - (wrap64 (s0_2 + s0_4)))) ≤ 0 then (impl_Pilot_climb.j0 k (wrap64 (s0_3 - (wrap64 (s0_2 + s0_4)))) true s0_0 s0_1 (wrap64 (s0_2 + s0_4)) s0_3 s0_4 s0_5 s0_6 s0_7 s0_8) else (if s0_4 < 0 then (impl_Pilot_climb.j0 k (wrap64 (s0_3 - (wrap64 (s0_2 + s0_4)))) (decide ((wrap64 (s0_3 - (wrap64 (s0_2 + s0_4)))) ≥ 0)) s0_0 s0_1 (wrap64 (s0_2 + s0_4)) s0_3 s0_4 s0_5 s0_6 s0_7 s0_8) else (impl_Pilot_climb.j0 k (wrap64 (s0_3 - (wrap64 (s0_2 + s0_4)))) false s0_0 s0_1 (wrap64 (s0_2 + s0_4)) s0_3 s0_4 s0_5 s0_6 s0_7 s0_8))) else (if s0_4 < 0 then (impl_Pilot_climb.j0 k (wrap64 (s0_3 - (wrap64 (s0_2 + s0_4)))) (decide ((wrap64 (s0_3 - (wrap64 (s0_2 + s0_4)))) ≥ 0)) s0_0 s0_1 (wrap64 (s0_2 + s0_4)) s0_3 s0_4 s0_5 s0_6 s0_7 s0_8) else (impl_Pilot_climb.j0 k (wrap64 (s0_3 - (wrap64 (s0_2 + s0_4)))) false s0_0 s0_1 (wrap64 (s0_2 + s0_4)) s0_3 s0_4 s0_5 s0_6 s0_7 s0_8)))) = some (r1, r2, r3, r4, r5, r6, r7, r8, r9) := h
 clear h
 by_cases c2 : s0_4 = 0
 ·
  rw [if_pos c2] at H
  have c2b0 : (s0_4 == 0) = true := beq_iff_eq.mpr c2
  have c2b1 : (s0_4 != 0) = false := bne_eq_false_iff_eq.mpr c2
  clear c2
  simp only [Option.some.injEq, Prod.mk.injEq] at H
  obtain ⟨rfl, rfl, rfl, rfl, rfl, rfl, rfl, rfl, rfl⟩ := H
  obtain ⟨HGz3, hgz3⟩ := HI0.out
  have hcz3_0 := cellS25_0 HGz3
  have hcz3_1 := cellS25_1 HGz3
  have hcz3_2 := cellS25_2 HGz3
  have hcz3_3 := cellS25_3 HGz3
  have hcz3_4 := cellS25_4 HGz3
  have hcz3_5 := cellS25_5 HGz3
  have hcz3_6 := cellS25_6 HGz3
  have hcz3_7 := cellS25_7 HGz3
  have hcz3_8 := cellS25_8 HGz3
  have hfz3_0 := blk_frozen HGz3 0
  have hfz3_1 := blk_frozen HGz3 1
  have hfz3_2 := blk_frozen HGz3 2
  have hfz3_3 := blk_frozen HGz3 3
  have hfz3_4 := blk_frozen HGz3 4
  have hfz3_5 := blk_frozen HGz3 5
  have hfz3_6 := blk_frozen HGz3 6
  have hfz3_7 := blk_frozen HGz3 7
  have hfz3_8 := blk_frozen HGz3 8
  clear HGz3 hgz3
  go_enter Try.func35, Try.ntmps35
  go_wp2
  first | go_end0 | ((try simp only [Exit.inBlock, Exit.then]); refine bodyPost_ret (results_none rfl _ _ _) rfl ?_)
  exact ⟨by first | rfl | (simp [errW_none, errW_some] <;> rfl) | (simp [*, errW_none, errW_some] <;> rfl), by repeat (first | (with_reducible first | exact HI0.out | apply IsS25.alloc | apply IsS25.drewN | apply IsS25.drew | apply IsS25.set_0 | apply IsS25.set_1 | apply IsS25.set_2 | apply IsS25.set_3 | apply IsS25.set_4 | apply IsS25.set_5 | apply IsS25.set_6 | apply IsS25.set_7 | apply IsS25.set_8) | exact HI0.out), by repeat (first | (with_reducible first | exact HB.out | apply below_alloc | apply pw_below_drewN | apply below_drew1 | refine below_set ?_ (IsS25.ge HI0.out)) | exact HB.out), by repeat (first | (with_reducible first | exact HK.out | apply KeepBut.set_ | apply keep_drewN | apply keep_drew | apply keep_alloc) | exact HK.out)⟩
 ·
  rw [if_neg c2] at H
  have c2b0 : (s0_4 == 0) = false := beq_eq_false_iff_ne.mpr c2
  have c2b1 : (s0_4 != 0) = true := bne_iff_ne.mpr c2
  have HC4 := Aside0.mk H
  clear H
  obtain ⟨HGz5, hgz5⟩ := HI0.out
  have hcz5_0 := cellS25_0 HGz5
  have hcz5_1 := cellS25_1 HGz5
  have hcz5_2 := cellS25_2 HGz5
  have hcz5_3 := cellS25_3 HGz5
  have hcz5_4 := cellS25_4 HGz5
  have hcz5_5 := cellS25_5 HGz5
  have hcz5_6 := cellS25_6 HGz5
  have hcz5_7 := cellS25_7 HGz5
  have hcz5_8 := cellS25_8 HGz5
  have hfz5_0 := blk_frozen HGz5 0
  have hfz5_1 := blk_frozen HGz5 1
  have hfz5_2 := blk_frozen HGz5 2
  have hfz5_3 := blk_frozen HGz5 3
  have hfz5_4 := blk_frozen HGz5 4
  have hfz5_5 := blk_frozen HGz5 5
  have hfz5_6 := blk_frozen HGz5 6
  have hfz5_7 := blk_frozen HGz5 7
  have hfz5_8 := blk_frozen HGz5 8
  clear HGz5 hgz5
  go_enter Try.func35, Try.ntmps35
  try go_wp2
  have n0_ := Aside0.mk (IsS25.drew HI0.out)
  have n1_ := Aside0.mk (keep_drew HK.out)
  have n2_ := Aside0.mk (below_drew1 HB.out)
  clear HI0
  clear HK
  clear HB
  have HI0 := n0_
  have HK := n1_
  have HB := n2_
  clear n0_ n1_ n2_
  refine start_ (n := 12) (S := fun w' => w'.cell? ⟨g, 0, none⟩ = some (.int .i64 s0_0) ∧ w'.cell? ⟨g, 1, none⟩ = some (.int .i64 s0_1) ∧ w'.cell? ⟨g, 2, none⟩ = some (.int .i64 s0_2) ∧ w'.cell? ⟨g, 3, none⟩ = some (.int .i64 s0_3) ∧ w'.cell? ⟨g, 4, none⟩ = some (.int .i64 s0_4) ∧ w'.cell? ⟨g, 5, none⟩ = some (.int .i64 s0_5) ∧ w'.cell? ⟨g, 6, none⟩ = some (.int .i64 s0_6) ∧ w'.cell? ⟨g, 7, none⟩ = some (.int .i64 s0_7) ∧ w'.cell? ⟨g, 8, none⟩ = some (.bool s0_8)) (ds := [11]) #[f4, f4, f4, f4, f4, f4, f4, f4, f4, f4, f4, f4] (by kernel_rfl) rfl rfl ⟨(by obtain ⟨HG_, hg_⟩ := HI0.out; exact cellS25_0 HG_), (by obtain ⟨HG_, hg_⟩ := HI0.out; exact cellS25_1 HG_), (by obtain ⟨HG_, hg_⟩ := HI0.out; exact cellS25_2 HG_), (by obtain ⟨HG_, hg_⟩ := HI0.out; exact cellS25_3 HG_), (by obtain ⟨HG_, hg_⟩ := HI0.out; exact cellS25_4 HG_), (by obtain ⟨HG_, hg_⟩ := HI0.out; exact cellS25_5 HG_), (by obtain ⟨HG_, hg_⟩ := HI0.out; exact cellS25_6 HG_), (by obtain ⟨HG_, hg_⟩ := HI0.out; exact cellS25_7 HG_), (by obtain ⟨HG_, hg_⟩ := HI0.out; exact cellS25_8 HG_)⟩ (fun hHeld => ?_); refine with_tabW impl_Pilot_climb.tab1 impl_Pilot_climb.bits1 (fun HT_ HW_ => ?_)
  generalize w.drew = w6 at HI0 HK HB hHeld ⊢
  refine pure_ (i := 0) (N := some 8) (v := ?_) (a' := ?_) #[t4, f4, f4, f4, f4, f4, f4, f4, f4, f4, f4, f4] rfl rfl (any_of HT_.out (by kernel_rfl)) (fun _ _ _ h => h) (Or.inl ⟨by rfl, ?_⟩) ?_ ?_
  rotate_left
  ·
   intro w'
   go_simp
   with_reducible rfl
  rotate_left
  ·
   simp only [Act.put, List.setIfInBounds_toArray, List.set_cons_zero, List.set_cons_succ, i64_w, i32_w]
   rfl
  refine pure_ (i := 1) (N := some 9) (v := ?_) (a' := ?_) #[t4, t4, f4, f4, f4, f4, f4, f4, f4, f4, f4, f4] rfl rfl (any_of HT_.out (by kernel_rfl)) (fun _ _ _ h => h) (Or.inl ⟨by rfl, ?_⟩) ?_ ?_
  rotate_left
  ·
   intro w'
   go_simp
   with_reducible rfl
  rotate_left
  ·
   simp only [Act.put, List.setIfInBounds_toArray, List.set_cons_zero, List.set_cons_succ, i64_w, i32_w]
   rfl
  refine pure_ (i := 2) (N := some 10) (v := ?_) (a' := ?_) #[t4, t4, t4, f4, f4, f4, f4, f4, f4, f4, f4, f4] rfl rfl (any_of HT_.out (by kernel_rfl)) (fun _ _ _ h => h) (Or.inl ⟨by rfl, ?_⟩) ?_ ?_
  rotate_left
  ·
   intro w'
   go_simp
   with_reducible rfl
  rotate_left
  ·
   simp only [Act.put, List.setIfInBounds_toArray, List.set_cons_zero, List.set_cons_succ, i64_w, i32_w]
   rfl
  refine pure_ (i := 4) (N := some 12) (v := ?_) (a' := ?_) #[t4, t4, t4, f4, t4, f4, f4, f4, f4, f4, f4, f4] rfl rfl (any_of HT_.out (by kernel_rfl)) (fun _ _ _ h => h) (Or.inl ⟨by rfl, ?_⟩) ?_ ?_
  rotate_left
  ·
   intro w'
   go_simp
   with_reducible rfl
  rotate_left
  ·
   simp only [Act.put, List.setIfInBounds_toArray, List.set_cons_zero, List.set_cons_succ, i64_w, i32_w]
   rfl
  refine pure_ (i := 5) (N := some 13) (v := ?_) (a' := ?_) #[t4, t4, t4, f4, t4, t4, f4, f4, f4, f4, f4, f4] rfl rfl (any_of HT_.out (by kernel_rfl)) (fun _ _ _ h => h) (Or.inl ⟨by rfl, ?_⟩) ?_ ?_
  rotate_left
  ·
   intro w'
   go_simp
   with_reducible rfl
  rotate_left
  ·
   simp only [Act.put, List.setIfInBounds_toArray, List.set_cons_zero, List.set_cons_succ, i64_w, i32_w]
   rfl
  refine pure_ (i := 6) (N := some 14) (v := ?_) (a' := ?_) #[t4, t4, t4, f4, t4, t4, t4, f4, f4, f4, f4, f4] rfl rfl (any_of HT_.out (by kernel_rfl)) (fun _ _ _ h => h) (Or.inl ⟨by rfl, ?_⟩) ?_ ?_
  rotate_left
  ·
   intro w'
   go_simp
   with_reducible rfl
  rotate_left
  ·
   simp only [Act.put, List.setIfInBounds_toArray, List.set_cons_zero, List.set_cons_succ, i64_w, i32_w]
   rfl
  refine take_ (i := 3) (N := some 11) (v := ?_) (a' := ?_) #[t4, t4, t4, t4, t4, t4, t4, f4, f4, f4, f4, f4] rfl rfl (take_ofW HT_.out HW_.out (by kernel_rfl)) (fun _ _ _ h => h) (Or.inl ⟨by rfl, ?_⟩) hHeld ?_ ?_
  rotate_left
  ·
   rintro w' ⟨s0, s1, s2, s3, s4, s5, s6, s7, s8⟩
   go_simp
   with_reducible rfl
  rotate_left
  ·
   simp only [Act.put, List.setIfInBounds_toArray, List.set_cons_zero, List.set_cons_succ, i64_w, i32_w]
   rfl
  refine take_ (i := 7) (N := some 15) (v := ?_) (a' := ?_) #[t4, t4, t4, t4, t4, t4, t4, t4, f4, f4, f4, f4] rfl rfl (take_ofW HT_.out HW_.out (by kernel_rfl)) (fun _ _ _ h => h) (Or.inl ⟨by rfl, ?_⟩) hHeld ?_ ?_
  rotate_left
  ·
   rintro w' ⟨s0, s1, s2, s3, s4, s5, s6, s7, s8⟩
   go_simp
   with_reducible rfl
  rotate_left
  ·
   simp only [Act.put, List.setIfInBounds_toArray, List.set_cons_zero, List.set_cons_succ, i64_w, i32_w]
   rfl
  refine pure_ (i := 8) (N := some 16) (v := ?_) (a' := ?_) #[t4, t4, t4, t4, t4, t4, t4, t4, t4, f4, f4, f4] rfl rfl (any_of HT_.out (by kernel_rfl)) (fun _ _ _ h => h) (Or.inl ⟨by rfl, ?_⟩) ?_ ?_
  rotate_left
  ·
   intro w'
   go_simp
   with_reducible rfl
  rotate_left
  ·
   simp only [Act.put, List.setIfInBounds_toArray, List.set_cons_zero, List.set_cons_succ, i64_w, i32_w]
   rfl
  refine pure_ (i := 9) (N := some 17) (v := ?_) (a' := ?_) #[t4, t4, t4, t4, t4, t4, t4, t4, t4, t4, f4, f4] rfl rfl (any_of HT_.out (by kernel_rfl)) (fun _ _ _ h => h) (Or.inl ⟨by rfl, ?_⟩) ?_ ?_
  rotate_left
  ·
   intro w'
   go_simp
   with_reducible rfl
  rotate_left
  ·
   simp only [Act.put, List.setIfInBounds_toArray, List.set_cons_zero, List.set_cons_succ, i64_w, i32_w]
   rfl
  refine pure_ (i := 10) (N := some 18) (v := ?_) (a' := ?_) #[t4, t4, t4, t4, t4, t4, t4, t4, t4, t4, t4, f4] rfl rfl (any_of HT_.out (by kernel_rfl)) (fun _ _ _ h => h) (Or.inl ⟨by rfl, ?_⟩) ?_ ?_
  rotate_left
  ·
   intro w'
   go_simp
   with_reducible rfl
  rotate_left
  ·
   simp only [Act.put, List.setIfInBounds_toArray, List.set_cons_zero, List.set_cons_succ, i64_w, i32_w]
   rfl
  refine last_ (i := 11) (N := none) #[t4, t4, t4, t4, t4, t4, t4, t4, t4, t4, t4, t4] rfl rfl (one_of HT_.out (by kernel_rfl)) (by decide) (fun K hK => ?_)
  have hs7 := (by obtain ⟨HG_, hg_⟩ := HI0.out; exact cellS25_2 HG_ : w6.cell? ⟨g, 2, none⟩ = some _)
  have hfs7 := (by obtain ⟨HG_, hg_⟩ := HI0.out; exact blk_frozen HG_ 2 : w6.frozen? ⟨g, 2, none⟩ = false)
  refine skip_ (w1 := ?_) (by rfl) rfl ?_ ?_
  rotate_left
  ·
   go_simp
   rfl
  refine hK.out _ _ ?_
  clear hK K
  refine done_ (done_of HT_.out (by kernel_rfl)) ?_
  try go_wp2
  have n0_ : Aside0 (IsS25 w0 (w6.setCell ⟨g, 2, none⟩ (.int .i64 (wrap64 (s0_2 + s0_4)))) g s0_0 s0_1 (wrap64 (s0_2 + s0_4)) s0_3 s0_4 s0_5 s0_6 s0_7 s0_8) := ⟨by repeat (first | (with_reducible first | exact HI0.out | apply IsS25.alloc | apply IsS25.drewN | apply IsS25.drew | apply IsS25.set_0 | apply IsS25.set_1 | apply IsS25.set_2 | apply IsS25.set_3 | apply IsS25.set_4 | apply IsS25.set_5 | apply IsS25.set_6 | apply IsS25.set_7 | apply IsS25.set_8) | exact HI0.out)⟩
  have n1_ : Aside0 (KeepBut w (w6.setCell ⟨g, 2, none⟩ (.int .i64 (wrap64 (s0_2 + s0_4)))) g none) := ⟨by repeat (first | (with_reducible first | exact HK.out | apply KeepBut.set_ | apply keep_drewN | apply keep_drew | apply keep_alloc) | exact HK.out)⟩
  have n2_ : Aside0 (Below w0.heap.size w0 (w6.setCell ⟨g, 2, none⟩ (.int .i64 (wrap64 (s0_2 + s0_4))))) := ⟨by repeat (first | (with_reducible first | exact HB.out | apply below_alloc | apply pw_below_drewN | apply below_drew1 | refine below_set ?_ (IsS25.ge HI0.out)) | exact HB.out)⟩
  (try (have hsd_ : ∀ (W_ : World) (n_ : Nat) (a_ : Addr) (v_ : Value), (W_.drewN n_).setCell a_ v_ = (W_.setCell a_ v_).drewN n_ := fun _ _ _ _ => rfl); simp only [hsd_]; clear hsd_)
  (try clear HI0)
  (try clear HK)
  (try clear HB)
  generalize (w6.setCell ⟨g, 2, none⟩ (.int .i64 (wrap64 (s0_2 + s0_4)))) = w8 at n0_ n1_ n2_ ⊢
  have HI0 := n0_
  have HK := n1_
  have HB := n2_
  clear n0_ n1_ n2_
  have n0_ := Aside0.mk (IsS25.drew HI0.out)
  have n1_ := Aside0.mk (keep_drew HK.out)
  have n2_ := Aside0.mk (below_drew1 HB.out)
  clear HI0
  clear HK
  clear HB
  have HI0 := n0_
  have HK := n1_
  have HB := n2_
  clear n0_ n1_ n2_
  refine start_ (n := 10) (S := fun w' => w'.cell? ⟨g, 0, none⟩ = some (.int .i64 s0_0) ∧ w'.cell? ⟨g, 1, none⟩ = some (.int .i64 s0_1) ∧ w'.cell? ⟨g, 2, none⟩ = some (.int .i64 (wrap64 (s0_2 + s0_4))) ∧ w'.cell? ⟨g, 3, none⟩ = some (.int .i64 s0_3) ∧ w'.cell? ⟨g, 4, none⟩ = some (.int .i64 s0_4) ∧ w'.cell? ⟨g, 5, none⟩ = some (.int .i64 s0_5) ∧ w'.cell? ⟨g, 6, none⟩ = some (.int .i64 s0_6) ∧ w'.cell? ⟨g, 7, none⟩ = some (.int .i64 s0_7) ∧ w'.cell? ⟨g, 8, none⟩ = some (.bool s0_8)) (ds := []) #[f4, f4, f4, f4, f4, f4, f4, f4, f4, f4] (by kernel_rfl) rfl rfl ⟨(by obtain ⟨HG_, hg_⟩ := HI0.out; exact cellS25_0 HG_), (by obtain ⟨HG_, hg_⟩ := HI0.out; exact cellS25_1 HG_), (by obtain ⟨HG_, hg_⟩ := HI0.out; exact cellS25_2 HG_), (by obtain ⟨HG_, hg_⟩ := HI0.out; exact cellS25_3 HG_), (by obtain ⟨HG_, hg_⟩ := HI0.out; exact cellS25_4 HG_), (by obtain ⟨HG_, hg_⟩ := HI0.out; exact cellS25_5 HG_), (by obtain ⟨HG_, hg_⟩ := HI0.out; exact cellS25_6 HG_), (by obtain ⟨HG_, hg_⟩ := HI0.out; exact cellS25_7 HG_), (by obtain ⟨HG_, hg_⟩ := HI0.out; exact cellS25_8 HG_)⟩ (fun hHeld => ?_); refine with_tabW impl_Pilot_climb.tab2 impl_Pilot_climb.bits2 (fun HT_ HW_ => ?_)
  generalize w8.drew = w9 at HI0 HK HB hHeld ⊢
  refine pure_ (i := 0) (N := some 19) (v := ?_) (a' := ?_) #[t4, f4, f4, f4, f4, f4, f4, f4, f4, f4] rfl rfl (any_of HT_.out (by kernel_rfl)) (fun _ _ _ h => h) (Or.inl ⟨by rfl, ?_⟩) ?_ ?_
  rotate_left
  ·
   intro w'
   go_simp
   with_reducible rfl
  rotate_left
  ·
   simp only [Act.put, List.setIfInBounds_toArray, List.set_cons_zero, List.set_cons_succ, i64_w, i32_w]
   rfl
  refine pure_ (i := 1) (N := some 20) (v := ?_) (a' := ?_) #[t4, t4, f4, f4, f4, f4, f4, f4, f4, f4] rfl rfl (any_of HT_.out (by kernel_rfl)) (fun _ _ _ h => h) (Or.inl ⟨by rfl, ?_⟩) ?_ ?_
  rotate_left
  ·
   intro w'
   go_simp
   with_reducible rfl
  rotate_left
  ·
   simp only [Act.put, List.setIfInBounds_toArray, List.set_cons_zero, List.set_cons_succ, i64_w, i32_w]
   rfl
  refine pure_ (i := 2) (N := some 21) (v := ?_) (a' := ?_) #[t4, t4, t4, f4, f4, f4, f4, f4, f4, f4] rfl rfl (any_of HT_.out (by kernel_rfl)) (fun _ _ _ h => h) (Or.inl ⟨by rfl, ?_⟩) ?_ ?_
  rotate_left
  ·
   intro w'
   go_simp
   with_reducible rfl
  rotate_left
  ·
   simp only [Act.put, List.setIfInBounds_toArray, List.set_cons_zero, List.set_cons_succ, i64_w, i32_w]
   rfl
  refine pure_ (i := 4) (N := some 23) (v := ?_) (a' := ?_) #[t4, t4, t4, f4, t4, f4, f4, f4, f4, f4] rfl rfl (any_of HT_.out (by kernel_rfl)) (fun _ _ _ h => h) (Or.inl ⟨by rfl, ?_⟩) ?_ ?_
  rotate_left
  ·
   intro w'
   go_simp
   with_reducible rfl
  rotate_left
  ·
   simp only [Act.put, List.setIfInBounds_toArray, List.set_cons_zero, List.set_cons_succ, i64_w, i32_w]
   rfl
  refine pure_ (i := 5) (N := some 24) (v := ?_) (a' := ?_) #[t4, t4, t4, f4, t4, t4, f4, f4, f4, f4] rfl rfl (any_of HT_.out (by kernel_rfl)) (fun _ _ _ h => h) (Or.inl ⟨by rfl, ?_⟩) ?_ ?_
  rotate_left
  ·
   intro w'
   go_simp
   with_reducible rfl
  rotate_left
  ·
   simp only [Act.put, List.setIfInBounds_toArray, List.set_cons_zero, List.set_cons_succ, i64_w, i32_w]
   rfl
  refine pure_ (i := 6) (N := some 25) (v := ?_) (a' := ?_) #[t4, t4, t4, f4, t4, t4, t4, f4, f4, f4] rfl rfl (any_of HT_.out (by kernel_rfl)) (fun _ _ _ h => h) (Or.inl ⟨by rfl, ?_⟩) ?_ ?_
  rotate_left
  ·
   intro w'
   go_simp
   with_reducible rfl
  rotate_left
  ·
   simp only [Act.put, List.setIfInBounds_toArray, List.set_cons_zero, List.set_cons_succ, i64_w, i32_w]
   rfl
  refine take_ (i := 3) (N := some 22) (v := ?_) (a' := ?_) #[t4, t4, t4, t4, t4, t4, t4, f4, f4, f4] rfl rfl (take_ofW HT_.out HW_.out (by kernel_rfl)) (fun _ _ _ h => h) (Or.inl ⟨by rfl, ?_⟩) hHeld ?_ ?_
  rotate_left
  ·
   rintro w' ⟨s0, s1, s2, s3, s4, s5, s6, s7, s8⟩
   go_simp
   with_reducible rfl
  rotate_left
  ·
   simp only [Act.put, List.setIfInBounds_toArray, List.set_cons_zero, List.set_cons_succ, i64_w, i32_w]
   rfl
  refine take_ (i := 7) (N := some 26) (v := ?_) (a' := ?_) #[t4, t4, t4, t4, t4, t4, t4, t4, f4, f4] rfl rfl (take_ofW HT_.out HW_.out (by kernel_rfl)) (fun _ _ _ h => h) (Or.inl ⟨by rfl, ?_⟩) hHeld ?_ ?_
  rotate_left
  ·
   rintro w' ⟨s0, s1, s2, s3, s4, s5, s6, s7, s8⟩
   go_simp
   with_reducible rfl
  rotate_left
  ·
   simp only [Act.put, List.setIfInBounds_toArray, List.set_cons_zero, List.set_cons_succ, i64_w, i32_w]
   rfl
  refine pure_ (i := 8) (N := some 27) (v := ?_) (a' := ?_) #[t4, t4, t4, t4, t4, t4, t4, t4, t4, f4] rfl rfl (any_of HT_.out (by kernel_rfl)) (fun _ _ _ h => h) (Or.inl ⟨by rfl, ?_⟩) ?_ ?_
  rotate_left
  ·
   intro w'
   go_simp
   with_reducible rfl
  rotate_left
  ·
   simp only [Act.put, List.setIfInBounds_toArray, List.set_cons_zero, List.set_cons_succ, i64_w, i32_w]
   rfl
  refine pure_ (i := 9) (N := some 2) (v := ?_) (a' := ?_) #[t4, t4, t4, t4, t4, t4, t4, t4, t4, t4] rfl rfl (any_of HT_.out (by kernel_rfl)) (fun _ _ _ h => h) (Or.inl ⟨by rfl, ?_⟩) ?_ ?_
  rotate_left
  ·
   intro w'
   go_simp
   with_reducible rfl
  rotate_left
  ·
   simp only [Act.put, List.setIfInBounds_toArray, List.set_cons_zero, List.set_cons_succ, i64_w, i32_w]
   rfl
  refine done_ (done_of HT_.out (by kernel_rfl)) ?_
  go_upto_region 3 with (fail)
  go_cut [28, 7] (fun v28 v7 wc => ∃ (kq : Nat) (x28_3 : Bool), v28 = .bool x28_3 ∧ Aside0 (impl_Pilot_climb.j0 kq (wrap64 (s0_3 - (wrap64 (s0_2 + s0_4)))) x28_3 s0_0 s0_1 (wrap64 (s0_2 + s0_4)) s0_3 s0_4 s0_5 s0_6 s0_7 s0_8 = some (r1, r2, r3, r4, r5, r6, r7, r8, r9)) ∧ Aside0 (kq ≤ k) ∧ Aside0 (IsS25 w0 wc g s0_0 s0_1 (wrap64 (s0_2 + s0_4)) s0_3 s0_4 s0_5 s0_6 s0_7 s0_8) ∧ Aside0 (KeepBut w wc g none) ∧ Aside0 (Below w0.heap.size w0 wc))
  case first =>
   have H := HC4.out
   clear HC4
   by_cases c10 : s0_4 > 0
   ·
    rw [if_pos c10] at H
    have c10b0 : decide (0 < s0_4) = true := decide_eq_true c10
    clear c10
    (first | rw [c10b0] | (simp only [i64_w, i32_w]; rw [c10b0]) | skip)
    by_cases c11 : (wrap64 (s0_3 - (wrap64 (s0_2 + s0_4)))) ≤ 0
    ·
     rw [if_pos c11] at H
     have c11b0 : decide ((wrap64 (s0_3 - (wrap64 (s0_2 + s0_4)))) ≤ 0) = true := decide_eq_true c11
     clear c11
     have H' := Aside0.mk H
     clear H
     obtain ⟨HGz12, hgz12⟩ := HI0.out
     have hcz12_0 := cellS25_0 HGz12
     have hcz12_1 := cellS25_1 HGz12
     have hcz12_2 := cellS25_2 HGz12
     have hcz12_3 := cellS25_3 HGz12
     have hcz12_4 := cellS25_4 HGz12
     have hcz12_5 := cellS25_5 HGz12
     have hcz12_6 := cellS25_6 HGz12
     have hcz12_7 := cellS25_7 HGz12
     have hcz12_8 := cellS25_8 HGz12
     have hfz12_0 := blk_frozen HGz12 0
     have hfz12_1 := blk_frozen HGz12 1
     have hfz12_2 := blk_frozen HGz12 2
     have hfz12_3 := blk_frozen HGz12 3
     have hfz12_4 := blk_frozen HGz12 4
     have hfz12_5 := blk_frozen HGz12 5
     have hfz12_6 := blk_frozen HGz12 6
     have hfz12_7 := blk_frozen HGz12 7
     have hfz12_8 := blk_frozen HGz12 8
     clear HGz12 hgz12
     go_wp2
     go_meet
     case rel => exact ⟨_, (true), (by first | rfl | (simp; done) | (simp [*]; done)), H', ⟨by first | omega | exact Nat.le_refl _⟩, ⟨by repeat (first | (with_reducible first | exact HI0.out | apply IsS25.alloc | apply IsS25.drewN | apply IsS25.drew | apply IsS25.set_0 | apply IsS25.set_1 | apply IsS25.set_2 | apply IsS25.set_3 | apply IsS25.set_4 | apply IsS25.set_5 | apply IsS25.set_6 | apply IsS25.set_7 | apply IsS25.set_8) | exact HI0.out)⟩, ⟨by repeat (first | (with_reducible first | exact HK.out | apply KeepBut.set_ | apply keep_drewN | apply keep_drew | apply keep_alloc) | exact HK.out)⟩, ⟨by repeat (first | (with_reducible first | exact HB.out | apply below_alloc | apply pw_below_drewN | apply below_drew1 | refine below_set ?_ (IsS25.ge HI0.out)) | exact HB.out)⟩⟩
    ·
     rw [if_neg c11] at H
     have c11b0 : decide ((wrap64 (s0_3 - (wrap64 (s0_2 + s0_4)))) ≤ 0) = false := decide_eq_false c11
     clear c11
     by_cases c13 : s0_4 < 0
     ·
      rw [if_pos c13] at H
      have c13b0 : decide (s0_4 < 0) = true := decide_eq_true c13
      clear c13
      have H' := Aside0.mk H
      clear H
      obtain ⟨HGz14, hgz14⟩ := HI0.out
      have hcz14_0 := cellS25_0 HGz14
      have hcz14_1 := cellS25_1 HGz14
      have hcz14_2 := cellS25_2 HGz14
      have hcz14_3 := cellS25_3 HGz14
      have hcz14_4 := cellS25_4 HGz14
      have hcz14_5 := cellS25_5 HGz14
      have hcz14_6 := cellS25_6 HGz14
      have hcz14_7 := cellS25_7 HGz14
      have hcz14_8 := cellS25_8 HGz14
      have hfz14_0 := blk_frozen HGz14 0
      have hfz14_1 := blk_frozen HGz14 1
      have hfz14_2 := blk_frozen HGz14 2
      have hfz14_3 := blk_frozen HGz14 3
      have hfz14_4 := blk_frozen HGz14 4
      have hfz14_5 := blk_frozen HGz14 5
      have hfz14_6 := blk_frozen HGz14 6
      have hfz14_7 := blk_frozen HGz14 7
      have hfz14_8 := blk_frozen HGz14 8
      clear HGz14 hgz14
      go_wp2
      go_meet
      case rel => exact ⟨_, (decide ((wrap64 (s0_3 - (wrap64 (s0_2 + s0_4)))) ≥ 0)), (by first | rfl | (simp; done) | (simp [*]; done)), H', ⟨by first | omega | exact Nat.le_refl _⟩, ⟨by repeat (first | (with_reducible first | exact HI0.out | apply IsS25.alloc | apply IsS25.drewN | apply IsS25.drew | apply IsS25.set_0 | apply IsS25.set_1 | apply IsS25.set_2 | apply IsS25.set_3 | apply IsS25.set_4 | apply IsS25.set_5 | apply IsS25.set_6 | apply IsS25.set_7 | apply IsS25.set_8) | exact HI0.out)⟩, ⟨by repeat (first | (with_reducible first | exact HK.out | apply KeepBut.set_ | apply keep_drewN | apply keep_drew | apply keep_alloc) | exact HK.out)⟩, ⟨by repeat (first | (with_reducible first | exact HB.out | apply below_alloc | apply pw_below_drewN | apply below_drew1 | refine below_set ?_ (IsS25.ge HI0.out)) | exact HB.out)⟩⟩
     ·
      rw [if_neg c13] at H
      have c13b0 : decide (s0_4 < 0) = false := decide_eq_false c13
      clear c13
      have H' := Aside0.mk H
      clear H
      obtain ⟨HGz15, hgz15⟩ := HI0.out
      have hcz15_0 := cellS25_0 HGz15
      have hcz15_1 := cellS25_1 HGz15
      have hcz15_2 := cellS25_2 HGz15
      have hcz15_3 := cellS25_3 HGz15
      have hcz15_4 := cellS25_4 HGz15
      have hcz15_5 := cellS25_5 HGz15
      have hcz15_6 := cellS25_6 HGz15
      have hcz15_7 := cellS25_7 HGz15
      have hcz15_8 := cellS25_8 HGz15
      have hfz15_0 := blk_frozen HGz15 0
      have hfz15_1 := blk_frozen HGz15 1
      have hfz15_2 := blk_frozen HGz15 2
      have hfz15_3 := blk_frozen HGz15 3
      have hfz15_4 := blk_frozen HGz15 4
      have hfz15_5 := blk_frozen HGz15 5
      have hfz15_6 := blk_frozen HGz15 6
      have hfz15_7 := blk_frozen HGz15 7
      have hfz15_8 := blk_frozen HGz15 8
      clear HGz15 hgz15
      go_wp2
      go_meet
      case rel => exact ⟨_, (false), (by first | rfl | (simp; done) | (simp [*]; done)), H', ⟨by first | omega | exact Nat.le_refl _⟩, ⟨by repeat (first | (with_reducible first | exact HI0.out | apply IsS25.alloc | apply IsS25.drewN | apply IsS25.drew | apply IsS25.set_0 | apply IsS25.set_1 | apply IsS25.set_2 | apply IsS25.set_3 | apply IsS25.set_4 | apply IsS25.set_5 | apply IsS25.set_6 | apply IsS25.set_7 | apply IsS25.set_8) | exact HI0.out)⟩, ⟨by repeat (first | (with_reducible first | exact HK.out | apply KeepBut.set_ | apply keep_drewN | apply keep_drew | apply keep_alloc) | exact HK.out)⟩, ⟨by repeat (first | (with_reducible first | exact HB.out | apply below_alloc | apply pw_below_drewN | apply below_drew1 | refine below_set ?_ (IsS25.ge HI0.out)) | exact HB.out)⟩⟩
   ·
    rw [if_neg c10] at H
    have c10b0 : decide (0 < s0_4) = false := decide_eq_false c10
    clear c10
    (first | rw [c10b0] | (simp only [i64_w, i32_w]; rw [c10b0]) | skip)
    by_cases c16 : s0_4 < 0
    ·
     rw [if_pos c16] at H
     have c16b0 : decide (s0_4 < 0) = true := decide_eq_true c16
     clear c16
     have H' := Aside0.mk H
     clear H
     obtain ⟨HGz17, hgz17⟩ := HI0.out
     have hcz17_0 := cellS25_0 HGz17
     have hcz17_1 := cellS25_1 HGz17
     have hcz17_2 := cellS25_2 HGz17
     have hcz17_3 := cellS25_3 HGz17
     have hcz17_4 := cellS25_4 HGz17
     have hcz17_5 := cellS25_5 HGz17
     have hcz17_6 := cellS25_6 HGz17
     have hcz17_7 := cellS25_7 HGz17
     have hcz17_8 := cellS25_8 HGz17
     have hfz17_0 := blk_frozen HGz17 0
     have hfz17_1 := blk_frozen HGz17 1
     have hfz17_2 := blk_frozen HGz17 2
     have hfz17_3 := blk_frozen HGz17 3
     have hfz17_4 := blk_frozen HGz17 4
     have hfz17_5 := blk_frozen HGz17 5
     have hfz17_6 := blk_frozen HGz17 6
     have hfz17_7 := blk_frozen HGz17 7
     have hfz17_8 := blk_frozen HGz17 8
     clear HGz17 hgz17
     go_wp2
     go_meet
     case rel => exact ⟨_, (decide ((wrap64 (s0_3 - (wrap64 (s0_2 + s0_4)))) ≥ 0)), (by first | rfl | (simp; done) | (simp [*]; done)), H', ⟨by first | omega | exact Nat.le_refl _⟩, ⟨by repeat (first | (with_reducible first | exact HI0.out | apply IsS25.alloc | apply IsS25.drewN | apply IsS25.drew | apply IsS25.set_0 | apply IsS25.set_1 | apply IsS25.set_2 | apply IsS25.set_3 | apply IsS25.set_4 | apply IsS25.set_5 | apply IsS25.set_6 | apply IsS25.set_7 | apply IsS25.set_8) | exact HI0.out)⟩, ⟨by repeat (first | (with_reducible first | exact HK.out | apply KeepBut.set_ | apply keep_drewN | apply keep_drew | apply keep_alloc) | exact HK.out)⟩, ⟨by repeat (first | (with_reducible first | exact HB.out | apply below_alloc | apply pw_below_drewN | apply below_drew1 | refine below_set ?_ (IsS25.ge HI0.out)) | exact HB.out)⟩⟩
    ·
     rw [if_neg c16] at H
     have c16b0 : decide (s0_4 < 0) = false := decide_eq_false c16
     clear c16
     have H' := Aside0.mk H
     clear H
     obtain ⟨HGz18, hgz18⟩ := HI0.out
     have hcz18_0 := cellS25_0 HGz18
     have hcz18_1 := cellS25_1 HGz18
     have hcz18_2 := cellS25_2 HGz18
     have hcz18_3 := cellS25_3 HGz18
     have hcz18_4 := cellS25_4 HGz18
     have hcz18_5 := cellS25_5 HGz18
     have hcz18_6 := cellS25_6 HGz18
     have hcz18_7 := cellS25_7 HGz18
     have hcz18_8 := cellS25_8 HGz18
     have hfz18_0 := blk_frozen HGz18 0
     have hfz18_1 := blk_frozen HGz18 1
     have hfz18_2 := blk_frozen HGz18 2
     have hfz18_3 := blk_frozen HGz18 3
     have hfz18_4 := blk_frozen HGz18 4
     have hfz18_5 := blk_frozen HGz18 5
     have hfz18_6 := blk_frozen HGz18 6
     have hfz18_7 := blk_frozen HGz18 7
     have hfz18_8 := blk_frozen HGz18 8
     clear HGz18 hgz18
     go_wp2
     go_meet
     case rel => exact ⟨_, (false), (by first | rfl | (simp; done) | (simp [*]; done)), H', ⟨by first | omega | exact Nat.le_refl _⟩, ⟨by repeat (first | (with_reducible first | exact HI0.out | apply IsS25.alloc | apply IsS25.drewN | apply IsS25.drew | apply IsS25.set_0 | apply IsS25.set_1 | apply IsS25.set_2 | apply IsS25.set_3 | apply IsS25.set_4 | apply IsS25.set_5 | apply IsS25.set_6 | apply IsS25.set_7 | apply IsS25.set_8) | exact HI0.out)⟩, ⟨by repeat (first | (with_reducible first | exact HK.out | apply KeepBut.set_ | apply keep_drewN | apply keep_drew | apply keep_alloc) | exact HK.out)⟩, ⟨by repeat (first | (with_reducible first | exact HB.out | apply below_alloc | apply pw_below_drewN | apply below_drew1 | refine below_set ?_ (IsS25.ge HI0.out)) | exact HB.out)⟩⟩
  case rest =>
   clear HC4
   try clear c1
   try clear c2
   try clear c2b0
   try clear c2b1
   try clear p2
   try clear c3
   try clear p6
   try clear c10
   try clear c10b0
   try clear c11
   try clear c11b0
   try clear c13
   try clear c13b0
   try clear c16
   try clear c16b0
   try clear hcz12_0
   try clear hcz12_1
   try clear hcz12_2
   try clear hcz12_3
   try clear hcz12_4
   try clear hcz12_5
   try clear hcz12_6
   try clear hcz12_7
   try clear hcz12_8
   try clear hcz14_0
   try clear hcz14_1
   try clear hcz14_2
   try clear hcz14_3
   try clear hcz14_4
   try clear hcz14_5
   try clear hcz14_6
   try clear hcz14_7
   try clear hcz14_8
   try clear hcz15_0
   try clear hcz15_1
   try clear hcz15_2
   try clear hcz15_3
   try clear hcz15_4
   try clear hcz15_5
   try clear hcz15_6
   try clear hcz15_7
   try clear hcz15_8
   try clear hcz17_0
   try clear hcz17_1
   try clear hcz17_2
   try clear hcz17_3
   try clear hcz17_4
   try clear hcz17_5
   try clear hcz17_6
   try clear hcz17_7
   try clear hcz17_8
   try clear hcz18_0
   try clear hcz18_1
   try clear hcz18_2
   try clear hcz18_3
   try clear hcz18_4
   try clear hcz18_5
   try clear hcz18_6
   try clear hcz18_7
   try clear hcz18_8
   try clear hcz3_0
   try clear hcz3_1
   try clear hcz3_2
   try clear hcz3_3
   try clear hcz3_4
   try clear hcz3_5
   try clear hcz3_6
   try clear hcz3_7
   try clear hcz3_8
   try clear hcz5_0
   try clear hcz5_1
   try clear hcz5_2
   try clear hcz5_3
   try clear hcz5_4
   try clear hcz5_5
   try clear hcz5_6
   try clear hcz5_7
   try clear hcz5_8
   try clear hfz12_0
   try clear hfz12_1
   try clear hfz12_2
   try clear hfz12_3
   try clear hfz12_4
   try clear hfz12_5
   try clear hfz12_6
   try clear hfz12_7
   try clear hfz12_8
   try clear hfz14_0
   try clear hfz14_1
   try clear hfz14_2
   try clear hfz14_3
   try clear hfz14_4
   try clear hfz14_5
   try clear hfz14_6
   try clear hfz14_7
   try clear hfz14_8
   try clear hfz15_0
   try clear hfz15_1
   try clear hfz15_2
   try clear hfz15_3
   try clear hfz15_4
   try clear hfz15_5
   try clear hfz15_6
   try clear hfz15_7
   try clear hfz15_8
   try clear hfz17_0
   try clear hfz17_1
   try clear hfz17_2
   try clear hfz17_3
   try clear hfz17_4
   try clear hfz17_5
   try clear hfz17_6
   try clear hfz17_7
   try clear hfz17_8
   try clear hfz18_0
   try clear hfz18_1
   try clear hfz18_2
   try clear hfz18_3
   try clear hfz18_4
   try clear hfz18_5
   try clear hfz18_6
   try clear hfz18_7
   try clear hfz18_8
   try clear hfz3_0
   try clear hfz3_1
   try clear hfz3_2
   try clear hfz3_3
   try clear hfz3_4
   try clear hfz3_5
   try clear hfz3_6
   try clear hfz3_7
   try clear hfz3_8
   try clear hfz5_0
   try clear hfz5_1
   try clear hfz5_2
   try clear hfz5_3
   try clear hfz5_4
   try clear hfz5_5
   try clear hfz5_6
   try clear hfz5_7
   try clear hfz5_8
   obtain ⟨kq, x28_3, rfl, HA, HJ3, HI0, HK, HB⟩ := hcut
   cases kq with
   | zero => exact absurd HA.out (by simp [impl_Pilot_climb.j0])
   | succ kj3 =>
    have H := HA.out
    clear HA
    simp only [impl_Pilot_climb.j0] at H
    by_cases c19 : x28_3 = true
    ·
     subst c19
     have H1 : (some (1, s0_1, s0_3, s0_3, 0, s0_5, s0_6, s0_7, s0_8)) = some (r1, r2, r3, r4, r5, r6, r7, r8, r9) := by rw [if_pos rfl] at H; exact H
     clear H
     have H := H1
     clear H1
     simp only [Option.some.injEq, Prod.mk.injEq] at H
     obtain ⟨rfl, rfl, rfl, rfl, rfl, rfl, rfl, rfl, rfl⟩ := H
     obtain ⟨HGz20, hgz20⟩ := HI0.out
     have hcz20_0 := cellS25_0 HGz20
     have hcz20_1 := cellS25_1 HGz20
     have hcz20_2 := cellS25_2 HGz20
     have hcz20_3 := cellS25_3 HGz20
     have hcz20_4 := cellS25_4 HGz20
     have hcz20_5 := cellS25_5 HGz20
     have hcz20_6 := cellS25_6 HGz20
     have hcz20_7 := cellS25_7 HGz20
     have hcz20_8 := cellS25_8 HGz20
     have hfz20_0 := blk_frozen HGz20 0
     have hfz20_1 := blk_frozen HGz20 1
     have hfz20_2 := blk_frozen HGz20 2
     have hfz20_3 := blk_frozen HGz20 3
     have hfz20_4 := blk_frozen HGz20 4
     have hfz20_5 := blk_frozen HGz20 5
     have hfz20_6 := blk_frozen HGz20 6
     have hfz20_7 := blk_frozen HGz20 7
     have hfz20_8 := blk_frozen HGz20 8
     clear HGz20 hgz20
     go_wp2
     first | go_end0 | ((try simp only [Exit.inBlock, Exit.then]); refine bodyPost_ret (results_none rfl _ _ _) rfl ?_)
     exact ⟨by first | rfl | (simp [errW_none, errW_some] <;> rfl) | (simp [*, errW_none, errW_some] <;> rfl), by repeat (first | (with_reducible first | exact HI0.out | apply IsS25.alloc | apply IsS25.drewN | apply IsS25.drew | apply IsS25.set_0 | apply IsS25.set_1 | apply IsS25.set_2 | apply IsS25.set_3 | apply IsS25.set_4 | apply IsS25.set_5 | apply IsS25.set_6 | apply IsS25.set_7 | apply IsS25.set_8) | exact HI0.out), by repeat (first | (with_reducible first | exact HB.out | apply below_alloc | apply pw_below_drewN | apply below_drew1 | refine below_set ?_ (IsS25.ge HI0.out)) | exact HB.out), by repeat (first | (with_reducible first | exact HK.out | apply KeepBut.set_ | apply keep_drewN | apply keep_drew | apply keep_alloc) | exact HK.out)⟩
    ·
     replace c19 := Bool.eq_false_iff.mpr c19
     subst c19
     have H1 : ((impl_size.f (wrap64 (s0_3 - (wrap64 (s0_2 + s0_4))))).bind fun t185 => ((impl_size.f s0_4).bind fun t186 => (if t185 ≤ (wrap64 (10 * t186)) then (some (3, s0_1, (wrap64 (s0_2 + s0_4)), s0_3, s0_4, s0_5, s0_6, s0_7, s0_8)) else (some (s0_0, s0_1, (wrap64 (s0_2 + s0_4)), s0_3, s0_4, s0_5, s0_6, s0_7, s0_8))))) = some (r1, r2, r3, r4, r5, r6, r7, r8, r9) := by rw [if_neg (show ¬ (false = true) by decide)] at H; exact H
     clear H
     have H := H1
     clear H1
     replace H := Option.bind_eq_some_iff.mp H
     obtain ⟨t185, A210, H⟩ := H
     replace H : ((impl_size.f s0_4).bind fun t186 => (if t185 ≤ (wrap64 (10 * t186)) then (some (3, s0_1, (wrap64 (s0_2 + s0_4)), s0_3, s0_4, s0_5, s0_6, s0_7, s0_8)) else (some (s0_0, s0_1, (wrap64 (s0_2 + s0_4)), s0_3, s0_4, s0_5, s0_6, s0_7, s0_8)))) = some (r1, r2, r3, r4, r5, r6, r7, r8, r9) := H
     have A21 := Aside0.mk A210
     clear A210
     replace H := Option.bind_eq_some_iff.mp H
     obtain ⟨t186, A220, H⟩ := H
     replace H : (if t185 ≤ (wrap64 (10 * t186)) then (some (3, s0_1, (wrap64 (s0_2 + s0_4)), s0_3, s0_4, s0_5, s0_6, s0_7, s0_8)) else (some (s0_0, s0_1, (wrap64 (s0_2 + s0_4)), s0_3, s0_4, s0_5, s0_6, s0_7, s0_8))) = some (r1, r2, r3, r4, r5, r6, r7, r8, r9) := H
     have A22 := Aside0.mk A220
     clear A220
     by_cases c23 : t185 ≤ (wrap64 (10 * t186))
     ·
      rw [if_pos c23] at H
      have c23b0 : decide (t185 ≤ (wrap64 (10 * t186))) = true := decide_eq_true c23
      clear c23
      simp only [Option.some.injEq, Prod.mk.injEq] at H
      obtain ⟨rfl, rfl, rfl, rfl, rfl, rfl, rfl, rfl, rfl⟩ := H
      try go_wp2
      have n0_ := Aside0.mk (IsS25.drew HI0.out)
      have n1_ := Aside0.mk (keep_drew HK.out)
      have n2_ := Aside0.mk (below_drew1 HB.out)
      clear HI0
      clear HK
      clear HB
      have HI0 := n0_
      have HK := n1_
      have HB := n2_
      clear n0_ n1_ n2_
      refine start_ (n := 10) (S := fun w' => w'.cell? ⟨g, 0, none⟩ = some (.int .i64 s0_0) ∧ w'.cell? ⟨g, 1, none⟩ = some (.int .i64 s0_1) ∧ w'.cell? ⟨g, 2, none⟩ = some (.int .i64 (wrap64 (s0_2 + s0_4))) ∧ w'.cell? ⟨g, 3, none⟩ = some (.int .i64 s0_3) ∧ w'.cell? ⟨g, 4, none⟩ = some (.int .i64 s0_4) ∧ w'.cell? ⟨g, 5, none⟩ = some (.int .i64 s0_5) ∧ w'.cell? ⟨g, 6, none⟩ = some (.int .i64 s0_6) ∧ w'.cell? ⟨g, 7, none⟩ = some (.int .i64 s0_7) ∧ w'.cell? ⟨g, 8, none⟩ = some (.bool s0_8)) (ds := []) #[f4, f4, f4, f4, f4, f4, f4, f4, f4, f4] (by kernel_rfl) rfl rfl ⟨(by obtain ⟨HG_, hg_⟩ := HI0.out; exact cellS25_0 HG_), (by obtain ⟨HG_, hg_⟩ := HI0.out; exact cellS25_1 HG_), (by obtain ⟨HG_, hg_⟩ := HI0.out; exact cellS25_2 HG_), (by obtain ⟨HG_, hg_⟩ := HI0.out; exact cellS25_3 HG_), (by obtain ⟨HG_, hg_⟩ := HI0.out; exact cellS25_4 HG_), (by obtain ⟨HG_, hg_⟩ := HI0.out; exact cellS25_5 HG_), (by obtain ⟨HG_, hg_⟩ := HI0.out; exact cellS25_6 HG_), (by obtain ⟨HG_, hg_⟩ := HI0.out; exact cellS25_7 HG_), (by obtain ⟨HG_, hg_⟩ := HI0.out; exact cellS25_8 HG_)⟩ (fun hHeld => ?_); refine with_tabW impl_Pilot_climb.tab5 impl_Pilot_climb.bits5 (fun HT_ HW_ => ?_)
      generalize wc.drew = w24 at HI0 HK HB hHeld ⊢
      refine pure_ (i := 0) (N := some 63) (v := ?_) (a' := ?_) #[t4, f4, f4, f4, f4, f4, f4, f4, f4, f4] rfl rfl (any_of HT_.out (by kernel_rfl)) (fun _ _ _ h => h) (Or.inl ⟨by rfl, ?_⟩) ?_ ?_
      rotate_left
      ·
       intro w'
       go_simp
       with_reducible rfl
      rotate_left
      ·
       simp only [Act.put, List.setIfInBounds_toArray, List.set_cons_zero, List.set_cons_succ, i64_w, i32_w]
       rfl
      refine pure_ (i := 2) (N := some 65) (v := ?_) (a' := ?_) #[t4, f4, t4, f4, f4, f4, f4, f4, f4, f4] rfl rfl (any_of HT_.out (by kernel_rfl)) (fun _ _ _ h => h) (Or.inl ⟨by rfl, ?_⟩) ?_ ?_
      rotate_left
      ·
       intro w'
       go_simp
       with_reducible rfl
      rotate_left
      ·
       simp only [Act.put, List.setIfInBounds_toArray, List.set_cons_zero, List.set_cons_succ, i64_w, i32_w]
       rfl
      refine pure_ (i := 3) (N := some 66) (v := ?_) (a' := ?_) #[t4, f4, t4, t4, f4, f4, f4, f4, f4, f4] rfl rfl (any_of HT_.out (by kernel_rfl)) (fun _ _ _ h => h) (Or.inl ⟨by rfl, ?_⟩) ?_ ?_
      rotate_left
      ·
       intro w'
       go_simp
       with_reducible rfl
      rotate_left
      ·
       simp only [Act.put, List.setIfInBounds_toArray, List.set_cons_zero, List.set_cons_succ, i64_w, i32_w]
       rfl
      refine pure_ (i := 4) (N := some 67) (v := ?_) (a' := ?_) #[t4, f4, t4, t4, t4, f4, f4, f4, f4, f4] rfl rfl (any_of HT_.out (by kernel_rfl)) (fun _ _ _ h => h) (Or.inl ⟨by rfl, ?_⟩) ?_ ?_
      rotate_left
      ·
       intro w'
       go_simp
       with_reducible rfl
      rotate_left
      ·
       simp only [Act.put, List.setIfInBounds_toArray, List.set_cons_zero, List.set_cons_succ, i64_w, i32_w]
       rfl
      refine take_ (i := 5) (N := some 68) (v := ?_) (a' := ?_) #[t4, f4, t4, t4, t4, t4, f4, f4, f4, f4] rfl rfl (take_ofW HT_.out HW_.out (by kernel_rfl)) (fun _ _ _ h => h) (Or.inl ⟨by rfl, ?_⟩) hHeld ?_ ?_
      rotate_left
      ·
       rintro w' ⟨s0, s1, s2, s3, s4, s5, s6, s7, s8⟩
       go_simp
       with_reducible rfl
      rotate_left
      ·
       simp only [Act.put, List.setIfInBounds_toArray, List.set_cons_zero, List.set_cons_succ, i64_w, i32_w]
       rfl
      refine one_ (i := 1) (N := some 64) #[t4, t4, t4, t4, t4, t4, f4, f4, f4, f4] rfl rfl (one_of HT_.out (by kernel_rfl)) (by decide) (fun K hK => ?_)
      refine goes_ Try.func48 (by kernel_rfl) rfl #[.int .i64 (wrap64 (s0_3 - (wrap64 (s0_2 + s0_4))))] (by rfl) rfl rfl (by (try simp only [List.map_toArray, List.map_cons, List.map_nil]); first | done | rfl | (simp only [List.length_drop, List.length_take]; rfl)) ?_
      with_reducible refine (impl_size.calls (wrap64 (s0_3 - (wrap64 (s0_2 + s0_4)))) t185 _ A21.out).mono ?_
      rintro e w25 ⟨rfl, hb⟩
      refine ⟨_, rfl, ?_⟩
      have n0_ := Aside0.mk (IsS25.below (by repeat (first | (with_reducible first | exact HI0.out | apply IsS25.alloc | apply IsS25.drewN | apply IsS25.drew | apply IsS25.set_0 | apply IsS25.set_1 | apply IsS25.set_2 | apply IsS25.set_3 | apply IsS25.set_4 | apply IsS25.set_5 | apply IsS25.set_6 | apply IsS25.set_7 | apply IsS25.set_8) | exact HI0.out)) hb)
      have n1_ := Aside0.mk (KeepBut.trans (by repeat (first | (with_reducible first | exact HK.out | apply KeepBut.set_ | apply keep_drewN | apply keep_drew | apply keep_alloc) | exact HK.out)) (KeepBut.of_below hb g none) (.inl rfl))
      have n2_ := Aside0.mk (below_step (by repeat (first | (with_reducible first | exact HB.out | apply below_alloc | apply pw_below_drewN | apply below_drew1 | refine below_set ?_ (IsS25.ge HI0.out)) | exact HB.out)) hb)
      clear HI0
      clear HK
      clear HB
      have HI0 := n0_
      have HK := n1_
      have HB := n2_
      clear n0_ n1_ n2_
      (try clear hb)
      (try clear hb2)
      (try clear hk)
      (try clear hi)
      refine hK.out _ _ ⟨(by obtain ⟨HG_, hg_⟩ := HI0.out; exact cellS25_0 HG_), (by obtain ⟨HG_, hg_⟩ := HI0.out; exact cellS25_1 HG_), (by obtain ⟨HG_, hg_⟩ := HI0.out; exact cellS25_2 HG_), (by obtain ⟨HG_, hg_⟩ := HI0.out; exact cellS25_3 HG_), (by obtain ⟨HG_, hg_⟩ := HI0.out; exact cellS25_4 HG_), (by obtain ⟨HG_, hg_⟩ := HI0.out; exact cellS25_5 HG_), (by obtain ⟨HG_, hg_⟩ := HI0.out; exact cellS25_6 HG_), (by obtain ⟨HG_, hg_⟩ := HI0.out; exact cellS25_7 HG_), (by obtain ⟨HG_, hg_⟩ := HI0.out; exact cellS25_8 HG_)⟩ (fun hHeld => ?_)
      clear hK K
      refine norm_ (a' := ?_) ?_ ?_
      rotate_left
      ·
       show Act.put _ (some 64) _ = _
       simp only [Act.put, List.setIfInBounds_toArray, List.set_cons_zero, List.set_cons_succ, i64_w, i32_w]
       rfl
      refine one_ (i := 6) (N := some 69) #[t4, t4, t4, t4, t4, t4, t4, f4, f4, f4] rfl rfl (one_of HT_.out (by kernel_rfl)) (by decide) (fun K hK => ?_)
      refine goes_ Try.func48 (by kernel_rfl) rfl #[.int .i64 s0_4] (by rfl) rfl rfl (by (try simp only [List.map_toArray, List.map_cons, List.map_nil]); first | done | rfl | (simp only [List.length_drop, List.length_take]; rfl)) ?_
      with_reducible refine (impl_size.calls s0_4 t186 _ A22.out).mono ?_
      rintro e w26 ⟨rfl, hb⟩
      refine ⟨_, rfl, ?_⟩
      have n0_ := Aside0.mk (IsS25.below (by repeat (first | (with_reducible first | exact HI0.out | apply IsS25.alloc | apply IsS25.drewN | apply IsS25.drew | apply IsS25.set_0 | apply IsS25.set_1 | apply IsS25.set_2 | apply IsS25.set_3 | apply IsS25.set_4 | apply IsS25.set_5 | apply IsS25.set_6 | apply IsS25.set_7 | apply IsS25.set_8) | exact HI0.out)) hb)
      have n1_ := Aside0.mk (KeepBut.trans (by repeat (first | (with_reducible first | exact HK.out | apply KeepBut.set_ | apply keep_drewN | apply keep_drew | apply keep_alloc) | exact HK.out)) (KeepBut.of_below hb g none) (.inl rfl))
      have n2_ := Aside0.mk (below_step (by repeat (first | (with_reducible first | exact HB.out | apply below_alloc | apply pw_below_drewN | apply below_drew1 | refine below_set ?_ (IsS25.ge HI0.out)) | exact HB.out)) hb)
      clear HI0
      clear HK
      clear HB
      have HI0 := n0_
      have HK := n1_
      have HB := n2_
      clear n0_ n1_ n2_
      (try clear hb)
      (try clear hb2)
      (try clear hk)
      (try clear hi)
      refine hK.out _ _ ⟨(by obtain ⟨HG_, hg_⟩ := HI0.out; exact cellS25_0 HG_), (by obtain ⟨HG_, hg_⟩ := HI0.out; exact cellS25_1 HG_), (by obtain ⟨HG_, hg_⟩ := HI0.out; exact cellS25_2 HG_), (by obtain ⟨HG_, hg_⟩ := HI0.out; exact cellS25_3 HG_), (by obtain ⟨HG_, hg_⟩ := HI0.out; exact cellS25_4 HG_), (by obtain ⟨HG_, hg_⟩ := HI0.out; exact cellS25_5 HG_), (by obtain ⟨HG_, hg_⟩ := HI0.out; exact cellS25_6 HG_), (by obtain ⟨HG_, hg_⟩ := HI0.out; exact cellS25_7 HG_), (by obtain ⟨HG_, hg_⟩ := HI0.out; exact cellS25_8 HG_)⟩ (fun hHeld => ?_)
      clear hK K
      refine norm_ (a' := ?_) ?_ ?_
      rotate_left
      ·
       show Act.put _ (some 69) _ = _
       simp only [Act.put, List.setIfInBounds_toArray, List.set_cons_zero, List.set_cons_succ, i64_w, i32_w]
       rfl
      refine pure_ (i := 7) (N := some 70) (v := ?_) (a' := ?_) #[t4, t4, t4, t4, t4, t4, t4, t4, f4, f4] rfl rfl (any_of HT_.out (by kernel_rfl)) (fun _ _ _ h => h) (Or.inl ⟨by rfl, ?_⟩) ?_ ?_
      rotate_left
      ·
       intro w'
       go_simp
       with_reducible rfl
      rotate_left
      ·
       simp only [Act.put, List.setIfInBounds_toArray, List.set_cons_zero, List.set_cons_succ, i64_w, i32_w]
       rfl
      refine pure_ (i := 8) (N := some 71) (v := ?_) (a' := ?_) #[t4, t4, t4, t4, t4, t4, t4, t4, t4, f4] rfl rfl (any_of HT_.out (by kernel_rfl)) (fun _ _ _ h => h) (Or.inl ⟨by rfl, ?_⟩) ?_ ?_
      rotate_left
      ·
       intro w'
       go_simp
       with_reducible rfl
      rotate_left
      ·
       simp only [Act.put, List.setIfInBounds_toArray, List.set_cons_zero, List.set_cons_succ, i64_w, i32_w]
       rfl
      refine pure_ (i := 9) (N := some 62) (v := ?_) (a' := ?_) #[t4, t4, t4, t4, t4, t4, t4, t4, t4, t4] rfl rfl (any_of HT_.out (by kernel_rfl)) (fun _ _ _ h => h) (Or.inl ⟨by rfl, ?_⟩) ?_ ?_
      rotate_left
      ·
       intro w'
       go_simp
       with_reducible rfl
      rotate_left
      ·
       simp only [Act.put, List.setIfInBounds_toArray, List.set_cons_zero, List.set_cons_succ, i64_w, i32_w]
       rfl
      refine done_ (done_of HT_.out (by kernel_rfl)) ?_
      obtain ⟨HGz27, hgz27⟩ := HI0.out
      have hcz27_0 := cellS25_0 HGz27
      have hcz27_1 := cellS25_1 HGz27
      have hcz27_2 := cellS25_2 HGz27
      have hcz27_3 := cellS25_3 HGz27
      have hcz27_4 := cellS25_4 HGz27
      have hcz27_5 := cellS25_5 HGz27
      have hcz27_6 := cellS25_6 HGz27
      have hcz27_7 := cellS25_7 HGz27
      have hcz27_8 := cellS25_8 HGz27
      have hfz27_0 := blk_frozen HGz27 0
      have hfz27_1 := blk_frozen HGz27 1
      have hfz27_2 := blk_frozen HGz27 2
      have hfz27_3 := blk_frozen HGz27 3
      have hfz27_4 := blk_frozen HGz27 4
      have hfz27_5 := blk_frozen HGz27 5
      have hfz27_6 := blk_frozen HGz27 6
      have hfz27_7 := blk_frozen HGz27 7
      have hfz27_8 := blk_frozen HGz27 8
      clear HGz27 hgz27
      try go_wp2
      first | go_end0 | ((try simp only [Exit.inBlock, Exit.then]); refine bodyPost_ret (results_none rfl _ _ _) rfl ?_)
      exact ⟨by first | rfl | (simp [errW_none, errW_some] <;> rfl) | (simp [*, errW_none, errW_some] <;> rfl), by repeat (first | (with_reducible first | exact HI0.out | apply IsS25.alloc | apply IsS25.drewN | apply IsS25.drew | apply IsS25.set_0 | apply IsS25.set_1 | apply IsS25.set_2 | apply IsS25.set_3 | apply IsS25.set_4 | apply IsS25.set_5 | apply IsS25.set_6 | apply IsS25.set_7 | apply IsS25.set_8) | exact HI0.out), by repeat (first | (with_reducible first | exact HB.out | apply below_alloc | apply pw_below_drewN | apply below_drew1 | refine below_set ?_ (IsS25.ge HI0.out)) | exact HB.out), by repeat (first | (with_reducible first | exact HK.out | apply KeepBut.set_ | apply keep_drewN | apply keep_drew | apply keep_alloc) | exact HK.out)⟩
     ·
      rw [if_neg c23] at H
      have c23b0 : decide (t185 ≤ (wrap64 (10 * t186))) = false := decide_eq_false c23
      clear c23
      simp only [Option.some.injEq, Prod.mk.injEq] at H
      obtain ⟨rfl, rfl, rfl, rfl, rfl, rfl, rfl, rfl, rfl⟩ := H
      try go_wp2
      have n0_ := Aside0.mk (IsS25.drew HI0.out)
      have n1_ := Aside0.mk (keep_drew HK.out)
      have n2_ := Aside0.mk (below_drew1 HB.out)
      clear HI0
      clear HK
      clear HB
      have HI0 := n0_
      have HK := n1_
      have HB := n2_
      clear n0_ n1_ n2_
      refine start_ (n := 10) (S := fun w' => w'.cell? ⟨g, 0, none⟩ = some (.int .i64 s0_0) ∧ w'.cell? ⟨g, 1, none⟩ = some (.int .i64 s0_1) ∧ w'.cell? ⟨g, 2, none⟩ = some (.int .i64 (wrap64 (s0_2 + s0_4))) ∧ w'.cell? ⟨g, 3, none⟩ = some (.int .i64 s0_3) ∧ w'.cell? ⟨g, 4, none⟩ = some (.int .i64 s0_4) ∧ w'.cell? ⟨g, 5, none⟩ = some (.int .i64 s0_5) ∧ w'.cell? ⟨g, 6, none⟩ = some (.int .i64 s0_6) ∧ w'.cell? ⟨g, 7, none⟩ = some (.int .i64 s0_7) ∧ w'.cell? ⟨g, 8, none⟩ = some (.bool s0_8)) (ds := []) #[f4, f4, f4, f4, f4, f4, f4, f4, f4, f4] (by kernel_rfl) rfl rfl ⟨(by obtain ⟨HG_, hg_⟩ := HI0.out; exact cellS25_0 HG_), (by obtain ⟨HG_, hg_⟩ := HI0.out; exact cellS25_1 HG_), (by obtain ⟨HG_, hg_⟩ := HI0.out; exact cellS25_2 HG_), (by obtain ⟨HG_, hg_⟩ := HI0.out; exact cellS25_3 HG_), (by obtain ⟨HG_, hg_⟩ := HI0.out; exact cellS25_4 HG_), (by obtain ⟨HG_, hg_⟩ := HI0.out; exact cellS25_5 HG_), (by obtain ⟨HG_, hg_⟩ := HI0.out; exact cellS25_6 HG_), (by obtain ⟨HG_, hg_⟩ := HI0.out; exact cellS25_7 HG_), (by obtain ⟨HG_, hg_⟩ := HI0.out; exact cellS25_8 HG_)⟩ (fun hHeld => ?_); refine with_tabW impl_Pilot_climb.tab5 impl_Pilot_climb.bits5 (fun HT_ HW_ => ?_)
      generalize wc.drew = w28 at HI0 HK HB hHeld ⊢
      refine pure_ (i := 0) (N := some 63) (v := ?_) (a' := ?_) #[t4, f4, f4, f4, f4, f4, f4, f4, f4, f4] rfl rfl (any_of HT_.out (by kernel_rfl)) (fun _ _ _ h => h) (Or.inl ⟨by rfl, ?_⟩) ?_ ?_
      rotate_left
      ·
       intro w'
       go_simp
       with_reducible rfl
      rotate_left
      ·
       simp only [Act.put, List.setIfInBounds_toArray, List.set_cons_zero, List.set_cons_succ, i64_w, i32_w]
       rfl
      refine pure_ (i := 2) (N := some 65) (v := ?_) (a' := ?_) #[t4, f4, t4, f4, f4, f4, f4, f4, f4, f4] rfl rfl (any_of HT_.out (by kernel_rfl)) (fun _ _ _ h => h) (Or.inl ⟨by rfl, ?_⟩) ?_ ?_
      rotate_left
      ·
       intro w'
       go_simp
       with_reducible rfl
      rotate_left
      ·
       simp only [Act.put, List.setIfInBounds_toArray, List.set_cons_zero, List.set_cons_succ, i64_w, i32_w]
       rfl
      refine pure_ (i := 3) (N := some 66) (v := ?_) (a' := ?_) #[t4, f4, t4, t4, f4, f4, f4, f4, f4, f4] rfl rfl (any_of HT_.out (by kernel_rfl)) (fun _ _ _ h => h) (Or.inl ⟨by rfl, ?_⟩) ?_ ?_
      rotate_left
      ·
       intro w'
       go_simp
       with_reducible rfl
      rotate_left
      ·
       simp only [Act.put, List.setIfInBounds_toArray, List.set_cons_zero, List.set_cons_succ, i64_w, i32_w]
       rfl
      refine pure_ (i := 4) (N := some 67) (v := ?_) (a' := ?_) #[t4, f4, t4, t4, t4, f4, f4, f4, f4, f4] rfl rfl (any_of HT_.out (by kernel_rfl)) (fun _ _ _ h => h) (Or.inl ⟨by rfl, ?_⟩) ?_ ?_
      rotate_left
      ·
       intro w'
       go_simp
       with_reducible rfl
      rotate_left
      ·
       simp only [Act.put, List.setIfInBounds_toArray, List.set_cons_zero, List.set_cons_succ, i64_w, i32_w]
       rfl
      refine take_ (i := 5) (N := some 68) (v := ?_) (a' := ?_) #[t4, f4, t4, t4, t4, t4, f4, f4, f4, f4] rfl rfl (take_ofW HT_.out HW_.out (by kernel_rfl)) (fun _ _ _ h => h) (Or.inl ⟨by rfl, ?_⟩) hHeld ?_ ?_
      rotate_left
      ·
       rintro w' ⟨s0, s1, s2, s3, s4, s5, s6, s7, s8⟩
       go_simp
       with_reducible rfl
      rotate_left
      ·
       simp only [Act.put, List.setIfInBounds_toArray, List.set_cons_zero, List.set_cons_succ, i64_w, i32_w]
       rfl
      refine one_ (i := 1) (N := some 64) #[t4, t4, t4, t4, t4, t4, f4, f4, f4, f4] rfl rfl (one_of HT_.out (by kernel_rfl)) (by decide) (fun K hK => ?_)
      refine goes_ Try.func48 (by kernel_rfl) rfl #[.int .i64 (wrap64 (s0_3 - (wrap64 (s0_2 + s0_4))))] (by rfl) rfl rfl (by (try simp only [List.map_toArray, List.map_cons, List.map_nil]); first | done | rfl | (simp only [List.length_drop, List.length_take]; rfl)) ?_
      with_reducible refine (impl_size.calls (wrap64 (s0_3 - (wrap64 (s0_2 + s0_4)))) t185 _ A21.out).mono ?_
      rintro e w29 ⟨rfl, hb⟩
      refine ⟨_, rfl, ?_⟩
      have n0_ := Aside0.mk (IsS25.below (by repeat (first | (with_reducible first | exact HI0.out | apply IsS25.alloc | apply IsS25.drewN | apply IsS25.drew | apply IsS25.set_0 | apply IsS25.set_1 | apply IsS25.set_2 | apply IsS25.set_3 | apply IsS25.set_4 | apply IsS25.set_5 | apply IsS25.set_6 | apply IsS25.set_7 | apply IsS25.set_8) | exact HI0.out)) hb)
      have n1_ := Aside0.mk (KeepBut.trans (by repeat (first | (with_reducible first | exact HK.out | apply KeepBut.set_ | apply keep_drewN | apply keep_drew | apply keep_alloc) | exact HK.out)) (KeepBut.of_below hb g none) (.inl rfl))
      have n2_ := Aside0.mk (below_step (by repeat (first | (with_reducible first | exact HB.out | apply below_alloc | apply pw_below_drewN | apply below_drew1 | refine below_set ?_ (IsS25.ge HI0.out)) | exact HB.out)) hb)
      clear HI0
      clear HK
      clear HB
      have HI0 := n0_
      have HK := n1_
      have HB := n2_
      clear n0_ n1_ n2_
      (try clear hb)
      (try clear hb2)
      (try clear hk)
      (try clear hi)
      refine hK.out _ _ ⟨(by obtain ⟨HG_, hg_⟩ := HI0.out; exact cellS25_0 HG_), (by obtain ⟨HG_, hg_⟩ := HI0.out; exact cellS25_1 HG_), (by obtain ⟨HG_, hg_⟩ := HI0.out; exact cellS25_2 HG_), (by obtain ⟨HG_, hg_⟩ := HI0.out; exact cellS25_3 HG_), (by obtain ⟨HG_, hg_⟩ := HI0.out; exact cellS25_4 HG_), (by obtain ⟨HG_, hg_⟩ := HI0.out; exact cellS25_5 HG_), (by obtain ⟨HG_, hg_⟩ := HI0.out; exact cellS25_6 HG_), (by obtain ⟨HG_, hg_⟩ := HI0.out; exact cellS25_7 HG_), (by obtain ⟨HG_, hg_⟩ := HI0.out; exact cellS25_8 HG_)⟩ (fun hHeld => ?_)
      clear hK K
      refine norm_ (a' := ?_) ?_ ?_
      rotate_left
      ·
       show Act.put _ (some 64) _ = _
       simp only [Act.put, List.setIfInBounds_toArray, List.set_cons_zero, List.set_cons_succ, i64_w, i32_w]
       rfl
      refine one_ (i := 6) (N := some 69) #[t4, t4, t4, t4, t4, t4, t4, f4, f4, f4] rfl rfl (one_of HT_.out (by kernel_rfl)) (by decide) (fun K hK => ?_)
      refine goes_ Try.func48 (by kernel_rfl) rfl #[.int .i64 s0_4] (by rfl) rfl rfl (by (try simp only [List.map_toArray, List.map_cons, List.map_nil]); first | done | rfl | (simp only [List.length_drop, List.length_take]; rfl)) ?_
      with_reducible refine (impl_size.calls s0_4 t186 _ A22.out).mono ?_
      rintro e w30 ⟨rfl, hb⟩
      refine ⟨_, rfl, ?_⟩
      have n0_ := Aside0.mk (IsS25.below (by repeat (first | (with_reducible first | exact HI0.out | apply IsS25.alloc | apply IsS25.drewN | apply IsS25.drew | apply IsS25.set_0 | apply IsS25.set_1 | apply IsS25.set_2 | apply IsS25.set_3 | apply IsS25.set_4 | apply IsS25.set_5 | apply IsS25.set_6 | apply IsS25.set_7 | apply IsS25.set_8) | exact HI0.out)) hb)
      have n1_ := Aside0.mk (KeepBut.trans (by repeat (first | (with_reducible first | exact HK.out | apply KeepBut.set_ | apply keep_drewN | apply keep_drew | apply keep_alloc) | exact HK.out)) (KeepBut.of_below hb g none) (.inl rfl))
      have n2_ := Aside0.mk (below_step (by repeat (first | (with_reducible first | exact HB.out | apply below_alloc | apply pw_below_drewN | apply below_drew1 | refine below_set ?_ (IsS25.ge HI0.out)) | exact HB.out)) hb)
      clear HI0
      clear HK
      clear HB
      have HI0 := n0_
      have HK := n1_
      have HB := n2_
      clear n0_ n1_ n2_
      (try clear hb)
      (try clear hb2)
      (try clear hk)
      (try clear hi)
      refine hK.out _ _ ⟨(by obtain ⟨HG_, hg_⟩ := HI0.out; exact cellS25_0 HG_), (by obtain ⟨HG_, hg_⟩ := HI0.out; exact cellS25_1 HG_), (by obtain ⟨HG_, hg_⟩ := HI0.out; exact cellS25_2 HG_), (by obtain ⟨HG_, hg_⟩ := HI0.out; exact cellS25_3 HG_), (by obtain ⟨HG_, hg_⟩ := HI0.out; exact cellS25_4 HG_), (by obtain ⟨HG_, hg_⟩ := HI0.out; exact cellS25_5 HG_), (by obtain ⟨HG_, hg_⟩ := HI0.out; exact cellS25_6 HG_), (by obtain ⟨HG_, hg_⟩ := HI0.out; exact cellS25_7 HG_), (by obtain ⟨HG_, hg_⟩ := HI0.out; exact cellS25_8 HG_)⟩ (fun hHeld => ?_)
      clear hK K
      refine norm_ (a' := ?_) ?_ ?_
      rotate_left
      ·
       show Act.put _ (some 69) _ = _
       simp only [Act.put, List.setIfInBounds_toArray, List.set_cons_zero, List.set_cons_succ, i64_w, i32_w]
       rfl
      refine pure_ (i := 7) (N := some 70) (v := ?_) (a' := ?_) #[t4, t4, t4, t4, t4, t4, t4, t4, f4, f4] rfl rfl (any_of HT_.out (by kernel_rfl)) (fun _ _ _ h => h) (Or.inl ⟨by rfl, ?_⟩) ?_ ?_
      rotate_left
      ·
       intro w'
       go_simp
       with_reducible rfl
      rotate_left
      ·
       simp only [Act.put, List.setIfInBounds_toArray, List.set_cons_zero, List.set_cons_succ, i64_w, i32_w]
       rfl
      refine pure_ (i := 8) (N := some 71) (v := ?_) (a' := ?_) #[t4, t4, t4, t4, t4, t4, t4, t4, t4, f4] rfl rfl (any_of HT_.out (by kernel_rfl)) (fun _ _ _ h => h) (Or.inl ⟨by rfl, ?_⟩) ?_ ?_
      rotate_left
      ·
       intro w'
       go_simp
       with_reducible rfl
      rotate_left
      ·
       simp only [Act.put, List.setIfInBounds_toArray, List.set_cons_zero, List.set_cons_succ, i64_w, i32_w]
       rfl
      refine pure_ (i := 9) (N := some 62) (v := ?_) (a' := ?_) #[t4, t4, t4, t4, t4, t4, t4, t4, t4, t4] rfl rfl (any_of HT_.out (by kernel_rfl)) (fun _ _ _ h => h) (Or.inl ⟨by rfl, ?_⟩) ?_ ?_
      rotate_left
      ·
       intro w'
       go_simp
       with_reducible rfl
      rotate_left
      ·
       simp only [Act.put, List.setIfInBounds_toArray, List.set_cons_zero, List.set_cons_succ, i64_w, i32_w]
       rfl
      refine done_ (done_of HT_.out (by kernel_rfl)) ?_
      try go_wp2
      first | go_end0 | ((try simp only [Exit.inBlock, Exit.then]); refine bodyPost_ret (results_none rfl _ _ _) rfl ?_)
      exact ⟨by first | rfl | (simp [errW_none, errW_some] <;> rfl) | (simp [*, errW_none, errW_some] <;> rfl), by repeat (first | (with_reducible first | exact HI0.out | apply IsS25.alloc | apply IsS25.drewN | apply IsS25.drew | apply IsS25.set_0 | apply IsS25.set_1 | apply IsS25.set_2 | apply IsS25.set_3 | apply IsS25.set_4 | apply IsS25.set_5 | apply IsS25.set_6 | apply IsS25.set_7 | apply IsS25.set_8) | exact HI0.out), by repeat (first | (with_reducible first | exact HB.out | apply below_alloc | apply pw_below_drewN | apply below_drew1 | refine below_set ?_ (IsS25.ge HI0.out)) | exact HB.out), by repeat (first | (with_reducible first | exact HK.out | apply KeepBut.set_ | apply keep_drewN | apply keep_drew | apply keep_alloc) | exact HK.out)⟩

end Go.Proofs.Ytdodiflcmjbfdaa.PFnTurned
