/- Walks of the functions named below, by a program of the session over the kit's printer. -/
import Derived.Test.YtdodiflcmjbfdaaPFnTurnedx0
import Derived.Test.YtdodiflcmjbfdaaPFnTurnedx1
import Derived.Test.YtdodiflcmjbfdaaPFnTurnedx3
import Derived.Test.YtdodiflcmjbfdaaPFnTurnedx5
namespace Go.Proofs.Ytdodiflcmjbfdaa.PFnTurned
open Go.RowKit Go.Proofs.YtdodiflcmjbfdaaW.PrintWords Go.Proofs.YtdodiflcmjbfdaaW.PrintLast Go.Proofs.YtdodiflcmjbfdaaW.PrintMore
attribute [local go_sem] max2_int min2_int max_two min_two max_three min_three max_four min_four   -- for this text's walks alone
set_option linter.unusedVariables false
set_option linter.unusedSimpArgs false
abbrev t6 : Bool := true
abbrev f6 : Bool := false

/-! ### impl_Pilot_lateral: function 38 -/
def impl_Pilot_lateral.f (s0_0 : Int) (s0_1 : Int) (s0_2 : Int) (s0_3 : Int) (s0_4 : Int) (s0_5 : Int) (s0_6 : Int) (s0_7 : Int) (s0_8 : Bool) : Option (Int × Int × Int × Int × Int × Int × Int × Int × Bool) := if s0_1 = 1 then ((impl_Pilot_turn.f s0_0 s0_1 s0_2 s0_3 s0_4 s0_5 s0_6 s0_7 s0_8).bind fun bt191 => (if bt191.2.2.2.2.2.2.2.2 = true then ((impl_size.f bt191.2.2.2.2.2.2.2.1).bind fun t200 => (if t200 ≤ 50 then (some (bt191.1, 3, bt191.2.2.1, bt191.2.2.2.1, bt191.2.2.2.2.1, bt191.2.2.2.2.2.1, bt191.2.2.2.2.2.2.1, bt191.2.2.2.2.2.2.2.1, false)) else (some (bt191.1, bt191.2.1, bt191.2.2.1, bt191.2.2.2.1, bt191.2.2.2.2.1, bt191.2.2.2.2.2.1, bt191.2.2.2.2.2.2.1, bt191.2.2.2.2.2.2.2.1, bt191.2.2.2.2.2.2.2.2)))) else (some (bt191.1, bt191.2.1, bt191.2.2.1, bt191.2.2.2.1, bt191.2.2.2.2.1, bt191.2.2.2.2.2.1, bt191.2.2.2.2.2.2.1, bt191.2.2.2.2.2.2.2.1, bt191.2.2.2.2.2.2.2.2)))) else (if s0_1 = 3 then ((impl_held.f s0_7 (-10) 10).bind fun t201 => (if (wrap64 (s0_7 - t201)) = 0 then (some (s0_0, 2, s0_2, s0_3, s0_4, s0_5, s0_6, wrap64 (s0_7 - t201), s0_8)) else (some (s0_0, s0_1, s0_2, s0_3, s0_4, s0_5, s0_6, wrap64 (s0_7 - t201), s0_8)))) else (if s0_1 = 2 then ((impl_size.f s0_7).bind fun t202 => (if t202 ≤ 20 then (some (s0_0, s0_1, s0_2, s0_3, s0_4, s0_5, s0_6, 0, s0_8)) else (some (s0_0, 3, s0_2, s0_3, s0_4, s0_5, s0_6, s0_7, s0_8)))) else (some (s0_0, s0_1, s0_2, s0_3, s0_4, s0_5, s0_6, s0_7, s0_8))))
def impl_Pilot_lateral.T6 : Bool × List (List Nat × List Nat) := (true, [([], []), ([0], [0]), ([1], [1]), ([2], [2]), ([], []), ([4], [4]), ([5], [5]), ([6], [6]), ([7], [7]), ([3, 8], [3, 8]), ([0, 0, 1, 2, 3, 4, 5, 6, 7, 8, 9], [0]), ([10, 0, 1, 2, 3, 4, 5, 6, 7, 8, 9], [10]), ([11, 9, 8, 0, 1, 2, 3, 4, 5, 6, 7, 8, 9], [9, 11])])
def impl_Pilot_lateral.B6 : List Nat := [0, 1, 3, 7, 0, 16, 48, 112, 240, 511, 1023, 2047, 4095]
theorem impl_Pilot_lateral.tab6 : rtab .any (opsOf Try.f38 6) = impl_Pilot_lateral.T6 := by kernel_rfl
theorem impl_Pilot_lateral.bits6 : waitsOk impl_Pilot_lateral.T6.2 impl_Pilot_lateral.B6 = true := by kernel_rfl
set_option maxHeartbeats 8000000 in
set_option maxRecDepth 100000 in
theorem impl_Pilot_lateral.calls (g : Nat) (s0_0 : Int) (s0_1 : Int) (s0_2 : Int) (s0_3 : Int) (s0_4 : Int) (s0_5 : Int) (s0_6 : Int) (s0_7 : Int) (s0_8 : Bool) (r1 : Int) (r2 : Int) (r3 : Int) (r4 : Int) (r5 : Int) (r6 : Int) (r7 : Int) (r8 : Int) (r9 : Bool) (w0 w : World) (hI : IsS25 w0 w g s0_0 s0_1 s0_2 s0_3 s0_4 s0_5 s0_6 s0_7 s0_8) (hB : Below w0.heap.size w0 w) (h : impl_Pilot_lateral.f s0_0 s0_1 s0_2 s0_3 s0_4 s0_5 s0_6 s0_7 s0_8 = some (r1, r2, r3, r4, r5, r6, r7, r8, r9)) :
  Calls Try.prog 38 #[.pointer (some ⟨g, 0, none⟩)] w fun e w' => e = .returned (.tuple #[]) ∧ IsS25 w0 w' g r1 r2 r3 r4 r5 r6 r7 r8 r9 ∧ Below w0.heap.size w0 w' ∧ KeepBut w w' g none := by
 have HI0 := Aside0.mk hI
 have HK := Aside0.mk (KeepBut.refl w g none)
 have HL := Aside0.mk hB.size
 clear hI
 have HW0 := Aside0.mk hB.size
 have HB := Aside0.mk hB
 clear hB
 have H : (if s0_1 = 1 then ((impl_Pilot_turn.f s0_0 s0_1 s0_2 s0_3 s0_4 s0_5 s0_6 s0_7 s0_8).bind fun bt191 => (if bt191.2.2.2.2.2.2.2.2 = true then ((impl_size.f bt191.2.2.2.2.2.2.2.1).bind fun t200 => (if t200 ≤ 50 then (some (bt191.1, 3, bt191.2.2.1, bt191.2.2.2.1, bt191.2.2.2.2.1, bt191.2.2.2.2.2.1, bt191.2.2.2.2.2.2.1, bt191.2.2.2.2.2.2.2.1, false)) else (some (bt191.1, bt191.2.1, bt191.2.2.1, bt191.2.2.2.1, bt191.2.2.2.2.1, bt191.2.2.2.2.2.1, bt191.2.2.2.2.2.2.1, bt191.2.2.2.2.2.2.2.1, bt191.2.2.2.2.2.2.2.2)))) else (some (bt191.1, bt191.2.1, bt191.2.2.1, bt191.2.2.2.1, bt191.2.2.2.2.1, bt191.2.2.2.2.2.1, bt191.2.2.2.2.2.2.1, bt191.2.2.2.2.2.2.2.1, bt191.2.2.2.2.2.2.2.2)))) else (if s0_1 = 3 then ((impl_held.f s0_7 (-10) 10).bind fun t201 => (if (wrap64 (s0_7 - t201)) = 0 then (some (s0_0, 2, s0_2, s0_3, s0_4, s0_5, s0_6, wrap64 (s0_7 - t201), s0_8)) else (some (s0_0, s0_1, s0_2, s0_3, s0_4, s0_5, s0_6, wrap64 (s0_7 - t201), s0_8)))) else (if s0_1 = 2 then ((impl_size.f s0_7).bind fun t202 => (if t202 ≤ 20 then (some (s0_0, s0_1, s0_2, s0_3, s0_4, s0_5, s0_6, 0, s0_8)) else (some (s0_0, 3, s0_2, s0_3, s0_4, s0_5, s0_6, s0_7, s0_8)))) else (some (s0_0, s0_1, s0_2, s0_3, s0_4, s0_5, s0_6, s0_7, s0_8))))) = some (r1, r2, r3, r4, r5, r6, r7, r8, r9) := h
 clear h
 by_cases c2 : s0_1 = 1
 ·
  rw [if_pos c2] at H
  have c2b0 : (s0_1 == 1) = true := beq_iff_eq.mpr c2
  have c2b1 : (s0_1 != 1) = false := bne_eq_false_iff_eq.mpr c2
  clear c2
  replace H := Option.bind_eq_some_iff.mp H
  obtain ⟨⟨t191, t192, t193, t194, t195, t196, t197, t198, t199⟩, A30, H⟩ := H
  replace H : (if t199 = true then ((impl_size.f t198).bind fun t200 => (if t200 ≤ 50 then (some (t191, 3, t193, t194, t195, t196, t197, t198, false)) else (some (t191, t192, t193, t194, t195, t196, t197, t198, t199)))) else (some (t191, t192, t193, t194, t195, t196, t197, t198, t199))) = some (r1, r2, r3, r4, r5, r6, r7, r8, r9) := H
  have A3 := Aside0.mk A30
  clear A30
  by_cases c4 : t199 = true
  ·
   subst c4
   have H1 : ((impl_size.f t198).bind fun t200 => (if t200 ≤ 50 then (some (t191, 3, t193, t194, t195, t196, t197, t198, false)) else (some (t191, t192, t193, t194, t195, t196, t197, t198, true)))) = some (r1, r2, r3, r4, r5, r6, r7, r8, r9) := by rw [if_pos rfl] at H; exact H
   clear H
   have H := H1
   clear H1
   replace H := Option.bind_eq_some_iff.mp H
   obtain ⟨t200, A50, H⟩ := H
   replace H : (if t200 ≤ 50 then (some (t191, 3, t193, t194, t195, t196, t197, t198, false)) else (some (t191, t192, t193, t194, t195, t196, t197, t198, true))) = some (r1, r2, r3, r4, r5, r6, r7, r8, r9) := H
   have A5 := Aside0.mk A50
   clear A50
   by_cases c6 : t200 ≤ 50
   ·
    rw [if_pos c6] at H
    have c6b0 : decide (t200 ≤ 50) = true := decide_eq_true c6
    clear c6
    simp only [Option.some.injEq, Prod.mk.injEq] at H
    obtain ⟨rfl, rfl, rfl, rfl, rfl, rfl, rfl, rfl, rfl⟩ := H
    obtain ⟨HGz7, hgz7⟩ := HI0.out
    have hcz7_0 := cellS25_0 HGz7
    have hcz7_1 := cellS25_1 HGz7
    have hcz7_2 := cellS25_2 HGz7
    have hcz7_3 := cellS25_3 HGz7
    have hcz7_4 := cellS25_4 HGz7
    have hcz7_5 := cellS25_5 HGz7
    have hcz7_6 := cellS25_6 HGz7
    have hcz7_7 := cellS25_7 HGz7
    have hcz7_8 := cellS25_8 HGz7
    have hfz7_0 := blk_frozen HGz7 0
    have hfz7_1 := blk_frozen HGz7 1
    have hfz7_2 := blk_frozen HGz7 2
    have hfz7_3 := blk_frozen HGz7 3
    have hfz7_4 := blk_frozen HGz7 4
    have hfz7_5 := blk_frozen HGz7 5
    have hfz7_6 := blk_frozen HGz7 6
    have hfz7_7 := blk_frozen HGz7 7
    have hfz7_8 := blk_frozen HGz7 8
    clear HGz7 hgz7
    go_enter Try.func38, Try.ntmps38
    go_wp2_with (first | ((with_reducible refine gate_callee (f := 50) rfl ?_); refine goesL_ (some 9) rfl rfl Try.func50 (by kernel_rfl) rfl #[.pointer (some ⟨g, 0, none⟩)] rfl (by (try simp only [List.map_toArray, List.map_cons, List.map_nil]); first | done | rfl | (simp only [List.length_drop, List.length_take]; rfl)) ?_; (with_reducible refine (impl_Pilot_turn.calls g s0_0 s0_1 s0_2 s0_3 s0_4 s0_5 s0_6 s0_7 s0_8 t191 t192 t193 t194 t195 t196 t197 t198 true w0 _ ?side1 ?side2 A3.out).mono ?_); (case side1 => repeat (first | (with_reducible first | exact HI0.out | apply IsS25.alloc | apply IsS25.drewN | apply IsS25.drew | apply IsS25.set_0 | apply IsS25.set_1 | apply IsS25.set_2 | apply IsS25.set_3 | apply IsS25.set_4 | apply IsS25.set_5 | apply IsS25.set_6 | apply IsS25.set_7 | apply IsS25.set_8) | exact HI0.out)); (case side2 => repeat (first | (with_reducible first | exact HB.out | apply below_alloc | apply pw_below_drewN | apply below_drew1 | refine below_set ?_ (IsS25.ge HI0.out)) | exact HB.out)); rintro e w8 ⟨rfl, hi, hb, hk⟩; refine ⟨_, rfl, ?_⟩; have n0_ := Aside0.mk (KeepBut.trans (by repeat (first | (with_reducible first | exact HK.out | apply KeepBut.set_ | apply keep_drewN | apply keep_drew | apply keep_alloc) | exact HK.out)) hk (.inl rfl)); have n1_ := Aside0.mk (hb); have n2_ := Aside0.mk (hi); clear HK; clear HB; clear HI0; have HK := n0_; have HB := n1_; have HI0 := n2_; clear n0_ n1_ n2_; (try clear hb); (try clear hb2); (try clear hk); (try clear hi); obtain ⟨HGz9, hgz9⟩ := HI0.out; have hcz9_0 := cellS25_0 HGz9; have hcz9_1 := cellS25_1 HGz9; have hcz9_2 := cellS25_2 HGz9; have hcz9_3 := cellS25_3 HGz9; have hcz9_4 := cellS25_4 HGz9; have hcz9_5 := cellS25_5 HGz9; have hcz9_6 := cellS25_6 HGz9; have hcz9_7 := cellS25_7 HGz9; have hcz9_8 := cellS25_8 HGz9; have hfz9_0 := blk_frozen HGz9 0; have hfz9_1 := blk_frozen HGz9 1; have hfz9_2 := blk_frozen HGz9 2; have hfz9_3 := blk_frozen HGz9 3; have hfz9_4 := blk_frozen HGz9 4; have hfz9_5 := blk_frozen HGz9 5; have hfz9_6 := blk_frozen HGz9 6; have hfz9_7 := blk_frozen HGz9 7; have hfz9_8 := blk_frozen HGz9 8; clear HGz9 hgz9) | (go_at_call 48; (with_reducible refine (impl_size.calls t198 t200 _ A5.out).mono ?_); rintro e w10 ⟨rfl, hb⟩; have n0_ := Aside0.mk (IsS25.below (by repeat (first | (with_reducible first | exact HI0.out | apply IsS25.alloc | apply IsS25.drewN | apply IsS25.drew | apply IsS25.set_0 | apply IsS25.set_1 | apply IsS25.set_2 | apply IsS25.set_3 | apply IsS25.set_4 | apply IsS25.set_5 | apply IsS25.set_6 | apply IsS25.set_7 | apply IsS25.set_8) | exact HI0.out)) hb); have n1_ := Aside0.mk (KeepBut.trans (by repeat (first | (with_reducible first | exact HK.out | apply KeepBut.set_ | apply keep_drewN | apply keep_drew | apply keep_alloc) | exact HK.out)) (KeepBut.of_below hb g none) (.inl rfl)); have n2_ := Aside0.mk (below_step (by repeat (first | (with_reducible first | exact HB.out | apply below_alloc | apply pw_below_drewN | apply below_drew1 | refine below_set ?_ (IsS25.ge HI0.out)) | exact HB.out)) hb); clear HI0; clear HK; clear HB; have HI0 := n0_; have HK := n1_; have HB := n2_; clear n0_ n1_ n2_; (try clear hb); (try clear hb2); (try clear hk); (try clear hi); obtain ⟨HGz11, hgz11⟩ := HI0.out; have hcz11_0 := cellS25_0 HGz11; have hcz11_1 := cellS25_1 HGz11; have hcz11_2 := cellS25_2 HGz11; have hcz11_3 := cellS25_3 HGz11; have hcz11_4 := cellS25_4 HGz11; have hcz11_5 := cellS25_5 HGz11; have hcz11_6 := cellS25_6 HGz11; have hcz11_7 := cellS25_7 HGz11; have hcz11_8 := cellS25_8 HGz11; have hfz11_0 := blk_frozen HGz11 0; have hfz11_1 := blk_frozen HGz11 1; have hfz11_2 := blk_frozen HGz11 2; have hfz11_3 := blk_frozen HGz11 3; have hfz11_4 := blk_frozen HGz11 4; have hfz11_5 := blk_frozen HGz11 5; have hfz11_6 := blk_frozen HGz11 6; have hfz11_7 := blk_frozen HGz11 7; have hfz11_8 := blk_frozen HGz11 8; clear HGz11 hgz11))
    first | go_end0 | ((try simp only [Exit.inBlock, Exit.then]); refine bodyPost_ret (results_none rfl _ _ _) rfl ?_)
    exact ⟨by first | rfl | (simp [errW_none, errW_some] <;> rfl) | (simp [*, errW_none, errW_some] <;> rfl), by repeat (first | (with_reducible first | exact HI0.out | apply IsS25.alloc | apply IsS25.drewN | apply IsS25.drew | apply IsS25.set_0 | apply IsS25.set_1 | apply IsS25.set_2 | apply IsS25.set_3 | apply IsS25.set_4 | apply IsS25.set_5 | apply IsS25.set_6 | apply IsS25.set_7 | apply IsS25.set_8) | exact HI0.out), by repeat (first | (with_reducible first | exact HB.out | apply below_alloc | apply pw_below_drewN | apply below_drew1 | refine below_set ?_ (IsS25.ge HI0.out)) | exact HB.out), by repeat (first | (with_reducible first | exact HK.out | apply KeepBut.set_ | apply keep_drewN | apply keep_drew | apply keep_alloc) | exact HK.out)⟩
   ·
    rw [if_neg c6] at H
    have c6b0 : decide (t200 ≤ 50) = false := decide_eq_false c6
    clear c6
    simp only [Option.some.injEq, Prod.mk.injEq] at H
    obtain ⟨rfl, rfl, rfl, rfl, rfl, rfl, rfl, rfl, rfl⟩ := H
    obtain ⟨HGz12, hgz12⟩ := HI0.out
    have hcz12_0 := cellS25_0 HGz12
    have hcz12_1 := cellS25_1 HGz12
    have hcz12_2 := cellS25_2 HGz12
    have hcz12_3 := cellS25_3 HGz12
    have hcz12_4 := cellS25_4 HGz12
    have hcz12_5 := cellS25_5 HGz12
    have hcz12_6 := cellS25_6 HGz12
    have hcz12_7 := cellS25_7 HGz12
    have hcz12_8 := cellS25_8 HGz12
    have hfz12_0 := blk_frozen HGz12 0
    have hfz12_1 := blk_frozen HGz12 1
    have hfz12_2 := blk_frozen HGz12 2
    have hfz12_3 := blk_frozen HGz12 3
    have hfz12_4 := blk_frozen HGz12 4
    have hfz12_5 := blk_frozen HGz12 5
    have hfz12_6 := blk_frozen HGz12 6
    have hfz12_7 := blk_frozen HGz12 7
    have hfz12_8 := blk_frozen HGz12 8
    clear HGz12 hgz12
    go_enter Try.func38, Try.ntmps38
    go_wp2_with (first | ((with_reducible refine gate_callee (f := 50) rfl ?_); refine goesL_ (some 9) rfl rfl Try.func50 (by kernel_rfl) rfl #[.pointer (some ⟨g, 0, none⟩)] rfl (by (try simp only [List.map_toArray, List.map_cons, List.map_nil]); first | done | rfl | (simp only [List.length_drop, List.length_take]; rfl)) ?_; (with_reducible refine (impl_Pilot_turn.calls g s0_0 s0_1 s0_2 s0_3 s0_4 s0_5 s0_6 s0_7 s0_8 t191 t192 t193 t194 t195 t196 t197 t198 true w0 _ ?side1 ?side2 A3.out).mono ?_); (case side1 => repeat (first | (with_reducible first | exact HI0.out | apply IsS25.alloc | apply IsS25.drewN | apply IsS25.drew | apply IsS25.set_0 | apply IsS25.set_1 | apply IsS25.set_2 | apply IsS25.set_3 | apply IsS25.set_4 | apply IsS25.set_5 | apply IsS25.set_6 | apply IsS25.set_7 | apply IsS25.set_8) | exact HI0.out)); (case side2 => repeat (first | (with_reducible first | exact HB.out | apply below_alloc | apply pw_below_drewN | apply below_drew1 | refine below_set ?_ (IsS25.ge HI0.out)) | exact HB.out)); rintro e w13 ⟨rfl, hi, hb, hk⟩; refine ⟨_, rfl, ?_⟩; have n0_ := Aside0.mk (KeepBut.trans (by repeat (first | (with_reducible first | exact HK.out | apply KeepBut.set_ | apply keep_drewN | apply keep_drew | apply keep_alloc) | exact HK.out)) hk (.inl rfl)); have n1_ := Aside0.mk (hb); have n2_ := Aside0.mk (hi); clear HK; clear HB; clear HI0; have HK := n0_; have HB := n1_; have HI0 := n2_; clear n0_ n1_ n2_; (try clear hb); (try clear hb2); (try clear hk); (try clear hi); obtain ⟨HGz14, hgz14⟩ := HI0.out; have hcz14_0 := cellS25_0 HGz14; have hcz14_1 := cellS25_1 HGz14; have hcz14_2 := cellS25_2 HGz14; have hcz14_3 := cellS25_3 HGz14; have hcz14_4 := cellS25_4 HGz14; have hcz14_5 := cellS25_5 HGz14; have hcz14_6 := cellS25_6 HGz14; have hcz14_7 := cellS25_7 HGz14; have hcz14_8 := cellS25_8 HGz14; have hfz14_0 := blk_frozen HGz14 0; have hfz14_1 := blk_frozen HGz14 1; have hfz14_2 := blk_frozen HGz14 2; have hfz14_3 := blk_frozen HGz14 3; have hfz14_4 := blk_frozen HGz14 4; have hfz14_5 := blk_frozen HGz14 5; have hfz14_6 := blk_frozen HGz14 6; have hfz14_7 := blk_frozen HGz14 7; have hfz14_8 := blk_frozen HGz14 8; clear HGz14 hgz14) | (go_at_call 48; (with_reducible refine (impl_size.calls t198 t200 _ A5.out).mono ?_); rintro e w15 ⟨rfl, hb⟩; have n0_ := Aside0.mk (IsS25.below (by repeat (first | (with_reducible first | exact HI0.out | apply IsS25.alloc | apply IsS25.drewN | apply IsS25.drew | apply IsS25.set_0 | apply IsS25.set_1 | apply IsS25.set_2 | apply IsS25.set_3 | apply IsS25.set_4 | apply IsS25.set_5 | apply IsS25.set_6 | apply IsS25.set_7 | apply IsS25.set_8) | exact HI0.out)) hb); have n1_ := Aside0.mk (KeepBut.trans (by repeat (first | (with_reducible first | exact HK.out | apply KeepBut.set_ | apply keep_drewN | apply keep_drew | apply keep_alloc) | exact HK.out)) (KeepBut.of_below hb g none) (.inl rfl)); have n2_ := Aside0.mk (below_step (by repeat (first | (with_reducible first | exact HB.out | apply below_alloc | apply pw_below_drewN | apply below_drew1 | refine below_set ?_ (IsS25.ge HI0.out)) | exact HB.out)) hb); clear HI0; clear HK; clear HB; have HI0 := n0_; have HK := n1_; have HB := n2_; clear n0_ n1_ n2_; (try clear hb); (try clear hb2); (try clear hk); (try clear hi)))
    first | go_end0 | ((try simp only [Exit.inBlock, Exit.then]); refine bodyPost_ret (results_none rfl _ _ _) rfl ?_)
    exact ⟨by first | rfl | (simp [errW_none, errW_some] <;> rfl) | (simp [*, errW_none, errW_some] <;> rfl), by repeat (first | (with_reducible first | exact HI0.out | apply IsS25.alloc | apply IsS25.drewN | apply IsS25.drew | apply IsS25.set_0 | apply IsS25.set_1 | apply IsS25.set_2 | apply IsS25.set_3 | apply IsS25.set_4 | apply IsS25.set_5 | apply IsS25.set_6 | apply IsS25.set_7 | apply IsS25.set_8) | exact HI0.out), by repeat (first | (with_reducible first | exact HB.out | apply below_alloc | apply pw_below_drewN | apply below_drew1 | refine below_set ?_ (IsS25.ge HI0.out)) | exact HB.out), by repeat (first | (with_reducible first | exact HK.out | apply KeepBut.set_ | apply keep_drewN | apply keep_drew | apply keep_alloc) | exact HK.out)⟩
  ·
   replace c4 := Bool.eq_false_iff.mpr c4
   subst c4
   have H1 : (some (t191, t192, t193, t194, t195, t196, t197, t198, false)) = some (r1, r2, r3, r4, r5, r6, r7, r8, r9) := by rw [if_neg (show ¬ (false = true) by decide)] at H; exact H
   clear H
   have H := H1
   clear H1
   simp only [Option.some.injEq, Prod.mk.injEq] at H
   obtain ⟨rfl, rfl, rfl, rfl, rfl, rfl, rfl, rfl, rfl⟩ := H
   obtain ⟨HGz16, hgz16⟩ := HI0.out
   have hcz16_0 := cellS25_0 HGz16
   have hcz16_1 := cellS25_1 HGz16
   have hcz16_2 := cellS25_2 HGz16
   have hcz16_3 := cellS25_3 HGz16
   have hcz16_4 := cellS25_4 HGz16
   have hcz16_5 := cellS25_5 HGz16
   have hcz16_6 := cellS25_6 HGz16
   have hcz16_7 := cellS25_7 HGz16
   have hcz16_8 := cellS25_8 HGz16
   have hfz16_0 := blk_frozen HGz16 0
   have hfz16_1 := blk_frozen HGz16 1
   have hfz16_2 := blk_frozen HGz16 2
   have hfz16_3 := blk_frozen HGz16 3
   have hfz16_4 := blk_frozen HGz16 4
   have hfz16_5 := blk_frozen HGz16 5
   have hfz16_6 := blk_frozen HGz16 6
   have hfz16_7 := blk_frozen HGz16 7
   have hfz16_8 := blk_frozen HGz16 8
   clear HGz16 hgz16
   go_enter Try.func38, Try.ntmps38
   go_wp2_with (first | ((with_reducible refine gate_callee (f := 50) rfl ?_); refine goesL_ (some 9) rfl rfl Try.func50 (by kernel_rfl) rfl #[.pointer (some ⟨g, 0, none⟩)] rfl (by (try simp only [List.map_toArray, List.map_cons, List.map_nil]); first | done | rfl | (simp only [List.length_drop, List.length_take]; rfl)) ?_; (with_reducible refine (impl_Pilot_turn.calls g s0_0 s0_1 s0_2 s0_3 s0_4 s0_5 s0_6 s0_7 s0_8 t191 t192 t193 t194 t195 t196 t197 t198 false w0 _ ?side1 ?side2 A3.out).mono ?_); (case side1 => repeat (first | (with_reducible first | exact HI0.out | apply IsS25.alloc | apply IsS25.drewN | apply IsS25.drew | apply IsS25.set_0 | apply IsS25.set_1 | apply IsS25.set_2 | apply IsS25.set_3 | apply IsS25.set_4 | apply IsS25.set_5 | apply IsS25.set_6 | apply IsS25.set_7 | apply IsS25.set_8) | exact HI0.out)); (case side2 => repeat (first | (with_reducible first | exact HB.out | apply below_alloc | apply pw_below_drewN | apply below_drew1 | refine below_set ?_ (IsS25.ge HI0.out)) | exact HB.out)); rintro e w17 ⟨rfl, hi, hb, hk⟩; refine ⟨_, rfl, ?_⟩; have n0_ := Aside0.mk (KeepBut.trans (by repeat (first | (with_reducible first | exact HK.out | apply KeepBut.set_ | apply keep_drewN | apply keep_drew | apply keep_alloc) | exact HK.out)) hk (.inl rfl)); have n1_ := Aside0.mk (hb); have n2_ := Aside0.mk (hi); clear HK; clear HB; clear HI0; have HK := n0_; have HB := n1_; have HI0 := n2_; clear n0_ n1_ n2_; (try clear hb); (try clear hb2); (try clear hk); (try clear hi); obtain ⟨HGz18, hgz18⟩ := HI0.out; have hcz18_0 := cellS25_0 HGz18; have hcz18_1 := cellS25_1 HGz18; have hcz18_2 := cellS25_2 HGz18; have hcz18_3 := cellS25_3 HGz18; have hcz18_4 := cellS25_4 HGz18; have hcz18_5 := cellS25_5 HGz18; have hcz18_6 := cellS25_6 HGz18; have hcz18_7 := cellS25_7 HGz18; have hcz18_8 := cellS25_8 HGz18; have hfz18_0 := blk_frozen HGz18 0; have hfz18_1 := blk_frozen HGz18 1; have hfz18_2 := blk_frozen HGz18 2; have hfz18_3 := blk_frozen HGz18 3; have hfz18_4 := blk_frozen HGz18 4; have hfz18_5 := blk_frozen HGz18 5; have hfz18_6 := blk_frozen HGz18 6; have hfz18_7 := blk_frozen HGz18 7; have hfz18_8 := blk_frozen HGz18 8; clear HGz18 hgz18))
   first | go_end0 | ((try simp only [Exit.inBlock, Exit.then]); refine bodyPost_ret (results_none rfl _ _ _) rfl ?_)
   exact ⟨by first | rfl | (simp [errW_none, errW_some] <;> rfl) | (simp [*, errW_none, errW_some] <;> rfl), by repeat (first | (with_reducible first | exact HI0.out | apply IsS25.alloc | apply IsS25.drewN | apply IsS25.drew | apply IsS25.set_0 | apply IsS25.set_1 | apply IsS25.set_2 | apply IsS25.set_3 | apply IsS25.set_4 | apply IsS25.set_5 | apply IsS25.set_6 | apply IsS25.set_7 | apply IsS25.set_8) | exact HI0.out), by repeat (first | (with_reducible first | exact HB.out | apply below_alloc | apply pw_below_drewN | apply below_drew1 | refine below_set ?_ (IsS25.ge HI0.out)) | exact HB.out), by repeat (first | (with_reducible first | exact HK.out | apply KeepBut.set_ | apply keep_drewN | apply keep_drew | apply keep_alloc) | exact HK.out)⟩
 ·
  rw [if_neg c2] at H
  have c2b0 : (s0_1 == 1) = false := beq_eq_false_iff_ne.mpr c2
  have c2b1 : (s0_1 != 1) = true := bne_iff_ne.mpr c2
  by_cases c19 : s0_1 = 3
  ·
   rw [if_pos c19] at H
   have c19b0 : (s0_1 == 3) = true := beq_iff_eq.mpr c19
   have c19b1 : (s0_1 != 3) = false := bne_eq_false_iff_eq.mpr c19
   clear c19
   replace H := Option.bind_eq_some_iff.mp H
   obtain ⟨t201, A200, H⟩ := H
   replace H : (if (wrap64 (s0_7 - t201)) = 0 then (some (s0_0, 2, s0_2, s0_3, s0_4, s0_5, s0_6, wrap64 (s0_7 - t201), s0_8)) else (some (s0_0, s0_1, s0_2, s0_3, s0_4, s0_5, s0_6, wrap64 (s0_7 - t201), s0_8))) = some (r1, r2, r3, r4, r5, r6, r7, r8, r9) := H
   have A20 := Aside0.mk A200
   clear A200
   by_cases c21 : (wrap64 (s0_7 - t201)) = 0
   ·
    rw [if_pos c21] at H
    have c21b0 : ((wrap64 (s0_7 - t201)) == 0) = true := beq_iff_eq.mpr c21
    have c21b1 : ((wrap64 (s0_7 - t201)) != 0) = false := bne_eq_false_iff_eq.mpr c21
    clear c21
    simp only [Option.some.injEq, Prod.mk.injEq] at H
    obtain ⟨rfl, rfl, rfl, rfl, rfl, rfl, rfl, rfl, rfl⟩ := H
    obtain ⟨HGz22, hgz22⟩ := HI0.out
    have hcz22_0 := cellS25_0 HGz22
    have hcz22_1 := cellS25_1 HGz22
    have hcz22_2 := cellS25_2 HGz22
    have hcz22_3 := cellS25_3 HGz22
    have hcz22_4 := cellS25_4 HGz22
    have hcz22_5 := cellS25_5 HGz22
    have hcz22_6 := cellS25_6 HGz22
    have hcz22_7 := cellS25_7 HGz22
    have hcz22_8 := cellS25_8 HGz22
    have hfz22_0 := blk_frozen HGz22 0
    have hfz22_1 := blk_frozen HGz22 1
    have hfz22_2 := blk_frozen HGz22 2
    have hfz22_3 := blk_frozen HGz22 3
    have hfz22_4 := blk_frozen HGz22 4
    have hfz22_5 := blk_frozen HGz22 5
    have hfz22_6 := blk_frozen HGz22 6
    have hfz22_7 := blk_frozen HGz22 7
    have hfz22_8 := blk_frozen HGz22 8
    clear HGz22 hgz22
    go_enter Try.func38, Try.ntmps38
    try go_wp2
    have n0_ := Aside0.mk (IsS25.drew HI0.out)
    have n1_ := Aside0.mk (keep_drew HK.out)
    have n2_ := Aside0.mk (below_drew1 HB.out)
    clear HI0
    clear HK
    clear HB
    have HI0 := n0_
    have HK := n1_
    have HB := n2_
    clear n0_ n1_ n2_
    refine start_ (n := 13) (S := fun w' => w'.cell? ⟨g, 0, none⟩ = some (.int .i64 s0_0) ∧ w'.cell? ⟨g, 1, none⟩ = some (.int .i64 s0_1) ∧ w'.cell? ⟨g, 2, none⟩ = some (.int .i64 s0_2) ∧ w'.cell? ⟨g, 3, none⟩ = some (.int .i64 s0_3) ∧ w'.cell? ⟨g, 4, none⟩ = some (.int .i64 s0_4) ∧ w'.cell? ⟨g, 5, none⟩ = some (.int .i64 s0_5) ∧ w'.cell? ⟨g, 6, none⟩ = some (.int .i64 s0_6) ∧ w'.cell? ⟨g, 7, none⟩ = some (.int .i64 s0_7) ∧ w'.cell? ⟨g, 8, none⟩ = some (.bool s0_8)) (ds := [12]) #[f6, f6, f6, f6, f6, f6, f6, f6, f6, f6, f6, f6, f6] (by kernel_rfl) rfl rfl ⟨(by obtain ⟨HG_, hg_⟩ := HI0.out; exact cellS25_0 HG_), (by obtain ⟨HG_, hg_⟩ := HI0.out; exact cellS25_1 HG_), (by obtain ⟨HG_, hg_⟩ := HI0.out; exact cellS25_2 HG_), (by obtain ⟨HG_, hg_⟩ := HI0.out; exact cellS25_3 HG_), (by obtain ⟨HG_, hg_⟩ := HI0.out; exact cellS25_4 HG_), (by obtain ⟨HG_, hg_⟩ := HI0.out; exact cellS25_5 HG_), (by obtain ⟨HG_, hg_⟩ := HI0.out; exact cellS25_6 HG_), (by obtain ⟨HG_, hg_⟩ := HI0.out; exact cellS25_7 HG_), (by obtain ⟨HG_, hg_⟩ := HI0.out; exact cellS25_8 HG_)⟩ (fun hHeld => ?_); refine with_tabW impl_Pilot_lateral.tab6 impl_Pilot_lateral.bits6 (fun HT_ HW_ => ?_)
    generalize w.drew = w23 at HI0 HK HB hHeld ⊢
    refine pure_ (i := 0) (N := some 30) (v := ?_) (a' := ?_) #[t6, f6, f6, f6, f6, f6, f6, f6, f6, f6, f6, f6, f6] rfl rfl (any_of HT_.out (by kernel_rfl)) (fun _ _ _ h => h) (Or.inl ⟨by rfl, ?_⟩) ?_ ?_
    rotate_left
    ·
     intro w'
     go_simp
     with_reducible rfl
    rotate_left
    ·
     simp only [Act.put, List.setIfInBounds_toArray, List.set_cons_zero, List.set_cons_succ, i64_w, i32_w]
     rfl
    refine pure_ (i := 1) (N := some 31) (v := ?_) (a' := ?_) #[t6, t6, f6, f6, f6, f6, f6, f6, f6, f6, f6, f6, f6] rfl rfl (any_of HT_.out (by kernel_rfl)) (fun _ _ _ h => h) (Or.inl ⟨by rfl, ?_⟩) ?_ ?_
    rotate_left
    ·
     intro w'
     go_simp
     with_reducible rfl
    rotate_left
    ·
     simp only [Act.put, List.setIfInBounds_toArray, List.set_cons_zero, List.set_cons_succ, i64_w, i32_w]
     rfl
    refine pure_ (i := 2) (N := some 32) (v := ?_) (a' := ?_) #[t6, t6, t6, f6, f6, f6, f6, f6, f6, f6, f6, f6, f6] rfl rfl (any_of HT_.out (by kernel_rfl)) (fun _ _ _ h => h) (Or.inl ⟨by rfl, ?_⟩) ?_ ?_
    rotate_left
    ·
     intro w'
     go_simp
     with_reducible rfl
    rotate_left
    ·
     simp only [Act.put, List.setIfInBounds_toArray, List.set_cons_zero, List.set_cons_succ, i64_w, i32_w]
     rfl
    refine pure_ (i := 4) (N := some 34) (v := ?_) (a' := ?_) #[t6, t6, t6, f6, t6, f6, f6, f6, f6, f6, f6, f6, f6] rfl rfl (any_of HT_.out (by kernel_rfl)) (fun _ _ _ h => h) (Or.inl ⟨by rfl, ?_⟩) ?_ ?_
    rotate_left
    ·
     intro w'
     go_simp
     with_reducible rfl
    rotate_left
    ·
     simp only [Act.put, List.setIfInBounds_toArray, List.set_cons_zero, List.set_cons_succ, i64_w, i32_w]
     rfl
    refine pure_ (i := 5) (N := some 35) (v := ?_) (a' := ?_) #[t6, t6, t6, f6, t6, t6, f6, f6, f6, f6, f6, f6, f6] rfl rfl (any_of HT_.out (by kernel_rfl)) (fun _ _ _ h => h) (Or.inl ⟨by rfl, ?_⟩) ?_ ?_
    rotate_left
    ·
     intro w'
     go_simp
     with_reducible rfl
    rotate_left
    ·
     simp only [Act.put, List.setIfInBounds_toArray, List.set_cons_zero, List.set_cons_succ, i64_w, i32_w]
     rfl
    refine pure_ (i := 6) (N := some 36) (v := ?_) (a' := ?_) #[t6, t6, t6, f6, t6, t6, t6, f6, f6, f6, f6, f6, f6] rfl rfl (any_of HT_.out (by kernel_rfl)) (fun _ _ _ h => h) (Or.inl ⟨by rfl, ?_⟩) ?_ ?_
    rotate_left
    ·
     intro w'
     go_simp
     with_reducible rfl
    rotate_left
    ·
     simp only [Act.put, List.setIfInBounds_toArray, List.set_cons_zero, List.set_cons_succ, i64_w, i32_w]
     rfl
    refine take_ (i := 3) (N := some 33) (v := ?_) (a' := ?_) #[t6, t6, t6, t6, t6, t6, t6, f6, f6, f6, f6, f6, f6] rfl rfl (take_ofW HT_.out HW_.out (by kernel_rfl)) (fun _ _ _ h => h) (Or.inl ⟨by rfl, ?_⟩) hHeld ?_ ?_
    rotate_left
    ·
     rintro w' ⟨s0, s1, s2, s3, s4, s5, s6, s7, s8⟩
     go_simp
     with_reducible rfl
    rotate_left
    ·
     simp only [Act.put, List.setIfInBounds_toArray, List.set_cons_zero, List.set_cons_succ, i64_w, i32_w]
     rfl
    refine take_ (i := 7) (N := some 37) (v := ?_) (a' := ?_) #[t6, t6, t6, t6, t6, t6, t6, t6, f6, f6, f6, f6, f6] rfl rfl (take_ofW HT_.out HW_.out (by kernel_rfl)) (fun _ _ _ h => h) (Or.inl ⟨by rfl, ?_⟩) hHeld ?_ ?_
    rotate_left
    ·
     rintro w' ⟨s0, s1, s2, s3, s4, s5, s6, s7, s8⟩
     go_simp
     with_reducible rfl
    rotate_left
    ·
     simp only [Act.put, List.setIfInBounds_toArray, List.set_cons_zero, List.set_cons_succ, i64_w, i32_w]
     rfl
    refine one_ (i := 8) (N := some 38) #[t6, t6, t6, t6, t6, t6, t6, t6, t6, f6, f6, f6, f6] rfl rfl (one_of HT_.out (by kernel_rfl)) (by decide) (fun K hK => ?_)
    refine goes_ Try.func37 (by kernel_rfl) rfl #[.int .i64 s0_7, .int .i64 (-10), .int .i64 10] (by rfl) rfl rfl (by (try simp only [List.map_toArray, List.map_cons, List.map_nil]); first | done | rfl | (simp only [List.length_drop, List.length_take]; rfl)) ?_
    with_reducible refine (impl_held.calls s0_7 (-10) 10 t201 _ A20.out).mono ?_
    rintro e w24 ⟨rfl, hb⟩
    refine ⟨_, rfl, ?_⟩
    have n0_ := Aside0.mk (IsS25.below (by repeat (first | (with_reducible first | exact HI0.out | apply IsS25.alloc | apply IsS25.drewN | apply IsS25.drew | apply IsS25.set_0 | apply IsS25.set_1 | apply IsS25.set_2 | apply IsS25.set_3 | apply IsS25.set_4 | apply IsS25.set_5 | apply IsS25.set_6 | apply IsS25.set_7 | apply IsS25.set_8) | exact HI0.out)) hb)
    have n1_ := Aside0.mk (KeepBut.trans (by repeat (first | (with_reducible first | exact HK.out | apply KeepBut.set_ | apply keep_drewN | apply keep_drew | apply keep_alloc) | exact HK.out)) (KeepBut.of_below hb g none) (.inl rfl))
    have n2_ := Aside0.mk (below_step (by repeat (first | (with_reducible first | exact HB.out | apply below_alloc | apply pw_below_drewN | apply below_drew1 | refine below_set ?_ (IsS25.ge HI0.out)) | exact HB.out)) hb)
    clear HI0
    clear HK
    clear HB
    have HI0 := n0_
    have HK := n1_
    have HB := n2_
    clear n0_ n1_ n2_
    (try clear hb)
    (try clear hb2)
    (try clear hk)
    (try clear hi)
    refine hK.out _ _ ⟨(by obtain ⟨HG_, hg_⟩ := HI0.out; exact cellS25_0 HG_), (by obtain ⟨HG_, hg_⟩ := HI0.out; exact cellS25_1 HG_), (by obtain ⟨HG_, hg_⟩ := HI0.out; exact cellS25_2 HG_), (by obtain ⟨HG_, hg_⟩ := HI0.out; exact cellS25_3 HG_), (by obtain ⟨HG_, hg_⟩ := HI0.out; exact cellS25_4 HG_), (by obtain ⟨HG_, hg_⟩ := HI0.out; exact cellS25_5 HG_), (by obtain ⟨HG_, hg_⟩ := HI0.out; exact cellS25_6 HG_), (by obtain ⟨HG_, hg_⟩ := HI0.out; exact cellS25_7 HG_), (by obtain ⟨HG_, hg_⟩ := HI0.out; exact cellS25_8 HG_)⟩ (fun hHeld => ?_)
    clear hK K
    refine norm_ (a' := ?_) ?_ ?_
    rotate_left
    ·
     show Act.put _ (some 38) _ = _
     simp only [Act.put, List.setIfInBounds_toArray, List.set_cons_zero, List.set_cons_succ, i64_w, i32_w]
     rfl
    refine pure_ (i := 9) (N := some 39) (v := ?_) (a' := ?_) #[t6, t6, t6, t6, t6, t6, t6, t6, t6, t6, f6, f6, f6] rfl rfl (any_of HT_.out (by kernel_rfl)) (fun _ _ _ h => h) (Or.inl ⟨by rfl, ?_⟩) ?_ ?_
    rotate_left
    ·
     intro w'
     go_simp
     with_reducible rfl
    rotate_left
    ·
     simp only [Act.put, List.setIfInBounds_toArray, List.set_cons_zero, List.set_cons_succ, i64_w, i32_w]
     rfl
    refine pure_ (i := 10) (N := some 40) (v := ?_) (a' := ?_) #[t6, t6, t6, t6, t6, t6, t6, t6, t6, t6, t6, f6, f6] rfl rfl (any_of HT_.out (by kernel_rfl)) (fun _ _ _ h => h) (Or.inl ⟨by rfl, ?_⟩) ?_ ?_
    rotate_left
    ·
     intro w'
     go_simp
     with_reducible rfl
    rotate_left
    ·
     simp only [Act.put, List.setIfInBounds_toArray, List.set_cons_zero, List.set_cons_succ, i64_w, i32_w]
     rfl
    refine pure_ (i := 11) (N := some 41) (v := ?_) (a' := ?_) #[t6, t6, t6, t6, t6, t6, t6, t6, t6, t6, t6, t6, f6] rfl rfl (any_of HT_.out (by kernel_rfl)) (fun _ _ _ h => h) (Or.inl ⟨by rfl, ?_⟩) ?_ ?_
    rotate_left
    ·
     intro w'
     go_simp
     with_reducible rfl
    rotate_left
    ·
     simp only [Act.put, List.setIfInBounds_toArray, List.set_cons_zero, List.set_cons_succ, i64_w, i32_w]
     rfl
    refine last_ (i := 12) (N := none) #[t6, t6, t6, t6, t6, t6, t6, t6, t6, t6, t6, t6, t6] rfl rfl (one_of HT_.out (by kernel_rfl)) (by decide) (fun K hK => ?_)
    have hs25 := (by obtain ⟨HG_, hg_⟩ := HI0.out; exact cellS25_7 HG_ : w24.cell? ⟨g, 7, none⟩ = some _)
    have hfs25 := (by obtain ⟨HG_, hg_⟩ := HI0.out; exact blk_frozen HG_ 7 : w24.frozen? ⟨g, 7, none⟩ = false)
    refine skip_ (w1 := ?_) (by rfl) rfl ?_ ?_
    rotate_left
    ·
     go_simp
     rfl
    refine hK.out _ _ ?_
    clear hK K
    refine done_ (done_of HT_.out (by kernel_rfl)) ?_
    obtain ⟨HGz26, hgz26⟩ := HI0.out
    have hcz26_0 := cellS25_0 HGz26
    have hcz26_1 := cellS25_1 HGz26
    have hcz26_2 := cellS25_2 HGz26
    have hcz26_3 := cellS25_3 HGz26
    have hcz26_4 := cellS25_4 HGz26
    have hcz26_5 := cellS25_5 HGz26
    have hcz26_6 := cellS25_6 HGz26
    have hcz26_7 := cellS25_7 HGz26
    have hcz26_8 := cellS25_8 HGz26
    have hfz26_0 := blk_frozen HGz26 0
    have hfz26_1 := blk_frozen HGz26 1
    have hfz26_2 := blk_frozen HGz26 2
    have hfz26_3 := blk_frozen HGz26 3
    have hfz26_4 := blk_frozen HGz26 4
    have hfz26_5 := blk_frozen HGz26 5
    have hfz26_6 := blk_frozen HGz26 6
    have hfz26_7 := blk_frozen HGz26 7
    have hfz26_8 := blk_frozen HGz26 8
    clear HGz26 hgz26
    try go_wp2
    first | go_end0 | ((try simp only [Exit.inBlock, Exit.then]); refine bodyPost_ret (results_none rfl _ _ _) rfl ?_)
    exact ⟨by first | rfl | (simp [errW_none, errW_some] <;> rfl) | (simp [*, errW_none, errW_some] <;> rfl), by repeat (first | (with_reducible first | exact HI0.out | apply IsS25.alloc | apply IsS25.drewN | apply IsS25.drew | apply IsS25.set_0 | apply IsS25.set_1 | apply IsS25.set_2 | apply IsS25.set_3 | apply IsS25.set_4 | apply IsS25.set_5 | apply IsS25.set_6 | apply IsS25.set_7 | apply IsS25.set_8) | exact HI0.out), by repeat (first | (with_reducible first | exact HB.out | apply below_alloc | apply pw_below_drewN | apply below_drew1 | refine below_set ?_ (IsS25.ge HI0.out)) | exact HB.out), by repeat (first | (with_reducible first | exact HK.out | apply KeepBut.set_ | apply keep_drewN | apply keep_drew | apply keep_alloc) | exact HK.out)⟩
   ·
    rw [if_neg c21] at H
    have c21b0 : ((wrap64 (s0_7 - t201)) == 0) = false := beq_eq_false_iff_ne.mpr c21
    have c21b1 : ((wrap64 (s0_7 - t201)) != 0) = true := bne_iff_ne.mpr c21
    simp only [Option.some.injEq, Prod.mk.injEq] at H
    obtain ⟨rfl, rfl, rfl, rfl, rfl, rfl, rfl, rfl, rfl⟩ := H
    obtain ⟨HGz27, hgz27⟩ := HI0.out
    have hcz27_0 := cellS25_0 HGz27
    have hcz27_1 := cellS25_1 HGz27
    have hcz27_2 := cellS25_2 HGz27
    have hcz27_3 := cellS25_3 HGz27
    have hcz27_4 := cellS25_4 HGz27
    have hcz27_5 := cellS25_5 HGz27
    have hcz27_6 := cellS25_6 HGz27
    have hcz27_7 := cellS25_7 HGz27
    have hcz27_8 := cellS25_8 HGz27
    have hfz27_0 := blk_frozen HGz27 0
    have hfz27_1 := blk_frozen HGz27 1
    have hfz27_2 := blk_frozen HGz27 2
    have hfz27_3 := blk_frozen HGz27 3
    have hfz27_4 := blk_frozen HGz27 4
    have hfz27_5 := blk_frozen HGz27 5
    have hfz27_6 := blk_frozen HGz27 6
    have hfz27_7 := blk_frozen HGz27 7
    have hfz27_8 := blk_frozen HGz27 8
    clear HGz27 hgz27
    go_enter Try.func38, Try.ntmps38
    try go_wp2
    have n0_ := Aside0.mk (IsS25.drew HI0.out)
    have n1_ := Aside0.mk (keep_drew HK.out)
    have n2_ := Aside0.mk (below_drew1 HB.out)
    clear HI0
    clear HK
    clear HB
    have HI0 := n0_
    have HK := n1_
    have HB := n2_
    clear n0_ n1_ n2_
    refine start_ (n := 13) (S := fun w' => w'.cell? ⟨g, 0, none⟩ = some (.int .i64 s0_0) ∧ w'.cell? ⟨g, 1, none⟩ = some (.int .i64 s0_1) ∧ w'.cell? ⟨g, 2, none⟩ = some (.int .i64 s0_2) ∧ w'.cell? ⟨g, 3, none⟩ = some (.int .i64 s0_3) ∧ w'.cell? ⟨g, 4, none⟩ = some (.int .i64 s0_4) ∧ w'.cell? ⟨g, 5, none⟩ = some (.int .i64 s0_5) ∧ w'.cell? ⟨g, 6, none⟩ = some (.int .i64 s0_6) ∧ w'.cell? ⟨g, 7, none⟩ = some (.int .i64 s0_7) ∧ w'.cell? ⟨g, 8, none⟩ = some (.bool s0_8)) (ds := [12]) #[f6, f6, f6, f6, f6, f6, f6, f6, f6, f6, f6, f6, f6] (by kernel_rfl) rfl rfl ⟨(by obtain ⟨HG_, hg_⟩ := HI0.out; exact cellS25_0 HG_), (by obtain ⟨HG_, hg_⟩ := HI0.out; exact cellS25_1 HG_), (by obtain ⟨HG_, hg_⟩ := HI0.out; exact cellS25_2 HG_), (by obtain ⟨HG_, hg_⟩ := HI0.out; exact cellS25_3 HG_), (by obtain ⟨HG_, hg_⟩ := HI0.out; exact cellS25_4 HG_), (by obtain ⟨HG_, hg_⟩ := HI0.out; exact cellS25_5 HG_), (by obtain ⟨HG_, hg_⟩ := HI0.out; exact cellS25_6 HG_), (by obtain ⟨HG_, hg_⟩ := HI0.out; exact cellS25_7 HG_), (by obtain ⟨HG_, hg_⟩ := HI0.out; exact cellS25_8 HG_)⟩ (fun hHeld => ?_); refine with_tabW impl_Pilot_lateral.tab6 impl_Pilot_lateral.bits6 (fun HT_ HW_ => ?_)
    generalize w.drew = w28 at HI0 HK HB hHeld ⊢
    refine pure_ (i := 0) (N := some 30) (v := ?_) (a' := ?_) #[t6, f6, f6, f6, f6, f6, f6, f6, f6, f6, f6, f6, f6] rfl rfl (any_of HT_.out (by kernel_rfl)) (fun _ _ _ h => h) (Or.inl ⟨by rfl, ?_⟩) ?_ ?_
    rotate_left
    ·
     intro w'
     go_simp
     with_reducible rfl
    rotate_left
    ·
     simp only [Act.put, List.setIfInBounds_toArray, List.set_cons_zero, List.set_cons_succ, i64_w, i32_w]
     rfl
    refine pure_ (i := 1) (N := some 31) (v := ?_) (a' := ?_) #[t6, t6, f6, f6, f6, f6, f6, f6, f6, f6, f6, f6, f6] rfl rfl (any_of HT_.out (by kernel_rfl)) (fun _ _ _ h => h) (Or.inl ⟨by rfl, ?_⟩) ?_ ?_
    rotate_left
    ·
     intro w'
     go_simp
     with_reducible rfl
    rotate_left
    ·
     simp only [Act.put, List.setIfInBounds_toArray, List.set_cons_zero, List.set_cons_succ, i64_w, i32_w]
     rfl
    refine pure_ (i := 2) (N := some 32) (v := ?_) (a' := ?_) #[t6, t6, t6, f6, f6, f6, f6, f6, f6, f6, f6, f6, f6] rfl rfl (any_of HT_.out (by kernel_rfl)) (fun _ _ _ h => h) (Or.inl ⟨by rfl, ?_⟩) ?_ ?_
    rotate_left
    ·
     intro w'
     go_simp
     with_reducible rfl
    rotate_left
    ·
     simp only [Act.put, List.setIfInBounds_toArray, List.set_cons_zero, List.set_cons_succ, i64_w, i32_w]
     rfl
    refine pure_ (i := 4) (N := some 34) (v := ?_) (a' := ?_) #[t6, t6, t6, f6, t6, f6, f6, f6, f6, f6, f6, f6, f6] rfl rfl (any_of HT_.out (by kernel_rfl)) (fun _ _ _ h => h) (Or.inl ⟨by rfl, ?_⟩) ?_ ?_
    rotate_left
    ·
     intro w'
     go_simp
     with_reducible rfl
    rotate_left
    ·
     simp only [Act.put, List.setIfInBounds_toArray, List.set_cons_zero, List.set_cons_succ, i64_w, i32_w]
     rfl
    refine pure_ (i := 5) (N := some 35) (v := ?_) (a' := ?_) #[t6, t6, t6, f6, t6, t6, f6, f6, f6, f6, f6, f6, f6] rfl rfl (any_of HT_.out (by kernel_rfl)) (fun _ _ _ h => h) (Or.inl ⟨by rfl, ?_⟩) ?_ ?_
    rotate_left
    ·
     intro w'
     go_simp
     with_reducible rfl
    rotate_left
    ·
     simp only [Act.put, List.setIfInBounds_toArray, List.set_cons_zero, List.set_cons_succ, i64_w, i32_w]
     rfl
    refine pure_ (i := 6) (N := some 36) (v := ?_) (a' := ?_) #[t6, t6, t6, f6, t6, t6, t6, f6, f6, f6, f6, f6, f6] rfl rfl (any_of HT_.out (by kernel_rfl)) (fun _ _ _ h => h) (Or.inl ⟨by rfl, ?_⟩) ?_ ?_
    rotate_left
    ·
     intro w'
     go_simp
     with_reducible rfl
    rotate_left
    ·
     simp only [Act.put, List.setIfInBounds_toArray, List.set_cons_zero, List.set_cons_succ, i64_w, i32_w]
     rfl
    refine take_ (i := 3) (N := some 33) (v := ?_) (a' := ?_) #[t6, t6, t6, t6, t6, t6, t6, f6, f6, f6, f6, f6, f6] rfl rfl (take_ofW HT_.out HW_.out (by kernel_rfl)) (fun _ _ _ h => h) (Or.inl ⟨by rfl, ?_⟩) hHeld ?_ ?_
    rotate_left
    ·
     rintro w' ⟨s0, s1, s2, s3, s4, s5, s6, s7, s8⟩
     go_simp
     with_reducible rfl
    rotate_left
    ·
     simp only [Act.put, List.setIfInBounds_toArray, List.set_cons_zero, List.set_cons_succ, i64_w, i32_w]
     rfl
    refine take_ (i := 7) (N := some 37) (v := ?_) (a' := ?_) #[t6, t6, t6, t6, t6, t6, t6, t6, f6, f6, f6, f6, f6] rfl rfl (take_ofW HT_.out HW_.out (by kernel_rfl)) (fun _ _ _ h => h) (Or.inl ⟨by rfl, ?_⟩) hHeld ?_ ?_
    rotate_left
    ·
     rintro w' ⟨s0, s1, s2, s3, s4, s5, s6, s7, s8⟩
     go_simp
     with_reducible rfl
    rotate_left
    ·
     simp only [Act.put, List.setIfInBounds_toArray, List.set_cons_zero, List.set_cons_succ, i64_w, i32_w]
     rfl
    refine one_ (i := 8) (N := some 38) #[t6, t6, t6, t6, t6, t6, t6, t6, t6, f6, f6, f6, f6] rfl rfl (one_of HT_.out (by kernel_rfl)) (by decide) (fun K hK => ?_)
    refine goes_ Try.func37 (by kernel_rfl) rfl #[.int .i64 s0_7, .int .i64 (-10), .int .i64 10] (by rfl) rfl rfl (by (try simp only [List.map_toArray, List.map_cons, List.map_nil]); first | done | rfl | (simp only [List.length_drop, List.length_take]; rfl)) ?_
    with_reducible refine (impl_held.calls s0_7 (-10) 10 t201 _ A20.out).mono ?_
    rintro e w29 ⟨rfl, hb⟩
    refine ⟨_, rfl, ?_⟩
    have n0_ := Aside0.mk (IsS25.below (by repeat (first | (with_reducible first | exact HI0.out | apply IsS25.alloc | apply IsS25.drewN | apply IsS25.drew | apply IsS25.set_0 | apply IsS25.set_1 | apply IsS25.set_2 | apply IsS25.set_3 | apply IsS25.set_4 | apply IsS25.set_5 | apply IsS25.set_6 | apply IsS25.set_7 | apply IsS25.set_8) | exact HI0.out)) hb)
    have n1_ := Aside0.mk (KeepBut.trans (by repeat (first | (with_reducible first | exact HK.out | apply KeepBut.set_ | apply keep_drewN | apply keep_drew | apply keep_alloc) | exact HK.out)) (KeepBut.of_below hb g none) (.inl rfl))
    have n2_ := Aside0.mk (below_step (by repeat (first | (with_reducible first | exact HB.out | apply below_alloc | apply pw_below_drewN | apply below_drew1 | refine below_set ?_ (IsS25.ge HI0.out)) | exact HB.out)) hb)
    clear HI0
    clear HK
    clear HB
    have HI0 := n0_
    have HK := n1_
    have HB := n2_
    clear n0_ n1_ n2_
    (try clear hb)
    (try clear hb2)
    (try clear hk)
    (try clear hi)
    refine hK.out _ _ ⟨(by obtain ⟨HG_, hg_⟩ := HI0.out; exact cellS25_0 HG_), (by obtain ⟨HG_, hg_⟩ := HI0.out; exact cellS25_1 HG_), (by obtain ⟨HG_, hg_⟩ := HI0.out; exact cellS25_2 HG_), (by obtain ⟨HG_, hg_⟩ := HI0.out; exact cellS25_3 HG_), (by obtain ⟨HG_, hg_⟩ := HI0.out; exact cellS25_4 HG_), (by obtain ⟨HG_, hg_⟩ := HI0.out; exact cellS25_5 HG_), (by obtain ⟨HG_, hg_⟩ := HI0.out; exact cellS25_6 HG_), (by obtain ⟨HG_, hg_⟩ := HI0.out; exact cellS25_7 HG_), (by obtain ⟨HG_, hg_⟩ := HI0.out; exact cellS25_8 HG_)⟩ (fun hHeld => ?_)
    clear hK K
    refine norm_ (a' := ?_) ?_ ?_
    rotate_left
    ·
     show Act.put _ (some 38) _ = _
     simp only [Act.put, List.setIfInBounds_toArray, List.set_cons_zero, List.set_cons_succ, i64_w, i32_w]
     rfl
    refine pure_ (i := 9) (N := some 39) (v := ?_) (a' := ?_) #[t6, t6, t6, t6, t6, t6, t6, t6, t6, t6, f6, f6, f6] rfl rfl (any_of HT_.out (by kernel_rfl)) (fun _ _ _ h => h) (Or.inl ⟨by rfl, ?_⟩) ?_ ?_
    rotate_left
    ·
     intro w'
     go_simp
     with_reducible rfl
    rotate_left
    ·
     simp only [Act.put, List.setIfInBounds_toArray, List.set_cons_zero, List.set_cons_succ, i64_w, i32_w]
     rfl
    refine pure_ (i := 10) (N := some 40) (v := ?_) (a' := ?_) #[t6, t6, t6, t6, t6, t6, t6, t6, t6, t6, t6, f6, f6] rfl rfl (any_of HT_.out (by kernel_rfl)) (fun _ _ _ h => h) (Or.inl ⟨by rfl, ?_⟩) ?_ ?_
    rotate_left
    ·
     intro w'
     go_simp
     with_reducible rfl
    rotate_left
    ·
     simp only [Act.put, List.setIfInBounds_toArray, List.set_cons_zero, List.set_cons_succ, i64_w, i32_w]
     rfl
    refine pure_ (i := 11) (N := some 41) (v := ?_) (a' := ?_) #[t6, t6, t6, t6, t6, t6, t6, t6, t6, t6, t6, t6, f6] rfl rfl (any_of HT_.out (by kernel_rfl)) (fun _ _ _ h => h) (Or.inl ⟨by rfl, ?_⟩) ?_ ?_
    rotate_left
    ·
     intro w'
     go_simp
     with_reducible rfl
    rotate_left
    ·
     simp only [Act.put, List.setIfInBounds_toArray, List.set_cons_zero, List.set_cons_succ, i64_w, i32_w]
     rfl
    refine last_ (i := 12) (N := none) #[t6, t6, t6, t6, t6, t6, t6, t6, t6, t6, t6, t6, t6] rfl rfl (one_of HT_.out (by kernel_rfl)) (by decide) (fun K hK => ?_)
    have hs30 := (by obtain ⟨HG_, hg_⟩ := HI0.out; exact cellS25_7 HG_ : w29.cell? ⟨g, 7, none⟩ = some _)
    have hfs30 := (by obtain ⟨HG_, hg_⟩ := HI0.out; exact blk_frozen HG_ 7 : w29.frozen? ⟨g, 7, none⟩ = false)
    refine skip_ (w1 := ?_) (by rfl) rfl ?_ ?_
    rotate_left
    ·
     go_simp
     rfl
    refine hK.out _ _ ?_
    clear hK K
    refine done_ (done_of HT_.out (by kernel_rfl)) ?_
    obtain ⟨HGz31, hgz31⟩ := HI0.out
    have hcz31_0 := cellS25_0 HGz31
    have hcz31_1 := cellS25_1 HGz31
    have hcz31_2 := cellS25_2 HGz31
    have hcz31_3 := cellS25_3 HGz31
    have hcz31_4 := cellS25_4 HGz31
    have hcz31_5 := cellS25_5 HGz31
    have hcz31_6 := cellS25_6 HGz31
    have hcz31_7 := cellS25_7 HGz31
    have hcz31_8 := cellS25_8 HGz31
    have hfz31_0 := blk_frozen HGz31 0
    have hfz31_1 := blk_frozen HGz31 1
    have hfz31_2 := blk_frozen HGz31 2
    have hfz31_3 := blk_frozen HGz31 3
    have hfz31_4 := blk_frozen HGz31 4
    have hfz31_5 := blk_frozen HGz31 5
    have hfz31_6 := blk_frozen HGz31 6
    have hfz31_7 := blk_frozen HGz31 7
    have hfz31_8 := blk_frozen HGz31 8
    clear HGz31 hgz31
    try go_wp2
    first | go_end0 | ((try simp only [Exit.inBlock, Exit.then]); refine bodyPost_ret (results_none rfl _ _ _) rfl ?_)
    exact ⟨by first | rfl | (simp [errW_none, errW_some] <;> rfl) | (simp [*, errW_none, errW_some] <;> rfl), by repeat (first | (with_reducible first | exact HI0.out | apply IsS25.alloc | apply IsS25.drewN | apply IsS25.drew | apply IsS25.set_0 | apply IsS25.set_1 | apply IsS25.set_2 | apply IsS25.set_3 | apply IsS25.set_4 | apply IsS25.set_5 | apply IsS25.set_6 | apply IsS25.set_7 | apply IsS25.set_8) | exact HI0.out), by repeat (first | (with_reducible first | exact HB.out | apply below_alloc | apply pw_below_drewN | apply below_drew1 | refine below_set ?_ (IsS25.ge HI0.out)) | exact HB.out), by repeat (first | (with_reducible first | exact HK.out | apply KeepBut.set_ | apply keep_drewN | apply keep_drew | apply keep_alloc) | exact HK.out)⟩
  ·
   rw [if_neg c19] at H
   have c19b0 : (s0_1 == 3) = false := beq_eq_false_iff_ne.mpr c19
   have c19b1 : (s0_1 != 3) = true := bne_iff_ne.mpr c19
   by_cases c32 : s0_1 = 2
   ·
    rw [if_pos c32] at H
    have c32b0 : (s0_1 == 2) = true := beq_iff_eq.mpr c32
    have c32b1 : (s0_1 != 2) = false := bne_eq_false_iff_eq.mpr c32
    clear c32
    replace H := Option.bind_eq_some_iff.mp H
    obtain ⟨t202, A330, H⟩ := H
    replace H : (if t202 ≤ 20 then (some (s0_0, s0_1, s0_2, s0_3, s0_4, s0_5, s0_6, 0, s0_8)) else (some (s0_0, 3, s0_2, s0_3, s0_4, s0_5, s0_6, s0_7, s0_8))) = some (r1, r2, r3, r4, r5, r6, r7, r8, r9) := H
    have A33 := Aside0.mk A330
    clear A330
    by_cases c34 : t202 ≤ 20
    ·
     rw [if_pos c34] at H
     have c34b0 : decide (t202 ≤ 20) = true := decide_eq_true c34
     clear c34
     simp only [Option.some.injEq, Prod.mk.injEq] at H
     obtain ⟨rfl, rfl, rfl, rfl, rfl, rfl, rfl, rfl, rfl⟩ := H
     obtain ⟨HGz35, hgz35⟩ := HI0.out
     have hcz35_0 := cellS25_0 HGz35
     have hcz35_1 := cellS25_1 HGz35
     have hcz35_2 := cellS25_2 HGz35
     have hcz35_3 := cellS25_3 HGz35
     have hcz35_4 := cellS25_4 HGz35
     have hcz35_5 := cellS25_5 HGz35
     have hcz35_6 := cellS25_6 HGz35
     have hcz35_7 := cellS25_7 HGz35
     have hcz35_8 := cellS25_8 HGz35
     have hfz35_0 := blk_frozen HGz35 0
     have hfz35_1 := blk_frozen HGz35 1
     have hfz35_2 := blk_frozen HGz35 2
     have hfz35_3 := blk_frozen HGz35 3
     have hfz35_4 := blk_frozen HGz35 4
     have hfz35_5 := blk_frozen HGz35 5
     have hfz35_6 := blk_frozen HGz35 6
     have hfz35_7 := blk_frozen HGz35 7
     have hfz35_8 := blk_frozen HGz35 8
     clear HGz35 hgz35
     go_enter Try.func38, Try.ntmps38
     go_wp2_with (first | ((with_reducible refine gate_callee (f := 48) rfl ?_); refine goesL_ (some 56) rfl rfl Try.func48 (by kernel_rfl) rfl #[.int .i64 s0_7] rfl (by (try simp only [List.map_toArray, List.map_cons, List.map_nil]); first | done | rfl | (simp only [List.length_drop, List.length_take]; rfl)) ?_; (with_reducible refine (impl_size.calls s0_7 t202 _ A33.out).mono ?_); rintro e w36 ⟨rfl, hb⟩; refine ⟨_, rfl, ?_⟩; have n0_ := Aside0.mk (IsS25.below (by repeat (first | (with_reducible first | exact HI0.out | apply IsS25.alloc | apply IsS25.drewN | apply IsS25.drew | apply IsS25.set_0 | apply IsS25.set_1 | apply IsS25.set_2 | apply IsS25.set_3 | apply IsS25.set_4 | apply IsS25.set_5 | apply IsS25.set_6 | apply IsS25.set_7 | apply IsS25.set_8) | exact HI0.out)) hb); have n1_ := Aside0.mk (KeepBut.trans (by repeat (first | (with_reducible first | exact HK.out | apply KeepBut.set_ | apply keep_drewN | apply keep_drew | apply keep_alloc) | exact HK.out)) (KeepBut.of_below hb g none) (.inl rfl)); have n2_ := Aside0.mk (below_step (by repeat (first | (with_reducible first | exact HB.out | apply below_alloc | apply pw_below_drewN | apply below_drew1 | refine below_set ?_ (IsS25.ge HI0.out)) | exact HB.out)) hb); clear HI0; clear HK; clear HB; have HI0 := n0_; have HK := n1_; have HB := n2_; clear n0_ n1_ n2_; (try clear hb); (try clear hb2); (try clear hk); (try clear hi); obtain ⟨HGz37, hgz37⟩ := HI0.out; have hcz37_0 := cellS25_0 HGz37; have hcz37_1 := cellS25_1 HGz37; have hcz37_2 := cellS25_2 HGz37; have hcz37_3 := cellS25_3 HGz37; have hcz37_4 := cellS25_4 HGz37; have hcz37_5 := cellS25_5 HGz37; have hcz37_6 := cellS25_6 HGz37; have hcz37_7 := cellS25_7 HGz37; have hcz37_8 := cellS25_8 HGz37; have hfz37_0 := blk_frozen HGz37 0; have hfz37_1 := blk_frozen HGz37 1; have hfz37_2 := blk_frozen HGz37 2; have hfz37_3 := blk_frozen HGz37 3; have hfz37_4 := blk_frozen HGz37 4; have hfz37_5 := blk_frozen HGz37 5; have hfz37_6 := blk_frozen HGz37 6; have hfz37_7 := blk_frozen HGz37 7; have hfz37_8 := blk_frozen HGz37 8; clear HGz37 hgz37))
     first | go_end0 | ((try simp only [Exit.inBlock, Exit.then]); refine bodyPost_ret (results_none rfl _ _ _) rfl ?_)
     exact ⟨by first | rfl | (simp [errW_none, errW_some] <;> rfl) | (simp [*, errW_none, errW_some] <;> rfl), by repeat (first | (with_reducible first | exact HI0.out | apply IsS25.alloc | apply IsS25.drewN | apply IsS25.drew | apply IsS25.set_0 | apply IsS25.set_1 | apply IsS25.set_2 | apply IsS25.set_3 | apply IsS25.set_4 | apply IsS25.set_5 | apply IsS25.set_6 | apply IsS25.set_7 | apply IsS25.set_8) | exact HI0.out), by repeat (first | (with_reducible first | exact HB.out | apply below_alloc | apply pw_below_drewN | apply below_drew1 | refine below_set ?_ (IsS25.ge HI0.out)) | exact HB.out), by repeat (first | (with_reducible first | exact HK.out | apply KeepBut.set_ | apply keep_drewN | apply keep_drew | apply keep_alloc) | exact HK.out)⟩
    ·
     rw [if_neg c34] at H
     have c34b0 : decide (t202 ≤ 20) = false := decide_eq_false c34
     clear c34
     simp only [Option.some.injEq, Prod.mk.injEq] at H
     obtain ⟨rfl, rfl, rfl, rfl, rfl, rfl, rfl, rfl, rfl⟩ := H
     obtain ⟨HGz38, hgz38⟩ := HI0.out
     have hcz38_0 := cellS25_0 HGz38
     have hcz38_1 := cellS25_1 HGz38
     have hcz38_2 := cellS25_2 HGz38
     have hcz38_3 := cellS25_3 HGz38
     have hcz38_4 := cellS25_4 HGz38
     have hcz38_5 := cellS25_5 HGz38
     have hcz38_6 := cellS25_6 HGz38
     have hcz38_7 := cellS25_7 HGz38
     have hcz38_8 := cellS25_8 HGz38
     have hfz38_0 := blk_frozen HGz38 0
     have hfz38_1 := blk_frozen HGz38 1
     have hfz38_2 := blk_frozen HGz38 2
     have hfz38_3 := blk_frozen HGz38 3
     have hfz38_4 := blk_frozen HGz38 4
     have hfz38_5 := blk_frozen HGz38 5
     have hfz38_6 := blk_frozen HGz38 6
     have hfz38_7 := blk_frozen HGz38 7
     have hfz38_8 := blk_frozen HGz38 8
     clear HGz38 hgz38
     go_enter Try.func38, Try.ntmps38
     go_wp2_with (first | ((with_reducible refine gate_callee (f := 48) rfl ?_); refine goesL_ (some 56) rfl rfl Try.func48 (by kernel_rfl) rfl #[.int .i64 s0_7] rfl (by (try simp only [List.map_toArray, List.map_cons, List.map_nil]); first | done | rfl | (simp only [List.length_drop, List.length_take]; rfl)) ?_; (with_reducible refine (impl_size.calls s0_7 t202 _ A33.out).mono ?_); rintro e w39 ⟨rfl, hb⟩; refine ⟨_, rfl, ?_⟩; have n0_ := Aside0.mk (IsS25.below (by repeat (first | (with_reducible first | exact HI0.out | apply IsS25.alloc | apply IsS25.drewN | apply IsS25.drew | apply IsS25.set_0 | apply IsS25.set_1 | apply IsS25.set_2 | apply IsS25.set_3 | apply IsS25.set_4 | apply IsS25.set_5 | apply IsS25.set_6 | apply IsS25.set_7 | apply IsS25.set_8) | exact HI0.out)) hb); have n1_ := Aside0.mk (KeepBut.trans (by repeat (first | (with_reducible first | exact HK.out | apply KeepBut.set_ | apply keep_drewN | apply keep_drew | apply keep_alloc) | exact HK.out)) (KeepBut.of_below hb g none) (.inl rfl)); have n2_ := Aside0.mk (below_step (by repeat (first | (with_reducible first | exact HB.out | apply below_alloc | apply pw_below_drewN | apply below_drew1 | refine below_set ?_ (IsS25.ge HI0.out)) | exact HB.out)) hb); clear HI0; clear HK; clear HB; have HI0 := n0_; have HK := n1_; have HB := n2_; clear n0_ n1_ n2_; (try clear hb); (try clear hb2); (try clear hk); (try clear hi); obtain ⟨HGz40, hgz40⟩ := HI0.out; have hcz40_0 := cellS25_0 HGz40; have hcz40_1 := cellS25_1 HGz40; have hcz40_2 := cellS25_2 HGz40; have hcz40_3 := cellS25_3 HGz40; have hcz40_4 := cellS25_4 HGz40; have hcz40_5 := cellS25_5 HGz40; have hcz40_6 := cellS25_6 HGz40; have hcz40_7 := cellS25_7 HGz40; have hcz40_8 := cellS25_8 HGz40; have hfz40_0 := blk_frozen HGz40 0; have hfz40_1 := blk_frozen HGz40 1; have hfz40_2 := blk_frozen HGz40 2; have hfz40_3 := blk_frozen HGz40 3; have hfz40_4 := blk_frozen HGz40 4; have hfz40_5 := blk_frozen HGz40 5; have hfz40_6 := blk_frozen HGz40 6; have hfz40_7 := blk_frozen HGz40 7; have hfz40_8 := blk_frozen HGz40 8; clear HGz40 hgz40))
     first | go_end0 | ((try simp only [Exit.inBlock, Exit.then]); refine bodyPost_ret (results_none rfl _ _ _) rfl ?_)
     exact ⟨by first | rfl | (simp [errW_none, errW_some] <;> rfl) | (simp [*, errW_none, errW_some] <;> rfl), by repeat (first | (with_reducible first | exact HI0.out | apply IsS25.alloc | apply IsS25.drewN | apply IsS25.drew | apply IsS25.set_0 | apply IsS25.set_1 | apply IsS25.set_2 | apply IsS25.set_3 | apply IsS25.set_4 | apply IsS25.set_5 | apply IsS25.set_6 | apply IsS25.set_7 | apply IsS25.set_8) | exact HI0.out), by repeat (first | (with_reducible first | exact HB.out | apply below_alloc | apply pw_below_drewN | apply below_drew1 | refine below_set ?_ (IsS25.ge HI0.out)) | exact HB.out), by repeat (first | (with_reducible first | exact HK.out | apply KeepBut.set_ | apply keep_drewN | apply keep_drew | apply keep_alloc) | exact HK.out)⟩
   ·
    rw [if_neg c32] at H
    have c32b0 : (s0_1 == 2) = false := beq_eq_false_iff_ne.mpr c32
    have c32b1 : (s0_1 != 2) = true := bne_iff_ne.mpr c32
    simp only [Option.some.injEq, Prod.mk.injEq] at H
    obtain ⟨rfl, rfl, rfl, rfl, rfl, rfl, rfl, rfl, rfl⟩ := H
    obtain ⟨HGz41, hgz41⟩ := HI0.out
    have hcz41_0 := cellS25_0 HGz41
    have hcz41_1 := cellS25_1 HGz41
    have hcz41_2 := cellS25_2 HGz41
    have hcz41_3 := cellS25_3 HGz41
    have hcz41_4 := cellS25_4 HGz41
    have hcz41_5 := cellS25_5 HGz41
    have hcz41_6 := cellS25_6 HGz41
    have hcz41_7 := cellS25_7 HGz41
    have hcz41_8 := cellS25_8 HGz41
    have hfz41_0 := blk_frozen HGz41 0
    have hfz41_1 := blk_frozen HGz41 1
    have hfz41_2 := blk_frozen HGz41 2
    have hfz41_3 := blk_frozen HGz41 3
    have hfz41_4 := blk_frozen HGz41 4
    have hfz41_5 := blk_frozen HGz41 5
    have hfz41_6 := blk_frozen HGz41 6
    have hfz41_7 := blk_frozen HGz41 7
    have hfz41_8 := blk_frozen HGz41 8
    clear HGz41 hgz41
    go_enter Try.func38, Try.ntmps38
    go_wp2
    first | go_end0 | ((try simp only [Exit.inBlock, Exit.then]); refine bodyPost_ret (results_none rfl _ _ _) rfl ?_)
    exact ⟨by first | rfl | (simp [errW_none, errW_some] <;> rfl) | (simp [*, errW_none, errW_some] <;> rfl), by repeat (first | (with_reducible first | exact HI0.out | apply IsS25.alloc | apply IsS25.drewN | apply IsS25.drew | apply IsS25.set_0 | apply IsS25.set_1 | apply IsS25.set_2 | apply IsS25.set_3 | apply IsS25.set_4 | apply IsS25.set_5 | apply IsS25.set_6 | apply IsS25.set_7 | apply IsS25.set_8) | exact HI0.out), by repeat (first | (with_reducible first | exact HB.out | apply below_alloc | apply pw_below_drewN | apply below_drew1 | refine below_set ?_ (IsS25.ge HI0.out)) | exact HB.out), by repeat (first | (with_reducible first | exact HK.out | apply KeepBut.set_ | apply keep_drewN | apply keep_drew | apply keep_alloc) | exact HK.out)⟩

end Go.Proofs.Ytdodiflcmjbfdaa.PFnTurned
