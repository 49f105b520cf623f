/- Walks of the functions named below, by a program of the session over the kit's printer. -/
import Derived.Test.YtbbfibokedlkkaaPFnTiedx0
import Derived.Test.YtbbfibokedlkkaaPFnTiedx1
import Derived.Test.YtbbfibokedlkkaaPFnTiedx3
import Derived.Test.YtbbfibokedlkkaaPFnTiedx7
import Derived.Test.YtbbfibokedlkkaaPFnTiedx13
namespace Go.Proofs.Ytbbfibokedlkkaa.PFnTied
open Go.RowKit Go.Proofs.YtbbfibokedlkkaaW.PrintWords Go.Proofs.YtbbfibokedlkkaaW.PrintLast Go.Proofs.YtbbfibokedlkkaaW.PrintMore
attribute [local go_sem] max2_int min2_int max_two min_two max_three min_three max_four min_four   -- for this text's walks alone
set_option linter.unusedVariables false
set_option linter.unusedSimpArgs false
abbrev A14_0 := #[O,O,O,O,O,O,O,O,O,O,O,O,O,O,O,O,O,O,O,O,O,O,O,O,O,O]
abbrev A14_1 := #[I,O,O,O,O,O,O,O,O,O,O,O,O,O,O,O,O,O,O,O,O,O,O,O,O,O]
abbrev A14_2 := #[I,I,O,O,O,O,O,O,O,O,O,O,O,O,O,O,O,O,O,O,O,O,O,O,O,O]
abbrev A14_3 := #[I,I,I,O,O,O,O,O,O,O,O,O,O,O,O,O,O,O,O,O,O,O,O,O,O,O]
abbrev A14_4 := #[I,I,I,I,O,O,O,O,O,O,O,O,O,O,O,O,O,O,O,O,O,O,O,O,O,O]
abbrev A14_5 := #[I,I,I,I,I,O,O,O,O,O,O,O,O,O,O,O,O,O,O,O,O,O,O,O,O,O]
abbrev A14_6 := #[I,I,I,I,I,I,O,O,O,O,O,O,O,O,O,O,O,O,O,O,O,O,O,O,O,O]
abbrev A14_7 := #[I,I,I,I,I,I,I,O,O,O,O,O,O,O,O,O,O,O,O,O,O,O,O,O,O,O]
abbrev A14_8 := #[I,I,I,I,I,I,I,I,O,O,O,O,O,O,O,O,O,O,O,O,O,O,O,O,O,O]
abbrev A14_9 := #[I,I,I,I,I,I,I,I,I,O,O,O,O,O,O,O,O,O,O,O,O,O,O,O,O,O]
abbrev A14_10 := #[I,I,I,I,I,I,I,I,I,I,O,O,O,O,O,O,O,O,O,O,O,O,O,O,O,O]
abbrev A14_11 := #[I,I,I,I,I,I,I,I,I,I,I,O,O,O,O,O,O,O,O,O,O,O,O,O,O,O]
abbrev A14_12 := #[I,I,I,I,I,I,I,I,I,I,I,I,O,O,O,O,O,O,O,O,O,O,O,O,O,O]
abbrev A14_13 := #[I,I,I,I,I,I,I,I,I,I,I,I,I,O,O,O,O,O,O,O,O,O,O,O,O,O]
abbrev A14_14 := #[I,I,I,I,I,I,I,I,I,I,I,I,I,I,O,O,O,O,O,O,O,O,O,O,O,O]
abbrev A14_15 := #[I,I,I,I,I,I,I,I,I,I,I,I,I,I,I,O,O,O,O,O,O,O,O,O,O,O]
abbrev A14_16 := #[I,I,I,I,I,I,I,I,I,I,I,I,I,I,I,I,O,O,O,O,O,O,O,O,O,O]
abbrev A14_17 := #[I,I,I,I,I,I,I,I,I,I,I,I,I,I,I,I,I,O,O,O,O,O,O,O,O,O]
abbrev A14_18 := #[I,I,I,I,I,I,I,I,I,I,I,I,I,I,I,I,I,I,O,O,O,O,O,O,O,O]
abbrev A14_19 := #[I,I,I,I,I,I,I,I,I,I,I,I,I,I,I,I,I,I,I,O,O,O,O,O,O,O]
abbrev A14_20 := #[I,I,I,I,I,I,I,I,I,I,I,I,I,I,I,I,I,I,I,I,O,O,O,O,O,O]
abbrev A14_21 := #[I,I,I,I,I,I,I,I,I,I,I,I,I,I,I,I,I,I,I,I,I,O,O,O,O,O]
abbrev A14_22 := #[I,I,I,I,I,I,I,I,I,I,I,I,I,I,I,I,I,I,I,I,I,I,O,O,O,O]
abbrev A14_23 := #[I,I,I,I,I,I,I,I,I,I,I,I,I,I,I,I,I,I,I,I,I,I,I,O,O,O]
abbrev A14_24 := #[I,I,I,I,I,I,I,I,I,I,I,I,I,I,I,I,I,I,I,I,I,I,I,I,O,O]
abbrev A14_25 := #[I,I,I,I,I,I,I,I,I,I,I,I,I,I,I,I,I,I,I,I,I,I,I,I,I,O]
abbrev A14_26 := #[I,I,I,I,I,I,I,I,I,I,I,I,I,I,I,I,I,I,I,I,I,I,I,I,I,I]
abbrev A14_27 := #[I,I,I,I,I,I,I,I,I,O,I,O,O,O,O,O,O,O,O,O,O,O,O,O,O,O]
abbrev A14_28 := #[I,I,I,I,I,I,I,I,I,I,I,I,I,I,I,I,I,O,I,O,O,O,O,O,O,O]
abbrev A14_29 := #[I,I,I,I,I,I,I,I,I,I,I,I,I,I,I,I,I,O,I,I,O,O,O,O,O,O]
abbrev A14_30 := #[I,I,I,I,I,I,I,I,I,I,I,I,I,I,I,I,I,O,I,I,I,O,O,O,O,O]
abbrev A14_31 := #[O,O,O,O,O,O,O,O,O]
abbrev A14_32 := #[I,O,O,O,O,O,O,O,O]
abbrev A14_33 := #[I,O,I,O,O,O,O,O,O]
abbrev A14_34 := #[I,O,I,I,O,O,O,O,O]
abbrev A14_35 := #[I,O,I,I,I,O,O,O,O]
abbrev A14_36 := #[I,I,I,I,I,O,O,O,O]
abbrev A14_37 := #[I,I,I,I,I,I,O,O,O]
abbrev A14_38 := #[I,I,I,I,I,I,I,O,O]
abbrev A14_39 := #[I,I,I,I,I,I,I,I,O]
abbrev A14_40 := #[I,I,I,I,I,I,I,I,I]

/-! ### laws_FnTied: function 7 -/
mutual
def laws_FnTied.l0 : Nat → List Int → Int → Int → List (S57) → List (S55) → List (S59) → Option (Bool)
 | 0, _, _, _, _, _, _ => none
 | k + 1, x4, x9, x398000, x398001, x398002, x398003 => if x9 < (x4.length : Int) then (if 0 ≤ x9 then (if (rd x4 x9) < 0 then (some false) else (if (rd x4 x9) ≥ (x398002.length : Int) then (some false) else (if 0 ≤ (rd x4 x9) then (if (rd x4 x9) < (x398002.length : Int) then (if (rd_T55 x398002 (rd x4 x9)).f2 = true then (some false) else (laws_FnTied.l0 k x4 (wrap64 (x9 + 1)) x398000 x398001 (x398002.set ((rd x4 x9) : Int).toNat (⟨(rd_T55 x398002 (rd x4 x9)).f0, (rd_T55 x398002 (rd x4 x9)).f1, true⟩ : S55)) x398003)) else (none)) else (none)))) else (none)) else ((laws_firstFed.f k x398000 x398001 x398002 x398003).bind fun t419 => (some t419))
def laws_FnTied.j1 : Nat → Bool → Option (Bool)
 | 0, _ => none
 | k + 1, x2 => some x2
end
def laws_FnTied.f (k : Nat) (l0 : List Int) : Option (Bool) := (laws_big.f l0).bind fun t386 => (if t386 = true then (some true) else ((spec_DrawNet.f k l0).bind fun bt387 => ((impl_CloseFor.f k bt387.1 bt387.2.1 bt387.2.2.1 bt387.2.2.2 3).bind fun bt398 => ((spec_CloseFor.f k bt387.1 bt387.2.1 bt387.2.2.1 bt387.2.2.2 3).bind fun bt402 => (if (bt398.2 != bt402.2) = true then (some false) else ((laws_firstFed.f k bt387.1 bt387.2.1 bt387.2.2.1 bt387.2.2.2).bind fun t406 => (if bt398.2 = true then (if (t406 != ((bt398.1.length : Int) == 0)) = true then (some false) else ((some (([] : List (S55)) : List (S55))).bind fun y407 => (if y407.length + bt387.2.2.1.length < 5864062014805 then (laws_FnTied.l0 k bt398.1 0 bt387.1 bt387.2.1 (y407 ++ bt387.2.2.1) bt387.2.2.2) else (none)))) else (if t406 = true then (laws_FnTied.j1 k false) else (laws_FnTied.j1 k ((bt398.1.length : Int) == 0))))))))))
def laws_FnTied.T17 : Bool × List (List Nat × List Nat) := (true, [([], []), ([], []), ([0, 1], [0, 1]), ([2], [2]), ([3], [3]), ([4], [4]), ([5], [5]), ([5], [5]), ([6, 7, 5], [5, 6, 7]), ([8, 5], [5, 8]), ([5], [5]), ([10, 5], [5, 10]), ([11, 5], [5, 11]), ([9, 12, 5], [5, 9, 12]), ([5, 13], [5, 13]), ([14, 5], [14]), ([15], [15]), ([16, 15], [15, 16]), ([15], [15]), ([15], [15]), ([18, 19, 15], [15, 18, 19]), ([20, 15], [15, 20]), ([17, 21, 15], [15, 17, 21]), ([22, 15], [15, 22]), ([23, 15], [15, 23]), ([15, 24], [15, 24])])
def laws_FnTied.B17 : List Nat := [0, 0, 3, 7, 15, 31, 63, 63, 255, 511, 63, 1087, 3135, 8191, 16383, 32767, 65535, 131071, 65535, 65535, 851967, 1900543, 4194303, 8388607, 16777215, 33554431]
theorem laws_FnTied.tab17 : rtab .any (opsOf Try.f7 17) = laws_FnTied.T17 := by kernel_rfl
theorem laws_FnTied.bits17 : waitsOk laws_FnTied.T17.2 laws_FnTied.B17 = true := by kernel_rfl
def laws_FnTied.T19 : Bool × List (List Nat × List Nat) := (true, [([], []), ([0], [0]), ([], []), ([], []), ([2, 3], [2, 3]), ([4], [4]), ([1, 5, 0, 1, 2, 3, 4, 5], [1, 5]), ([6, 0, 1, 2, 3, 4, 5], [6]), ([7, 0, 1, 2, 3, 4, 5], [7])])
def laws_FnTied.B19 : List Nat := [0, 1, 0, 0, 12, 28, 63, 127, 255]
theorem laws_FnTied.tab19 : rtab .any (opsOf Try.f7 19) = laws_FnTied.T19 := by kernel_rfl
theorem laws_FnTied.bits19 : waitsOk laws_FnTied.T19.2 laws_FnTied.B19 = true := by kernel_rfl
set_option maxHeartbeats 8000000 in
set_option maxRecDepth 100000 in
theorem laws_FnTied.calls (k : Nat) (A0 : Option Addr) (c0 : Nat) (l0 : List Int) (r : Bool) (w : World) (hr0 : Kd.C (Kd.int .u8) w A0 l0.length l0) (hc0 : l0.length ≤ c0) (h : laws_FnTied.f k l0 = some r) :
  Calls Try.prog 7 #[.slice A0 l0.length c0] w fun e w' => e = .returned (.bool r) ∧ Below w.heap.size w w' := by
 have hu41 := Try.underlying41; have HR0 := Az hr0; have HC0 := Az hc0; clear hr0 hc0; have HB := Az (Below.refl w.heap.size w); have H : ((laws_big.f l0).bind fun t386 => (if t386 = true then (some true) else ((spec_DrawNet.f k l0).bind fun bt387 => ((impl_CloseFor.f k bt387.1 bt387.2.1 bt387.2.2.1 bt387.2.2.2 3).bind fun bt398 => ((spec_CloseFor.f k bt387.1 bt387.2.1 bt387.2.2.1 bt387.2.2.2 3).bind fun bt402 => (if (bt398.2 != bt402.2) = true then (some false) else ((laws_firstFed.f k bt387.1 bt387.2.1 bt387.2.2.1 bt387.2.2.2).bind fun t406 => (if bt398.2 = true then (if (t406 != ((bt398.1.length : Int) == 0)) = true then (some false) else ((some (([] : List (S55)) : List (S55))).bind fun y407 => (if y407.length + bt387.2.2.1.length < 5864062014805 then (laws_FnTied.l0 k bt398.1 0 bt387.1 bt387.2.1 (y407 ++ bt387.2.2.1) bt387.2.2.2) else (none)))) else (if t406 = true then (laws_FnTied.j1 k false) else (laws_FnTied.j1 k ((bt398.1.length : Int) == 0))))))))))) = some r := h; clear h; replace H := Option.bind_eq_some_iff.mp H; obtain ⟨t386, A20, H⟩ := H; replace H : (if t386 = true then (some true) else ((spec_DrawNet.f k l0).bind fun bt387 => ((impl_CloseFor.f k bt387.1 bt387.2.1 bt387.2.2.1 bt387.2.2.2 3).bind fun bt398 => ((spec_CloseFor.f k bt387.1 bt387.2.1 bt387.2.2.1 bt387.2.2.2 3).bind fun bt402 => (if (bt398.2 != bt402.2) = true then (some false) else ((laws_firstFed.f k bt387.1 bt387.2.1 bt387.2.2.1 bt387.2.2.2).bind fun t406 => (if bt398.2 = true then (if (t406 != ((bt398.1.length : Int) == 0)) = true then (some false) else ((some (([] : List (S55)) : List (S55))).bind fun y407 => (if y407.length + bt387.2.2.1.length < 5864062014805 then (laws_FnTied.l0 k bt398.1 0 bt387.1 bt387.2.1 (y407 ++ bt387.2.2.1) bt387.2.2.2) else (none)))) else (if t406 = true then (laws_FnTied.j1 k false) else (laws_FnTied.j1 k ((bt398.1.length : Int) == 0)))))))))) = some r := H; have A2 := Az A20; clear A20
 by_cases c3 : t386 = true
 ·
  subst c3
  have H1 : (some true) = some r := by rw [if_pos rfl] at H; exact H
  clear H; have H := H1; clear H1; obtain rfl := Option.some.inj H
  go_enter Try.func7, Try.ntmps7
  go_wp2_with (first | ((with_reducible refine gate_callee (f := 25) rfl ?_); refine goesL_ (some 11) rfl rfl Try.func25 (by kernel_rfl) rfl #[.slice A0 l0.length c0] rfl (by (try simp only [List.map_toArray, List.map_cons, List.map_nil]); first | done | rfl) ?_; (with_reducible refine (laws_big.calls _ _ l0 true _ ?side1 ?side2 A2.out).mono ?_); (case side1 => repeat (first | exact HR0.out | (with_reducible refine Kd.C_alloc ?_ _) | (with_reducible refine Kd.C_drewN ?_ _) | (with_reducible refine Kd.C_drew ?_))); (case side2 => exact HC0.out); rintro e w' ⟨rfl, ⟨nd, rfl⟩⟩; refine ⟨_, rfl, ?_⟩))
  go_ret
  exact ⟨rz, bz⟩
 ·
  replace c3 := Bool.eq_false_iff.mpr c3; subst c3
  have H1 : ((spec_DrawNet.f k l0).bind fun bt387 => ((impl_CloseFor.f k bt387.1 bt387.2.1 bt387.2.2.1 bt387.2.2.2 3).bind fun bt398 => ((spec_CloseFor.f k bt387.1 bt387.2.1 bt387.2.2.1 bt387.2.2.2 3).bind fun bt402 => (if (bt398.2 != bt402.2) = true then (some false) else ((laws_firstFed.f k bt387.1 bt387.2.1 bt387.2.2.1 bt387.2.2.2).bind fun t406 => (if bt398.2 = true then (if (t406 != ((bt398.1.length : Int) == 0)) = true then (some false) else ((some (([] : List (S55)) : List (S55))).bind fun y407 => (if y407.length + bt387.2.2.1.length < 5864062014805 then (laws_FnTied.l0 k bt398.1 0 bt387.1 bt387.2.1 (y407 ++ bt387.2.2.1) bt387.2.2.2) else (none)))) else (if t406 = true then (laws_FnTied.j1 k false) else (laws_FnTied.j1 k ((bt398.1.length : Int) == 0))))))))) = some r := by rw [if_neg (show ¬ (false = true) by decide)] at H; exact H
  clear H; have H := H1; clear H1; replace H := Option.bind_eq_some_iff.mp H; obtain ⟨⟨t387, t388, t391, t394⟩, A40, H⟩ := H; replace H : ((impl_CloseFor.f k t387 t388 t391 t394 3).bind fun bt398 => ((spec_CloseFor.f k t387 t388 t391 t394 3).bind fun bt402 => (if (bt398.2 != bt402.2) = true then (some false) else ((laws_firstFed.f k t387 t388 t391 t394).bind fun t406 => (if bt398.2 = true then (if (t406 != ((bt398.1.length : Int) == 0)) = true then (some false) else ((some (([] : List (S55)) : List (S55))).bind fun y407 => (if y407.length + t391.length < 5864062014805 then (laws_FnTied.l0 k bt398.1 0 t387 t388 (y407 ++ t391) t394) else (none)))) else (if t406 = true then (laws_FnTied.j1 k false) else (laws_FnTied.j1 k ((bt398.1.length : Int) == 0)))))))) = some r := H; have A4 := Az A40; clear A40; replace H := Option.bind_eq_some_iff.mp H; obtain ⟨⟨t398, t401⟩, A50, H⟩ := H; replace H : ((spec_CloseFor.f k t387 t388 t391 t394 3).bind fun bt402 => (if (t401 != bt402.2) = true then (some false) else ((laws_firstFed.f k t387 t388 t391 t394).bind fun t406 => (if t401 = true then (if (t406 != ((t398.length : Int) == 0)) = true then (some false) else ((some (([] : List (S55)) : List (S55))).bind fun y407 => (if y407.length + t391.length < 5864062014805 then (laws_FnTied.l0 k t398 0 t387 t388 (y407 ++ t391) t394) else (none)))) else (if t406 = true then (laws_FnTied.j1 k false) else (laws_FnTied.j1 k ((t398.length : Int) == 0))))))) = some r := H; have A5 := Az A50; clear A50; replace H := Option.bind_eq_some_iff.mp H; obtain ⟨⟨t402, t405⟩, A60, H⟩ := H; replace H : (if (t401 != t405) = true then (some false) else ((laws_firstFed.f k t387 t388 t391 t394).bind fun t406 => (if t401 = true then (if (t406 != ((t398.length : Int) == 0)) = true then (some false) else ((some (([] : List (S55)) : List (S55))).bind fun y407 => (if y407.length + t391.length < 5864062014805 then (laws_FnTied.l0 k t398 0 t387 t388 (y407 ++ t391) t394) else (none)))) else (if t406 = true then (laws_FnTied.j1 k false) else (laws_FnTied.j1 k ((t398.length : Int) == 0)))))) = some r := H; have A6 := Az A60; clear A60
  by_cases c7 : (t401 != t405) = true
  ·
   rw [if_pos c7] at H; have c7b0 : (t401 != t405) = true := c7
   (try (have c7b1 : decide (t401 = t405) = false := by simpa using c7))
   (try (have c7b2 : (t401 == t405) = false := by simpa using c7))
   (try (have c7b3 : ¬ (t401 = t405) := by simpa using c7))
   clear c7; obtain rfl := Option.some.inj H
   go_enter Try.func7, Try.ntmps7
   go_wp2_with (first | ((with_reducible refine gate_callee (f := 25) rfl ?_); refine goesL_ (some 11) rfl rfl Try.func25 (by kernel_rfl) rfl #[.slice A0 l0.length c0] rfl (by (try simp only [List.map_toArray, List.map_cons, List.map_nil]); first | done | rfl) ?_; (with_reducible refine (laws_big.calls _ _ l0 false _ ?side1 ?side2 A2.out).mono ?_); (case side1 => repeat (first | exact HR0.out | (with_reducible refine Kd.C_alloc ?_ _) | (with_reducible refine Kd.C_drewN ?_ _) | (with_reducible refine Kd.C_drew ?_))); (case side2 => exact HC0.out); rintro e w' ⟨rfl, ⟨nd, rfl⟩⟩; refine ⟨_, rfl, ?_⟩) | ((with_reducible refine gate_callee (f := 26) rfl ?_); refine goesL_ (some 13) rfl rfl Try.func26 (by kernel_rfl) rfl #[.slice A0 l0.length c0] rfl (by (try simp only [List.map_toArray, List.map_cons, List.map_nil]); first | done | rfl) ?_; (with_reducible refine (spec_DrawNet.calls k _ _ l0 t387 t388 t391 t394 _ ?side1 ?side2 A4.out).mono ?_); (case side1 => repeat (first | exact HR0.out | (with_reducible refine Kd.C_alloc ?_ _) | (with_reducible refine Kd.C_drewN ?_ _) | (with_reducible refine Kd.C_drew ?_))); (case side2 => exact HC0.out); rintro e w8 ⟨v389, v392, v395, rfl, ho0, ho1, ho2, hb⟩; refine ⟨_, rfl, ?_⟩; have HO390 := Az (Kd.R_lower ho0 (below_size bz)); have HO393 := Az (Kd.R_lower ho1 (below_size bz)); have HO396 := Az (Kd.R_lower ho2 (below_size bz)); replace HB := Az (below_step bz hb); (try clear hb); (try clear hb2); (try clear hk); (try clear hi); (try clear ho0); (try clear ho1); (try clear ho2)) | ((with_reducible refine gate_dst (N := 3) rfl ?_); (try (refine gate_guard (by rfl) ?_; dsimp only)); refine box_event ?hg (N := 3) ?hd (cs := #[.int .i64 0, .slice none 0 0, .slice none 0 0, .slice none 0 0]) (t := 41) ?hr ?_; (case hd => rfl); (case hg => rfl); (case hr => first | (go_simp; done) | (go_simp; rfl)); intro gb397 hg w9 hbox hb; replace HO390 := Az (Kd.R_below (ru HO390.out) hb); replace HO393 := Az (Kd.R_below (ru HO393.out) hb); replace HO396 := Az (Kd.R_below (ru HO396.out) hb); have BK397 := Az (hbox); have GW397 := Az ((by rw [hg]; exact (below_size bz) : w.heap.size ≤ gb397)); replace HB := Az (below_step bz hb); have GE397 := GW397; clear hb hbox hg; obtain ⟨hcz10_0, hcz10_1, hcz10_2, hcz10_3⟩ := bc4 BK397.out; obtain ⟨hfz10_0, hfz10_1, hfz10_2, hfz10_3⟩ := bf4_ BK397.out; obtain ⟨Ao11, co11, eo11⟩ := Kd.R_slice HO390.out; subst eo11; obtain ⟨Ao12, co12, eo12⟩ := Kd.R_slice HO393.out; subst eo12; obtain ⟨Ao13, co13, eo13⟩ := Kd.R_slice HO396.out; subst eo13) | ((with_reducible refine gate_callee (f := 29) rfl ?_); refine goesL_ (some 16) rfl rfl Try.func29 (by kernel_rfl) rfl #[.agg #[.int .i64 t387, .slice Ao11 t388.length co11, .slice Ao12 t391.length co12, .slice Ao13 t394.length co13], .int .i64 3] rfl (by (try simp only [List.map_toArray, List.map_cons, List.map_nil]); first | done | rfl) ?_; (with_reducible refine (impl_CloseFor.calls k t387 _ _ t388 _ _ t391 _ _ t394 3 t398 t401 _ ?side1 ?side2 ?side3 ?side4 ?side5 ?side6 A5.out).mono ?_); (case side1 => exact (Kd.R_reads' (c := co11) (ru (rf4 HO390.out BK397.out (by decide)))).2.2); (case side2 => exact (Kd.R_reads' HO390.out).2.1); (case side3 => exact (Kd.R_reads' (c := co12) (ru (rf4 HO393.out BK397.out (by decide)))).2.2); (case side4 => exact (Kd.R_reads' HO393.out).2.1); (case side5 => exact (Kd.R_reads' (c := co13) (ru (rf4 HO396.out BK397.out (by decide)))).2.2); (case side6 => exact (Kd.R_reads' HO396.out).2.1); rintro e w14 ⟨v399, rfl, ho0, hb⟩; refine ⟨_, rfl, ?_⟩; replace HO390 := Az (Kd.R_below (by exact ru (rf4 HO390.out BK397.out (by decide))) hb); replace HO393 := Az (Kd.R_below (by exact ru (rf4 HO393.out BK397.out (by decide))) hb); replace HO396 := Az (Kd.R_below (by exact ru (rf4 HO396.out BK397.out (by decide))) hb); have HO400 := Az (Kd.R_lower ho0 (below_size bz)); replace BK397 := Az (blk_below (g := gb397) (o := .cells #[.int .i64 t387, .slice Ao11 t388.length co11, .slice Ao12 t391.length co12, .slice Ao13 t394.length co13] 41 (0, 0)) (by refine bu ?_; refine blk_put (cs := #[.int .i64 t387, .slice Ao11 t388.length co11, .slice Ao12 t391.length co12, .slice none 0 0]) ?_ 3 _ rfl; refine bu ?_; refine blk_put (cs := #[.int .i64 t387, .slice Ao11 t388.length co11, .slice none 0 0, .slice none 0 0]) ?_ 2 _ rfl; refine bu ?_; refine blk_put (cs := #[.int .i64 t387, .slice none 0 0, .slice none 0 0, .slice none 0 0]) ?_ 1 _ rfl; refine bu ?_; refine blk_put (cs := #[.int .i64 0, .slice none 0 0, .slice none 0 0, .slice none 0 0]) ?_ 0 _ rfl; refine bu ?_; exact BK397.out) hb); replace HB := Az (below_step bz hb); (try clear hb); (try clear hb2); (try clear hk); (try clear hi); (try clear ho0); obtain ⟨hcz15_0, hcz15_1, hcz15_2, hcz15_3⟩ := bc4 BK397.out; obtain ⟨hfz15_0, hfz15_1, hfz15_2, hfz15_3⟩ := bf4_ BK397.out) | ((with_reducible refine gate_callee (f := 30) rfl ?_); refine goesL_ (some 21) rfl rfl Try.func30 (by kernel_rfl) rfl #[.agg #[.int .i64 t387, .slice Ao11 t388.length co11, .slice Ao12 t391.length co12, .slice Ao13 t394.length co13], .int .i64 3] rfl (by (try simp only [List.map_toArray, List.map_cons, List.map_nil]); first | done | rfl) ?_; (with_reducible refine (spec_CloseFor.calls k t387 _ _ t388 _ _ t391 _ _ t394 3 t402 t405 _ ?side1 ?side2 ?side3 ?side4 ?side5 ?side6 A6.out).mono ?_); (case side1 => exact cv (Kd.R_reads' HO390.out).2.2); (case side2 => exact (Kd.R_reads' HO390.out).2.1); (case side3 => exact cv (Kd.R_reads' HO393.out).2.2); (case side4 => exact (Kd.R_reads' HO393.out).2.1); (case side5 => exact cv (Kd.R_reads' HO396.out).2.2); (case side6 => exact (Kd.R_reads' HO396.out).2.1); rintro e w16 ⟨v403, rfl, ho0, hb⟩; refine ⟨_, rfl, ?_⟩; replace HO390 := Az (Kd.R_below (ru HO390.out) hb); replace HO393 := Az (Kd.R_below (ru HO393.out) hb); replace HO396 := Az (Kd.R_below (ru HO396.out) hb); have HO404 := Az (Kd.R_lower (Kd.R_new' ho0 (Kd.R_lt (ru HO400.out))) (below_size bz)); replace HO400 := Az (Kd.R_elder' (ru HO400.out) (Kd.R_base ho0) hb); replace BK397 := Az (blk_below (bu BK397.out) hb); replace HB := Az (below_step bz hb); (try clear hb); (try clear hb2); (try clear hk); (try clear hi); (try clear ho0)))
   go_ret
   exact ⟨rz, bz⟩
  ·
   rw [if_neg c7] at H
   have c7b0 : (t401 != t405) = false := by simpa using c7
   (try (have c7b1 : decide (t401 = t405) = true := by simpa using c7))
   (try (have c7b2 : (t401 == t405) = true := by simpa using c7))
   clear c7; replace H := Option.bind_eq_some_iff.mp H; obtain ⟨t406, A170, H⟩ := H; replace H : (if t401 = true then (if (t406 != ((t398.length : Int) == 0)) = true then (some false) else ((some (([] : List (S55)) : List (S55))).bind fun y407 => (if y407.length + t391.length < 5864062014805 then (laws_FnTied.l0 k t398 0 t387 t388 (y407 ++ t391) t394) else (none)))) else (if t406 = true then (laws_FnTied.j1 k false) else (laws_FnTied.j1 k ((t398.length : Int) == 0)))) = some r := H; have A17 := Az A170; clear A170; have HC18 := Az H; clear H
   go_enter Try.func7, Try.ntmps7
   go_upto_if 30 with (first | ((with_reducible refine gate_callee (f := 25) rfl ?_); refine goesL_ (some 11) rfl rfl Try.func25 (by kernel_rfl) rfl #[.slice A0 l0.length c0] rfl (by (try simp only [List.map_toArray, List.map_cons, List.map_nil]); first | done | rfl) ?_; (with_reducible refine (laws_big.calls _ _ l0 false _ ?side1 ?side2 A2.out).mono ?_); (case side1 => repeat (first | exact HR0.out | (with_reducible refine Kd.C_alloc ?_ _) | (with_reducible refine Kd.C_drewN ?_ _) | (with_reducible refine Kd.C_drew ?_))); (case side2 => exact HC0.out); rintro e w' ⟨rfl, ⟨nd, rfl⟩⟩; refine ⟨_, rfl, ?_⟩) | ((with_reducible refine gate_callee (f := 26) rfl ?_); refine goesL_ (some 13) rfl rfl Try.func26 (by kernel_rfl) rfl #[.slice A0 l0.length c0] rfl (by (try simp only [List.map_toArray, List.map_cons, List.map_nil]); first | done | rfl) ?_; (with_reducible refine (spec_DrawNet.calls k _ _ l0 t387 t388 t391 t394 _ ?side1 ?side2 A4.out).mono ?_); (case side1 => repeat (first | exact HR0.out | (with_reducible refine Kd.C_alloc ?_ _) | (with_reducible refine Kd.C_drewN ?_ _) | (with_reducible refine Kd.C_drew ?_))); (case side2 => exact HC0.out); rintro e w19 ⟨v389, v392, v395, rfl, ho0, ho1, ho2, hb⟩; refine ⟨_, rfl, ?_⟩; have HO390 := Az (Kd.R_lower ho0 (below_size bz)); have HO393 := Az (Kd.R_lower ho1 (below_size bz)); have HO396 := Az (Kd.R_lower ho2 (below_size bz)); replace HB := Az (below_step bz hb); (try clear hb); (try clear hb2); (try clear hk); (try clear hi); (try clear ho0); (try clear ho1); (try clear ho2)) | ((with_reducible refine gate_dst (N := 3) rfl ?_); (try (refine gate_guard (by rfl) ?_; dsimp only)); refine box_event ?hg (N := 3) ?hd (cs := #[.int .i64 0, .slice none 0 0, .slice none 0 0, .slice none 0 0]) (t := 41) ?hr ?_; (case hd => rfl); (case hg => rfl); (case hr => first | (go_simp; done) | (go_simp; rfl)); intro gb397 hg w20 hbox hb; replace HO390 := Az (Kd.R_below (ru HO390.out) hb); replace HO393 := Az (Kd.R_below (ru HO393.out) hb); replace HO396 := Az (Kd.R_below (ru HO396.out) hb); have BK397 := Az (hbox); have GW397 := Az ((by rw [hg]; exact (below_size bz) : w.heap.size ≤ gb397)); replace HB := Az (below_step bz hb); have GE397 := GW397; clear hb hbox hg; obtain ⟨hcz21_0, hcz21_1, hcz21_2, hcz21_3⟩ := bc4 BK397.out; obtain ⟨hfz21_0, hfz21_1, hfz21_2, hfz21_3⟩ := bf4_ BK397.out; obtain ⟨Ao22, co22, eo22⟩ := Kd.R_slice HO390.out; subst eo22; obtain ⟨Ao23, co23, eo23⟩ := Kd.R_slice HO393.out; subst eo23; obtain ⟨Ao24, co24, eo24⟩ := Kd.R_slice HO396.out; subst eo24) | ((with_reducible refine gate_callee (f := 29) rfl ?_); refine goesL_ (some 16) rfl rfl Try.func29 (by kernel_rfl) rfl #[.agg #[.int .i64 t387, .slice Ao22 t388.length co22, .slice Ao23 t391.length co23, .slice Ao24 t394.length co24], .int .i64 3] rfl (by (try simp only [List.map_toArray, List.map_cons, List.map_nil]); first | done | rfl) ?_; (with_reducible refine (impl_CloseFor.calls k t387 _ _ t388 _ _ t391 _ _ t394 3 t398 t401 _ ?side1 ?side2 ?side3 ?side4 ?side5 ?side6 A5.out).mono ?_); (case side1 => exact (Kd.R_reads' (c := co22) (ru (rf4 HO390.out BK397.out (by decide)))).2.2); (case side2 => exact (Kd.R_reads' HO390.out).2.1); (case side3 => exact (Kd.R_reads' (c := co23) (ru (rf4 HO393.out BK397.out (by decide)))).2.2); (case side4 => exact (Kd.R_reads' HO393.out).2.1); (case side5 => exact (Kd.R_reads' (c := co24) (ru (rf4 HO396.out BK397.out (by decide)))).2.2); (case side6 => exact (Kd.R_reads' HO396.out).2.1); rintro e w25 ⟨v399, rfl, ho0, hb⟩; refine ⟨_, rfl, ?_⟩; replace HO390 := Az (Kd.R_below (by exact ru (rf4 HO390.out BK397.out (by decide))) hb); replace HO393 := Az (Kd.R_below (by exact ru (rf4 HO393.out BK397.out (by decide))) hb); replace HO396 := Az (Kd.R_below (by exact ru (rf4 HO396.out BK397.out (by decide))) hb); have HO400 := Az (Kd.R_lower ho0 (below_size bz)); replace BK397 := Az (blk_below (g := gb397) (o := .cells #[.int .i64 t387, .slice Ao22 t388.length co22, .slice Ao23 t391.length co23, .slice Ao24 t394.length co24] 41 (0, 0)) (by refine bu ?_; refine blk_put (cs := #[.int .i64 t387, .slice Ao22 t388.length co22, .slice Ao23 t391.length co23, .slice none 0 0]) ?_ 3 _ rfl; refine bu ?_; refine blk_put (cs := #[.int .i64 t387, .slice Ao22 t388.length co22, .slice none 0 0, .slice none 0 0]) ?_ 2 _ rfl; refine bu ?_; refine blk_put (cs := #[.int .i64 t387, .slice none 0 0, .slice none 0 0, .slice none 0 0]) ?_ 1 _ rfl; refine bu ?_; refine blk_put (cs := #[.int .i64 0, .slice none 0 0, .slice none 0 0, .slice none 0 0]) ?_ 0 _ rfl; refine bu ?_; exact BK397.out) hb); replace HB := Az (below_step bz hb); (try clear hb); (try clear hb2); (try clear hk); (try clear hi); (try clear ho0); obtain ⟨hcz26_0, hcz26_1, hcz26_2, hcz26_3⟩ := bc4 BK397.out; obtain ⟨hfz26_0, hfz26_1, hfz26_2, hfz26_3⟩ := bf4_ BK397.out) | ((with_reducible refine gate_callee (f := 30) rfl ?_); refine goesL_ (some 21) rfl rfl Try.func30 (by kernel_rfl) rfl #[.agg #[.int .i64 t387, .slice Ao22 t388.length co22, .slice Ao23 t391.length co23, .slice Ao24 t394.length co24], .int .i64 3] rfl (by (try simp only [List.map_toArray, List.map_cons, List.map_nil]); first | done | rfl) ?_; (with_reducible refine (spec_CloseFor.calls k t387 _ _ t388 _ _ t391 _ _ t394 3 t402 t405 _ ?side1 ?side2 ?side3 ?side4 ?side5 ?side6 A6.out).mono ?_); (case side1 => exact cv (Kd.R_reads' HO390.out).2.2); (case side2 => exact (Kd.R_reads' HO390.out).2.1); (case side3 => exact cv (Kd.R_reads' HO393.out).2.2); (case side4 => exact (Kd.R_reads' HO393.out).2.1); (case side5 => exact cv (Kd.R_reads' HO396.out).2.2); (case side6 => exact (Kd.R_reads' HO396.out).2.1); rintro e w27 ⟨v403, rfl, ho0, hb⟩; refine ⟨_, rfl, ?_⟩; replace HO390 := Az (Kd.R_below (ru HO390.out) hb); replace HO393 := Az (Kd.R_below (ru HO393.out) hb); replace HO396 := Az (Kd.R_below (ru HO396.out) hb); have HO404 := Az (Kd.R_lower (Kd.R_new' ho0 (Kd.R_lt (ru HO400.out))) (below_size bz)); replace HO400 := Az (Kd.R_elder' (ru HO400.out) (Kd.R_base ho0) hb); replace BK397 := Az (blk_below (bu BK397.out) hb); replace HB := Az (below_step bz hb); (try clear hb); (try clear hb2); (try clear hk); (try clear hi); (try clear ho0); obtain ⟨hcz28_0, hcz28_1, hcz28_2, hcz28_3⟩ := bc4 BK397.out; obtain ⟨hfz28_0, hfz28_1, hfz28_2, hfz28_3⟩ := bf4_ BK397.out) | ((with_reducible refine gate_callee (f := 31) rfl ?_); refine goesL_ (some 28) rfl rfl Try.func31 (by kernel_rfl) rfl #[.agg #[.int .i64 t387, .slice Ao22 t388.length co22, .slice Ao23 t391.length co23, .slice Ao24 t394.length co24]] rfl (by (try simp only [List.map_toArray, List.map_cons, List.map_nil]); first | done | rfl) ?_; (with_reducible refine (laws_firstFed.calls k t387 _ _ t388 _ _ t391 _ _ t394 t406 _ ?side1 ?side2 ?side3 ?side4 ?side5 ?side6 A17.out).mono ?_); (case side1 => exact cv (Kd.R_reads' HO390.out).2.2); (case side2 => exact (Kd.R_reads' HO390.out).2.1); (case side3 => exact cv (Kd.R_reads' HO393.out).2.2); (case side4 => exact (Kd.R_reads' HO393.out).2.1); (case side5 => exact cv (Kd.R_reads' HO396.out).2.2); (case side6 => exact (Kd.R_reads' HO396.out).2.1); rintro e w29 ⟨rfl, hb⟩; refine ⟨_, rfl, ?_⟩; replace HO390 := Az (Kd.R_below (ru HO390.out) hb); replace HO393 := Az (Kd.R_below (ru HO393.out) hb); replace HO396 := Az (Kd.R_below (ru HO396.out) hb); replace HO400 := Az (Kd.R_below (ru HO400.out) hb); replace HO404 := Az (Kd.R_below (ru HO404.out) hb); replace BK397 := Az (blk_below (bu BK397.out) hb); replace HB := Az (below_step bz hb); (try clear hb); (try clear hb2); (try clear hk); (try clear hi)))
   (try simp only [Act.put, sA, sB, sC])
   have H := HC18.out; clear HC18
   by_cases c30 : t401 = true
   ·
    subst c30
    have H1 : (if (t406 != ((t398.length : Int) == 0)) = true then (some false) else ((some (([] : List (S55)) : List (S55))).bind fun y407 => (if y407.length + t391.length < 5864062014805 then (laws_FnTied.l0 k t398 0 t387 t388 (y407 ++ t391) t394) else (none)))) = some r := by rw [if_pos rfl] at H; exact H
    clear H; have H := H1; clear H1
    by_cases c31 : (t406 != ((t398.length : Int) == 0)) = true
    ·
     rw [if_pos c31] at H; have c31b0 : (t406 != ((t398.length : Int) == 0)) = true := c31
     (try (have c31b1 : decide (t406 = ((t398.length : Int) == 0)) = false := by simpa using c31))
     (try (have c31b2 : (t406 == ((t398.length : Int) == 0)) = false := by simpa using c31))
     (try (have c31b3 : ¬ (t406 = ((t398.length : Int) == 0)) := by simpa using c31))
     clear c31
     (first | rw [c31b0] | (simp only [i64_w, i32_w]; rw [c31b0]) | skip)
     obtain rfl := Option.some.inj H; obtain ⟨Ao32, co32, eo32⟩ := Kd.R_slice HO400.out; subst eo32
     go_wp2
     go_ret
     exact ⟨rz, bz⟩
    ·
     rw [if_neg c31] at H
     have c31b0 : (t406 != ((t398.length : Int) == 0)) = false := by simpa using c31
     (try (have c31b1 : decide (t406 = ((t398.length : Int) == 0)) = true := by simpa using c31))
     (try (have c31b2 : (t406 == ((t398.length : Int) == 0)) = true := by simpa using c31))
     clear c31
     (first | rw [c31b0] | (simp only [i64_w, i32_w]; rw [c31b0]) | skip)
     obtain ⟨y407, hy407⟩ : ∃ y_ : List (S55), y_ = (([] : List (S55))) := ⟨_, rfl⟩
     replace H : (if y407.length + t391.length < 5864062014805 then (laws_FnTied.l0 k t398 0 t387 t388 (y407 ++ t391) t394) else (none)) = some r := by have hy_ := hy407; exact yz
     have Ny407 := Az hy407; clear hy407
     by_cases c33 : y407.length + t391.length < 5864062014805
     ·
      rw [if_pos c33] at H; have LMc33 := Az c33; clear c33; obtain ⟨y410, hy410⟩ : ∃ y_ : List (S55), y_ = (y407 ++ t391) := ⟨_, rfl⟩
      replace H : (laws_FnTied.l0 k t398 0 t387 t388 y410 t394) = some r := by have hy_ := hy410; exact yz
      have Ny410 := Az hy410; clear hy410; have H' := Az H; clear H; obtain ⟨Ao34, co34, eo34⟩ := Kd.R_slice HO400.out; subst eo34
      go_wp2_with (first | ((with_reducible refine gate_dst (N := 43) rfl ?_); (try (refine gate_guard (by rfl) ?_; dsimp only)); refine Kd.R_lit k55 _ 55 ?hg (N := 43) ?hd (xs := ([] : List (S55))) (inner := []) (ok := fun _ => True) (okp := fun _ => True) ?hr ?hp (fun _ hk => hk) trivial (Below.refl _ _) (Nat.le_refl _) (by simp) ?_; (case hd => rfl); (case hg => rfl); (case hr => first | (go_simp; done) | (go_simp; rfl)); (case hp => exact (Reps.none _ _)); intro v408 w35 ho36 hb hg_ hnew_; clear hg_ hnew_; (first | rw [← Ny407.out] at ho36 | (simp only [Int.reduceToNat] at ho36; rw [← Ny407.out] at ho36)); replace HO390 := Az (Kd.R_below (ru HO390.out) hb); replace HO396 := Az (Kd.R_below (ru HO396.out) hb); replace HO400 := Az (Kd.R_below (ru HO400.out) hb); replace HO404 := Az (Kd.R_below (ru HO404.out) hb); have HO409 := Az (Kd.R_lower (Kd.R_new' ho36 (Kd.R_lt (ru HO393.out))) (below_size bz)); replace HO393 := Az (Kd.R_elder' (ru HO393.out) (Kd.R_base ho36) hb); replace BK397 := Az (blk_below (bu BK397.out) hb); replace HB := Az (below_step bz hb); clear hb ho36; obtain ⟨hcz37_0, hcz37_1, hcz37_2, hcz37_3⟩ := bc4 BK397.out; obtain ⟨hfz37_0, hfz37_1, hfz37_2, hfz37_3⟩ := bf4_ BK397.out) | ((with_reducible refine gate_builtin (b := .append) (xs := #[.tmp 43, .tmp 45]) rfl ?_); (try (refine gate_guard (by rfl) ?_; dsimp only)); at_builtin; refine Kd.R_append_rows k55 (w0 := w) w.heap.size rfl (.tmp 43) (.tmp 45) 38 55 (.agg #[(.int .i64 0), (.int .i64 0), (.bool false)]) 24 rfl Try.underlying38 info55 rfl (by decide) (by omega) v408 y407 t391 _ _ _ (fun k_ => some k_ ≠ (.slice Ao23 t391.length co23 : Value).ownBlock) (fun _ => False) rfl rfl ?aO ?aR (fun _ _ h => h) (fun _ h => h.elim) ?aF ?aB ?aS ?aL ?_; (case aR => exact cv (Kd.R_reads' HO393.out).2.2); (case aB => exact bz); (case aF => exact (fun k_ hk => Kd.fresh' (Kd.R_lt (ru HO393.out)) k_ hk)); (case aO => exact (by (with_reducible repeat (first | apply Kd.R_alloc | apply Kd.R_drewN | apply Kd.R_drew)); exact Kd.R_mono HO409.out (fun _ hk => hk.2))); (case aS => exact (below_size bz)); (case aL => have := LMc33.out; omega); intro v411 w38 ho hb hg hat; rw [← Ny410.out] at ho; replace HO390 := Az (Kd.R_over' (ru HO390.out) (Kd.R_typed (ru HO409.out)) (by decide) hg); replace HO393 := Az (Kd.R_after (ok := (fun _ => True)) (ru HO393.out) hg hat); replace HO396 := Az (Kd.R_over' (ru HO396.out) (Kd.R_typed (ru HO409.out)) (by decide) hg); replace BK397 := Az (blk_grown (g := gb397) (o := .cells #[.int .i64 t387, .slice Ao22 t388.length co22, .slice Ao23 t391.length co23, .slice Ao24 t394.length co24] 41 (0, 0)) (bu BK397.out) hg (Kd.R_ne HO409.out BK397.out (by decide))); replace HO400 := Az (Kd.R_over' (ru HO400.out) (Kd.R_typed (ru HO409.out)) (by decide) hg); replace HO404 := Az (Kd.R_over' (ru HO404.out) (Kd.R_typed (ru HO409.out)) (by decide) hg); replace HB := Az (hb); have HO412 := Az (ho); clear HO409; clear ho hb hg hat; obtain ⟨Ao39, co39, eo39⟩ := Kd.R_slice HO412.out; subst eo39; obtain ⟨hcz40_0, hcz40_1, hcz40_2, hcz40_3⟩ := bc4 BK397.out; obtain ⟨hfz40_0, hfz40_1, hfz40_2, hfz40_3⟩ := bf4_ BK397.out))
      go_loopg [9] k (fun kq v9 w' => ∃ (x9_1 : Int) (x398002_1 : List (S55)) (u398002 : Value), v9 = .int .i64 x9_1 ∧ Aside0 (laws_FnTied.l0 kq t398 x9_1 t387 t388 x398002_1 t394 = some r) ∧ Aside0 (kq ≤ k) ∧ Aside0 (Kd.R (Kd.int .i64) 3 w' w.heap.size (fun _ => True) (.slice Ao34 t398.length co34) t398) ∧ Aside0 (Kd.R k57 57 w' w.heap.size (fun _ => True) (.slice Ao22 t388.length co22) t388) ∧ Aside0 (Kd.R k55 55 w' w.heap.size (fun _ => True) u398002 x398002_1) ∧ Aside0 (Kd.R k59 59 w' w.heap.size (fun _ => True) (.slice Ao24 t394.length co24) t394) ∧ Aside0 (w'.heap[gb397]? = some (.cells #[.int .i64 t387, (.slice Ao22 t388.length co22), u398002, (.slice Ao24 t394.length co24)] 41 (0, 0))) ∧ Aside0 (Below w.heap.size w w'))
      case atStart => exact ⟨(0), (y410), (.slice Ao39 y410.length co39), (by first | rfl | (simp; done) | (simp [*]; done)), H', ⟨Nat.le_refl _⟩, ⟨by (with_reducible repeat (first | apply Kd.R_alloc | apply Kd.R_drewN | apply Kd.R_drew)); exact Kd.R_mono (Kd.R_far (p := ⟨gb397, 2, none⟩) (Kd.R_types HO400.out BK397.out (by decide)) (fun _ hk => hk.2) (.slice Ao39 y410.length co39)) (fun _ hk => trivial)⟩, ⟨by (with_reducible repeat (first | apply Kd.R_alloc | apply Kd.R_drewN | apply Kd.R_drew)); exact Kd.R_mono (Kd.R_far (p := ⟨gb397, 2, none⟩) (Kd.R_types HO390.out BK397.out (by decide)) (fun _ hk => hk.2) (.slice Ao39 y410.length co39)) (fun _ hk => trivial)⟩, ⟨by (with_reducible repeat (first | apply Kd.R_alloc | apply Kd.R_drewN | apply Kd.R_drew)); exact Kd.R_mono (Kd.R_far (p := ⟨gb397, 2, none⟩) (Kd.R_types HO412.out BK397.out (by decide)) (fun _ hk => hk.2) (.slice Ao39 y410.length co39)) (fun _ hk => trivial)⟩, ⟨by (with_reducible repeat (first | apply Kd.R_alloc | apply Kd.R_drewN | apply Kd.R_drew)); exact Kd.R_mono (Kd.R_far (p := ⟨gb397, 2, none⟩) (Kd.R_types HO396.out BK397.out (by decide)) (fun _ hk => hk.2) (.slice Ao39 y410.length co39)) (fun _ hk => trivial)⟩, ⟨by refine bu ?_; refine blk_put (cs := #[.int .i64 t387, .slice Ao22 t388.length co22, .slice Ao23 t391.length co23, .slice Ao24 t394.length co24]) ?_ 2 _ rfl; refine bu ?_; exact BK397.out⟩, ⟨bz⟩⟩
      case round =>
       clear H'; (try clear c2); (try clear p2); (try clear c3); (try clear c7); (try clear c7b0); (try clear c7b1); (try clear c7b2); (try clear c25); (try clear c26); (try clear c29); (try clear c30); (try clear c31); (try clear c31b0); (try clear c31b1); (try clear c31b2); (try clear c33); (try clear hcz10_0); (try clear hcz10_1); (try clear hcz10_2); (try clear hcz10_3); (try clear hcz15_0); (try clear hcz15_1); (try clear hcz15_2); (try clear hcz15_3); (try clear hcz21_0); (try clear hcz21_1); (try clear hcz21_2); (try clear hcz21_3); (try clear hcz26_0); (try clear hcz26_1); (try clear hcz26_2); (try clear hcz26_3); (try clear hcz28_0); (try clear hcz28_1); (try clear hcz28_2); (try clear hcz28_3); (try clear hcz37_0); (try clear hcz37_1); (try clear hcz37_2); (try clear hcz37_3); (try clear hcz40_0); (try clear hcz40_1); (try clear hcz40_2); (try clear hcz40_3); (try clear hfz10_0); (try clear hfz10_1); (try clear hfz10_2); (try clear hfz10_3); (try clear hfz15_0); (try clear hfz15_1); (try clear hfz15_2); (try clear hfz15_3); (try clear hfz21_0); (try clear hfz21_1); (try clear hfz21_2); (try clear hfz21_3); (try clear hfz26_0); (try clear hfz26_1); (try clear hfz26_2); (try clear hfz26_3); (try clear hfz28_0); (try clear hfz28_1); (try clear hfz28_2); (try clear hfz28_3); (try clear hfz37_0); (try clear hfz37_1); (try clear hfz37_2); (try clear hfz37_3); (try clear hfz40_0); (try clear hfz40_1); (try clear hfz40_2); (try clear hfz40_3); obtain ⟨x9_1, x398002_1, u398002, rfl, HA, HK1, HO_4, HO_398001, HO_398002, HO_398003, BK397, HB⟩ := hrel
       cases gk with
       | zero => exact absurd HA.out (by simp [laws_FnTied.l0])
       | succ k1 =>
        have H := HA.out; clear HA; simp only [laws_FnTied.l0] at H
        by_cases c41 : x9_1 < (t398.length : Int)
        ·
         rw [if_pos c41] at H; have c41b0 : decide (x9_1 < (t398.length : Int)) = true := decide_eq_true c41; clear c41
         by_cases c42 : 0 ≤ x9_1
         ·
          rw [if_pos c42] at H; have c42b0 : decide (0 ≤ x9_1) = true := decide_eq_true c42; clear c42
          by_cases c43 : (rd t398 x9_1) < 0
          ·
           rw [if_pos c43] at H; have c43b0 : decide ((rd t398 x9_1) < 0) = true := decide_eq_true c43; clear c43; obtain rfl := Option.some.inj H
           try go_wp2
           replace HO_4 := Az (Kd.R_drew HO_4.out); replace HO_398001 := Az (Kd.R_drew HO_398001.out); replace HO_398002 := Az (Kd.R_drew HO_398002.out); replace HO_398003 := Az (Kd.R_drew HO_398003.out); replace BK397 := Az (blk_drew BK397.out); replace HB := Az (below_drew1 HB.out); have p413 : 0 ≤ (x9_1 : Int) := oz; have q413 : x9_1 < (t398.length : Int) := oz; obtain ⟨ad413, e413, hx413_0⟩ := Kd.at_int (Kd.R_reads' HO_4.out).2.2 x9_1 p413 q413
           cases e413
           replace p413 := eq_true p413; replace q413 := eq_true q413; refine start_ (n := 26) (S := fun w' => w'.cell? (ad413.add (x9_1).toNat) = some (.int .i64 (rd t398 x9_1))) (ds := []) A14_0 (by kernel_rfl) rfl rfl (hx413_0) (fun hHeld => ?_); refine with_tabW laws_FnTied.tab17 laws_FnTied.bits17 (fun HT_ HW_ => ?_); generalize wr.drew = w44 at HO_4 HO_398001 HO_398002 HO_398003 BK397 HB hx413_0 hHeld ⊢; refine pz 0 54 A14_1 HT_.out ?_; refine pz 1 55 A14_2 HT_.out ?_; refine pz 2 56 A14_3 HT_.out ?_; refine take_ (i := 3) (N := some 57) (v := ?_) (a' := ?_) A14_4 rfl rfl (take_ofW HT_.out HW_.out (by kernel_rfl)) (fun _ _ _ h => h) (Or.inl ⟨by rfl, ?_⟩) hHeld ?_ ?_; rotate_left
           ·
            intro w' s0; go_simp; with_reducible rfl
           rotate_left
           ·
            simp only [Act.put, sA, sB, sC, i64_w, i32_w]
            rfl
           refine pz 4 58 A14_5 HT_.out ?_; refine pz 5 59 A14_6 HT_.out ?_; refine pu 6 60 A14_7 HT_.out ?_
           refine pu 7 61 A14_8 HT_.out ?_
           refine pu 8 62 A14_9 HT_.out ?_
           refine pu 9 63 A14_10 HT_.out ?_
           refine pu 10 64 A14_11 HT_.out ?_
           refine pu 11 65 A14_12 HT_.out ?_
           refine pu 12 66 A14_13 HT_.out ?_
           refine pu 13 67 A14_14 HT_.out ?_
           refine pz 14 68 A14_15 HT_.out ?_; refine pz 15 69 A14_16 HT_.out ?_; refine pu 16 70 A14_17 HT_.out ?_
           refine pu 17 71 A14_18 HT_.out ?_
           refine pu 18 72 A14_19 HT_.out ?_
           refine pu 19 73 A14_20 HT_.out ?_
           refine pu 20 74 A14_21 HT_.out ?_
           refine pu 21 75 A14_22 HT_.out ?_
           refine pu 22 76 A14_23 HT_.out ?_
           refine pu 23 77 A14_24 HT_.out ?_
           refine pu 24 78 A14_25 HT_.out ?_
           refine pz 25 79 A14_26 HT_.out ?_; refine done_ (done_of HT_.out (by kernel_rfl)) ?_
           try go_wp2
           go_ret
           exact ⟨rz, bz⟩
          ·
           rw [if_neg c43] at H; have c43b0 : decide ((rd t398 x9_1) < 0) = false := decide_eq_false c43; clear c43
           by_cases c45 : (rd t398 x9_1) ≥ (x398002_1.length : Int)
           ·
            rw [if_pos c45] at H; have c45b0 : decide ((x398002_1.length : Int) ≤ (rd t398 x9_1)) = true := decide_eq_true c45; clear c45; obtain rfl := Option.some.inj H
            try go_wp2
            replace HO_4 := Az (Kd.R_drew HO_4.out); replace HO_398001 := Az (Kd.R_drew HO_398001.out); replace HO_398002 := Az (Kd.R_drew HO_398002.out); replace HO_398003 := Az (Kd.R_drew HO_398003.out); replace BK397 := Az (blk_drew BK397.out); replace HB := Az (below_drew1 HB.out); have p413 : 0 ≤ (x9_1 : Int) := oz; have q413 : x9_1 < (t398.length : Int) := oz; obtain ⟨ad413, e413, hx413_0⟩ := Kd.at_int (Kd.R_reads' HO_4.out).2.2 x9_1 p413 q413
            cases e413
            replace p413 := eq_true p413; replace q413 := eq_true q413; have p414 : 0 ≤ (x9_1 : Int) := oz; have q414 : x9_1 < (t398.length : Int) := oz; obtain ⟨ad414, e414, hx414_0⟩ := Kd.at_int (Kd.R_reads' HO_4.out).2.2 x9_1 p414 q414; obtain rfl : ad413 = ad414 := (by injection e414); replace p414 := eq_true p414; replace q414 := eq_true q414; obtain ⟨Ao47, co47, eo47⟩ := Kd.R_slice HO_398002.out
            (first | subst eo47 | (injection eo47 with f1_ f2_ f3_; have f4_ := f1_.symm; have f5_ := f3_.symm; clear f1_ f2_ f3_; subst f4_; subst f5_))
            refine start_ (n := 26) (S := fun w' => w'.cell? ⟨gb397, 0, none⟩ = some (.int .i64 t387) ∧ w'.cell? ⟨gb397, 1, none⟩ = some (.slice Ao22 t388.length co22) ∧ w'.cell? ⟨gb397, 2, none⟩ = some (.slice Ao47 x398002_1.length co47) ∧ w'.cell? ⟨gb397, 3, none⟩ = some (.slice Ao24 t394.length co24) ∧ w'.cell? (ad413.add (x9_1).toNat) = some (.int .i64 (rd t398 x9_1)) ∧ w'.cell? (ad413.add (x9_1).toNat) = some (.int .i64 (rd t398 x9_1))) (ds := []) A14_0 (by kernel_rfl) rfl rfl ⟨(blk_cell BK397.out 0).trans rfl, (blk_cell BK397.out 1).trans rfl, (blk_cell BK397.out 2).trans rfl, (blk_cell BK397.out 3).trans rfl, hx413_0, hx414_0⟩ (fun hHeld => ?_); refine with_tabW laws_FnTied.tab17 laws_FnTied.bits17 (fun HT_ HW_ => ?_); generalize wr.drew = w46 at HO_4 HO_398001 HO_398002 HO_398003 BK397 HB hx413_0 hx414_0 hHeld ⊢; refine pz 0 54 A14_1 HT_.out ?_; refine pz 1 55 A14_2 HT_.out ?_; refine pz 2 56 A14_3 HT_.out ?_; refine tz 3 57 A14_4 HT_.out HW_.out hHeld ?_
            refine pz 4 58 A14_5 HT_.out ?_; refine pz 5 59 A14_6 HT_.out ?_; refine pz 6 60 A14_7 HT_.out ?_; refine pz 7 61 A14_8 HT_.out ?_; refine pz 8 62 A14_9 HT_.out ?_; refine pz 10 64 A14_27 HT_.out ?_; refine tz 9 63 A14_11 HT_.out HW_.out hHeld ?_
            refine tz 11 65 A14_12 HT_.out HW_.out hHeld ?_
            refine pz 12 66 A14_13 HT_.out ?_; refine pz 13 67 A14_14 HT_.out ?_; refine pz 14 68 A14_15 HT_.out ?_; refine pz 15 69 A14_16 HT_.out ?_; refine pu 16 70 A14_17 HT_.out ?_
            refine pu 17 71 A14_18 HT_.out ?_
            refine pu 18 72 A14_19 HT_.out ?_
            refine pu 19 73 A14_20 HT_.out ?_
            refine pu 20 74 A14_21 HT_.out ?_
            refine pu 21 75 A14_22 HT_.out ?_
            refine pu 22 76 A14_23 HT_.out ?_
            refine pu 23 77 A14_24 HT_.out ?_
            refine pu 24 78 A14_25 HT_.out ?_
            refine pz 25 79 A14_26 HT_.out ?_; refine done_ (done_of HT_.out (by kernel_rfl)) ?_
            try go_wp2
            go_ret
            exact ⟨rz, bz⟩
           ·
            rw [if_neg c45] at H; have c45b0 : decide ((x398002_1.length : Int) ≤ (rd t398 x9_1)) = false := decide_eq_false c45; clear c45
            by_cases c48 : 0 ≤ (rd t398 x9_1)
            ·
             rw [if_pos c48] at H; have c48b0 : decide (0 ≤ (rd t398 x9_1)) = true := decide_eq_true c48; clear c48
             by_cases c49 : (rd t398 x9_1) < (x398002_1.length : Int)
             ·
              rw [if_pos c49] at H; have c49b0 : decide ((rd t398 x9_1) < (x398002_1.length : Int)) = true := decide_eq_true c49; clear c49; obtain ⟨bq50, hbq50⟩ : ∃ b_ : Bool, b_ = ((rd_T55 x398002_1 (rd t398 x9_1)).f2) := ⟨_, rfl⟩
              replace H : (if bq50 = true then (some false) else (laws_FnTied.l0 k1 t398 (wrap64 (x9_1 + 1)) t387 t388 (x398002_1.set ((rd t398 x9_1) : Int).toNat (⟨(rd_T55 x398002_1 (rd t398 x9_1)).f0, (rd_T55 x398002_1 (rd t398 x9_1)).f1, true⟩ : S55)) t394)) = some r := by rw [← hbq50] at H; exact H
              have Nbq50 := Az hbq50; clear hbq50
              by_cases c51 : bq50 = true
              ·
               subst c51
               have H1 : (some false) = some r := by rw [if_pos rfl] at H; exact H
               clear H; have H := H1; clear H1; obtain rfl := Option.some.inj H
               try go_wp2
               replace HO_4 := Az (Kd.R_drew HO_4.out); replace HO_398001 := Az (Kd.R_drew HO_398001.out); replace HO_398002 := Az (Kd.R_drew HO_398002.out); replace HO_398003 := Az (Kd.R_drew HO_398003.out); replace BK397 := Az (blk_drew BK397.out); replace HB := Az (below_drew1 HB.out); have p413 : 0 ≤ (x9_1 : Int) := oz; have q413 : x9_1 < (t398.length : Int) := oz; obtain ⟨ad413, e413, hx413_0⟩ := Kd.at_int (Kd.R_reads' HO_4.out).2.2 x9_1 p413 q413
               cases e413
               replace p413 := eq_true p413; replace q413 := eq_true q413; have p414 : 0 ≤ (x9_1 : Int) := oz; have q414 : x9_1 < (t398.length : Int) := oz; obtain ⟨ad414, e414, hx414_0⟩ := Kd.at_int (Kd.R_reads' HO_4.out).2.2 x9_1 p414 q414; obtain rfl : ad413 = ad414 := (by injection e414); replace p414 := eq_true p414; replace q414 := eq_true q414; obtain ⟨Ao53, co53, eo53⟩ := Kd.R_slice HO_398002.out
               (first | subst eo53 | (injection eo53 with f1_ f2_ f3_; have f4_ := f1_.symm; have f5_ := f3_.symm; clear f1_ f2_ f3_; subst f4_; subst f5_))
               have p415 : 0 ≤ (x9_1 : Int) := oz; have q415 : x9_1 < (t398.length : Int) := oz; obtain ⟨ad415, e415, hx415_0⟩ := Kd.at_int (Kd.R_reads' HO_4.out).2.2 x9_1 p415 q415; obtain rfl : ad413 = ad415 := (by injection e415); replace p415 := eq_true p415; replace q415 := eq_true q415; have p416 : 0 ≤ ((rd t398 x9_1) : Int) := oz; have q416 : (rd t398 x9_1) < (x398002_1.length : Int) := oz; obtain ⟨ad416, e416, hx416_0, hx416_1, hx416_2⟩ := at_T55 (Kd.R_reads' HO_398002.out).2.2 (rd t398 x9_1) p416 q416
               (try rw [← Nbq50.out] at hx416_2)
               cases e416
               replace p416 := eq_true p416; replace q416 := eq_true q416; refine start_ (n := 26) (S := fun w' => w'.cell? ⟨gb397, 0, none⟩ = some (.int .i64 t387) ∧ w'.cell? ⟨gb397, 1, none⟩ = some (.slice Ao22 t388.length co22) ∧ w'.cell? ⟨gb397, 2, none⟩ = some (.slice (some ad416) x398002_1.length co53) ∧ w'.cell? ⟨gb397, 3, none⟩ = some (.slice Ao24 t394.length co24) ∧ w'.cell? (ad413.add (x9_1).toNat) = some (.int .i64 (rd t398 x9_1)) ∧ w'.cell? (ad413.add (x9_1).toNat) = some (.int .i64 (rd t398 x9_1)) ∧ w'.cell? (ad413.add (x9_1).toNat) = some (.int .i64 (rd t398 x9_1)) ∧ w'.cell? (ad416.add (((rd t398 x9_1)).toNat * 3)) = some (.int .i64 ((rd_T55 x398002_1 (rd t398 x9_1)).f0)) ∧ w'.cell? ⟨(ad416.add (((rd t398 x9_1)).toNat * 3)).block, (ad416.add (((rd t398 x9_1)).toNat * 3)).off + 1, none⟩ = some (.int .i64 ((rd_T55 x398002_1 (rd t398 x9_1)).f1)) ∧ w'.cell? ⟨(ad416.add (((rd t398 x9_1)).toNat * 3)).block, (ad416.add (((rd t398 x9_1)).toNat * 3)).off + 2, none⟩ = some (.bool true)) (ds := []) A14_0 (by kernel_rfl) rfl rfl ⟨(blk_cell BK397.out 0).trans rfl, (blk_cell BK397.out 1).trans rfl, (blk_cell BK397.out 2).trans rfl, (blk_cell BK397.out 3).trans rfl, hx413_0, hx414_0, hx415_0, hx416_0, hx416_1, hx416_2⟩ (fun hHeld => ?_); refine with_tabW laws_FnTied.tab17 laws_FnTied.bits17 (fun HT_ HW_ => ?_); generalize wr.drew = w52 at HO_4 HO_398001 HO_398002 HO_398003 BK397 HB hx413_0 hx414_0 hx415_0 hx416_0 hx416_1 hx416_2 hHeld ⊢; refine pz 0 54 A14_1 HT_.out ?_; refine pz 1 55 A14_2 HT_.out ?_; refine pz 2 56 A14_3 HT_.out ?_; refine tz 3 57 A14_4 HT_.out HW_.out hHeld ?_
               refine pz 4 58 A14_5 HT_.out ?_; refine pz 5 59 A14_6 HT_.out ?_; refine pz 6 60 A14_7 HT_.out ?_; refine pz 7 61 A14_8 HT_.out ?_; refine pz 8 62 A14_9 HT_.out ?_; refine pz 10 64 A14_27 HT_.out ?_; refine tz 9 63 A14_11 HT_.out HW_.out hHeld ?_
               refine tz 11 65 A14_12 HT_.out HW_.out hHeld ?_
               refine pz 12 66 A14_13 HT_.out ?_; refine pz 13 67 A14_14 HT_.out ?_; refine pz 14 68 A14_15 HT_.out ?_; refine pz 15 69 A14_16 HT_.out ?_; refine pz 16 70 A14_17 HT_.out ?_; refine pz 18 72 A14_28 HT_.out ?_; refine pz 19 73 A14_29 HT_.out ?_; refine pz 20 74 A14_30 HT_.out ?_; refine tz 17 71 A14_21 HT_.out HW_.out hHeld ?_
               refine tz 21 75 A14_22 HT_.out HW_.out hHeld ?_
               refine pz 22 76 A14_23 HT_.out ?_; refine pz 23 77 A14_24 HT_.out ?_; refine tz 24 78 A14_25 HT_.out HW_.out hHeld ?_
               refine pz 25 79 A14_26 HT_.out ?_; refine done_ (done_of HT_.out (by kernel_rfl)) ?_
               try go_wp2
               go_ret
               exact ⟨rz, bz⟩
              ·
               replace c51 := Bool.eq_false_iff.mpr c51; subst c51
               have H1 : (laws_FnTied.l0 k1 t398 (wrap64 (x9_1 + 1)) t387 t388 (x398002_1.set ((rd t398 x9_1) : Int).toNat (⟨(rd_T55 x398002_1 (rd t398 x9_1)).f0, (rd_T55 x398002_1 (rd t398 x9_1)).f1, true⟩ : S55)) t394) = some r := by rw [if_neg (show ¬ (false = true) by decide)] at H; exact H
               clear H; have H := H1; clear H1; obtain ⟨y418, hy418⟩ : ∃ y_ : List (S55), y_ = (x398002_1.set ((rd t398 x9_1) : Int).toNat (⟨(rd_T55 x398002_1 (rd t398 x9_1)).f0, (rd_T55 x398002_1 (rd t398 x9_1)).f1, true⟩ : S55)) := ⟨_, rfl⟩
               replace H : (laws_FnTied.l0 k1 t398 (wrap64 (x9_1 + 1)) t387 t388 y418 t394) = some r := by have hy_ := hy418; exact yz
               have Ny418 := Az hy418; clear hy418; have H' := Az H; clear H
               try go_wp2
               replace HO_4 := Az (Kd.R_drew HO_4.out); replace HO_398001 := Az (Kd.R_drew HO_398001.out); replace HO_398002 := Az (Kd.R_drew HO_398002.out); replace HO_398003 := Az (Kd.R_drew HO_398003.out); replace BK397 := Az (blk_drew BK397.out); replace HB := Az (below_drew1 HB.out); have p413 : 0 ≤ (x9_1 : Int) := oz; have q413 : x9_1 < (t398.length : Int) := oz; obtain ⟨ad413, e413, hx413_0⟩ := Kd.at_int (Kd.R_reads' HO_4.out).2.2 x9_1 p413 q413
               cases e413
               replace p413 := eq_true p413; replace q413 := eq_true q413; have p414 : 0 ≤ (x9_1 : Int) := oz; have q414 : x9_1 < (t398.length : Int) := oz; obtain ⟨ad414, e414, hx414_0⟩ := Kd.at_int (Kd.R_reads' HO_4.out).2.2 x9_1 p414 q414; obtain rfl : ad413 = ad414 := (by injection e414); replace p414 := eq_true p414; replace q414 := eq_true q414; obtain ⟨Ao56, co56, eo56⟩ := Kd.R_slice HO_398002.out
               (first | subst eo56 | (injection eo56 with f1_ f2_ f3_; have f4_ := f1_.symm; have f5_ := f3_.symm; clear f1_ f2_ f3_; subst f4_; subst f5_))
               have p415 : 0 ≤ (x9_1 : Int) := oz; have q415 : x9_1 < (t398.length : Int) := oz; obtain ⟨ad415, e415, hx415_0⟩ := Kd.at_int (Kd.R_reads' HO_4.out).2.2 x9_1 p415 q415; obtain rfl : ad413 = ad415 := (by injection e415); replace p415 := eq_true p415; replace q415 := eq_true q415; have p416 : 0 ≤ ((rd t398 x9_1) : Int) := oz; have q416 : (rd t398 x9_1) < (x398002_1.length : Int) := oz; obtain ⟨ad416, e416, hx416_0, hx416_1, hx416_2⟩ := at_T55 (Kd.R_reads' HO_398002.out).2.2 (rd t398 x9_1) p416 q416
               (try rw [← Nbq50.out] at hx416_2)
               cases e416
               replace p416 := eq_true p416; replace q416 := eq_true q416; refine start_ (n := 26) (S := fun w' => w'.cell? ⟨gb397, 0, none⟩ = some (.int .i64 t387) ∧ w'.cell? ⟨gb397, 1, none⟩ = some (.slice Ao22 t388.length co22) ∧ w'.cell? ⟨gb397, 2, none⟩ = some (.slice (some ad416) x398002_1.length co56) ∧ w'.cell? ⟨gb397, 3, none⟩ = some (.slice Ao24 t394.length co24) ∧ w'.cell? (ad413.add (x9_1).toNat) = some (.int .i64 (rd t398 x9_1)) ∧ w'.cell? (ad413.add (x9_1).toNat) = some (.int .i64 (rd t398 x9_1)) ∧ w'.cell? (ad413.add (x9_1).toNat) = some (.int .i64 (rd t398 x9_1)) ∧ w'.cell? (ad416.add (((rd t398 x9_1)).toNat * 3)) = some (.int .i64 ((rd_T55 x398002_1 (rd t398 x9_1)).f0)) ∧ w'.cell? ⟨(ad416.add (((rd t398 x9_1)).toNat * 3)).block, (ad416.add (((rd t398 x9_1)).toNat * 3)).off + 1, none⟩ = some (.int .i64 ((rd_T55 x398002_1 (rd t398 x9_1)).f1)) ∧ w'.cell? ⟨(ad416.add (((rd t398 x9_1)).toNat * 3)).block, (ad416.add (((rd t398 x9_1)).toNat * 3)).off + 2, none⟩ = some (.bool false)) (ds := []) A14_0 (by kernel_rfl) rfl rfl ⟨(blk_cell BK397.out 0).trans rfl, (blk_cell BK397.out 1).trans rfl, (blk_cell BK397.out 2).trans rfl, (blk_cell BK397.out 3).trans rfl, hx413_0, hx414_0, hx415_0, hx416_0, hx416_1, hx416_2⟩ (fun hHeld => ?_); refine with_tabW laws_FnTied.tab17 laws_FnTied.bits17 (fun HT_ HW_ => ?_); generalize wr.drew = w55 at HO_4 HO_398001 HO_398002 HO_398003 BK397 HB hx413_0 hx414_0 hx415_0 hx416_0 hx416_1 hx416_2 hHeld ⊢; refine pz 0 54 A14_1 HT_.out ?_; refine pz 1 55 A14_2 HT_.out ?_; refine pz 2 56 A14_3 HT_.out ?_; refine tz 3 57 A14_4 HT_.out HW_.out hHeld ?_
               refine pz 4 58 A14_5 HT_.out ?_; refine pz 5 59 A14_6 HT_.out ?_; refine pz 6 60 A14_7 HT_.out ?_; refine pz 7 61 A14_8 HT_.out ?_; refine pz 8 62 A14_9 HT_.out ?_; refine pz 10 64 A14_27 HT_.out ?_; refine tz 9 63 A14_11 HT_.out HW_.out hHeld ?_
               refine tz 11 65 A14_12 HT_.out HW_.out hHeld ?_
               refine pz 12 66 A14_13 HT_.out ?_; refine pz 13 67 A14_14 HT_.out ?_; refine pz 14 68 A14_15 HT_.out ?_; refine pz 15 69 A14_16 HT_.out ?_; refine pz 16 70 A14_17 HT_.out ?_; refine pz 18 72 A14_28 HT_.out ?_; refine pz 19 73 A14_29 HT_.out ?_; refine pz 20 74 A14_30 HT_.out ?_; refine tz 17 71 A14_21 HT_.out HW_.out hHeld ?_
               refine tz 21 75 A14_22 HT_.out HW_.out hHeld ?_
               refine pz 22 76 A14_23 HT_.out ?_; refine pz 23 77 A14_24 HT_.out ?_; refine tz 24 78 A14_25 HT_.out HW_.out hHeld ?_
               refine pz 25 79 A14_26 HT_.out ?_; refine done_ (done_of HT_.out (by kernel_rfl)) ?_
               try go_wp2
               replace HO_4 := Az (Kd.R_drew HO_4.out); replace HO_398001 := Az (Kd.R_drew HO_398001.out); replace HO_398002 := Az (Kd.R_drew HO_398002.out); replace HO_398003 := Az (Kd.R_drew HO_398003.out); replace BK397 := Az (blk_drew BK397.out); replace HB := Az (below_drew1 HB.out); have p417 : 0 ≤ (x9_1 : Int) := oz; have q417 : x9_1 < (t398.length : Int) := oz; obtain ⟨ad417, e417, hx417_0⟩ := Kd.at_int (Kd.R_reads' HO_4.out).2.2 x9_1 p417 q417; obtain rfl : ad413 = ad417 := (by injection e417); replace p417 := eq_true p417; replace q417 := eq_true q417; have p54 : 0 ≤ ((rd t398 x9_1) : Int) := oz; have q54 : ((rd t398 x9_1) : Int) < ((x398002_1.length : Int) : Int) := oz; obtain ⟨go54, co54, eo54, gb54, gl54, cl54, HG54⟩ := Kd.R_form HO_398002.out (by omega)
               (first | cases eo54 | (injection eo54 with ea_ en_ ec_; (first | subst ea_ | (injection ea_ with ea_; subst ea_)); subst ec_; clear en_))
               have GB54 := Az gb54; have GG54 := Az HG54; clear gb54 gl54 HG54
               (first | simp only [add_plain] at hx416_0 | skip)
               (first | simp only [add_plain] at hx416_1 | skip)
               (first | simp only [add_plain] at hx416_2 | skip)
               obtain ⟨ce54, hcl54, hM54, hcc54, hfr54⟩ := Kd.R_elem HO_398002.out z55 ((rd t398 x9_1) : Int) p54 q54; obtain rfl := k55_openM hM54; have hx54_0 : World.cell? _ ⟨go54, ((rd t398 x9_1) : Int).toNat * 3, none⟩ = some (.int .i64 ((rd_T55 x398002_1 (rd t398 x9_1)).f0)) := hcc54 0 _ rfl; have hx54_1 : World.cell? _ ⟨go54, ((rd t398 x9_1) : Int).toNat * 3 + 1, none⟩ = some (.int .i64 ((rd_T55 x398002_1 (rd t398 x9_1)).f1)) := hcc54 1 _ rfl; have hx54_2 : World.cell? _ ⟨go54, ((rd t398 x9_1) : Int).toNat * 3 + 2, none⟩ = some (.bool ((rd_T55 x398002_1 (rd t398 x9_1)).f2)) := hcc54 2 _ rfl; have hf54_0 : World.frozen? _ ⟨go54, ((rd t398 x9_1) : Int).toNat * 3, none⟩ = false := hfr54 0; have hf54_1 : World.frozen? _ ⟨go54, ((rd t398 x9_1) : Int).toNat * 3 + 1, none⟩ = false := hfr54 1; have hf54_2 : World.frozen? _ ⟨go54, ((rd t398 x9_1) : Int).toNat * 3 + 2, none⟩ = false := hfr54 2; clear hcl54 hcc54 hfr54 hM54; replace p54 := eq_true p54; replace q54 := eq_true q54; obtain ⟨ce58, hcl58, hM58, hcc58, hfr58⟩ := Kd.R_elem HO_398002.out z55 ((rd t398 x9_1) : Int) oz (by have h_ : ((rd t398 x9_1) : Int) < ((x398002_1.length : Int) : Int) := oz; first | exact h_ | (have e_ := (Kd.R_reads' HO_398002.out).1; omega) | simpa using h_); obtain rfl := k55_openM hM58; have HP58 := (Kd.R_seg HO_398002.out ((rd t398 x9_1) : Int) oz (by have h_ : ((rd t398 x9_1) : Int) < ((x398002_1.length : Int) : Int) := oz; first | exact h_ | (have e_ := (Kd.R_reads' HO_398002.out).1; omega) | simpa using h_) (seg := [.bool true]) (j := 2) hcl58 hcc58 (show 3 ≤ 3 from by decide) (x' := (⟨(rd_T55 x398002_1 (rd t398 x9_1)).f0, (rd_T55 x398002_1 (rd t398 x9_1)).f1, true⟩ : S55)) (k55_mkM _ _ _ (⟨(rd_T55 x398002_1 (rd t398 x9_1)).f0, (rd_T55 x398002_1 (rd t398 x9_1)).f1, true⟩ : S55) ) (fun _ hk => hk)).1; rw [← Ny418.out] at HP58; have HQ58 := Az HP58; clear hcl58 hcc58 hfr58 hM58 HP58; refine start_ (n := 9) (S := fun w' => w'.cell? ⟨gb397, 0, none⟩ = some (.int .i64 t387) ∧ w'.cell? ⟨gb397, 1, none⟩ = some (.slice Ao22 t388.length co22) ∧ w'.cell? ⟨gb397, 2, none⟩ = some (.slice (some ⟨go54, 0, none⟩) x398002_1.length co56) ∧ w'.cell? ⟨gb397, 3, none⟩ = some (.slice Ao24 t394.length co24) ∧ w'.cell? (ad413.add (x9_1).toNat) = some (.int .i64 (rd t398 x9_1))) (ds := [8]) A14_31 (by kernel_rfl) rfl rfl ⟨(blk_cell BK397.out 0).trans rfl, (blk_cell BK397.out 1).trans rfl, (blk_cell BK397.out 2).trans rfl, (blk_cell BK397.out 3).trans rfl, hx417_0⟩ (fun hHeld => ?_); refine with_tabW laws_FnTied.tab19 laws_FnTied.bits19 (fun HT_ HW_ => ?_); generalize w55.drew = w57 at HO_4 HO_398001 HO_398002 HO_398003 BK397 HB GG54 HQ58 hf54_0 hf54_1 hf54_2 hx416_0 hx416_1 hx416_2 hx417_0 hx54_0 hx54_1 hx54_2 hHeld ⊢; refine pz 0 80 A14_32 HT_.out ?_; refine pz 2 82 A14_33 HT_.out ?_; refine pure_ (i := 3) (N := some 83) (v := ?_) (a' := ?_) A14_34 rfl rfl (any_of HT_.out (by kernel_rfl)) (fun _ _ _ h => h) (Or.inl ⟨by rfl, ?_⟩) ?_ ?_
               (rotate_left; (intro w'; go_simp; with_reducible rfl); rotate_left; (simp only [Act.put, sA, sB, sC, i64_w, i32_w]; rfl)); refine pz 4 84 A14_35 HT_.out ?_; refine tz 1 81 A14_36 HT_.out HW_.out hHeld ?_
               refine tz 5 85 A14_37 HT_.out HW_.out hHeld ?_
               refine pz 6 86 A14_38 HT_.out ?_; refine pz 7 87 A14_39 HT_.out ?_; refine last_ (i := 8) (N := none) A14_40 rfl rfl (one_of HT_.out (by kernel_rfl)) (by decide) (fun K hK => ?_); refine skip_ (w1 := ?_) (by rfl) rfl ?_ ?_; rotate_left
               ·
                go_simp
                rfl
               refine hK.out _ _ ?_; clear hK K; refine done_ (done_of HT_.out (by kernel_rfl)) ?_
               try go_wp2
               go_roundg k1
               case measure => have := HK1.out; omega
               case rel => exact ⟨(wrap64 (x9_1 + 1)), (y418), (.slice (some ⟨go54, 0, none⟩) x398002_1.length co56), (by first | rfl | (simp; done) | (simp [*]; done)), H', ⟨by have := HK1.out; omega⟩, ⟨by (with_reducible repeat (first | apply Kd.R_alloc | apply Kd.R_drewN | apply Kd.R_drew)); exact Kd.R_mono (Kd.R_far (p := ⟨go54, ((rd t398 x9_1) : Int).toNat * 3 + 2, none⟩) (Kd.R_types HO_4.out GG54.out (by decide)) (fun _ hk => hk.2) (.bool true)) (fun _ hk => trivial)⟩, ⟨by (with_reducible repeat (first | apply Kd.R_alloc | apply Kd.R_drewN | apply Kd.R_drew)); exact Kd.R_mono (Kd.R_far (p := ⟨go54, ((rd t398 x9_1) : Int).toNat * 3 + 2, none⟩) (Kd.R_types HO_398001.out GG54.out (by decide)) (fun _ hk => hk.2) (.bool true)) (fun _ hk => trivial)⟩, ⟨ru HQ58.out⟩, ⟨by (with_reducible repeat (first | apply Kd.R_alloc | apply Kd.R_drewN | apply Kd.R_drew)); exact Kd.R_mono (Kd.R_far (p := ⟨go54, ((rd t398 x9_1) : Int).toNat * 3 + 2, none⟩) (Kd.R_types HO_398003.out GG54.out (by decide)) (fun _ hk => hk.2) (.bool true)) (fun _ hk => trivial)⟩, ⟨by refine bu ?_; refine blk_far ?_ (by have h_ := Kd.R_ne HO_398002.out BK397.out (by decide); intro e_; exact h_ (by rw [e_]; rfl)) _; refine bu ?_; exact BK397.out⟩, ⟨by repeat (first | (with_reducible first | exact HB.out | apply ba | apply bn | apply bd | refine bt ?_ GB54.out | refine bt ?_ GE397.out) | exact HB.out)⟩⟩
             ·
              rw [if_neg c49] at H; exact absurd H (by simp)
            ·
             rw [if_neg c48] at H; exact absurd H (by simp)
         ·
          rw [if_neg c42] at H; exact absurd H (by simp)
        ·
         rw [if_neg c41] at H; have c41b0 : decide (x9_1 < (t398.length : Int)) = false := decide_eq_false c41; clear c41; replace H := Option.bind_eq_some_iff.mp H; obtain ⟨t419, A590, H⟩ := H; replace H : (some t419) = some r := H; have A59 := Az A590; clear A590; obtain rfl := Option.some.inj H; obtain ⟨hcz60_0, hcz60_1, hcz60_2, hcz60_3⟩ := bc4 BK397.out; obtain ⟨hfz60_0, hfz60_1, hfz60_2, hfz60_3⟩ := bf4_ BK397.out; obtain ⟨Ao61, co61, eo61⟩ := Kd.R_slice HO_398002.out; subst eo61
         go_wp2_with (first | ((with_reducible refine gate_callee (f := 31) rfl ?_); refine goesL_ (some 89) rfl rfl Try.func31 (by kernel_rfl) rfl #[.agg #[.int .i64 t387, .slice Ao22 t388.length co22, .slice Ao61 x398002_1.length co61, .slice Ao24 t394.length co24]] rfl (by (try simp only [List.map_toArray, List.map_cons, List.map_nil]); first | done | rfl) ?_; (with_reducible refine (laws_firstFed.calls k1 t387 _ _ t388 _ _ x398002_1 _ _ t394 t419 _ ?side1 ?side2 ?side3 ?side4 ?side5 ?side6 A59.out).mono ?_); (case side1 => exact cv (Kd.R_reads' HO_398001.out).2.2); (case side2 => exact (Kd.R_reads' HO_398001.out).2.1); (case side3 => exact cv (Kd.R_reads' HO_398002.out).2.2); (case side4 => exact (Kd.R_reads' HO_398002.out).2.1); (case side5 => exact cv (Kd.R_reads' HO_398003.out).2.2); (case side6 => exact (Kd.R_reads' HO_398003.out).2.1); rintro e w62 ⟨rfl, hb⟩; refine ⟨_, rfl, ?_⟩; replace HO_4 := Az (Kd.R_below (ru HO_4.out) hb); replace HO_398001 := Az (Kd.R_below (ru HO_398001.out) hb); replace HO_398002 := Az (Kd.R_below (ru HO_398002.out) hb); replace HO_398003 := Az (Kd.R_below (ru HO_398003.out) hb); replace BK397 := Az (blk_below (bu BK397.out) hb); replace HB := Az (below_step bz hb); (try clear hb); (try clear hb2); (try clear hk); (try clear hi)))
         go_ret
         exact ⟨rz, bz⟩
     ·
      rw [if_neg c33] at H; exact absurd H (by simp)
   ·
    replace c30 := Bool.eq_false_iff.mpr c30; subst c30
    have H1 : (if t406 = true then (laws_FnTied.j1 k false) else (laws_FnTied.j1 k ((t398.length : Int) == 0))) = some r := by rw [if_neg (show ¬ (false = true) by decide)] at H; exact H
    clear H; have H := H1; clear H1; have HC63 := Az H; clear H
    go_upto_region 10 with (fail)
    go_cut [2, 26, 30] (fun v2 v26 v30 wc => ∃ (kq : Nat) (x2_62 : Bool), v2 = .bool x2_62 ∧ Aside0 (laws_FnTied.j1 kq x2_62 = some r) ∧ Aside0 (kq ≤ k) ∧ Aside0 (Kd.R k57 57 wc w.heap.size (fun _ => True) (.slice Ao22 t388.length co22) t388) ∧ Aside0 (Kd.R k55 55 wc w.heap.size (fun _ => True) (.slice Ao23 t391.length co23) t391) ∧ Aside0 (Kd.R k59 59 wc w.heap.size (fun _ => True) (.slice Ao24 t394.length co24) t394) ∧ Aside0 (wc.heap[gb397]? = some (.cells #[.int .i64 t387, (.slice Ao22 t388.length co22), (.slice Ao23 t391.length co23), (.slice Ao24 t394.length co24)] 41 (0, 0))) ∧ Aside0 (Below w.heap.size w wc))
    case first =>
     have H := HC63.out; clear HC63
     by_cases c64 : t406 = true
     ·
      subst c64
      have H1 : (laws_FnTied.j1 k false) = some r := by rw [if_pos rfl] at H; exact H
      clear H; have H := H1; clear H1; have H' := Az H; clear H
      go_wp2
      go_meet
      case rel => exact ⟨_, (false), (by first | rfl | (simp; done) | (simp [*]; done)), H', ⟨by first | omega | exact Nat.le_refl _⟩, ⟨ru HO390.out⟩, ⟨ru HO393.out⟩, ⟨ru HO396.out⟩, ⟨by refine bu ?_; exact BK397.out⟩, ⟨bz⟩⟩
     ·
      replace c64 := Bool.eq_false_iff.mpr c64; subst c64
      have H1 : (laws_FnTied.j1 k ((t398.length : Int) == 0)) = some r := by rw [if_neg (show ¬ (false = true) by decide)] at H; exact H
      clear H; have H := H1; clear H1; have H' := Az H; clear H; obtain ⟨Ao65, co65, eo65⟩ := Kd.R_slice HO400.out; subst eo65
      go_wp2
      go_meet
      case rel => exact ⟨_, (((t398.length : Int) == 0)), (by first | rfl | (simp; done) | (simp [*]; done)), H', ⟨by first | omega | exact Nat.le_refl _⟩, ⟨ru HO390.out⟩, ⟨ru HO393.out⟩, ⟨ru HO396.out⟩, ⟨by refine bu ?_; exact BK397.out⟩, ⟨bz⟩⟩
    case rest =>
     clear HC63; (try clear p2); (try clear c3); (try clear c4); (try clear p4); (try clear q4); (try clear hx4); (try clear c5); (try clear p5); (try clear q5); (try clear hx5); (try clear hf5); (try clear c6); (try clear p6); (try clear c30); (try clear c31); (try clear c33); (try clear c41); (try clear c41b0); (try clear p41); (try clear q41); (try clear hx41); (try clear c42); (try clear c48); (try clear c49); (try clear q50); (try clear c51); (try clear c54); (try clear p54); (try clear q54); (try clear hx54); (try clear hf54); (try clear c58); (try clear c64); (try clear p64); (try clear hcz60_0); (try clear hcz60_1); (try clear hcz60_2); (try clear hcz60_3); (try clear hfz60_0); (try clear hfz60_1); (try clear hfz60_2); (try clear hfz60_3); (try clear hx413_0); (try clear hx414_0); (try clear hx415_0); (try clear hx416_0); (try clear hx416_1); (try clear hx416_2); (try clear hx417_0); (try clear hx54_0); (try clear hx54_1); (try clear hx54_2); (try clear p413); (try clear p414); (try clear p415); (try clear p416); (try clear p417); (try clear p54); (try clear q413); (try clear q414); (try clear q415); (try clear q416); (try clear q417); (try clear q54); obtain ⟨kq, x2_62, rfl, HA, HJ62, HO_398001, HO_398002, HO_398003, BK397, HB⟩ := hcut
     cases kq with
     | zero => exact absurd HA.out (by simp [laws_FnTied.j1])
     | succ kj62 =>
      have H := HA.out; clear HA; simp only [laws_FnTied.j1] at H; obtain rfl := Option.some.inj H
      go_wp2
      go_ret
      exact ⟨rz, bz⟩

/-- THE ONE PURE STATEMENT of laws_FnTied: yours. -/
def laws_FnTied.Pure : Prop := ∀ (l0 : List Int), l0.length ≤ maxLen → l0.length * 1 ≤ 140737488351232 → (∀ x ∈ l0, (Lit.int .u8 x).wf = true) → ∃ k, laws_FnTied.f k l0 = some true
theorem laws_FnTied.walk (P : laws_FnTied.Pure) (a0 : Option Addr) (len0 cap0 : Nat) (z0 : List Int) (w : World) (w0 : (a0 = none ∧ len0 = 0 ∧ cap0 = 0 ∧ z0 = []) ∨ ∃ x, a0 = some x ∧ len0 ≤ cap0 ∧ cap0 ≤ maxLen ∧ z0.length = cap0 ∧ (∀ i, i < z0.length → w.cell? (x.add i) = some (.int .u8 (z0.getD i 0))) ∧ ∀ n ∈ z0, (Lit.int .u8 n).wf = true) (y0 : len0 * 1 ≤ 140737488351232) :
  Calls Try.prog 7 #[.slice a0 len0 cap0] w fun e w' => e = .returned (.bool true) ∧ Below w.heap.size w w' := by
 obtain ⟨l0, rfl, hr0, hm0, hw0, hc0⟩ := ReadsInt.ofRowC w0; obtain ⟨k, h⟩ := P l0 hm0 y0 hw0; refine (laws_FnTied.calls k _ _ l0 true w (Kd.C_of_reads (d := (0 : Int)) (h1 := fun _ => rfl) hr0) hc0 h).mono ?_; rintro e w' ⟨rfl, hd⟩; exact ⟨rfl, hd⟩

end Go.Proofs.Ytbbfibokedlkkaa.PFnTied
