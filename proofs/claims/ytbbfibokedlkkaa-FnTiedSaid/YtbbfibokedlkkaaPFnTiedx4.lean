/- Walks of the functions named below, by a program of the session over the kit's printer. -/
import Derived.Test.YtbbfibokedlkkaaPFnTiedx0
import Derived.Test.YtbbfibokedlkkaaPFnTiedx3
namespace Go.Proofs.Ytbbfibokedlkkaa.PFnTied
open Go.RowKit Go.Proofs.YtbbfibokedlkkaaW.PrintWords Go.Proofs.YtbbfibokedlkkaaW.PrintLast Go.Proofs.YtbbfibokedlkkaaW.PrintMore
attribute [local go_sem] max2_int min2_int max_two min_two max_three min_three max_four min_four   -- for this text's walks alone
set_option linter.unusedVariables false
set_option linter.unusedSimpArgs false
abbrev A4_0 := #[O,O,O,O,O,O,O,O,O,O,O,O]
abbrev A4_1 := #[I,O,O,O,O,O,O,O,O,O,O,O]
abbrev A4_2 := #[I,I,O,O,O,O,O,O,O,O,O,O]
abbrev A4_3 := #[I,I,O,O,O,I,O,O,O,O,O,O]
abbrev A4_4 := #[I,I,O,O,O,I,I,O,O,O,O,O]
abbrev A4_5 := #[I,I,I,O,O,I,I,O,O,O,O,O]
abbrev A4_6 := #[I,I,I,I,O,I,I,O,O,O,O,O]
abbrev A4_7 := #[I,I,I,I,I,I,I,O,O,O,O,O]
abbrev A4_8 := #[I,I,I,I,I,I,I,I,O,O,O,O]
abbrev A4_9 := #[I,I,I,I,I,I,I,I,I,O,O,O]
abbrev A4_10 := #[I,I,I,I,I,I,I,I,I,I,O,O]
abbrev A4_11 := #[I,I,I,I,I,I,I,I,I,I,I,O]
abbrev A4_12 := #[I,I,I,I,I,I,I,I,I,I,I,I]
abbrev A4_13 := #[I,I,O,I,O,O,O,O,O,O,O,O]
abbrev A4_14 := #[I,I,O,I,I,O,O,O,O,O,O,O]
abbrev A4_15 := #[I,I,O,I,I,O,I,O,O,O,O,O]
abbrev A4_16 := #[I,I,O,I,I,O,I,I,O,O,O,O]
abbrev A4_17 := #[I,I,I,I,I,O,I,I,O,O,O,O]
abbrev A4_18 := #[I,I,I,I,I,O,I,I,I,O,O,O]

/-! ### impl_islands: function 54 -/
mutual
def impl_islands.l0 : Nat → List Int → List Int → Int → Int → Int → List (S57) → List (S55) → List (S59) → Option (List Int)
 | 0, _, _, _, _, _, _, _, _ => none
 | k + 1, x1, x5, x12, x13, x193000, x193001, x193002, x193003 => if x13 < x12 then (if x5.length < 17592186044416 then (impl_islands.l0 k x1 (x5 ++ [x13]) x12 (wrap64 (x13 + 1)) x193000 x193001 x193002 x193003) else (none)) else (impl_islands.l1 k x1 x5 x193000 0 x193000 x193001 x193002 x193003)
def impl_islands.l1 : Nat → List Int → List Int → Int → Int → Int → List (S57) → List (S55) → List (S59) → Option (List Int)
 | 0, _, _, _, _, _, _, _, _ => none
 | k + 1, x1, x5, x22, x23, x193000, x193001, x193002, x193003 => if x23 < x22 then (impl_islands.l2 k x1 x5 x22 x23 x193002 (x193002.length : Int) 0 x193000 x193001 x193002 x193003) else (some x5)
def impl_islands.l2 : Nat → List Int → List Int → Int → Int → List (S55) → Int → Int → Int → List (S57) → List (S55) → List (S59) → Option (List Int)
 | 0, _, _, _, _, _, _, _, _, _, _, _ => none
 | k + 1, x1, x5, x22, x23, x26, x27, x28, x193000, x193001, x193002, x193003 => if x28 < x27 then (if 0 ≤ x28 then (if x28 < (x26.length : Int) then (if (rd_T55 x26 x28).f2 = true then (if 0 ≤ ((rd_T55 x26 x28).f0) then (if ((rd_T55 x26 x28).f0) < (x5.length : Int) then (if 0 ≤ ((rd_T55 x26 x28).f1) then (if ((rd_T55 x26 x28).f1) < (x5.length : Int) then (impl_islands.l2 k x1 ((x5.set (((rd_T55 x26 x28).f0) : Int).toNat (mn (rd x5 ((rd_T55 x26 x28).f0)) (rd x5 ((rd_T55 x26 x28).f1)))).set (((rd_T55 x26 x28).f1) : Int).toNat (mn (rd x5 ((rd_T55 x26 x28).f0)) (rd x5 ((rd_T55 x26 x28).f1)))) x22 x23 x26 x27 (wrap64 (x28 + 1)) x193000 x193001 x193002 x193003) else (none)) else (none)) else (none)) else (none)) else ((slices_Contains_int_int.f k x1 x28).bind fun t205 => (if t205 = true then (if 0 ≤ ((rd_T55 x26 x28).f0) then (if ((rd_T55 x26 x28).f0) < (x5.length : Int) then (if 0 ≤ ((rd_T55 x26 x28).f1) then (if ((rd_T55 x26 x28).f1) < (x5.length : Int) then (impl_islands.l2 k x1 ((x5.set (((rd_T55 x26 x28).f0) : Int).toNat (mn (rd x5 ((rd_T55 x26 x28).f0)) (rd x5 ((rd_T55 x26 x28).f1)))).set (((rd_T55 x26 x28).f1) : Int).toNat (mn (rd x5 ((rd_T55 x26 x28).f0)) (rd x5 ((rd_T55 x26 x28).f1)))) x22 x23 x26 x27 (wrap64 (x28 + 1)) x193000 x193001 x193002 x193003) else (none)) else (none)) else (none)) else (none)) else (impl_islands.l2 k x1 x5 x22 x23 x26 x27 (wrap64 (x28 + 1)) x193000 x193001 x193002 x193003)))) else (none)) else (none)) else (impl_islands.l1 k x1 x5 x22 (wrap64 (x23 + 1)) x193000 x193001 x193002 x193003)
end
def impl_islands.f (k : Nat) (a0_0 : Int) (l0_1 : List (S57)) (l0_2 : List (S55)) (l0_3 : List (S59)) (l1 : List Int) : Option (List Int) := impl_islands.l0 k l1 (([] : List Int)) a0_0 0 a0_0 l0_1 l0_2 l0_3
def impl_islands.T13 : Bool × List (List Nat × List Nat) := (true, [([], []), ([], []), ([1], [1]), ([0, 2], [0, 2]), ([3], [3]), ([], []), ([], []), ([6], [6]), ([5, 7], [5, 7]), ([8], [8]), ([4, 9], [4, 9]), ([10, 0, 1, 2, 3, 4, 5, 6, 7, 8, 9, 10], [10])])
def impl_islands.B13 : List Nat := [0, 0, 2, 7, 15, 0, 0, 64, 224, 480, 1023, 2047]
theorem impl_islands.tab13 : rtab .any (opsOf Try.f54 13) = impl_islands.T13 := by kernel_rfl
theorem impl_islands.bits13 : waitsOk impl_islands.T13.2 impl_islands.B13 = true := by kernel_rfl
set_option maxHeartbeats 8000000 in
set_option maxRecDepth 100000 in
theorem impl_islands.calls (k : Nat) (a0_0 : Int) (A0_1 : Option Addr) (c0_1 : Nat) (l0_1 : List (S57)) (A0_2 : Option Addr) (c0_2 : Nat) (l0_2 : List (S55)) (A0_3 : Option Addr) (c0_3 : Nat) (l0_3 : List (S59)) (A1 : Option Addr) (c1 : Nat) (l1 : List Int) (r : List Int) (w : World) (hr0_1 : Kd.C k57 w A0_1 l0_1.length l0_1) (hc0_1 : l0_1.length ≤ c0_1) (hr0_2 : Kd.C k55 w A0_2 l0_2.length l0_2) (hc0_2 : l0_2.length ≤ c0_2) (hr0_3 : Kd.C k59 w A0_3 l0_3.length l0_3) (hc0_3 : l0_3.length ≤ c0_3) (hr1 : Kd.C (Kd.int .i64) w A1 l1.length l1) (hc1 : l1.length ≤ c1) (h : impl_islands.f k a0_0 l0_1 l0_2 l0_3 l1 = some r) :
  Calls Try.prog 54 #[.agg #[.int .i64 a0_0, .slice A0_1 l0_1.length c0_1, .slice A0_2 l0_2.length c0_2, .slice A0_3 l0_3.length c0_3], .slice A1 l1.length c1] w fun e w' => ∃ v0_ : Value, e = .returned (v0_) ∧ Kd.R (Kd.int .i64) 3 w' w.heap.size (fun _ => True) v0_ r ∧ Below w.heap.size w w' := by
 have hu41 := Try.underlying41; have hu55 := Try.underlying55; have HR0_1 := Az hr0_1; have HC0_1 := Az hc0_1; clear hr0_1 hc0_1; have HR0_2 := Az hr0_2; have HC0_2 := Az hc0_2; clear hr0_2 hc0_2; have HR0_3 := Az hr0_3; have HC0_3 := Az hc0_3; clear hr0_3 hc0_3; have HR1 := Az hr1; have HC1 := Az hc1; clear hr1 hc1; have HB := Az (Below.refl w.heap.size w); have H : (impl_islands.l0 k l1 (([] : List Int)) a0_0 0 a0_0 l0_1 l0_2 l0_3) = some r := h; clear h; obtain ⟨y193, hy193⟩ : ∃ y_ : List Int, y_ = (([] : List Int)) := ⟨_, rfl⟩
 replace H : (impl_islands.l0 k l1 y193 a0_0 0 a0_0 l0_1 l0_2 l0_3) = some r := by have hy_ := hy193; exact yz
 have Ny193 := Az hy193; clear hy193; have H' := Az H; clear H
 go_enter Try.func54, Try.ntmps54
 go_wp2_with (first | ((with_reducible refine gate_dst (N := 2) rfl ?_); refine box_event ?hg (N := 2) ?hd (cs := #[.int .i64 a0_0, .slice A0_1 l0_1.length c0_1, .slice A0_2 l0_2.length c0_2, .slice A0_3 l0_3.length c0_3]) (t := 41) ?hr ?_; (case hd => rfl); (case hg => rfl); (case hr => first | (go_simp; done) | (go_simp; rfl)); intro gb192 hg w3 hbox hb; have BK192 := Az (hbox); have GW192 := Az ((by rw [hg]; exact (below_size bz) : w.heap.size ≤ gb192)); replace HB := Az (below_step bz hb); have GE192 := GW192; clear hb hbox hg) | ((with_reducible refine gate_dst (N := 10) rfl ?_); refine Kd.R_lit (Kd.int .i64) _ 3 ?hg (N := 10) ?hd (xs := ([] : List Int)) (inner := []) (ok := fun _ => True) (okp := fun _ => True) ?hr ?hp (fun _ hk => hk) trivial (Below.refl _ _) (Nat.le_refl _) (by simp) ?_; (case hd => rfl); (case hg => rfl); (case hr => first | (go_simp; done) | (go_simp; rfl)); (case hp => exact (Reps.none _ _)); intro v194 w4 ho5 hb hg_ hnew_; clear hg_ hnew_; (first | rw [← Ny193.out] at ho5 | (simp only [Int.reduceToNat] at ho5; rw [← Ny193.out] at ho5)); have HO195 := Az (Kd.R_lower ho5 (below_size bz)); replace BK192 := Az (blk_below (bu BK192.out) hb); replace HB := Az (below_step bz hb); clear hb ho5; obtain ⟨hcz6_0, hcz6_1, hcz6_2, hcz6_3⟩ := bc4 BK192.out; obtain ⟨hfz6_0, hfz6_1, hfz6_2, hfz6_3⟩ := bf4_ BK192.out))
 go_loopg [5, 13] k (fun kq v5 v13 w' => ∃ (x5_1 : List Int) (x13_1 : Int), v13 = .int .i64 x13_1 ∧ Aside0 (impl_islands.l0 kq l1 x5_1 a0_0 x13_1 a0_0 l0_1 l0_2 l0_3 = some r) ∧ Aside0 (kq ≤ k) ∧ Aside0 (Kd.R (Kd.int .i64) 3 w' w.heap.size (fun _ => True) v5 x5_1) ∧ Aside0 (w'.heap[gb192]? = some (.cells #[.int .i64 a0_0, (.slice A0_1 l0_1.length c0_1), (.slice A0_2 l0_2.length c0_2), (.slice A0_3 l0_3.length c0_3)] 41 (0, 0))) ∧ Aside0 (Below w.heap.size w w'))
 case atStart => exact ⟨(y193), (0), (by first | rfl | (simp; done) | (simp [*]; done)), H', ⟨Nat.le_refl _⟩, ⟨ru HO195.out⟩, ⟨by refine bu ?_; exact BK192.out⟩, ⟨bz⟩⟩
 case round =>
  clear H'; (try clear c1); (try clear p2); (try clear c5); (try clear hcz6_0); (try clear hcz6_1); (try clear hcz6_2); (try clear hcz6_3); (try clear hfz6_0); (try clear hfz6_1); (try clear hfz6_2); (try clear hfz6_3); obtain ⟨x5_1, x13_1, rfl, HA, HK1, HO_5, BK192, HB⟩ := hrel
  cases gk with
  | zero => exact absurd HA.out (by simp [impl_islands.l0])
  | succ k1 =>
   have H := HA.out; clear HA; simp only [impl_islands.l0] at H
   by_cases c7 : x13_1 < a0_0
   ·
    rw [if_pos c7] at H; have c7b0 : decide (x13_1 < a0_0) = true := decide_eq_true c7; clear c7
    by_cases c8 : x5_1.length < 17592186044416
    ·
     rw [if_pos c8] at H; have LMc8 := Az c8; clear c8; obtain ⟨y196, hy196⟩ : ∃ y_ : List Int, y_ = (x5_1 ++ [x13_1]) := ⟨_, rfl⟩
     replace H : (impl_islands.l0 k1 l1 y196 a0_0 (wrap64 (x13_1 + 1)) a0_0 l0_1 l0_2 l0_3) = some r := by have hy_ := hy196; exact yz
     have Ny196 := Az hy196; clear hy196; have H' := Az H; clear H
     go_wp2_with (first | ((with_reducible refine gate_builtin (b := .append) (xs := #[.tmp 16, .tmp 18]) rfl ?_); at_builtin; refine Kd.R_append (Kd.int .i64) (w0 := w) w.heap.size rfl (.tmp 16) (.tmp 18) 45 3 (.int .i64 0) 8 rfl Try.underlying45 info3 rfl (by decide) (by omega) u5 x5_1 x13_1 [.int .i64 x13_1] (fun _ => True) (fun _ => False) rfl rfl ?aP (fun _ hk => hk.elim) ?aF ?aO ?aB ?aS ?aL ?_; (case aP => exact rfl); (case aB => exact bz); (case aF => exact (fun _ _ => trivial)); (case aO => exact (ru HO_5.out)); (case aS => exact (below_size bz)); (case aL => have := LMc8.out; omega); intro v197 w9 ho hb hg hat; rw [← Ny196.out] at ho; replace BK192 := Az (blk_grown (g := gb192) (o := .cells #[.int .i64 a0_0, .slice A0_1 l0_1.length c0_1, .slice A0_2 l0_2.length c0_2, .slice A0_3 l0_3.length c0_3] 41 (0, 0)) (bu BK192.out) hg (Kd.R_ne HO_5.out BK192.out (by decide))); replace HB := Az (hb); have HO198 := Az (ho); clear HO_5; clear ho hb hg hat))
     go_roundg k1
     case measure => have := HK1.out; omega
     case rel => exact ⟨(y196), (wrap64 (x13_1 + 1)), (by first | rfl | (simp; done) | (simp [*]; done)), H', ⟨by have := HK1.out; omega⟩, ⟨ru HO198.out⟩, ⟨by refine bu ?_; exact BK192.out⟩, ⟨bz⟩⟩
    ·
     rw [if_neg c8] at H; exact absurd H (by simp)
   ·
    rw [if_neg c7] at H; have c7b0 : decide (x13_1 < a0_0) = false := decide_eq_false c7; clear c7; have H' := Az H; clear H; obtain ⟨hcz10_0, hcz10_1, hcz10_2, hcz10_3⟩ := bc4 BK192.out; obtain ⟨hfz10_0, hfz10_1, hfz10_2, hfz10_3⟩ := bf4_ BK192.out
    go_wp2
    go_loopg [23] k1 (fun kq v23 w' => ∃ (x5_2 : List Int) (x23_2 : Int), v23 = .int .i64 x23_2 ∧ Aside0 (impl_islands.l1 kq l1 x5_2 a0_0 x23_2 a0_0 l0_1 l0_2 l0_3 = some r) ∧ Aside0 (kq ≤ k1) ∧ Aside0 (Kd.R (Kd.int .i64) 3 w' w.heap.size (fun _ => True) u5 x5_2) ∧ Aside0 (w'.heap[gb192]? = some (.cells #[.int .i64 a0_0, (.slice A0_1 l0_1.length c0_1), (.slice A0_2 l0_2.length c0_2), (.slice A0_3 l0_3.length c0_3)] 41 (0, 0))) ∧ Aside0 (Below w.heap.size w w'))
    case atStart => exact ⟨(x5_1), (0), (by first | rfl | (simp; done) | (simp [*]; done)), H', ⟨Nat.le_refl _⟩, ⟨ru HO_5.out⟩, ⟨by refine bu ?_; exact BK192.out⟩, ⟨bz⟩⟩
    case round =>
     clear H'; (try clear c1); (try clear p2); (try clear c5); (try clear p6); (try clear c7); (try clear c7b0); (try clear c8); (try clear hcz10_0); (try clear hcz10_1); (try clear hcz10_2); (try clear hcz10_3); (try clear hcz6_0); (try clear hcz6_1); (try clear hcz6_2); (try clear hcz6_3); (try clear hfz10_0); (try clear hfz10_1); (try clear hfz10_2); (try clear hfz10_3); (try clear hfz6_0); (try clear hfz6_1); (try clear hfz6_2); (try clear hfz6_3); (try clear p2); obtain ⟨x5_2, x23_2, rfl, HA, HK2, HO_5, BK192, HB⟩ := hrel
     cases gk with
     | zero => exact absurd HA.out (by simp [impl_islands.l1])
     | succ k2 =>
      have H := HA.out; clear HA; simp only [impl_islands.l1] at H
      by_cases c11 : x23_2 < a0_0
      ·
       rw [if_pos c11] at H; have c11b0 : decide (x23_2 < a0_0) = true := decide_eq_true c11; clear c11; have H' := Az H; clear H; obtain ⟨hcz12_0, hcz12_1, hcz12_2, hcz12_3⟩ := bc4 BK192.out; obtain ⟨hfz12_0, hfz12_1, hfz12_2, hfz12_3⟩ := bf4_ BK192.out
       go_wp2
       go_loopg [28] k2 (fun kq v28 w' => ∃ (x5_3 : List Int) (x28_3 : Int), v28 = .int .i64 x28_3 ∧ Aside0 (impl_islands.l2 kq l1 x5_3 a0_0 x23_2 l0_2 (l0_2.length : Int) x28_3 a0_0 l0_1 l0_2 l0_3 = some r) ∧ Aside0 (kq ≤ k2) ∧ Aside0 (Kd.R (Kd.int .i64) 3 w' w.heap.size (fun _ => True) u5 x5_3) ∧ Aside0 (w'.heap[gb192]? = some (.cells #[.int .i64 a0_0, (.slice A0_1 l0_1.length c0_1), (.slice A0_2 l0_2.length c0_2), (.slice A0_3 l0_3.length c0_3)] 41 (0, 0))) ∧ Aside0 (Below w.heap.size w w'))
       case atStart => exact ⟨(x5_2), (0), (by first | rfl | (simp; done) | (simp [*]; done)), H', ⟨Nat.le_refl _⟩, ⟨ru HO_5.out⟩, ⟨by refine bu ?_; exact BK192.out⟩, ⟨bz⟩⟩
       case round =>
        clear H'; (try clear c1); (try clear p2); (try clear c5); (try clear p6); (try clear c7); (try clear c7b0); (try clear c8); (try clear c11); (try clear c11b0); (try clear hcz10_0); (try clear hcz10_1); (try clear hcz10_2); (try clear hcz10_3); (try clear hcz12_0); (try clear hcz12_1); (try clear hcz12_2); (try clear hcz12_3); (try clear hcz6_0); (try clear hcz6_1); (try clear hcz6_2); (try clear hcz6_3); (try clear hfz10_0); (try clear hfz10_1); (try clear hfz10_2); (try clear hfz10_3); (try clear hfz12_0); (try clear hfz12_1); (try clear hfz12_2); (try clear hfz12_3); (try clear hfz6_0); (try clear hfz6_1); (try clear hfz6_2); (try clear hfz6_3); (try clear p2); (try clear p6); obtain ⟨x5_3, x28_3, rfl, HA, HK3, HO_5, BK192, HB⟩ := hrel
        cases gk with
        | zero => exact absurd HA.out (by simp [impl_islands.l2])
        | succ k3 =>
         have H := HA.out; clear HA; simp only [impl_islands.l2] at H
         by_cases c13 : x28_3 < (l0_2.length : Int)
         ·
          rw [if_pos c13] at H; have c13b0 : decide (x28_3 < (l0_2.length : Int)) = true := decide_eq_true c13; clear c13
          by_cases c14 : 0 ≤ x28_3
          ·
           rw [if_pos c14] at H; have c14b0 : decide (0 ≤ x28_3) = true := decide_eq_true c14; clear c14
           by_cases c15 : x28_3 < (l0_2.length : Int)
           ·
            rw [if_pos c15] at H; have c15b0 : decide (x28_3 < (l0_2.length : Int)) = true := decide_eq_true c15; clear c15; obtain ⟨bq16, hbq16⟩ : ∃ b_ : Bool, b_ = ((rd_T55 l0_2 x28_3).f2) := ⟨_, rfl⟩
            replace H : (if bq16 = true then (if 0 ≤ ((rd_T55 l0_2 x28_3).f0) then (if ((rd_T55 l0_2 x28_3).f0) < (x5_3.length : Int) then (if 0 ≤ ((rd_T55 l0_2 x28_3).f1) then (if ((rd_T55 l0_2 x28_3).f1) < (x5_3.length : Int) then (impl_islands.l2 k3 l1 ((x5_3.set (((rd_T55 l0_2 x28_3).f0) : Int).toNat (mn (rd x5_3 ((rd_T55 l0_2 x28_3).f0)) (rd x5_3 ((rd_T55 l0_2 x28_3).f1)))).set (((rd_T55 l0_2 x28_3).f1) : Int).toNat (mn (rd x5_3 ((rd_T55 l0_2 x28_3).f0)) (rd x5_3 ((rd_T55 l0_2 x28_3).f1)))) a0_0 x23_2 l0_2 (l0_2.length : Int) (wrap64 (x28_3 + 1)) a0_0 l0_1 l0_2 l0_3) else (none)) else (none)) else (none)) else (none)) else ((slices_Contains_int_int.f k3 l1 x28_3).bind fun t205 => (if t205 = true then (if 0 ≤ ((rd_T55 l0_2 x28_3).f0) then (if ((rd_T55 l0_2 x28_3).f0) < (x5_3.length : Int) then (if 0 ≤ ((rd_T55 l0_2 x28_3).f1) then (if ((rd_T55 l0_2 x28_3).f1) < (x5_3.length : Int) then (impl_islands.l2 k3 l1 ((x5_3.set (((rd_T55 l0_2 x28_3).f0) : Int).toNat (mn (rd x5_3 ((rd_T55 l0_2 x28_3).f0)) (rd x5_3 ((rd_T55 l0_2 x28_3).f1)))).set (((rd_T55 l0_2 x28_3).f1) : Int).toNat (mn (rd x5_3 ((rd_T55 l0_2 x28_3).f0)) (rd x5_3 ((rd_T55 l0_2 x28_3).f1)))) a0_0 x23_2 l0_2 (l0_2.length : Int) (wrap64 (x28_3 + 1)) a0_0 l0_1 l0_2 l0_3) else (none)) else (none)) else (none)) else (none)) else (impl_islands.l2 k3 l1 x5_3 a0_0 x23_2 l0_2 (l0_2.length : Int) (wrap64 (x28_3 + 1)) a0_0 l0_1 l0_2 l0_3)))) = some r := by rw [← hbq16] at H; exact H
            have Nbq16 := Az hbq16; clear hbq16
            by_cases c17 : bq16 = true
            ·
             subst c17
             have H1 : (if 0 ≤ ((rd_T55 l0_2 x28_3).f0) then (if ((rd_T55 l0_2 x28_3).f0) < (x5_3.length : Int) then (if 0 ≤ ((rd_T55 l0_2 x28_3).f1) then (if ((rd_T55 l0_2 x28_3).f1) < (x5_3.length : Int) then (impl_islands.l2 k3 l1 ((x5_3.set (((rd_T55 l0_2 x28_3).f0) : Int).toNat (mn (rd x5_3 ((rd_T55 l0_2 x28_3).f0)) (rd x5_3 ((rd_T55 l0_2 x28_3).f1)))).set (((rd_T55 l0_2 x28_3).f1) : Int).toNat (mn (rd x5_3 ((rd_T55 l0_2 x28_3).f0)) (rd x5_3 ((rd_T55 l0_2 x28_3).f1)))) a0_0 x23_2 l0_2 (l0_2.length : Int) (wrap64 (x28_3 + 1)) a0_0 l0_1 l0_2 l0_3) else (none)) else (none)) else (none)) else (none)) = some r := by rw [if_pos rfl] at H; exact H
             clear H; have H := H1; clear H1
             by_cases c18 : 0 ≤ ((rd_T55 l0_2 x28_3).f0)
             ·
              rw [if_pos c18] at H; have c18b0 : decide (0 ≤ ((rd_T55 l0_2 x28_3).f0)) = true := decide_eq_true c18; clear c18
              by_cases c19 : ((rd_T55 l0_2 x28_3).f0) < (x5_3.length : Int)
              ·
               rw [if_pos c19] at H; have c19b0 : decide (((rd_T55 l0_2 x28_3).f0) < (x5_3.length : Int)) = true := decide_eq_true c19; clear c19
               by_cases c20 : 0 ≤ ((rd_T55 l0_2 x28_3).f1)
               ·
                rw [if_pos c20] at H; have c20b0 : decide (0 ≤ ((rd_T55 l0_2 x28_3).f1)) = true := decide_eq_true c20; clear c20
                by_cases c21 : ((rd_T55 l0_2 x28_3).f1) < (x5_3.length : Int)
                ·
                 rw [if_pos c21] at H; have c21b0 : decide (((rd_T55 l0_2 x28_3).f1) < (x5_3.length : Int)) = true := decide_eq_true c21; clear c21; obtain ⟨ji22, hji22⟩ : ∃ j_ : Int, (mn (rd x5_3 ((rd_T55 l0_2 x28_3).f0)) (rd x5_3 ((rd_T55 l0_2 x28_3).f1))) = j_ := ⟨_, rfl⟩
                 replace H : (impl_islands.l2 k3 l1 ((x5_3.set (((rd_T55 l0_2 x28_3).f0) : Int).toNat (ji22)).set (((rd_T55 l0_2 x28_3).f1) : Int).toNat (ji22)) a0_0 x23_2 l0_2 (l0_2.length : Int) (wrap64 (x28_3 + 1)) a0_0 l0_1 l0_2 l0_3) = some r := by first | (rw [hji22] at H; exact H) | (simp only [hji22] at H ⊢; exact H)
                 have hji22_ : (if (rd x5_3 ((rd_T55 l0_2 x28_3).f1)) < (rd x5_3 ((rd_T55 l0_2 x28_3).f0)) then (rd x5_3 ((rd_T55 l0_2 x28_3).f1)) else (rd x5_3 ((rd_T55 l0_2 x28_3).f0))) = ji22 := hji22; obtain ⟨y203, hy203⟩ : ∃ y_ : List Int, y_ = (x5_3.set (((rd_T55 l0_2 x28_3).f0) : Int).toNat (ji22)) := ⟨_, rfl⟩
                 replace H : (impl_islands.l2 k3 l1 (y203.set (((rd_T55 l0_2 x28_3).f1) : Int).toNat (ji22)) a0_0 x23_2 l0_2 (l0_2.length : Int) (wrap64 (x28_3 + 1)) a0_0 l0_1 l0_2 l0_3) = some r := by have hy_ := hy203; exact yz
                 have Ny203 := Az hy203; clear hy203; obtain ⟨y204, hy204⟩ : ∃ y_ : List Int, y_ = (y203.set (((rd_T55 l0_2 x28_3).f1) : Int).toNat (ji22)) := ⟨_, rfl⟩
                 replace H : (impl_islands.l2 k3 l1 y204 a0_0 x23_2 l0_2 (l0_2.length : Int) (wrap64 (x28_3 + 1)) a0_0 l0_1 l0_2 l0_3) = some r := by have hy_ := hy204; exact yz
                 have Ny204 := Az hy204; clear hy204; have H' := Az H; clear H; have p199 : 0 ≤ (x28_3 : Int) := oz; have q199 : x28_3 < (l0_2.length : Int) := oz; obtain ⟨ad199, e199, hx199_0, hx199_1, hx199_2⟩ := at_T55 HR0_2.out x28_3 p199 q199
                 (try rw [← Nbq16.out] at hx199_2)
                 cases e199
                 replace hx199_0 := pw_cell_below HB.out hx199_0; replace hx199_1 := pw_cell_below HB.out hx199_1; replace hx199_2 := pw_cell_below HB.out hx199_2; replace p199 := eq_true p199; replace q199 := eq_true q199
                 try go_wp2_with (first | ((with_reducible refine gate_dst (N := 8) rfl ?_); refine box_event ?hg (N := 8) ?hd (cs := #[.int .i64 0, .int .i64 0, .bool false]) (t := 55) ?hr ?_; (case hd => rfl); (case hg => rfl); (case hr => first | (go_simp; done) | (go_simp; rfl)); intro gb200 hg w25 hbox hb; have n0_ := Az (Kd.R_below (ru HO_5.out) hb); have n1_ := Az (blk_below (bu BK192.out) hb); have n2_ := Az (below_step bz hb); have n3_ := Az (hbox); have n4_ := Az ((by rw [hg]; exact (below_size bz) : w.heap.size ≤ gb200)); have n5_ := n4_; have n6_ := Az ((by rw [hg]; exact Nat.ne_of_lt (blk_lt (g := gb192) (o := .cells #[.int .i64 a0_0, .slice A0_1 l0_1.length c0_1, .slice (some ad199) l0_2.length c0_2, .slice A0_3 l0_3.length c0_3] 41 (0, 0)) (bu BK192.out)) : gb192 ≠ gb200)); have n7_ := Az n6_.out.symm; clear HO_5; clear BK192; clear HB; have HO_5 := n0_; have BK192 := n1_; have HB := n2_; have BK200 := n3_; have GW200 := n4_; have GE200 := n5_; have NB192_200 := n6_; have NB200_192 := n7_; clear n0_ n1_ n2_ n3_ n4_ n5_ n6_ n7_; clear hb hbox hg; have hnb26 := NB200_192.out; have hnc26 := NB192_200.out; obtain ⟨hcz27_0, hcz27_1, hcz27_2⟩ := bc3 BK200.out; obtain ⟨hfz27_0, hfz27_1, hfz27_2⟩ := bf3_ BK200.out))
                 have n0_ : Aside0 (Kd.R (Kd.int .i64) 3 (((w25.setCell ⟨gb200, 0, none⟩ (.int .i64 ((rd_T55 l0_2 x28_3).f0))).setCell ⟨gb200, 1, none⟩ (.int .i64 ((rd_T55 l0_2 x28_3).f1))).setCell ⟨gb200, 2, none⟩ (.bool true)) w.heap.size (fun _ => True) u5 x5_3) := ⟨by (with_reducible repeat (first | apply Kd.R_alloc | apply Kd.R_drewN | apply Kd.R_drew)); exact Kd.R_mono (Kd.R_far (p := ⟨gb200, 2, none⟩) (Kd.R_far (p := ⟨gb200, 1, none⟩) (Kd.R_far (p := ⟨gb200, 0, none⟩) (Kd.R_types HO_5.out BK200.out (by decide)) (fun _ hk => hk.2) (.int .i64 ((rd_T55 l0_2 x28_3).f0))) (fun _ hk => hk.2) (.int .i64 ((rd_T55 l0_2 x28_3).f1))) (fun _ hk => hk.2) (.bool true)) (fun _ hk => trivial)⟩; have n1_ : Aside0 ((((w25.setCell ⟨gb200, 0, none⟩ (.int .i64 ((rd_T55 l0_2 x28_3).f0))).setCell ⟨gb200, 1, none⟩ (.int .i64 ((rd_T55 l0_2 x28_3).f1))).setCell ⟨gb200, 2, none⟩ (.bool true)).heap[gb192]? = some (.cells #[.int .i64 a0_0, .slice A0_1 l0_1.length c0_1, .slice (some ad199) l0_2.length c0_2, .slice A0_3 l0_3.length c0_3] 41 (0, 0))) := ⟨by refine bu ?_; refine bf3 ?_ NB192_200.out; refine bu ?_; exact BK192.out⟩; have n2_ : Aside0 ((((w25.setCell ⟨gb200, 0, none⟩ (.int .i64 ((rd_T55 l0_2 x28_3).f0))).setCell ⟨gb200, 1, none⟩ (.int .i64 ((rd_T55 l0_2 x28_3).f1))).setCell ⟨gb200, 2, none⟩ (.bool true)).heap[gb200]? = some (.cells #[.int .i64 ((rd_T55 l0_2 x28_3).f0), .int .i64 ((rd_T55 l0_2 x28_3).f1), .bool true] 55 (0, 0))) := ⟨by refine bu ?_; refine blk_put (cs := #[.int .i64 ((rd_T55 l0_2 x28_3).f0), .int .i64 ((rd_T55 l0_2 x28_3).f1), .bool false]) ?_ 2 _ rfl; refine bu ?_; refine blk_put (cs := #[.int .i64 ((rd_T55 l0_2 x28_3).f0), .int .i64 0, .bool false]) ?_ 1 _ rfl; refine bu ?_; refine blk_put (cs := #[.int .i64 0, .int .i64 0, .bool false]) ?_ 0 _ rfl; refine bu ?_; exact BK200.out⟩; have n3_ : Aside0 (Below w.heap.size w (((w25.setCell ⟨gb200, 0, none⟩ (.int .i64 ((rd_T55 l0_2 x28_3).f0))).setCell ⟨gb200, 1, none⟩ (.int .i64 ((rd_T55 l0_2 x28_3).f1))).setCell ⟨gb200, 2, none⟩ (.bool true))) := ⟨bz⟩
                 (try (have hsd_ : ∀ (W_ : World) (n_ : Nat) (a_ : Addr) (v_ : Value), (W_.drewN n_).setCell a_ v_ = (W_.setCell a_ v_).drewN n_ := fun _ _ _ _ => rfl); simp only [hsd_]; clear hsd_)
                 (try clear HO_5); (try clear BK192); (try clear BK200); (try clear HB); generalize (((w25.setCell ⟨gb200, 0, none⟩ (.int .i64 ((rd_T55 l0_2 x28_3).f0))).setCell ⟨gb200, 1, none⟩ (.int .i64 ((rd_T55 l0_2 x28_3).f1))).setCell ⟨gb200, 2, none⟩ (.bool true)) = w28 at n0_ n1_ n2_ n3_ ⊢; have HO_5 := n0_; have BK192 := n1_; have BK200 := n2_; have HB := n3_; clear n0_ n1_ n2_ n3_; replace HO_5 := Az (Kd.R_drew HO_5.out); replace BK192 := Az (blk_drew BK192.out); replace BK200 := Az (blk_drew BK200.out); replace HB := Az (below_drew1 HB.out); obtain ⟨Ao30, co30, eo30⟩ := Kd.R_slice HO_5.out
                 (first | subst eo30 | (injection eo30 with f1_ f2_ f3_; have f4_ := f1_.symm; have f5_ := f3_.symm; clear f1_ f2_ f3_; subst f4_; subst f5_))
                 have p201 : 0 ≤ (((rd_T55 l0_2 x28_3).f0) : Int) := oz; have q201 : ((rd_T55 l0_2 x28_3).f0) < (x5_3.length : Int) := oz; obtain ⟨ad201, e201, hx201_0⟩ := Kd.at_int (Kd.R_reads' HO_5.out).2.2 ((rd_T55 l0_2 x28_3).f0) p201 q201
                 cases e201
                 replace p201 := eq_true p201; replace q201 := eq_true q201; have p202 : 0 ≤ (((rd_T55 l0_2 x28_3).f1) : Int) := oz; have q202 : ((rd_T55 l0_2 x28_3).f1) < (x5_3.length : Int) := oz; obtain ⟨ad202, e202, hx202_0⟩ := Kd.at_int (Kd.R_reads' HO_5.out).2.2 ((rd_T55 l0_2 x28_3).f1) p202 q202; obtain rfl : ad201 = ad202 := (by injection e202); replace p202 := eq_true p202; replace q202 := eq_true q202; refine start_ (n := 12) (S := fun w' => w'.cell? ⟨gb200, 0, none⟩ = some (.int .i64 ((rd_T55 l0_2 x28_3).f0)) ∧ w'.cell? ⟨gb200, 1, none⟩ = some (.int .i64 ((rd_T55 l0_2 x28_3).f1)) ∧ w'.cell? ⟨gb200, 2, none⟩ = some (.bool true) ∧ w'.cell? (ad201.add (((rd_T55 l0_2 x28_3).f0)).toNat) = some (.int .i64 (rd x5_3 ((rd_T55 l0_2 x28_3).f0))) ∧ w'.cell? (ad201.add (((rd_T55 l0_2 x28_3).f1)).toNat) = some (.int .i64 (rd x5_3 ((rd_T55 l0_2 x28_3).f1)))) (ds := []) A4_0 (by kernel_rfl) rfl rfl ⟨(blk_cell BK200.out 0).trans rfl, (blk_cell BK200.out 1).trans rfl, (blk_cell BK200.out 2).trans rfl, hx201_0, hx202_0⟩ (fun hHeld => ?_); refine with_tabW impl_islands.tab13 impl_islands.bits13 (fun HT_ HW_ => ?_); generalize w28.drew = w29 at HO_5 BK192 BK200 HB hx201_0 hx202_0 hHeld ⊢; refine pz 0 40 A4_1 HT_.out ?_; refine pz 1 41 A4_2 HT_.out ?_; refine pz 5 45 A4_3 HT_.out ?_; refine pz 6 46 A4_4 HT_.out ?_; refine tz 2 42 A4_5 HT_.out HW_.out hHeld ?_
                 refine pz 3 43 A4_6 HT_.out ?_; refine tz 4 44 A4_7 HT_.out HW_.out hHeld ?_
                 refine tz 7 47 A4_8 HT_.out HW_.out hHeld ?_
                 refine pz 8 48 A4_9 HT_.out ?_; refine tz 9 49 A4_10 HT_.out HW_.out hHeld ?_
                 refine pz 10 50 A4_11 HT_.out ?_; refine pz 11 9 A4_12 HT_.out ?_; refine done_ (done_of HT_.out (by kernel_rfl)) ?_
                 try go_wp2
                 replace HO_5 := Az (Kd.R_drew HO_5.out); replace BK192 := Az (blk_drew BK192.out); replace BK200 := Az (blk_drew BK200.out); replace HB := Az (below_drew1 HB.out); have p23 : 0 ≤ (((rd_T55 l0_2 x28_3).f0) : Int) := oz; have q23 : (((rd_T55 l0_2 x28_3).f0) : Int) < ((x5_3.length : Int) : Int) := oz; obtain ⟨go23, co23, eo23, gb23, gl23, cl23, HG23⟩ := Kd.R_form HO_5.out (by omega)
                 (first | cases eo23 | (injection eo23 with ea_ en_ ec_; (first | subst ea_ | (injection ea_ with ea_; subst ea_)); subst ec_; clear en_))
                 have GB23 := Az gb23; have GG23 := Az HG23; clear gb23 gl23 HG23
                 (first | simp only [add_plain] at hx201_0 | skip)
                 (first | simp only [add_plain] at hx202_0 | skip)
                 obtain ⟨hx23_0, hf23_0⟩ := Kd.R_celln 0 HO_5.out (((rd_T55 l0_2 x28_3).f0) : Int) p23 q23; replace p23 := eq_true p23; replace q23 := eq_true q23; have HP32 := Kd.R_putn HO_5.out (((rd_T55 l0_2 x28_3).f0) : Int) ji22; rw [← Ny203.out] at HP32; have HQ32 := Az HP32; clear HP32; have p24 : 0 ≤ (((rd_T55 l0_2 x28_3).f1) : Int) := oz; have q24 : (((rd_T55 l0_2 x28_3).f1) : Int) < ((x5_3.length : Int) : Int) := oz; obtain ⟨hx24_0, hf24_0⟩ := Kd.R_celln 0 HQ32.out (((rd_T55 l0_2 x28_3).f1) : Int) p24 q24; replace p24 := eq_true p24; replace q24 := eq_true q24; have HP33 := Kd.R_putn HQ32.out (((rd_T55 l0_2 x28_3).f1) : Int) ji22; rw [← Ny204.out] at HP33; have HQ33 := Az HP33; clear HP33; refine Go.Proofs.YtbbfibokedlkkaaW.PrintTwo.start2_ (n := 12) (S := fun w' => w'.cell? ⟨gb200, 0, none⟩ = some (.int .i64 ((rd_T55 l0_2 x28_3).f0)) ∧ w'.cell? ⟨gb200, 1, none⟩ = some (.int .i64 ((rd_T55 l0_2 x28_3).f1)) ∧ w'.cell? ⟨gb200, 2, none⟩ = some (.bool true)) (F := fun w' => w'.cell? ⟨gb200, 0, none⟩ = some (.int .i64 ((rd_T55 l0_2 x28_3).f0)) ∧ w'.cell? ⟨gb200, 1, none⟩ = some (.int .i64 ((rd_T55 l0_2 x28_3).f1)) ∧ w'.cell? ⟨gb200, 2, none⟩ = some (.bool true)) (ds := [9, 11]) A4_0 (by kernel_rfl) rfl rfl (bc3 BK200.out) (bc3 BK200.out) (fun hHeld hFar => ?_); generalize w29.drew = w31 at HO_5 BK192 BK200 HB GG23 HQ32 HQ33 hf23_0 hf24_0 hx201_0 hx202_0 hx23_0 hx24_0 hHeld hFar ⊢; refine Go.Proofs.YtbbfibokedlkkaaW.PrintTwo.pure2_ (i := 0) (N := some 51) (v := ?_) (a' := ?_) A4_1 rfl rfl (by kernel_rfl) (fun _ _ _ h => h) (Or.inl ⟨by rfl, ?_⟩) ?_ ?_; (rotate_left; (intro w'; go_simp; with_reducible rfl); rotate_left; (simp only [Act.put, sA, sB, sC, i64_w, i32_w]; rfl)); refine Go.Proofs.YtbbfibokedlkkaaW.PrintTwo.pure2_ (i := 1) (N := some 52) (v := ?_) (a' := ?_) A4_2 rfl rfl (by kernel_rfl) (fun _ _ _ h => h) (Or.inl ⟨by rfl, ?_⟩) ?_ ?_; (rotate_left; (intro w'; go_simp; with_reducible rfl); rotate_left; (simp only [Act.put, sA, sB, sC, i64_w, i32_w]; rfl)); refine Go.Proofs.YtbbfibokedlkkaaW.PrintTwo.pure2_ (i := 3) (N := some 54) (v := ?_) (a' := ?_) A4_13 rfl rfl (by kernel_rfl) (fun _ _ _ h => h) (Or.inl ⟨by rfl, ?_⟩) ?_ ?_; (rotate_left; (intro w'; go_simp; with_reducible rfl); rotate_left; (simp only [Act.put, sA, sB, sC, i64_w, i32_w]; rfl)); refine Go.Proofs.YtbbfibokedlkkaaW.PrintTwo.pure2_ (i := 4) (N := some 55) (v := ?_) (a' := ?_) A4_14 rfl rfl (by kernel_rfl) (fun _ _ _ h => h) (Or.inl ⟨by rfl, ?_⟩) ?_ ?_; (rotate_left; (intro w'; go_simp; with_reducible rfl); rotate_left; (simp only [Act.put, sA, sB, sC, i64_w, i32_w]; rfl)); refine Go.Proofs.YtbbfibokedlkkaaW.PrintTwo.pure2_ (i := 6) (N := some 57) (v := ?_) (a' := ?_) A4_15 rfl rfl (by kernel_rfl) (fun _ _ _ h => h) (Or.inl ⟨by rfl, ?_⟩) ?_ ?_; (rotate_left; (intro w'; go_simp; with_reducible rfl); rotate_left; (simp only [Act.put, sA, sB, sC, i64_w, i32_w]; rfl)); refine Go.Proofs.YtbbfibokedlkkaaW.PrintTwo.pure2_ (i := 7) (N := some 58) (v := ?_) (a' := ?_) A4_16 rfl rfl (by kernel_rfl) (fun _ _ _ h => h) (Or.inl ⟨by rfl, ?_⟩) ?_ ?_; (rotate_left; (intro w'; go_simp; with_reducible rfl); rotate_left; (simp only [Act.put, sA, sB, sC, i64_w, i32_w]; rfl))
                 refine Go.Proofs.YtbbfibokedlkkaaW.PrintTwo.take2_ (i := 2) (N := some 53) (v := ?_) (a' := ?_) A4_17 rfl rfl (by kernel_rfl) (fun _ _ _ h => h) (Or.inl ⟨by rfl, ?_⟩) hHeld ?_ ?_; rotate_left
                 ·
                  rintro w' ⟨s0, s1, s2⟩; go_simp; with_reducible rfl
                 rotate_left
                 ·
                  simp only [Act.put, sA, sB, sC, i64_w, i32_w]
                  rfl
                 refine Go.Proofs.YtbbfibokedlkkaaW.PrintTwo.pure2_ (i := 8) (N := some 59) (v := ?_) (a' := ?_) A4_18 rfl rfl (by kernel_rfl) (fun _ _ _ h => h) (Or.inl ⟨by rfl, ?_⟩) ?_ ?_; (rotate_left; (intro w'; go_simp; with_reducible rfl); rotate_left; (simp only [Act.put, sA, sB, sC, i64_w, i32_w]; rfl)); refine Go.Proofs.YtbbfibokedlkkaaW.PrintTwo.far2_ (i := 5) (N := some 56) (v := ?_) (a' := ?_) A4_9 rfl rfl (by kernel_rfl) (fun _ _ _ h => h) (Or.inl ⟨by rfl, ?_⟩) hFar ?_ ?_; rotate_left
                 ·
                  rintro w' ⟨s0, s1, s2⟩; go_simp; with_reducible rfl
                 rotate_left
                 ·
                  simp only [Act.put, sA, sB, sC, i64_w, i32_w]
                  rfl
                 refine Go.Proofs.YtbbfibokedlkkaaW.PrintTwo.last2_ (i := 9) (N := none) A4_10 rfl rfl (by kernel_rfl) (by decide) (fun K hK => ?_); refine skip_ (w1 := ?_) (by rfl) rfl ?_ ?_; rotate_left
                 ·
                  go_simp
                  rfl
                 refine hK.out _ _ ⟨((cell_far (p := ⟨go23, _, none⟩) (fun e_ => (Kd.R_ne HO_5.out BK200.out (by decide)) (congrArg some e_)) _).trans (hFar.1)), ((cell_far (p := ⟨go23, _, none⟩) (fun e_ => (Kd.R_ne HO_5.out BK200.out (by decide)) (congrArg some e_)) _).trans (hFar.2.1)), ((cell_far (p := ⟨go23, _, none⟩) (fun e_ => (Kd.R_ne HO_5.out BK200.out (by decide)) (congrArg some e_)) _).trans (hFar.2.2))⟩ (fun hFar => ?_); clear hK K; refine Go.Proofs.YtbbfibokedlkkaaW.PrintTwo.pure2_ (i := 10) (N := some 60) (v := ?_) (a' := ?_) A4_11 rfl rfl (by kernel_rfl) (fun _ _ _ h => h) (Or.inl ⟨by rfl, ?_⟩) ?_ ?_; (rotate_left; (intro w'; go_simp; with_reducible rfl); rotate_left; (simp only [Act.put, sA, sB, sC, i64_w, i32_w]; rfl)); refine Go.Proofs.YtbbfibokedlkkaaW.PrintTwo.last2_ (i := 11) (N := none) A4_12 rfl rfl (by kernel_rfl) (by decide) (fun K hK => ?_); refine skip_ (w1 := ?_) (by rfl) rfl ?_ ?_; rotate_left
                 ·
                  go_simp
                  rfl
                 refine hK.out _ _ ⟨((cell_far (p := ⟨go23, _, none⟩) (fun e_ => (Kd.R_ne HO_5.out BK200.out (by decide)) (congrArg some e_)) _).trans (hFar.1)), ((cell_far (p := ⟨go23, _, none⟩) (fun e_ => (Kd.R_ne HO_5.out BK200.out (by decide)) (congrArg some e_)) _).trans (hFar.2.1)), ((cell_far (p := ⟨go23, _, none⟩) (fun e_ => (Kd.R_ne HO_5.out BK200.out (by decide)) (congrArg some e_)) _).trans (hFar.2.2))⟩ (fun hFar => ?_); clear hK K; refine Go.Proofs.YtbbfibokedlkkaaW.PrintTwo.done2_ (by kernel_rfl) ?_
                 try go_wp2
                 go_roundg k3
                 case measure => have := HK1.out; have := HK2.out; have := HK3.out; omega
                 case rel => exact ⟨(y204), (wrap64 (x28_3 + 1)), (by first | rfl | (simp; done) | (simp [*]; done)), H', ⟨by have := HK1.out; have := HK2.out; have := HK3.out; omega⟩, ⟨ru HQ33.out⟩, ⟨by refine bu ?_; refine blk_far ?_ (by have h_ := Kd.R_ne HO_5.out BK192.out (by decide); intro e_; exact h_ (by rw [e_]; rfl)) _; refine bu ?_; refine blk_far ?_ (by have h_ := Kd.R_ne HO_5.out BK192.out (by decide); intro e_; exact h_ (by rw [e_]; rfl)) _; refine bu ?_; exact BK192.out⟩, ⟨by repeat (first | (with_reducible first | exact HB.out | apply ba | apply bn | apply bd | refine bt ?_ GB23.out | refine bt ?_ GB23.out | refine bt ?_ GE192.out | refine bt ?_ GE200.out) | exact HB.out)⟩⟩
                ·
                 rw [if_neg c21] at H; exact absurd H (by simp)
               ·
                rw [if_neg c20] at H; exact absurd H (by simp)
              ·
               rw [if_neg c19] at H; exact absurd H (by simp)
             ·
              rw [if_neg c18] at H; exact absurd H (by simp)
            ·
             replace c17 := Bool.eq_false_iff.mpr c17; subst c17
             have H1 : ((slices_Contains_int_int.f k3 l1 x28_3).bind fun t205 => (if t205 = true then (if 0 ≤ ((rd_T55 l0_2 x28_3).f0) then (if ((rd_T55 l0_2 x28_3).f0) < (x5_3.length : Int) then (if 0 ≤ ((rd_T55 l0_2 x28_3).f1) then (if ((rd_T55 l0_2 x28_3).f1) < (x5_3.length : Int) then (impl_islands.l2 k3 l1 ((x5_3.set (((rd_T55 l0_2 x28_3).f0) : Int).toNat (mn (rd x5_3 ((rd_T55 l0_2 x28_3).f0)) (rd x5_3 ((rd_T55 l0_2 x28_3).f1)))).set (((rd_T55 l0_2 x28_3).f1) : Int).toNat (mn (rd x5_3 ((rd_T55 l0_2 x28_3).f0)) (rd x5_3 ((rd_T55 l0_2 x28_3).f1)))) a0_0 x23_2 l0_2 (l0_2.length : Int) (wrap64 (x28_3 + 1)) a0_0 l0_1 l0_2 l0_3) else (none)) else (none)) else (none)) else (none)) else (impl_islands.l2 k3 l1 x5_3 a0_0 x23_2 l0_2 (l0_2.length : Int) (wrap64 (x28_3 + 1)) a0_0 l0_1 l0_2 l0_3))) = some r := by rw [if_neg (show ¬ (false = true) by decide)] at H; exact H
             clear H; have H := H1; clear H1; replace H := Option.bind_eq_some_iff.mp H; obtain ⟨t205, A340, H⟩ := H; replace H : (if t205 = true then (if 0 ≤ ((rd_T55 l0_2 x28_3).f0) then (if ((rd_T55 l0_2 x28_3).f0) < (x5_3.length : Int) then (if 0 ≤ ((rd_T55 l0_2 x28_3).f1) then (if ((rd_T55 l0_2 x28_3).f1) < (x5_3.length : Int) then (impl_islands.l2 k3 l1 ((x5_3.set (((rd_T55 l0_2 x28_3).f0) : Int).toNat (mn (rd x5_3 ((rd_T55 l0_2 x28_3).f0)) (rd x5_3 ((rd_T55 l0_2 x28_3).f1)))).set (((rd_T55 l0_2 x28_3).f1) : Int).toNat (mn (rd x5_3 ((rd_T55 l0_2 x28_3).f0)) (rd x5_3 ((rd_T55 l0_2 x28_3).f1)))) a0_0 x23_2 l0_2 (l0_2.length : Int) (wrap64 (x28_3 + 1)) a0_0 l0_1 l0_2 l0_3) else (none)) else (none)) else (none)) else (none)) else (impl_islands.l2 k3 l1 x5_3 a0_0 x23_2 l0_2 (l0_2.length : Int) (wrap64 (x28_3 + 1)) a0_0 l0_1 l0_2 l0_3)) = some r := H; have A34 := Az A340; clear A340
             by_cases c35 : t205 = true
             ·
              subst c35
              have H1 : (if 0 ≤ ((rd_T55 l0_2 x28_3).f0) then (if ((rd_T55 l0_2 x28_3).f0) < (x5_3.length : Int) then (if 0 ≤ ((rd_T55 l0_2 x28_3).f1) then (if ((rd_T55 l0_2 x28_3).f1) < (x5_3.length : Int) then (impl_islands.l2 k3 l1 ((x5_3.set (((rd_T55 l0_2 x28_3).f0) : Int).toNat (mn (rd x5_3 ((rd_T55 l0_2 x28_3).f0)) (rd x5_3 ((rd_T55 l0_2 x28_3).f1)))).set (((rd_T55 l0_2 x28_3).f1) : Int).toNat (mn (rd x5_3 ((rd_T55 l0_2 x28_3).f0)) (rd x5_3 ((rd_T55 l0_2 x28_3).f1)))) a0_0 x23_2 l0_2 (l0_2.length : Int) (wrap64 (x28_3 + 1)) a0_0 l0_1 l0_2 l0_3) else (none)) else (none)) else (none)) else (none)) = some r := by rw [if_pos rfl] at H; exact H
              clear H; have H := H1; clear H1
              by_cases c36 : 0 ≤ ((rd_T55 l0_2 x28_3).f0)
              ·
               rw [if_pos c36] at H; have c36b0 : decide (0 ≤ ((rd_T55 l0_2 x28_3).f0)) = true := decide_eq_true c36; clear c36
               by_cases c37 : ((rd_T55 l0_2 x28_3).f0) < (x5_3.length : Int)
               ·
                rw [if_pos c37] at H; have c37b0 : decide (((rd_T55 l0_2 x28_3).f0) < (x5_3.length : Int)) = true := decide_eq_true c37; clear c37
                by_cases c38 : 0 ≤ ((rd_T55 l0_2 x28_3).f1)
                ·
                 rw [if_pos c38] at H; have c38b0 : decide (0 ≤ ((rd_T55 l0_2 x28_3).f1)) = true := decide_eq_true c38; clear c38
                 by_cases c39 : ((rd_T55 l0_2 x28_3).f1) < (x5_3.length : Int)
                 ·
                  rw [if_pos c39] at H; have c39b0 : decide (((rd_T55 l0_2 x28_3).f1) < (x5_3.length : Int)) = true := decide_eq_true c39; clear c39; obtain ⟨ji40, hji40⟩ : ∃ j_ : Int, (mn (rd x5_3 ((rd_T55 l0_2 x28_3).f0)) (rd x5_3 ((rd_T55 l0_2 x28_3).f1))) = j_ := ⟨_, rfl⟩
                  replace H : (impl_islands.l2 k3 l1 ((x5_3.set (((rd_T55 l0_2 x28_3).f0) : Int).toNat (ji40)).set (((rd_T55 l0_2 x28_3).f1) : Int).toNat (ji40)) a0_0 x23_2 l0_2 (l0_2.length : Int) (wrap64 (x28_3 + 1)) a0_0 l0_1 l0_2 l0_3) = some r := by first | (rw [hji40] at H; exact H) | (simp only [hji40] at H ⊢; exact H)
                  (try rw [hji40] at A34)
                  have hji40_ : (if (rd x5_3 ((rd_T55 l0_2 x28_3).f1)) < (rd x5_3 ((rd_T55 l0_2 x28_3).f0)) then (rd x5_3 ((rd_T55 l0_2 x28_3).f1)) else (rd x5_3 ((rd_T55 l0_2 x28_3).f0))) = ji40 := hji40; obtain ⟨y208, hy208⟩ : ∃ y_ : List Int, y_ = (x5_3.set (((rd_T55 l0_2 x28_3).f0) : Int).toNat (ji40)) := ⟨_, rfl⟩
                  replace H : (impl_islands.l2 k3 l1 (y208.set (((rd_T55 l0_2 x28_3).f1) : Int).toNat (ji40)) a0_0 x23_2 l0_2 (l0_2.length : Int) (wrap64 (x28_3 + 1)) a0_0 l0_1 l0_2 l0_3) = some r := by have hy_ := hy208; exact yz
                  have Ny208 := Az hy208; clear hy208; obtain ⟨y209, hy209⟩ : ∃ y_ : List Int, y_ = (y208.set (((rd_T55 l0_2 x28_3).f1) : Int).toNat (ji40)) := ⟨_, rfl⟩
                  replace H : (impl_islands.l2 k3 l1 y209 a0_0 x23_2 l0_2 (l0_2.length : Int) (wrap64 (x28_3 + 1)) a0_0 l0_1 l0_2 l0_3) = some r := by have hy_ := hy209; exact yz
                  have Ny209 := Az hy209; clear hy209; have H' := Az H; clear H; have p199 : 0 ≤ (x28_3 : Int) := oz; have q199 : x28_3 < (l0_2.length : Int) := oz; obtain ⟨ad199, e199, hx199_0, hx199_1, hx199_2⟩ := at_T55 HR0_2.out x28_3 p199 q199
                  (try rw [← Nbq16.out] at hx199_2)
                  cases e199
                  replace hx199_0 := pw_cell_below HB.out hx199_0; replace hx199_1 := pw_cell_below HB.out hx199_1; replace hx199_2 := pw_cell_below HB.out hx199_2; replace p199 := eq_true p199; replace q199 := eq_true q199
                  try go_wp2_with (first | ((with_reducible refine gate_dst (N := 8) rfl ?_); refine box_event ?hg (N := 8) ?hd (cs := #[.int .i64 0, .int .i64 0, .bool false]) (t := 55) ?hr ?_; (case hd => rfl); (case hg => rfl); (case hr => first | (go_simp; done) | (go_simp; rfl)); intro gb200 hg w43 hbox hb; have n0_ := Az (Kd.R_below (ru HO_5.out) hb); have n1_ := Az (blk_below (bu BK192.out) hb); have n2_ := Az (below_step bz hb); have n3_ := Az (hbox); have n4_ := Az ((by rw [hg]; exact (below_size bz) : w.heap.size ≤ gb200)); have n5_ := n4_; have n6_ := Az ((by rw [hg]; exact Nat.ne_of_lt (blk_lt (g := gb192) (o := .cells #[.int .i64 a0_0, .slice A0_1 l0_1.length c0_1, .slice (some ad199) l0_2.length c0_2, .slice A0_3 l0_3.length c0_3] 41 (0, 0)) (bu BK192.out)) : gb192 ≠ gb200)); have n7_ := Az n6_.out.symm; clear HO_5; clear BK192; clear HB; have HO_5 := n0_; have BK192 := n1_; have HB := n2_; have BK200 := n3_; have GW200 := n4_; have GE200 := n5_; have NB192_200 := n6_; have NB200_192 := n7_; clear n0_ n1_ n2_ n3_ n4_ n5_ n6_ n7_; clear hb hbox hg; have hnb44 := NB200_192.out; have hnc44 := NB192_200.out; obtain ⟨hcz45_0, hcz45_1, hcz45_2⟩ := bc3 BK200.out; obtain ⟨hfz45_0, hfz45_1, hfz45_2⟩ := bf3_ BK200.out) | (go_at_call 76; (with_reducible refine (slices_Contains_int_int.calls k3 _ _ l1 x28_3 true _ ?side1 ?side2 A34.out).mono ?_); (case side1 => exact Kd.C_below HR1.out bz); (case side2 => exact HC1.out); rintro e w' ⟨rfl, ⟨nd, rfl⟩⟩))
                  have n0_ : Aside0 (Kd.R (Kd.int .i64) 3 (((w43.setCell ⟨gb200, 0, none⟩ (.int .i64 ((rd_T55 l0_2 x28_3).f0))).setCell ⟨gb200, 1, none⟩ (.int .i64 ((rd_T55 l0_2 x28_3).f1))).setCell ⟨gb200, 2, none⟩ (.bool false)) w.heap.size (fun _ => True) u5 x5_3) := ⟨by (with_reducible repeat (first | apply Kd.R_alloc | apply Kd.R_drewN | apply Kd.R_drew)); exact Kd.R_mono (Kd.R_far (p := ⟨gb200, 2, none⟩) (Kd.R_far (p := ⟨gb200, 1, none⟩) (Kd.R_far (p := ⟨gb200, 0, none⟩) (Kd.R_types HO_5.out BK200.out (by decide)) (fun _ hk => hk.2) (.int .i64 ((rd_T55 l0_2 x28_3).f0))) (fun _ hk => hk.2) (.int .i64 ((rd_T55 l0_2 x28_3).f1))) (fun _ hk => hk.2) (.bool false)) (fun _ hk => trivial)⟩; have n1_ : Aside0 ((((w43.setCell ⟨gb200, 0, none⟩ (.int .i64 ((rd_T55 l0_2 x28_3).f0))).setCell ⟨gb200, 1, none⟩ (.int .i64 ((rd_T55 l0_2 x28_3).f1))).setCell ⟨gb200, 2, none⟩ (.bool false)).heap[gb192]? = some (.cells #[.int .i64 a0_0, .slice A0_1 l0_1.length c0_1, .slice (some ad199) l0_2.length c0_2, .slice A0_3 l0_3.length c0_3] 41 (0, 0))) := ⟨by refine bu ?_; refine bf3 ?_ NB192_200.out; refine bu ?_; exact BK192.out⟩; have n2_ : Aside0 ((((w43.setCell ⟨gb200, 0, none⟩ (.int .i64 ((rd_T55 l0_2 x28_3).f0))).setCell ⟨gb200, 1, none⟩ (.int .i64 ((rd_T55 l0_2 x28_3).f1))).setCell ⟨gb200, 2, none⟩ (.bool false)).heap[gb200]? = some (.cells #[.int .i64 ((rd_T55 l0_2 x28_3).f0), .int .i64 ((rd_T55 l0_2 x28_3).f1), .bool false] 55 (0, 0))) := ⟨by refine bu ?_; refine blk_put (cs := #[.int .i64 ((rd_T55 l0_2 x28_3).f0), .int .i64 ((rd_T55 l0_2 x28_3).f1), .bool false]) ?_ 2 _ rfl; refine bu ?_; refine blk_put (cs := #[.int .i64 ((rd_T55 l0_2 x28_3).f0), .int .i64 0, .bool false]) ?_ 1 _ rfl; refine bu ?_; refine blk_put (cs := #[.int .i64 0, .int .i64 0, .bool false]) ?_ 0 _ rfl; refine bu ?_; exact BK200.out⟩; have n3_ : Aside0 (Below w.heap.size w (((w43.setCell ⟨gb200, 0, none⟩ (.int .i64 ((rd_T55 l0_2 x28_3).f0))).setCell ⟨gb200, 1, none⟩ (.int .i64 ((rd_T55 l0_2 x28_3).f1))).setCell ⟨gb200, 2, none⟩ (.bool false))) := ⟨bz⟩
                  (try (have hsd_ : ∀ (W_ : World) (n_ : Nat) (a_ : Addr) (v_ : Value), (W_.drewN n_).setCell a_ v_ = (W_.setCell a_ v_).drewN n_ := fun _ _ _ _ => rfl); simp only [hsd_]; clear hsd_)
                  (try clear HO_5); (try clear BK192); (try clear BK200); (try clear HB); generalize (((w43.setCell ⟨gb200, 0, none⟩ (.int .i64 ((rd_T55 l0_2 x28_3).f0))).setCell ⟨gb200, 1, none⟩ (.int .i64 ((rd_T55 l0_2 x28_3).f1))).setCell ⟨gb200, 2, none⟩ (.bool false)) = w46 at n0_ n1_ n2_ n3_ ⊢; have HO_5 := n0_; have BK192 := n1_; have BK200 := n2_; have HB := n3_; clear n0_ n1_ n2_ n3_
                  (try (rw [drewN_self w46]; generalize hq_ : World.drewN w46 _ = w46; have n0_ : Aside0 (Kd.R (Kd.int .i64) 3 w46 w.heap.size (fun _ => True) u5 x5_3) := ⟨by rw [← hq_]; exact (ru HO_5.out)⟩; have n1_ : Aside0 (w46.heap[gb192]? = some (.cells #[.int .i64 a0_0, .slice A0_1 l0_1.length c0_1, .slice (some ad199) l0_2.length c0_2, .slice A0_3 l0_3.length c0_3] 41 (0, 0))) := ⟨by rw [← hq_]; exact (bu BK192.out)⟩; have n2_ : Aside0 (w46.heap[gb200]? = some (.cells #[.int .i64 ((rd_T55 l0_2 x28_3).f0), .int .i64 ((rd_T55 l0_2 x28_3).f1), .bool false] 55 (0, 0))) := ⟨by rw [← hq_]; exact (bu BK200.out)⟩; have n3_ : Aside0 (Below w.heap.size w w46) := ⟨by rw [← hq_]; exact bz⟩; clear HO_5 BK192 BK200 HB hq_; have HO_5 := n0_; have BK192 := n1_; have BK200 := n2_; have HB := n3_; clear n0_ n1_ n2_ n3_))
                  replace HO_5 := Az (Kd.R_drew HO_5.out); replace BK192 := Az (blk_drew BK192.out); replace BK200 := Az (blk_drew BK200.out); replace HB := Az (below_drew1 HB.out); obtain ⟨Ao48, co48, eo48⟩ := Kd.R_slice HO_5.out
                  (first | subst eo48 | (injection eo48 with f1_ f2_ f3_; have f4_ := f1_.symm; have f5_ := f3_.symm; clear f1_ f2_ f3_; subst f4_; subst f5_))
                  have p206 : 0 ≤ (((rd_T55 l0_2 x28_3).f0) : Int) := oz; have q206 : ((rd_T55 l0_2 x28_3).f0) < (x5_3.length : Int) := oz; obtain ⟨ad206, e206, hx206_0⟩ := Kd.at_int (Kd.R_reads' HO_5.out).2.2 ((rd_T55 l0_2 x28_3).f0) p206 q206
                  cases e206
                  replace p206 := eq_true p206; replace q206 := eq_true q206; have p207 : 0 ≤ (((rd_T55 l0_2 x28_3).f1) : Int) := oz; have q207 : ((rd_T55 l0_2 x28_3).f1) < (x5_3.length : Int) := oz; obtain ⟨ad207, e207, hx207_0⟩ := Kd.at_int (Kd.R_reads' HO_5.out).2.2 ((rd_T55 l0_2 x28_3).f1) p207 q207; obtain rfl : ad206 = ad207 := (by injection e207); replace p207 := eq_true p207; replace q207 := eq_true q207; refine start_ (n := 12) (S := fun w' => w'.cell? ⟨gb200, 0, none⟩ = some (.int .i64 ((rd_T55 l0_2 x28_3).f0)) ∧ w'.cell? ⟨gb200, 1, none⟩ = some (.int .i64 ((rd_T55 l0_2 x28_3).f1)) ∧ w'.cell? ⟨gb200, 2, none⟩ = some (.bool false) ∧ w'.cell? (ad206.add (((rd_T55 l0_2 x28_3).f0)).toNat) = some (.int .i64 (rd x5_3 ((rd_T55 l0_2 x28_3).f0))) ∧ w'.cell? (ad206.add (((rd_T55 l0_2 x28_3).f1)).toNat) = some (.int .i64 (rd x5_3 ((rd_T55 l0_2 x28_3).f1)))) (ds := []) A4_0 (by kernel_rfl) rfl rfl ⟨(blk_cell BK200.out 0).trans rfl, (blk_cell BK200.out 1).trans rfl, (blk_cell BK200.out 2).trans rfl, hx206_0, hx207_0⟩ (fun hHeld => ?_); refine with_tabW impl_islands.tab13 impl_islands.bits13 (fun HT_ HW_ => ?_); generalize w46.drew = w47 at HO_5 BK192 BK200 HB hx206_0 hx207_0 hHeld ⊢; refine pz 0 40 A4_1 HT_.out ?_; refine pz 1 41 A4_2 HT_.out ?_; refine pz 5 45 A4_3 HT_.out ?_; refine pz 6 46 A4_4 HT_.out ?_; refine tz 2 42 A4_5 HT_.out HW_.out hHeld ?_
                  refine pz 3 43 A4_6 HT_.out ?_; refine tz 4 44 A4_7 HT_.out HW_.out hHeld ?_
                  refine tz 7 47 A4_8 HT_.out HW_.out hHeld ?_
                  refine pz 8 48 A4_9 HT_.out ?_; refine tz 9 49 A4_10 HT_.out HW_.out hHeld ?_
                  refine pz 10 50 A4_11 HT_.out ?_; refine pz 11 9 A4_12 HT_.out ?_; refine done_ (done_of HT_.out (by kernel_rfl)) ?_
                  try go_wp2
                  replace HO_5 := Az (Kd.R_drew HO_5.out); replace BK192 := Az (blk_drew BK192.out); replace BK200 := Az (blk_drew BK200.out); replace HB := Az (below_drew1 HB.out); have p41 : 0 ≤ (((rd_T55 l0_2 x28_3).f0) : Int) := oz; have q41 : (((rd_T55 l0_2 x28_3).f0) : Int) < ((x5_3.length : Int) : Int) := oz; obtain ⟨go41, co41, eo41, gb41, gl41, cl41, HG41⟩ := Kd.R_form HO_5.out (by omega)
                  (first | cases eo41 | (injection eo41 with ea_ en_ ec_; (first | subst ea_ | (injection ea_ with ea_; subst ea_)); subst ec_; clear en_))
                  have GB41 := Az gb41; have GG41 := Az HG41; clear gb41 gl41 HG41
                  (first | simp only [add_plain] at hx206_0 | skip)
                  (first | simp only [add_plain] at hx207_0 | skip)
                  obtain ⟨hx41_0, hf41_0⟩ := Kd.R_celln 0 HO_5.out (((rd_T55 l0_2 x28_3).f0) : Int) p41 q41; replace p41 := eq_true p41; replace q41 := eq_true q41; have HP50 := Kd.R_putn HO_5.out (((rd_T55 l0_2 x28_3).f0) : Int) ji40; rw [← Ny208.out] at HP50; have HQ50 := Az HP50; clear HP50; have p42 : 0 ≤ (((rd_T55 l0_2 x28_3).f1) : Int) := oz; have q42 : (((rd_T55 l0_2 x28_3).f1) : Int) < ((x5_3.length : Int) : Int) := oz; obtain ⟨hx42_0, hf42_0⟩ := Kd.R_celln 0 HQ50.out (((rd_T55 l0_2 x28_3).f1) : Int) p42 q42; replace p42 := eq_true p42; replace q42 := eq_true q42; have HP51 := Kd.R_putn HQ50.out (((rd_T55 l0_2 x28_3).f1) : Int) ji40; rw [← Ny209.out] at HP51; have HQ51 := Az HP51; clear HP51; refine Go.Proofs.YtbbfibokedlkkaaW.PrintTwo.start2_ (n := 12) (S := fun w' => w'.cell? ⟨gb200, 0, none⟩ = some (.int .i64 ((rd_T55 l0_2 x28_3).f0)) ∧ w'.cell? ⟨gb200, 1, none⟩ = some (.int .i64 ((rd_T55 l0_2 x28_3).f1)) ∧ w'.cell? ⟨gb200, 2, none⟩ = some (.bool false)) (F := fun w' => w'.cell? ⟨gb200, 0, none⟩ = some (.int .i64 ((rd_T55 l0_2 x28_3).f0)) ∧ w'.cell? ⟨gb200, 1, none⟩ = some (.int .i64 ((rd_T55 l0_2 x28_3).f1)) ∧ w'.cell? ⟨gb200, 2, none⟩ = some (.bool false)) (ds := [9, 11]) A4_0 (by kernel_rfl) rfl rfl (bc3 BK200.out) (bc3 BK200.out) (fun hHeld hFar => ?_); generalize w47.drew = w49 at HO_5 BK192 BK200 HB GG41 HQ50 HQ51 hf41_0 hf42_0 hx206_0 hx207_0 hx41_0 hx42_0 hHeld hFar ⊢; refine Go.Proofs.YtbbfibokedlkkaaW.PrintTwo.pure2_ (i := 0) (N := some 51) (v := ?_) (a' := ?_) A4_1 rfl rfl (by kernel_rfl) (fun _ _ _ h => h) (Or.inl ⟨by rfl, ?_⟩) ?_ ?_; (rotate_left; (intro w'; go_simp; with_reducible rfl); rotate_left; (simp only [Act.put, sA, sB, sC, i64_w, i32_w]; rfl)); refine Go.Proofs.YtbbfibokedlkkaaW.PrintTwo.pure2_ (i := 1) (N := some 52) (v := ?_) (a' := ?_) A4_2 rfl rfl (by kernel_rfl) (fun _ _ _ h => h) (Or.inl ⟨by rfl, ?_⟩) ?_ ?_; (rotate_left; (intro w'; go_simp; with_reducible rfl); rotate_left; (simp only [Act.put, sA, sB, sC, i64_w, i32_w]; rfl)); refine Go.Proofs.YtbbfibokedlkkaaW.PrintTwo.pure2_ (i := 3) (N := some 54) (v := ?_) (a' := ?_) A4_13 rfl rfl (by kernel_rfl) (fun _ _ _ h => h) (Or.inl ⟨by rfl, ?_⟩) ?_ ?_; (rotate_left; (intro w'; go_simp; with_reducible rfl); rotate_left; (simp only [Act.put, sA, sB, sC, i64_w, i32_w]; rfl)); refine Go.Proofs.YtbbfibokedlkkaaW.PrintTwo.pure2_ (i := 4) (N := some 55) (v := ?_) (a' := ?_) A4_14 rfl rfl (by kernel_rfl) (fun _ _ _ h => h) (Or.inl ⟨by rfl, ?_⟩) ?_ ?_; (rotate_left; (intro w'; go_simp; with_reducible rfl); rotate_left; (simp only [Act.put, sA, sB, sC, i64_w, i32_w]; rfl)); refine Go.Proofs.YtbbfibokedlkkaaW.PrintTwo.pure2_ (i := 6) (N := some 57) (v := ?_) (a' := ?_) A4_15 rfl rfl (by kernel_rfl) (fun _ _ _ h => h) (Or.inl ⟨by rfl, ?_⟩) ?_ ?_; (rotate_left; (intro w'; go_simp; with_reducible rfl); rotate_left; (simp only [Act.put, sA, sB, sC, i64_w, i32_w]; rfl)); refine Go.Proofs.YtbbfibokedlkkaaW.PrintTwo.pure2_ (i := 7) (N := some 58) (v := ?_) (a' := ?_) A4_16 rfl rfl (by kernel_rfl) (fun _ _ _ h => h) (Or.inl ⟨by rfl, ?_⟩) ?_ ?_; (rotate_left; (intro w'; go_simp; with_reducible rfl); rotate_left; (simp only [Act.put, sA, sB, sC, i64_w, i32_w]; rfl))
                  refine Go.Proofs.YtbbfibokedlkkaaW.PrintTwo.take2_ (i := 2) (N := some 53) (v := ?_) (a' := ?_) A4_17 rfl rfl (by kernel_rfl) (fun _ _ _ h => h) (Or.inl ⟨by rfl, ?_⟩) hHeld ?_ ?_; rotate_left
                  ·
                   rintro w' ⟨s0, s1, s2⟩; go_simp; with_reducible rfl
                  rotate_left
                  ·
                   simp only [Act.put, sA, sB, sC, i64_w, i32_w]
                   rfl
                  refine Go.Proofs.YtbbfibokedlkkaaW.PrintTwo.pure2_ (i := 8) (N := some 59) (v := ?_) (a' := ?_) A4_18 rfl rfl (by kernel_rfl) (fun _ _ _ h => h) (Or.inl ⟨by rfl, ?_⟩) ?_ ?_; (rotate_left; (intro w'; go_simp; with_reducible rfl); rotate_left; (simp only [Act.put, sA, sB, sC, i64_w, i32_w]; rfl)); refine Go.Proofs.YtbbfibokedlkkaaW.PrintTwo.far2_ (i := 5) (N := some 56) (v := ?_) (a' := ?_) A4_9 rfl rfl (by kernel_rfl) (fun _ _ _ h => h) (Or.inl ⟨by rfl, ?_⟩) hFar ?_ ?_; rotate_left
                  ·
                   rintro w' ⟨s0, s1, s2⟩; go_simp; with_reducible rfl
                  rotate_left
                  ·
                   simp only [Act.put, sA, sB, sC, i64_w, i32_w]
                   rfl
                  refine Go.Proofs.YtbbfibokedlkkaaW.PrintTwo.last2_ (i := 9) (N := none) A4_10 rfl rfl (by kernel_rfl) (by decide) (fun K hK => ?_); refine skip_ (w1 := ?_) (by rfl) rfl ?_ ?_; rotate_left
                  ·
                   go_simp
                   rfl
                  refine hK.out _ _ ⟨((cell_far (p := ⟨go41, _, none⟩) (fun e_ => (Kd.R_ne HO_5.out BK200.out (by decide)) (congrArg some e_)) _).trans (hFar.1)), ((cell_far (p := ⟨go41, _, none⟩) (fun e_ => (Kd.R_ne HO_5.out BK200.out (by decide)) (congrArg some e_)) _).trans (hFar.2.1)), ((cell_far (p := ⟨go41, _, none⟩) (fun e_ => (Kd.R_ne HO_5.out BK200.out (by decide)) (congrArg some e_)) _).trans (hFar.2.2))⟩ (fun hFar => ?_); clear hK K; refine Go.Proofs.YtbbfibokedlkkaaW.PrintTwo.pure2_ (i := 10) (N := some 60) (v := ?_) (a' := ?_) A4_11 rfl rfl (by kernel_rfl) (fun _ _ _ h => h) (Or.inl ⟨by rfl, ?_⟩) ?_ ?_; (rotate_left; (intro w'; go_simp; with_reducible rfl); rotate_left; (simp only [Act.put, sA, sB, sC, i64_w, i32_w]; rfl)); refine Go.Proofs.YtbbfibokedlkkaaW.PrintTwo.last2_ (i := 11) (N := none) A4_12 rfl rfl (by kernel_rfl) (by decide) (fun K hK => ?_); refine skip_ (w1 := ?_) (by rfl) rfl ?_ ?_; rotate_left
                  ·
                   go_simp
                   rfl
                  refine hK.out _ _ ⟨((cell_far (p := ⟨go41, _, none⟩) (fun e_ => (Kd.R_ne HO_5.out BK200.out (by decide)) (congrArg some e_)) _).trans (hFar.1)), ((cell_far (p := ⟨go41, _, none⟩) (fun e_ => (Kd.R_ne HO_5.out BK200.out (by decide)) (congrArg some e_)) _).trans (hFar.2.1)), ((cell_far (p := ⟨go41, _, none⟩) (fun e_ => (Kd.R_ne HO_5.out BK200.out (by decide)) (congrArg some e_)) _).trans (hFar.2.2))⟩ (fun hFar => ?_); clear hK K; refine Go.Proofs.YtbbfibokedlkkaaW.PrintTwo.done2_ (by kernel_rfl) ?_
                  try go_wp2
                  go_roundg k3
                  case measure => have := HK1.out; have := HK2.out; have := HK3.out; omega
                  case rel => exact ⟨(y209), (wrap64 (x28_3 + 1)), (by first | rfl | (simp; done) | (simp [*]; done)), H', ⟨by have := HK1.out; have := HK2.out; have := HK3.out; omega⟩, ⟨ru HQ51.out⟩, ⟨by refine bu ?_; refine blk_far ?_ (by have h_ := Kd.R_ne HO_5.out BK192.out (by decide); intro e_; exact h_ (by rw [e_]; rfl)) _; refine bu ?_; refine blk_far ?_ (by have h_ := Kd.R_ne HO_5.out BK192.out (by decide); intro e_; exact h_ (by rw [e_]; rfl)) _; refine bu ?_; exact BK192.out⟩, ⟨by repeat (first | (with_reducible first | exact HB.out | apply ba | apply bn | apply bd | refine bt ?_ GB41.out | refine bt ?_ GB41.out | refine bt ?_ GE192.out | refine bt ?_ GE200.out) | exact HB.out)⟩⟩
                 ·
                  rw [if_neg c39] at H; exact absurd H (by simp)
                ·
                 rw [if_neg c38] at H; exact absurd H (by simp)
               ·
                rw [if_neg c37] at H; exact absurd H (by simp)
              ·
               rw [if_neg c36] at H; exact absurd H (by simp)
             ·
              replace c35 := Bool.eq_false_iff.mpr c35; subst c35
              have H1 : (impl_islands.l2 k3 l1 x5_3 a0_0 x23_2 l0_2 (l0_2.length : Int) (wrap64 (x28_3 + 1)) a0_0 l0_1 l0_2 l0_3) = some r := by rw [if_neg (show ¬ (false = true) by decide)] at H; exact H
              clear H; have H := H1; clear H1; have H' := Az H; clear H; have p199 : 0 ≤ (x28_3 : Int) := oz; have q199 : x28_3 < (l0_2.length : Int) := oz; obtain ⟨ad199, e199, hx199_0, hx199_1, hx199_2⟩ := at_T55 HR0_2.out x28_3 p199 q199
              (try rw [← Nbq16.out] at hx199_2)
              cases e199
              replace hx199_0 := pw_cell_below HB.out hx199_0; replace hx199_1 := pw_cell_below HB.out hx199_1; replace hx199_2 := pw_cell_below HB.out hx199_2; replace p199 := eq_true p199; replace q199 := eq_true q199
              go_wp2_with (first | ((with_reducible refine gate_dst (N := 8) rfl ?_); refine box_event ?hg (N := 8) ?hd (cs := #[.int .i64 0, .int .i64 0, .bool false]) (t := 55) ?hr ?_; (case hd => rfl); (case hg => rfl); (case hr => first | (go_simp; done) | (go_simp; rfl)); intro gb200 hg w52 hbox hb; have n0_ := Az (Kd.R_below (ru HO_5.out) hb); have n1_ := Az (blk_below (bu BK192.out) hb); have n2_ := Az (below_step bz hb); have n3_ := Az (hbox); have n4_ := Az ((by rw [hg]; exact (below_size bz) : w.heap.size ≤ gb200)); have n5_ := n4_; have n6_ := Az ((by rw [hg]; exact Nat.ne_of_lt (blk_lt (g := gb192) (o := .cells #[.int .i64 a0_0, .slice A0_1 l0_1.length c0_1, .slice (some ad199) l0_2.length c0_2, .slice A0_3 l0_3.length c0_3] 41 (0, 0)) (bu BK192.out)) : gb192 ≠ gb200)); have n7_ := Az n6_.out.symm; clear HO_5; clear BK192; clear HB; have HO_5 := n0_; have BK192 := n1_; have HB := n2_; have BK200 := n3_; have GW200 := n4_; have GE200 := n5_; have NB192_200 := n6_; have NB200_192 := n7_; clear n0_ n1_ n2_ n3_ n4_ n5_ n6_ n7_; clear hb hbox hg; have hnb53 := NB200_192.out; have hnc53 := NB192_200.out; obtain ⟨hcz54_0, hcz54_1, hcz54_2⟩ := bc3 BK200.out; obtain ⟨hfz54_0, hfz54_1, hfz54_2⟩ := bf3_ BK200.out) | (go_at_call 76; (with_reducible refine (slices_Contains_int_int.calls k3 _ _ l1 x28_3 false _ ?side1 ?side2 A34.out).mono ?_); (case side1 => exact Kd.C_below HR1.out bz); (case side2 => exact HC1.out); rintro e w' ⟨rfl, ⟨nd, rfl⟩⟩))
              go_roundg k3
              case measure => have := HK1.out; have := HK2.out; have := HK3.out; omega
              case rel => exact ⟨(x5_3), (wrap64 (x28_3 + 1)), (by first | rfl | (simp; done) | (simp [*]; done)), H', ⟨by have := HK1.out; have := HK2.out; have := HK3.out; omega⟩, ⟨by (with_reducible repeat (first | apply Kd.R_alloc | apply Kd.R_drewN | apply Kd.R_drew)); exact Kd.R_mono (Kd.R_far (p := ⟨gb200, 2, none⟩) (Kd.R_far (p := ⟨gb200, 1, none⟩) (Kd.R_far (p := ⟨gb200, 0, none⟩) (Kd.R_types HO_5.out BK200.out (by decide)) (fun _ hk => hk.2) (.int .i64 ((rd_T55 l0_2 x28_3).f0))) (fun _ hk => hk.2) (.int .i64 ((rd_T55 l0_2 x28_3).f1))) (fun _ hk => hk.2) (.bool false)) (fun _ hk => trivial)⟩, ⟨by refine bu ?_; refine bf3 ?_ NB192_200.out; refine bu ?_; exact BK192.out⟩, ⟨bz⟩⟩
           ·
            rw [if_neg c15] at H; exact absurd H (by simp)
          ·
           rw [if_neg c14] at H; exact absurd H (by simp)
         ·
          rw [if_neg c13] at H; have c13b0 : decide (x28_3 < (l0_2.length : Int)) = false := decide_eq_false c13; clear c13; have H' := Az H; clear H
          go_wp2
          go_roundg k3
          case measure => have := HK1.out; have := HK2.out; have := HK3.out; omega
          case rel => exact ⟨(x5_3), (wrap64 (x23_2 + 1)), (by first | rfl | (simp; done) | (simp [*]; done)), H', ⟨by have := HK1.out; have := HK2.out; have := HK3.out; omega⟩, ⟨ru HO_5.out⟩, ⟨by refine bu ?_; exact BK192.out⟩, ⟨bz⟩⟩
      ·
       rw [if_neg c11] at H; have c11b0 : decide (x23_2 < a0_0) = false := decide_eq_false c11; clear c11; obtain rfl := Option.some.inj H
       go_wp2
       go_ret
       exact ⟨_, rz, ru HO_5.out, bz⟩

end Go.Proofs.Ytbbfibokedlkkaa.PFnTied
