/- Walks of the functions named below, by a program of the session over the kit's printer. -/
import Derived.Test.YtbbfibokedlkkaaPFnExactCloseForx0
import Derived.Test.YtbbfibokedlkkaaPFnExactCloseForx1
namespace Go.Proofs.Ytbbfibokedlkkaa.PFnExactCloseFor
open Go.RowKit Go.Proofs.YtbbfibokedlkkaaW.PrintWords Go.Proofs.YtbbfibokedlkkaaW.PrintLast Go.Proofs.YtbbfibokedlkkaaW.PrintMore
attribute [local go_sem] max2_int min2_int max_two min_two max_three min_three max_four min_four   -- for this text's walks alone
set_option linter.unusedVariables false
set_option linter.unusedSimpArgs false
abbrev A2_0 := #[O,O,O,O,O,O,O,O,O,O]
abbrev A2_1 := #[I,O,O,O,O,O,O,O,O,O]
abbrev A2_2 := #[I,I,O,O,O,O,O,O,O,O]
abbrev A2_3 := #[I,I,I,O,O,O,O,O,O,O]
abbrev A2_4 := #[I,I,I,O,I,O,O,O,O,O]
abbrev A2_5 := #[I,I,I,O,I,I,O,O,O,O]
abbrev A2_6 := #[I,I,I,O,I,I,I,O,O,O]
abbrev A2_7 := #[I,I,I,I,I,I,I,O,O,O]
abbrev A2_8 := #[I,I,I,I,I,I,I,I,O,O]
abbrev A2_9 := #[I,I,I,I,I,I,I,I,I,O]
abbrev A2_10 := #[I,I,I,I,I,I,I,I,I,I]

/-! ### laws_eqSourceS: function 51 -/
def laws_eqSourceS.l0 : Nat → List (S57) → List (S57) → Int → Option (Bool)
 | 0, _, _, _ => none
 | k + 1, x0, x1, x5 => if x5 < (x0.length : Int) then (if 0 ≤ x5 then (if x5 < (x1.length : Int) then ((laws_eqSource.f ((rd_T57 x0 x5).f0) ((rd_T57 x0 x5).f1) ((rd_T57 x0 x5).f2) ((rd_T57 x1 x5).f0) ((rd_T57 x1 x5).f1) ((rd_T57 x1 x5).f2)).bind fun t154 => (if t154 = true then (laws_eqSourceS.l0 k x0 x1 (wrap64 (x5 + 1))) else (some false))) else (none)) else (none)) else (some true)
def laws_eqSourceS.f (k : Nat) (l0 : List (S57)) (l1 : List (S57)) : Option (Bool) := if (l0.length : Int) = (l1.length : Int) then (laws_eqSourceS.l0 k l0 l1 0) else (some false)
def laws_eqSourceS.T6 : Bool × List (List Nat × List Nat) := (true, [([], []), ([], []), ([0, 1], [0, 1]), ([2], [2]), ([], []), ([], []), ([4, 5], [4, 5]), ([6], [6]), ([3, 7], [3, 7]), ([8], [8])])
def laws_eqSourceS.B6 : List Nat := [0, 0, 3, 7, 0, 0, 48, 112, 255, 511]
theorem laws_eqSourceS.tab6 : rtab .any (opsOf Try.f51 6) = laws_eqSourceS.T6 := by kernel_rfl
theorem laws_eqSourceS.bits6 : waitsOk laws_eqSourceS.T6.2 laws_eqSourceS.B6 = true := by kernel_rfl
set_option maxHeartbeats 8000000 in
set_option maxRecDepth 100000 in
theorem laws_eqSourceS.calls (k : Nat) (A0 : Option Addr) (c0 : Nat) (l0 : List (S57)) (A1 : Option Addr) (c1 : Nat) (l1 : List (S57)) (r : Bool) (w : World) (hr0 : Kd.C k57 w A0 l0.length l0) (hc0 : l0.length ≤ c0) (hr1 : Kd.C k57 w A1 l1.length l1) (hc1 : l1.length ≤ c1) (h : laws_eqSourceS.f k l0 l1 = some r) :
  Calls Try.prog 51 #[.slice A0 l0.length c0, .slice A1 l1.length c1] w fun e w' => e = .returned (.bool r) ∧ Below w.heap.size w w' := by
 have hu57 := Try.underlying57; have HR0 := Az hr0; have HC0 := Az hc0; clear hr0 hc0; have HR1 := Az hr1; have HC1 := Az hc1; clear hr1 hc1; have HB := Az (Below.refl w.heap.size w); have H : (if (l0.length : Int) = (l1.length : Int) then (laws_eqSourceS.l0 k l0 l1 0) else (some false)) = some r := h; clear h
 by_cases c3 : (l0.length : Int) = (l1.length : Int)
 ·
  rw [if_pos c3] at H; have c3b0 : ((l0.length : Int) == (l1.length : Int)) = true := beq_iff_eq.mpr c3; have c3b1 : ((l0.length : Int) != (l1.length : Int)) = false := bne_eq_false_iff_eq.mpr c3
  have c3b2 : (l0.length == l1.length) = true := by first | simpa using c3 | (simp at c3 ⊢; omega)
  clear c3; have H' := Az H; clear H
  go_enter Try.func51, Try.ntmps51
  go_wp2
  go_loopg [5] k (fun kq v5 w' => ∃ (x5_1 : Int), v5 = .int .i64 x5_1 ∧ Aside0 (laws_eqSourceS.l0 kq l0 l1 x5_1 = some r) ∧ Aside0 (kq ≤ k) ∧ Aside0 (Below w.heap.size w w'))
  case atStart => exact ⟨(0), (by first | rfl | (simp; done) | (simp [*]; done)), H', ⟨Nat.le_refl _⟩, ⟨bz⟩⟩
  case round =>
   clear H'; (try clear c1); (try clear p2); (try clear c3); (try clear c3b0); (try clear c3b1); (try clear c3b2); obtain ⟨x5_1, rfl, HA, HK1, HB⟩ := hrel
   cases gk with
   | zero => exact absurd HA.out (by simp [laws_eqSourceS.l0])
   | succ k1 =>
    have H := HA.out; clear HA; simp only [laws_eqSourceS.l0] at H
    by_cases c4 : x5_1 < (l0.length : Int)
    ·
     rw [if_pos c4] at H; have c4b0 : decide (x5_1 < (l0.length : Int)) = true := decide_eq_true c4; clear c4
     by_cases c5 : 0 ≤ x5_1
     ·
      rw [if_pos c5] at H; have c5b0 : decide (0 ≤ x5_1) = true := decide_eq_true c5; clear c5
      by_cases c6 : x5_1 < (l1.length : Int)
      ·
       rw [if_pos c6] at H; have c6b0 : decide (x5_1 < (l1.length : Int)) = true := decide_eq_true c6; clear c6; replace H := Option.bind_eq_some_iff.mp H; obtain ⟨t154, A70, H⟩ := H; replace H : (if t154 = true then (laws_eqSourceS.l0 k1 l0 l1 (wrap64 (x5_1 + 1))) else (some false)) = some r := H; have A7 := Az A70; clear A70; have HC8 := Az H; clear H
       try go_wp2
       replace HB := Az (below_drew1 HB.out); have p152 : 0 ≤ (x5_1 : Int) := oz; have q152 : x5_1 < (l0.length : Int) := oz; obtain ⟨ad152, e152, hx152_0, hx152_1, hx152_2⟩ := at_T57 HR0.out x5_1 p152 q152; have hw152_2 := hx152_2; have hw152_1 := hx152_1; have hw152_0 := hx152_0
       cases e152
       replace hx152_0 := pw_cell_below HB.out hx152_0; replace hx152_1 := pw_cell_below HB.out hx152_1; replace hx152_2 := pw_cell_below HB.out hx152_2; replace p152 := eq_true p152; replace q152 := eq_true q152; have p153 : 0 ≤ (x5_1 : Int) := oz; have q153 : x5_1 < (l1.length : Int) := oz; obtain ⟨ad153, e153, hx153_0, hx153_1, hx153_2⟩ := at_T57 HR1.out x5_1 p153 q153; have hw153_2 := hx153_2; have hw153_1 := hx153_1; have hw153_0 := hx153_0
       cases e153
       replace hx153_0 := pw_cell_below HB.out hx153_0; replace hx153_1 := pw_cell_below HB.out hx153_1; replace hx153_2 := pw_cell_below HB.out hx153_2; replace p153 := eq_true p153; replace q153 := eq_true q153; refine start_ (n := 10) (S := fun w' => w'.cell? (ad152.add ((x5_1).toNat * 3)) = some (.int .i64 ((rd_T57 l0 x5_1).f0)) ∧ w'.cell? ⟨(ad152.add ((x5_1).toNat * 3)).block, (ad152.add ((x5_1).toNat * 3)).off + 1, none⟩ = some (.int .i64 ((rd_T57 l0 x5_1).f1)) ∧ w'.cell? ⟨(ad152.add ((x5_1).toNat * 3)).block, (ad152.add ((x5_1).toNat * 3)).off + 2, none⟩ = some (.bool ((rd_T57 l0 x5_1).f2)) ∧ w'.cell? (ad153.add ((x5_1).toNat * 3)) = some (.int .i64 ((rd_T57 l1 x5_1).f0)) ∧ w'.cell? ⟨(ad153.add ((x5_1).toNat * 3)).block, (ad153.add ((x5_1).toNat * 3)).off + 1, none⟩ = some (.int .i64 ((rd_T57 l1 x5_1).f1)) ∧ w'.cell? ⟨(ad153.add ((x5_1).toNat * 3)).block, (ad153.add ((x5_1).toNat * 3)).off + 2, none⟩ = some (.bool ((rd_T57 l1 x5_1).f2))) (ds := []) A2_0 (by kernel_rfl) rfl rfl ⟨(pw_cell_below HB.out hw152_0), (pw_cell_below HB.out hw152_1), (pw_cell_below HB.out hw152_2), (pw_cell_below HB.out hw153_0), (pw_cell_below HB.out hw153_1), (pw_cell_below HB.out hw153_2)⟩ (fun hHeld => ?_); refine with_tabW laws_eqSourceS.tab6 laws_eqSourceS.bits6 (fun HT_ HW_ => ?_); generalize wr.drew = w9 at HB hx152_0 hx152_1 hx152_2 hx153_0 hx153_1 hx153_2 hHeld ⊢; refine pz 0 17 A2_1 HT_.out ?_; refine pz 1 18 A2_2 HT_.out ?_; refine pz 2 19 A2_3 HT_.out ?_; refine pz 4 21 A2_4 HT_.out ?_; refine pz 5 22 A2_5 HT_.out ?_; refine pz 6 23 A2_6 HT_.out ?_; refine tz 3 20 A2_7 HT_.out HW_.out hHeld ?_
       refine tz 7 24 A2_8 HT_.out HW_.out hHeld ?_
       refine one_ (i := 8) (N := some 25) A2_9 rfl rfl (one_of HT_.out (by kernel_rfl)) (by decide) (fun K hK => ?_); refine goes_ Try.func73 (by kernel_rfl) rfl #[.agg #[.int .i64 ((rd_T57 l0 x5_1).f0), .int .i64 ((rd_T57 l0 x5_1).f1), .bool ((rd_T57 l0 x5_1).f2)], .agg #[.int .i64 ((rd_T57 l1 x5_1).f0), .int .i64 ((rd_T57 l1 x5_1).f1), .bool ((rd_T57 l1 x5_1).f2)]] (by rfl) rfl rfl (by (try simp only [List.map_toArray, List.map_cons, List.map_nil]); first | done | rfl) ?_
       with_reducible refine (laws_eqSource.calls ((rd_T57 l0 x5_1).f0) ((rd_T57 l0 x5_1).f1) ((rd_T57 l0 x5_1).f2) ((rd_T57 l1 x5_1).f0) ((rd_T57 l1 x5_1).f1) ((rd_T57 l1 x5_1).f2) t154 _ A7.out).mono ?_
       rintro e w10 ⟨rfl, hb⟩; refine ⟨_, rfl, ?_⟩; replace HB := Az (below_step bz hb); (try clear hb); (try clear hb2); (try clear hk); (try clear hi); refine hK.out _ _ ⟨(pw_cell_below HB.out hw152_0), (pw_cell_below HB.out hw152_1), (pw_cell_below HB.out hw152_2), (pw_cell_below HB.out hw153_0), (pw_cell_below HB.out hw153_1), (pw_cell_below HB.out hw153_2)⟩ (fun hHeld => ?_); clear hK K; refine norm_ (a' := ?_) ?_ ?_; rotate_left
       ·
        show Act.put _ (some 25) _ = _
        simp only [Act.put, sA, sB, sC, i64_w, i32_w]
        rfl
       refine pz 9 26 A2_10 HT_.out ?_; refine done_ (done_of HT_.out (by kernel_rfl)) ?_
       go_upto_if 26 with (fail)
       have H := HC8.out; clear HC8
       by_cases c11 : t154 = true
       ·
        subst c11
        have H1 : (laws_eqSourceS.l0 k1 l0 l1 (wrap64 (x5_1 + 1))) = some r := by rw [if_pos rfl] at H; exact H
        clear H; have H := H1; clear H1; have H' := Az H; clear H
        go_wp2
        go_roundg k1
        case measure => have := HK1.out; omega
        case rel => exact ⟨(wrap64 (x5_1 + 1)), (by first | rfl | (simp; done) | (simp [*]; done)), H', ⟨by have := HK1.out; omega⟩, ⟨bz⟩⟩
       ·
        replace c11 := Bool.eq_false_iff.mpr c11; subst c11
        have H1 : (some false) = some r := by rw [if_neg (show ¬ (false = true) by decide)] at H; exact H
        clear H; have H := H1; clear H1; obtain rfl := Option.some.inj H
        go_wp2
        go_ret
        exact ⟨rz, bz⟩
      ·
       rw [if_neg c6] at H; exact absurd H (by simp)
     ·
      rw [if_neg c5] at H; exact absurd H (by simp)
    ·
     rw [if_neg c4] at H; have c4b0 : decide (x5_1 < (l0.length : Int)) = false := decide_eq_false c4; clear c4; obtain rfl := Option.some.inj H
     go_wp2
     go_ret
     exact ⟨rz, bz⟩
 ·
  rw [if_neg c3] at H; have c3b0 : ((l0.length : Int) == (l1.length : Int)) = false := beq_eq_false_iff_ne.mpr c3; have c3b1 : ((l0.length : Int) != (l1.length : Int)) = true := bne_iff_ne.mpr c3
  have c3b2 : (l0.length == l1.length) = false := by first | simpa using c3 | (simp at c3 ⊢; omega)
  obtain rfl := Option.some.inj H
  go_enter Try.func51, Try.ntmps51
  go_wp2
  go_ret
  exact ⟨rz, bz⟩

/-! ### laws_eqTie: function 74 -/
def laws_eqTie.f (a0_0 : Int) (a0_1 : Int) (a0_2 : Bool) (a1_0 : Int) (a1_1 : Int) (a1_2 : Bool) : Option (Bool) := if a0_0 = a1_0 then (if a0_1 = a1_1 then (if (a0_2 != a1_2) = true then (some false) else (some true)) else (some false)) else (some false)
set_option maxHeartbeats 8000000 in
set_option maxRecDepth 100000 in
theorem laws_eqTie.calls (a0_0 : Int) (a0_1 : Int) (a0_2 : Bool) (a1_0 : Int) (a1_1 : Int) (a1_2 : Bool) (r : Bool) (w : World) (h : laws_eqTie.f a0_0 a0_1 a0_2 a1_0 a1_1 a1_2 = some r) :
  Calls Try.prog 74 #[.agg #[.int .i64 a0_0, .int .i64 a0_1, .bool a0_2], .agg #[.int .i64 a1_0, .int .i64 a1_1, .bool a1_2]] w fun e w' => e = .returned (.bool r) ∧ Below w.heap.size w w' := by
 have hu55 := Try.underlying55; have HB := Az (Below.refl w.heap.size w); have H : (if a0_0 = a1_0 then (if a0_1 = a1_1 then (if (a0_2 != a1_2) = true then (some false) else (some true)) else (some false)) else (some false)) = some r := h; clear h; have HC3 := Az H; clear H
 go_enter Try.func74, Try.ntmps74
 go_upto_if 9 with (first | ((with_reducible refine gate_dst (N := 2) rfl ?_); refine box_event ?hg (N := 2) ?hd (cs := #[.int .i64 a0_0, .int .i64 a0_1, .bool a0_2]) (t := 55) ?hr ?_; (case hd => rfl); (case hg => rfl); (case hr => first | (go_simp; done) | (go_simp; rfl)); intro gb155 hg w4 hbox hb; have BK155 := Az (hbox); have GW155 := Az ((by rw [hg]; exact (below_size bz) : w.heap.size ≤ gb155)); replace HB := Az (below_step bz hb); have GE155 := GW155; clear hb hbox hg) | ((with_reducible refine gate_dst (N := 3) rfl ?_); refine box_event ?hg (N := 3) ?hd (cs := #[.int .i64 a1_0, .int .i64 a1_1, .bool a1_2]) (t := 55) ?hr ?_; (case hd => rfl); (case hg => rfl); (case hr => first | (go_simp; done) | (go_simp; rfl)); intro gb156 hg w5 hbox hb; have n0_ := Az (blk_below (bu BK155.out) hb); have n1_ := Az (below_step bz hb); have n2_ := Az (hbox); have n3_ := Az ((by rw [hg]; exact (below_size bz) : w.heap.size ≤ gb156)); have n4_ := n3_; have n5_ := Az ((by rw [hg]; exact Nat.ne_of_lt (blk_lt (g := gb155) (o := .cells #[.int .i64 a0_0, .int .i64 a0_1, .bool a0_2] 55 (0, 0)) (bu BK155.out)) : gb155 ≠ gb156)); have n6_ := Az n5_.out.symm; clear BK155; clear HB; have BK155 := n0_; have HB := n1_; have BK156 := n2_; have GW156 := n3_; have GE156 := n4_; have NB155_156 := n5_; have NB156_155 := n6_; clear n0_ n1_ n2_ n3_ n4_ n5_ n6_; clear hb hbox hg; have hnb6 := NB155_156.out; have hnc6 := NB156_155.out; obtain ⟨hcz7_0, hcz7_1, hcz7_2⟩ := bc3 BK155.out; obtain ⟨hfz7_0, hfz7_1, hfz7_2⟩ := bf3_ BK155.out; obtain ⟨hcz8_0, hcz8_1, hcz8_2⟩ := bc3 BK156.out; obtain ⟨hfz8_0, hfz8_1, hfz8_2⟩ := bf3_ BK156.out))
 (try simp only [Act.put, sA, sB, sC])
 have H := HC3.out; clear HC3
 by_cases c9 : a0_0 = a1_0
 ·
  rw [if_pos c9] at H; have c9b0 : (a0_0 == a1_0) = true := beq_iff_eq.mpr c9; have c9b1 : (a0_0 != a1_0) = false := bne_eq_false_iff_eq.mpr c9; clear c9
  (first | rw [c9b0] | (simp only [i64_w, i32_w]; rw [c9b0]) | skip)
  by_cases c10 : a0_1 = a1_1
  ·
   rw [if_pos c10] at H; have c10b0 : (a0_1 == a1_1) = true := beq_iff_eq.mpr c10; have c10b1 : (a0_1 != a1_1) = false := bne_eq_false_iff_eq.mpr c10; clear c10
   by_cases c11 : (a0_2 != a1_2) = true
   ·
    rw [if_pos c11] at H; have c11b0 : (a0_2 != a1_2) = true := c11
    (try (have c11b1 : decide (a0_2 = a1_2) = false := by simpa using c11))
    (try (have c11b2 : (a0_2 == a1_2) = false := by simpa using c11))
    (try (have c11b3 : ¬ (a0_2 = a1_2) := by simpa using c11))
    clear c11; obtain rfl := Option.some.inj H; have hnb12 := NB155_156.out; have hnc12 := NB156_155.out; obtain ⟨hcz13_0, hcz13_1, hcz13_2⟩ := bc3 BK155.out; obtain ⟨hfz13_0, hfz13_1, hfz13_2⟩ := bf3_ BK155.out; obtain ⟨hcz14_0, hcz14_1, hcz14_2⟩ := bc3 BK156.out; obtain ⟨hfz14_0, hfz14_1, hfz14_2⟩ := bf3_ BK156.out
    go_wp2
    go_ret
    exact ⟨rz, bz⟩
   ·
    rw [if_neg c11] at H
    have c11b0 : (a0_2 != a1_2) = false := by simpa using c11
    (try (have c11b1 : decide (a0_2 = a1_2) = true := by simpa using c11))
    (try (have c11b2 : (a0_2 == a1_2) = true := by simpa using c11))
    clear c11; obtain rfl := Option.some.inj H; have hnb15 := NB155_156.out; have hnc15 := NB156_155.out; obtain ⟨hcz16_0, hcz16_1, hcz16_2⟩ := bc3 BK155.out; obtain ⟨hfz16_0, hfz16_1, hfz16_2⟩ := bf3_ BK155.out; obtain ⟨hcz17_0, hcz17_1, hcz17_2⟩ := bc3 BK156.out; obtain ⟨hfz17_0, hfz17_1, hfz17_2⟩ := bf3_ BK156.out
    go_wp2
    go_ret
    exact ⟨rz, bz⟩
  ·
   rw [if_neg c10] at H; have c10b0 : (a0_1 == a1_1) = false := beq_eq_false_iff_ne.mpr c10; have c10b1 : (a0_1 != a1_1) = true := bne_iff_ne.mpr c10; obtain rfl := Option.some.inj H; have hnb18 := NB155_156.out; have hnc18 := NB156_155.out; obtain ⟨hcz19_0, hcz19_1, hcz19_2⟩ := bc3 BK155.out; obtain ⟨hfz19_0, hfz19_1, hfz19_2⟩ := bf3_ BK155.out; obtain ⟨hcz20_0, hcz20_1, hcz20_2⟩ := bc3 BK156.out; obtain ⟨hfz20_0, hfz20_1, hfz20_2⟩ := bf3_ BK156.out
   go_wp2
   go_ret
   exact ⟨rz, bz⟩
 ·
  rw [if_neg c9] at H; have c9b0 : (a0_0 == a1_0) = false := beq_eq_false_iff_ne.mpr c9; have c9b1 : (a0_0 != a1_0) = true := bne_iff_ne.mpr c9
  (first | rw [c9b0] | (simp only [i64_w, i32_w]; rw [c9b0]) | skip)
  obtain rfl := Option.some.inj H
  go_wp2
  go_ret
  exact ⟨rz, bz⟩

/-! ### laws_eqTieS: function 52 -/
def laws_eqTieS.l0 : Nat → List (S55) → List (S55) → Int → Option (Bool)
 | 0, _, _, _ => none
 | k + 1, x0, x1, x5 => if x5 < (x0.length : Int) then (if 0 ≤ x5 then (if x5 < (x1.length : Int) then ((laws_eqTie.f ((rd_T55 x0 x5).f0) ((rd_T55 x0 x5).f1) ((rd_T55 x0 x5).f2) ((rd_T55 x1 x5).f0) ((rd_T55 x1 x5).f1) ((rd_T55 x1 x5).f2)).bind fun t159 => (if t159 = true then (laws_eqTieS.l0 k x0 x1 (wrap64 (x5 + 1))) else (some false))) else (none)) else (none)) else (some true)
def laws_eqTieS.f (k : Nat) (l0 : List (S55)) (l1 : List (S55)) : Option (Bool) := if (l0.length : Int) = (l1.length : Int) then (laws_eqTieS.l0 k l0 l1 0) else (some false)
def laws_eqTieS.T6 : Bool × List (List Nat × List Nat) := (true, [([], []), ([], []), ([0, 1], [0, 1]), ([2], [2]), ([], []), ([], []), ([4, 5], [4, 5]), ([6], [6]), ([3, 7], [3, 7]), ([8], [8])])
def laws_eqTieS.B6 : List Nat := [0, 0, 3, 7, 0, 0, 48, 112, 255, 511]
theorem laws_eqTieS.tab6 : rtab .any (opsOf Try.f52 6) = laws_eqTieS.T6 := by kernel_rfl
theorem laws_eqTieS.bits6 : waitsOk laws_eqTieS.T6.2 laws_eqTieS.B6 = true := by kernel_rfl
set_option maxHeartbeats 8000000 in
set_option maxRecDepth 100000 in
theorem laws_eqTieS.calls (k : Nat) (A0 : Option Addr) (c0 : Nat) (l0 : List (S55)) (A1 : Option Addr) (c1 : Nat) (l1 : List (S55)) (r : Bool) (w : World) (hr0 : Kd.C k55 w A0 l0.length l0) (hc0 : l0.length ≤ c0) (hr1 : Kd.C k55 w A1 l1.length l1) (hc1 : l1.length ≤ c1) (h : laws_eqTieS.f k l0 l1 = some r) :
  Calls Try.prog 52 #[.slice A0 l0.length c0, .slice A1 l1.length c1] w fun e w' => e = .returned (.bool r) ∧ Below w.heap.size w w' := by
 have hu55 := Try.underlying55; have HR0 := Az hr0; have HC0 := Az hc0; clear hr0 hc0; have HR1 := Az hr1; have HC1 := Az hc1; clear hr1 hc1; have HB := Az (Below.refl w.heap.size w); have H : (if (l0.length : Int) = (l1.length : Int) then (laws_eqTieS.l0 k l0 l1 0) else (some false)) = some r := h; clear h
 by_cases c3 : (l0.length : Int) = (l1.length : Int)
 ·
  rw [if_pos c3] at H; have c3b0 : ((l0.length : Int) == (l1.length : Int)) = true := beq_iff_eq.mpr c3; have c3b1 : ((l0.length : Int) != (l1.length : Int)) = false := bne_eq_false_iff_eq.mpr c3
  have c3b2 : (l0.length == l1.length) = true := by first | simpa using c3 | (simp at c3 ⊢; omega)
  clear c3; have H' := Az H; clear H
  go_enter Try.func52, Try.ntmps52
  go_wp2
  go_loopg [5] k (fun kq v5 w' => ∃ (x5_1 : Int), v5 = .int .i64 x5_1 ∧ Aside0 (laws_eqTieS.l0 kq l0 l1 x5_1 = some r) ∧ Aside0 (kq ≤ k) ∧ Aside0 (Below w.heap.size w w'))
  case atStart => exact ⟨(0), (by first | rfl | (simp; done) | (simp [*]; done)), H', ⟨Nat.le_refl _⟩, ⟨bz⟩⟩
  case round =>
   clear H'; (try clear c1); (try clear p2); (try clear c3); (try clear c3b0); (try clear c3b1); (try clear c3b2); obtain ⟨x5_1, rfl, HA, HK1, HB⟩ := hrel
   cases gk with
   | zero => exact absurd HA.out (by simp [laws_eqTieS.l0])
   | succ k1 =>
    have H := HA.out; clear HA; simp only [laws_eqTieS.l0] at H
    by_cases c4 : x5_1 < (l0.length : Int)
    ·
     rw [if_pos c4] at H; have c4b0 : decide (x5_1 < (l0.length : Int)) = true := decide_eq_true c4; clear c4
     by_cases c5 : 0 ≤ x5_1
     ·
      rw [if_pos c5] at H; have c5b0 : decide (0 ≤ x5_1) = true := decide_eq_true c5; clear c5
      by_cases c6 : x5_1 < (l1.length : Int)
      ·
       rw [if_pos c6] at H; have c6b0 : decide (x5_1 < (l1.length : Int)) = true := decide_eq_true c6; clear c6; replace H := Option.bind_eq_some_iff.mp H; obtain ⟨t159, A70, H⟩ := H; replace H : (if t159 = true then (laws_eqTieS.l0 k1 l0 l1 (wrap64 (x5_1 + 1))) else (some false)) = some r := H; have A7 := Az A70; clear A70; have HC8 := Az H; clear H
       try go_wp2
       replace HB := Az (below_drew1 HB.out); have p157 : 0 ≤ (x5_1 : Int) := oz; have q157 : x5_1 < (l0.length : Int) := oz; obtain ⟨ad157, e157, hx157_0, hx157_1, hx157_2⟩ := at_T55 HR0.out x5_1 p157 q157; have hw157_2 := hx157_2; have hw157_1 := hx157_1; have hw157_0 := hx157_0
       cases e157
       replace hx157_0 := pw_cell_below HB.out hx157_0; replace hx157_1 := pw_cell_below HB.out hx157_1; replace hx157_2 := pw_cell_below HB.out hx157_2; replace p157 := eq_true p157; replace q157 := eq_true q157; have p158 : 0 ≤ (x5_1 : Int) := oz; have q158 : x5_1 < (l1.length : Int) := oz; obtain ⟨ad158, e158, hx158_0, hx158_1, hx158_2⟩ := at_T55 HR1.out x5_1 p158 q158; have hw158_2 := hx158_2; have hw158_1 := hx158_1; have hw158_0 := hx158_0
       cases e158
       replace hx158_0 := pw_cell_below HB.out hx158_0; replace hx158_1 := pw_cell_below HB.out hx158_1; replace hx158_2 := pw_cell_below HB.out hx158_2; replace p158 := eq_true p158; replace q158 := eq_true q158; refine start_ (n := 10) (S := fun w' => w'.cell? (ad157.add ((x5_1).toNat * 3)) = some (.int .i64 ((rd_T55 l0 x5_1).f0)) ∧ w'.cell? ⟨(ad157.add ((x5_1).toNat * 3)).block, (ad157.add ((x5_1).toNat * 3)).off + 1, none⟩ = some (.int .i64 ((rd_T55 l0 x5_1).f1)) ∧ w'.cell? ⟨(ad157.add ((x5_1).toNat * 3)).block, (ad157.add ((x5_1).toNat * 3)).off + 2, none⟩ = some (.bool ((rd_T55 l0 x5_1).f2)) ∧ w'.cell? (ad158.add ((x5_1).toNat * 3)) = some (.int .i64 ((rd_T55 l1 x5_1).f0)) ∧ w'.cell? ⟨(ad158.add ((x5_1).toNat * 3)).block, (ad158.add ((x5_1).toNat * 3)).off + 1, none⟩ = some (.int .i64 ((rd_T55 l1 x5_1).f1)) ∧ w'.cell? ⟨(ad158.add ((x5_1).toNat * 3)).block, (ad158.add ((x5_1).toNat * 3)).off + 2, none⟩ = some (.bool ((rd_T55 l1 x5_1).f2))) (ds := []) A2_0 (by kernel_rfl) rfl rfl ⟨(pw_cell_below HB.out hw157_0), (pw_cell_below HB.out hw157_1), (pw_cell_below HB.out hw157_2), (pw_cell_below HB.out hw158_0), (pw_cell_below HB.out hw158_1), (pw_cell_below HB.out hw158_2)⟩ (fun hHeld => ?_); refine with_tabW laws_eqTieS.tab6 laws_eqTieS.bits6 (fun HT_ HW_ => ?_); generalize wr.drew = w9 at HB hx157_0 hx157_1 hx157_2 hx158_0 hx158_1 hx158_2 hHeld ⊢; refine pz 0 17 A2_1 HT_.out ?_; refine pz 1 18 A2_2 HT_.out ?_; refine pz 2 19 A2_3 HT_.out ?_; refine pz 4 21 A2_4 HT_.out ?_; refine pz 5 22 A2_5 HT_.out ?_; refine pz 6 23 A2_6 HT_.out ?_; refine tz 3 20 A2_7 HT_.out HW_.out hHeld ?_
       refine tz 7 24 A2_8 HT_.out HW_.out hHeld ?_
       refine one_ (i := 8) (N := some 25) A2_9 rfl rfl (one_of HT_.out (by kernel_rfl)) (by decide) (fun K hK => ?_); refine goes_ Try.func74 (by kernel_rfl) rfl #[.agg #[.int .i64 ((rd_T55 l0 x5_1).f0), .int .i64 ((rd_T55 l0 x5_1).f1), .bool ((rd_T55 l0 x5_1).f2)], .agg #[.int .i64 ((rd_T55 l1 x5_1).f0), .int .i64 ((rd_T55 l1 x5_1).f1), .bool ((rd_T55 l1 x5_1).f2)]] (by rfl) rfl rfl (by (try simp only [List.map_toArray, List.map_cons, List.map_nil]); first | done | rfl) ?_
       with_reducible refine (laws_eqTie.calls ((rd_T55 l0 x5_1).f0) ((rd_T55 l0 x5_1).f1) ((rd_T55 l0 x5_1).f2) ((rd_T55 l1 x5_1).f0) ((rd_T55 l1 x5_1).f1) ((rd_T55 l1 x5_1).f2) t159 _ A7.out).mono ?_
       rintro e w10 ⟨rfl, hb⟩; refine ⟨_, rfl, ?_⟩; replace HB := Az (below_step bz hb); (try clear hb); (try clear hb2); (try clear hk); (try clear hi); refine hK.out _ _ ⟨(pw_cell_below HB.out hw157_0), (pw_cell_below HB.out hw157_1), (pw_cell_below HB.out hw157_2), (pw_cell_below HB.out hw158_0), (pw_cell_below HB.out hw158_1), (pw_cell_below HB.out hw158_2)⟩ (fun hHeld => ?_); clear hK K; refine norm_ (a' := ?_) ?_ ?_; rotate_left
       ·
        show Act.put _ (some 25) _ = _
        simp only [Act.put, sA, sB, sC, i64_w, i32_w]
        rfl
       refine pz 9 26 A2_10 HT_.out ?_; refine done_ (done_of HT_.out (by kernel_rfl)) ?_
       go_upto_if 26 with (fail)
       have H := HC8.out; clear HC8
       by_cases c11 : t159 = true
       ·
        subst c11
        have H1 : (laws_eqTieS.l0 k1 l0 l1 (wrap64 (x5_1 + 1))) = some r := by rw [if_pos rfl] at H; exact H
        clear H; have H := H1; clear H1; have H' := Az H; clear H
        go_wp2
        go_roundg k1
        case measure => have := HK1.out; omega
        case rel => exact ⟨(wrap64 (x5_1 + 1)), (by first | rfl | (simp; done) | (simp [*]; done)), H', ⟨by have := HK1.out; omega⟩, ⟨bz⟩⟩
       ·
        replace c11 := Bool.eq_false_iff.mpr c11; subst c11
        have H1 : (some false) = some r := by rw [if_neg (show ¬ (false = true) by decide)] at H; exact H
        clear H; have H := H1; clear H1; obtain rfl := Option.some.inj H
        go_wp2
        go_ret
        exact ⟨rz, bz⟩
      ·
       rw [if_neg c6] at H; exact absurd H (by simp)
     ·
      rw [if_neg c5] at H; exact absurd H (by simp)
    ·
     rw [if_neg c4] at H; have c4b0 : decide (x5_1 < (l0.length : Int)) = false := decide_eq_false c4; clear c4; obtain rfl := Option.some.inj H
     go_wp2
     go_ret
     exact ⟨rz, bz⟩
 ·
  rw [if_neg c3] at H; have c3b0 : ((l0.length : Int) == (l1.length : Int)) = false := beq_eq_false_iff_ne.mpr c3; have c3b1 : ((l0.length : Int) != (l1.length : Int)) = true := bne_iff_ne.mpr c3
  have c3b2 : (l0.length == l1.length) = false := by first | simpa using c3 | (simp at c3 ⊢; omega)
  obtain rfl := Option.some.inj H
  go_enter Try.func52, Try.ntmps52
  go_wp2
  go_ret
  exact ⟨rz, bz⟩

/-! ### laws_eqUse: function 75 -/
def laws_eqUse.f (a0_0 : Int) (a0_1 : Int) (a0_2 : Int) (a1_0 : Int) (a1_1 : Int) (a1_2 : Int) : Option (Bool) := if a0_0 = a1_0 then (if a0_1 = a1_1 then (if a0_2 = a1_2 then (some true) else (some false)) else (some false)) else (some false)
set_option maxHeartbeats 8000000 in
set_option maxRecDepth 100000 in
theorem laws_eqUse.calls (a0_0 : Int) (a0_1 : Int) (a0_2 : Int) (a1_0 : Int) (a1_1 : Int) (a1_2 : Int) (r : Bool) (w : World) (h : laws_eqUse.f a0_0 a0_1 a0_2 a1_0 a1_1 a1_2 = some r) :
  Calls Try.prog 75 #[.agg #[.int .i64 a0_0, .int .i64 a0_1, .int .i64 a0_2], .agg #[.int .i64 a1_0, .int .i64 a1_1, .int .i64 a1_2]] w fun e w' => e = .returned (.bool r) ∧ Below w.heap.size w w' := by
 have hu59 := Try.underlying59; have HB := Az (Below.refl w.heap.size w); have H : (if a0_0 = a1_0 then (if a0_1 = a1_1 then (if a0_2 = a1_2 then (some true) else (some false)) else (some false)) else (some false)) = some r := h; clear h; have HC3 := Az H; clear H
 go_enter Try.func75, Try.ntmps75
 go_upto_if 9 with (first | ((with_reducible refine gate_dst (N := 2) rfl ?_); refine box_event ?hg (N := 2) ?hd (cs := #[.int .i64 a0_0, .int .i64 a0_1, .int .i64 a0_2]) (t := 59) ?hr ?_; (case hd => rfl); (case hg => rfl); (case hr => first | (go_simp; done) | (go_simp; rfl)); intro gb160 hg w4 hbox hb; have BK160 := Az (hbox); have GW160 := Az ((by rw [hg]; exact (below_size bz) : w.heap.size ≤ gb160)); replace HB := Az (below_step bz hb); have GE160 := GW160; clear hb hbox hg) | ((with_reducible refine gate_dst (N := 3) rfl ?_); refine box_event ?hg (N := 3) ?hd (cs := #[.int .i64 a1_0, .int .i64 a1_1, .int .i64 a1_2]) (t := 59) ?hr ?_; (case hd => rfl); (case hg => rfl); (case hr => first | (go_simp; done) | (go_simp; rfl)); intro gb161 hg w5 hbox hb; have n0_ := Az (blk_below (bu BK160.out) hb); have n1_ := Az (below_step bz hb); have n2_ := Az (hbox); have n3_ := Az ((by rw [hg]; exact (below_size bz) : w.heap.size ≤ gb161)); have n4_ := n3_; have n5_ := Az ((by rw [hg]; exact Nat.ne_of_lt (blk_lt (g := gb160) (o := .cells #[.int .i64 a0_0, .int .i64 a0_1, .int .i64 a0_2] 59 (0, 0)) (bu BK160.out)) : gb160 ≠ gb161)); have n6_ := Az n5_.out.symm; clear BK160; clear HB; have BK160 := n0_; have HB := n1_; have BK161 := n2_; have GW161 := n3_; have GE161 := n4_; have NB160_161 := n5_; have NB161_160 := n6_; clear n0_ n1_ n2_ n3_ n4_ n5_ n6_; clear hb hbox hg; have hnb6 := NB160_161.out; have hnc6 := NB161_160.out; obtain ⟨hcz7_0, hcz7_1, hcz7_2⟩ := bc3 BK160.out; obtain ⟨hfz7_0, hfz7_1, hfz7_2⟩ := bf3_ BK160.out; obtain ⟨hcz8_0, hcz8_1, hcz8_2⟩ := bc3 BK161.out; obtain ⟨hfz8_0, hfz8_1, hfz8_2⟩ := bf3_ BK161.out))
 (try simp only [Act.put, sA, sB, sC])
 have H := HC3.out; clear HC3
 by_cases c9 : a0_0 = a1_0
 ·
  rw [if_pos c9] at H; have c9b0 : (a0_0 == a1_0) = true := beq_iff_eq.mpr c9; have c9b1 : (a0_0 != a1_0) = false := bne_eq_false_iff_eq.mpr c9; clear c9
  (first | rw [c9b0] | (simp only [i64_w, i32_w]; rw [c9b0]) | skip)
  by_cases c10 : a0_1 = a1_1
  ·
   rw [if_pos c10] at H; have c10b0 : (a0_1 == a1_1) = true := beq_iff_eq.mpr c10; have c10b1 : (a0_1 != a1_1) = false := bne_eq_false_iff_eq.mpr c10; clear c10
   by_cases c11 : a0_2 = a1_2
   ·
    rw [if_pos c11] at H; have c11b0 : (a0_2 == a1_2) = true := beq_iff_eq.mpr c11; have c11b1 : (a0_2 != a1_2) = false := bne_eq_false_iff_eq.mpr c11; clear c11; obtain rfl := Option.some.inj H; have hnb12 := NB160_161.out; have hnc12 := NB161_160.out; obtain ⟨hcz13_0, hcz13_1, hcz13_2⟩ := bc3 BK160.out; obtain ⟨hfz13_0, hfz13_1, hfz13_2⟩ := bf3_ BK160.out; obtain ⟨hcz14_0, hcz14_1, hcz14_2⟩ := bc3 BK161.out; obtain ⟨hfz14_0, hfz14_1, hfz14_2⟩ := bf3_ BK161.out
    go_wp2
    go_ret
    exact ⟨rz, bz⟩
   ·
    rw [if_neg c11] at H; have c11b0 : (a0_2 == a1_2) = false := beq_eq_false_iff_ne.mpr c11; have c11b1 : (a0_2 != a1_2) = true := bne_iff_ne.mpr c11; obtain rfl := Option.some.inj H; have hnb15 := NB160_161.out; have hnc15 := NB161_160.out; obtain ⟨hcz16_0, hcz16_1, hcz16_2⟩ := bc3 BK160.out; obtain ⟨hfz16_0, hfz16_1, hfz16_2⟩ := bf3_ BK160.out; obtain ⟨hcz17_0, hcz17_1, hcz17_2⟩ := bc3 BK161.out; obtain ⟨hfz17_0, hfz17_1, hfz17_2⟩ := bf3_ BK161.out
    go_wp2
    go_ret
    exact ⟨rz, bz⟩
  ·
   rw [if_neg c10] at H; have c10b0 : (a0_1 == a1_1) = false := beq_eq_false_iff_ne.mpr c10; have c10b1 : (a0_1 != a1_1) = true := bne_iff_ne.mpr c10; obtain rfl := Option.some.inj H; have hnb18 := NB160_161.out; have hnc18 := NB161_160.out; obtain ⟨hcz19_0, hcz19_1, hcz19_2⟩ := bc3 BK160.out; obtain ⟨hfz19_0, hfz19_1, hfz19_2⟩ := bf3_ BK160.out; obtain ⟨hcz20_0, hcz20_1, hcz20_2⟩ := bc3 BK161.out; obtain ⟨hfz20_0, hfz20_1, hfz20_2⟩ := bf3_ BK161.out
   go_wp2
   go_ret
   exact ⟨rz, bz⟩
 ·
  rw [if_neg c9] at H; have c9b0 : (a0_0 == a1_0) = false := beq_eq_false_iff_ne.mpr c9; have c9b1 : (a0_0 != a1_0) = true := bne_iff_ne.mpr c9
  (first | rw [c9b0] | (simp only [i64_w, i32_w]; rw [c9b0]) | skip)
  obtain rfl := Option.some.inj H
  go_wp2
  go_ret
  exact ⟨rz, bz⟩

end Go.Proofs.Ytbbfibokedlkkaa.PFnExactCloseFor
