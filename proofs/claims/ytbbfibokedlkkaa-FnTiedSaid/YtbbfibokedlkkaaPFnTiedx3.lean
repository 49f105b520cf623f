/- Walks of the functions named below, by a program of the session over the kit's printer. -/
import Derived.Test.YtbbfibokedlkkaaPFnTiedx0
import Derived.Test.YtbbfibokedlkkaaPFnTiedx1
import Derived.Test.YtbbfibokedlkkaaPFnTiedx2
namespace Go.Proofs.Ytbbfibokedlkkaa.PFnTied
open Go.RowKit Go.Proofs.YtbbfibokedlkkaaW.PrintWords Go.Proofs.YtbbfibokedlkkaaW.PrintLast Go.Proofs.YtbbfibokedlkkaaW.PrintMore
attribute [local go_sem] max2_int min2_int max_two min_two max_three min_three max_four min_four   -- for this text's walks alone
set_option linter.unusedVariables false
set_option linter.unusedSimpArgs false

/-! ### spec_l1New: function 59 -/
def spec_l1New.l0 : Nat → List Int → Int → Int → Option (List Int × Int × Int)
 | 0, _, _, _ => none
 | k + 1, x0, x3, x4 => if x4 < (x0.length : Int) then (if x4 < 4000 then (if 0 ≤ x4 then (spec_l1New.l0 k x0 (Go.bits .and .i64 (wrap64 ((wrap64 ((wrap64 (x3 * 131)) + (wrap64 (rd x0 x4)))) + 7)) 1073741823) (wrap64 (x4 + 1))) else (none)) else (some (x0, 0, x3))) else (some (x0, 0, x3))
def spec_l1New.f (k : Nat) (l0 : List Int) : Option (List Int × Int × Int) := spec_l1New.l0 k l0 (wrap64 (63063 + (l0.length : Int))) 0
set_option maxHeartbeats 8000000 in
set_option maxRecDepth 100000 in
theorem spec_l1New.calls (k : Nat) (A0 : Option Addr) (c0 : Nat) (l0 : List Int) (r1 : List Int) (r2 : Int) (r3 : Int) (w0 w : World) (hB : Below w0.heap.size w0 w) (hr0 : Kd.C (Kd.int .u8) w0 A0 l0.length l0) (hc0 : l0.length ≤ c0) (h : spec_l1New.f k l0 = some (r1, r2, r3)) :
  Calls Try.prog 59 #[.slice A0 l0.length c0] w fun e w' => ∃ g_ : Nat, e = .returned (.pointer (some ⟨g_, 0, none⟩)) ∧ IsS110 w0 w' g_ r1 r2 r3 ∧ Below w0.heap.size w0 w' ∧ Below w.heap.size w w' := by
 have hu110 := Try.underlying110; have HR0 := Az hr0; have HC0 := Az hc0; clear hr0 hc0; have HBW := Az (Below.refl w.heap.size w); have HW0 := Az hB.size; have HB := Az hB; clear hB; have H : (spec_l1New.l0 k l0 (wrap64 (63063 + (l0.length : Int))) 0) = some (r1, r2, r3) := h; clear h; have H' := Az H; clear H
 go_enter Try.func59, Try.ntmps59
 go_wp2
 go_loopg [3, 4] k (fun kq v3 v4 w' => ∃ (x3_1 : Int) (x4_1 : Int), v3 = .int .i64 x3_1 ∧ v4 = .int .i64 x4_1 ∧ Aside0 (spec_l1New.l0 kq l0 x3_1 x4_1 = some (r1, r2, r3)) ∧ Aside0 (kq ≤ k) ∧ Aside0 (Below w.heap.size w w') ∧ Aside0 (Below w0.heap.size w0 w'))
 case atStart => exact ⟨(wrap64 (63063 + (l0.length : Int))), (0), (by first | rfl | (simp; done) | (simp [*]; done)), (by first | rfl | (simp; done) | (simp [*]; done)), H', ⟨Nat.le_refl _⟩, ⟨by repeat (first | (with_reducible first | exact HBW.out | apply ba | apply bn | apply bd) | exact HBW.out)⟩, ⟨bz⟩⟩
 case round =>
  clear H'; obtain ⟨x3_1, x4_1, rfl, rfl, HA, HK1, HBW, HB⟩ := hrel
  cases gk with
  | zero => exact absurd HA.out (by simp [spec_l1New.l0])
  | succ k1 =>
   have H := HA.out; clear HA; simp only [spec_l1New.l0] at H
   by_cases c2 : x4_1 < (l0.length : Int)
   ·
    rw [if_pos c2] at H; have c2b0 : decide (x4_1 < (l0.length : Int)) = true := decide_eq_true c2; clear c2
    by_cases c3 : x4_1 < 4000
    ·
     rw [if_pos c3] at H; have c3b0 : decide (x4_1 < 4000) = true := decide_eq_true c3; clear c3
     by_cases c4 : 0 ≤ x4_1
     ·
      rw [if_pos c4] at H; have c4b0 : decide (0 ≤ x4_1) = true := decide_eq_true c4; clear c4; have H' := Az H; clear H; have p170 : 0 ≤ (x4_1 : Int) := oz; have q170 : x4_1 < (l0.length : Int) := oz; obtain ⟨ad170, e170, hx170_0⟩ := Kd.at_int HR0.out x4_1 p170 q170
      cases e170
      replace hx170_0 := pw_cell_below HB.out hx170_0; replace p170 := eq_true p170; replace q170 := eq_true q170
      go_wp2
      go_roundg k1
      case measure => have := HK1.out; omega
      case rel => exact ⟨(Go.bits .and .i64 (wrap64 ((wrap64 ((wrap64 (x3_1 * 131)) + (wrap64 (rd l0 x4_1)))) + 7)) 1073741823), (wrap64 (x4_1 + 1)), (by first | rfl | (simp; done) | (simp [*]; done)), (by first | rfl | (simp; done) | (simp [*]; done)), H', ⟨by have := HK1.out; omega⟩, ⟨by repeat (first | (with_reducible first | exact HBW.out | apply ba | apply bn | apply bd) | exact HBW.out)⟩, ⟨bz⟩⟩
     ·
      rw [if_neg c4] at H; exact absurd H (by simp)
    ·
     rw [if_neg c3] at H; have c3b0 : decide (x4_1 < 4000) = false := decide_eq_false c3; clear c3; simp only [Option.some.injEq, Prod.mk.injEq] at H; obtain ⟨rfl, rfl, rfl⟩ := H
     go_wp2_with (first | ((with_reducible refine gate_dst (N := 31) rfl ?_); refine box_event ?hg (N := 31) ?hd (cs := #[.slice A0 l0.length c0, .int .i64 0, .int .i64 x3_1]) (t := 110) ?hr ?_; (case hd => rfl); (case hg => rfl); (case hr => first | (go_simp; done) | (go_simp; rfl)); intro gb171 hg w5 hbox hb; replace HB := Az (below_step bz hb); have BK171 := Az (hbox); have GW171 := Az ((by rw [hg]; exact (below_size (by repeat (first | (with_reducible first | exact HBW.out | apply ba | apply bn | apply bd) | exact HBW.out))) : w.heap.size ≤ gb171)); have GE171 := Az ((Nat.le_trans HW0.out (by rw [hg]; exact (below_size (by repeat (first | (with_reducible first | exact HBW.out | apply ba | apply bn | apply bd) | exact HBW.out))) : w.heap.size ≤ gb171) : w0.heap.size ≤ gb171)); replace HBW := Az (below_step HBW.out hb); clear hb hbox hg))
     go_ret
     exact ⟨_, rfl, (show IsS110 w0 _ gb171 l0 0 x3_1 from ⟨_, _, by refine bu ?_; exact BK171.out, GE171.out, HR0.out⟩), bz, by repeat (first | (with_reducible first | exact HBW.out | apply ba | apply bn | apply bd | refine bt ?_ GW171.out) | exact HBW.out)⟩
   ·
    rw [if_neg c2] at H; have c2b0 : decide (x4_1 < (l0.length : Int)) = false := decide_eq_false c2; clear c2; simp only [Option.some.injEq, Prod.mk.injEq] at H; obtain ⟨rfl, rfl, rfl⟩ := H
    go_wp2_with (first | ((with_reducible refine gate_dst (N := 31) rfl ?_); refine box_event ?hg (N := 31) ?hd (cs := #[.slice A0 l0.length c0, .int .i64 0, .int .i64 x3_1]) (t := 110) ?hr ?_; (case hd => rfl); (case hg => rfl); (case hr => first | (go_simp; done) | (go_simp; rfl)); intro gb172 hg w6 hbox hb; replace HB := Az (below_step bz hb); have BK172 := Az (hbox); have GW172 := Az ((by rw [hg]; exact (below_size (by repeat (first | (with_reducible first | exact HBW.out | apply ba | apply bn | apply bd) | exact HBW.out))) : w.heap.size ≤ gb172)); have GE172 := Az ((Nat.le_trans HW0.out (by rw [hg]; exact (below_size (by repeat (first | (with_reducible first | exact HBW.out | apply ba | apply bn | apply bd) | exact HBW.out))) : w.heap.size ≤ gb172) : w0.heap.size ≤ gb172)); replace HBW := Az (below_step HBW.out hb); clear hb hbox hg))
    go_ret
    exact ⟨_, rfl, (show IsS110 w0 _ gb172 l0 0 x3_1 from ⟨_, _, by refine bu ?_; exact BK172.out, GE172.out, HR0.out⟩), bz, by repeat (first | (with_reducible first | exact HBW.out | apply ba | apply bn | apply bd | refine bt ?_ GW172.out) | exact HBW.out)⟩

/-! ### spec_DrawNet: function 26 -/
def spec_DrawNet.f (k : Nat) (l0 : List Int) : Option (Int × (List (S57)) × (List (S55)) × (List (S59))) := (spec_l1New.f k l0).bind fun bt174 => ((spec_l7Draw.f k bt174.1 bt174.2.1 bt174.2.2).bind fun bt178 => (some (bt178.1, bt178.2.1, bt178.2.2.1, bt178.2.2.2.1)))
set_option maxHeartbeats 8000000 in
set_option maxRecDepth 100000 in
theorem spec_DrawNet.calls (k : Nat) (A0 : Option Addr) (c0 : Nat) (l0 : List Int) (r1 : Int) (r2 : List (S57)) (r3 : List (S55)) (r4 : List (S59)) (w : World) (hr0 : Kd.C (Kd.int .u8) w A0 l0.length l0) (hc0 : l0.length ≤ c0) (h : spec_DrawNet.f k l0 = some (r1, r2, r3, r4)) :
  Calls Try.prog 26 #[.slice A0 l0.length c0] w fun e w' => ∃ v1_ v2_ v3_ : Value, e = .returned (.agg #[.int .i64 r1, v1_, v2_, v3_]) ∧ Kd.R k57 57 w' w.heap.size (fun _ => True) v1_ r2 ∧ Kd.R k55 55 w' w.heap.size (fun _ => True) v2_ r3 ∧ Kd.R k59 59 w' w.heap.size (fun _ => True) v3_ r4 ∧ Below w.heap.size w w' := by
 have hu41 := Try.underlying41; have HR0 := Az hr0; have HC0 := Az hc0; clear hr0 hc0; have HB := Az (Below.refl w.heap.size w); have H : ((spec_l1New.f k l0).bind fun bt174 => ((spec_l7Draw.f k bt174.1 bt174.2.1 bt174.2.2).bind fun bt178 => (some (bt178.1, bt178.2.1, bt178.2.2.1, bt178.2.2.2.1)))) = some (r1, r2, r3, r4) := h; clear h; replace H := Option.bind_eq_some_iff.mp H; obtain ⟨⟨t174, t175, t176⟩, A20, H⟩ := H; replace H : ((spec_l7Draw.f k t174 t175 t176).bind fun bt178 => (some (bt178.1, bt178.2.1, bt178.2.2.1, bt178.2.2.2.1))) = some (r1, r2, r3, r4) := H; have A2 := Az A20; clear A20; replace H := Option.bind_eq_some_iff.mp H; obtain ⟨⟨t178, t179, t182, t185, t188, t189⟩, A30, H⟩ := H; replace H : (some (t178, t179, t182, t185)) = some (r1, r2, r3, r4) := H; have A3 := Az A30; clear A30; simp only [Option.some.injEq, Prod.mk.injEq] at H; obtain ⟨rfl, rfl, rfl, rfl⟩ := H
 go_enter Try.func26, Try.ntmps26
 go_wp2_with (first | ((with_reducible refine gate_dst (N := 2) rfl ?_); refine box_event ?hg (N := 2) ?hd (cs := #[.int .i64 0, .slice none 0 0, .slice none 0 0, .slice none 0 0]) (t := 41) ?hr ?_; (case hd => rfl); (case hg => rfl); (case hr => first | (go_simp; done) | (go_simp; rfl)); intro gb173 hg w4 hbox hb; have BK173 := Az (hbox); have GW173 := Az ((by rw [hg]; exact (below_size bz) : w.heap.size ≤ gb173)); replace HB := Az (below_step bz hb); have GE173 := GW173; clear hb hbox hg) | ((with_reducible refine gate_callee (f := 59) rfl ?_); refine goesL_ (some 4) rfl rfl Try.func59 (by kernel_rfl) rfl #[.slice A0 l0.length c0] rfl (by (try simp only [List.map_toArray, List.map_cons, List.map_nil]); first | done | rfl) ?_; (with_reducible refine (spec_l1New.calls k _ _ l0 t174 t175 t176 w _ ?side1 ?side2 ?side3 A2.out).mono ?_); (case side1 => repeat (with_reducible first | exact HB.out | apply ba | apply bn | apply bd | refine bt ?_ GE173.out)); (case side2 => exact HR0.out); (case side3 => exact HC0.out); rintro e w5 ⟨g177, rfl, hi, hb, hb2⟩; refine ⟨_, rfl, ?_⟩; replace HB := Az (hb); have HI177 := Az (hi); have NB177_173 := Az (IsS110.ne_blk hi (blk_below (bu BK173.out) hb2) (by decide)); have NB173_177 := Az (Ne.symm (IsS110.ne_blk hi (blk_below (bu BK173.out) hb2) (by decide))); replace BK173 := Az (blk_below (bu BK173.out) hb2); (try clear hb); (try clear hb2); (try clear hk); (try clear hi)) | ((with_reducible refine gate_callee (f := 58) rfl ?_); refine goesL_ (some 5) rfl rfl Try.func58 (by kernel_rfl) rfl #[.pointer (some ⟨g177, 0, none⟩)] rfl (by (try simp only [List.map_toArray, List.map_cons, List.map_nil]); first | done | rfl) ?_; (with_reducible refine (spec_l7Draw.calls k g177 t174 t175 t176 t178 t179 t182 t185 t188 t189 w _ ?side1 ?side2 A3.out).mono ?_); (case side1 => repeat (first | (with_reducible first | exact HI177.out | apply IsS110.alloc | apply IsS110.drewN | apply IsS110.drew | apply IsS110.set_1 | apply IsS110.set_2 | refine IsS110.far ?_ NB177_173.out _) | exact HI177.out)); (case side2 => repeat (first | (with_reducible first | exact HB.out | apply ba | apply bn | apply bd | refine bt ?_ (IsS110.ge HI177.out) | refine bt ?_ GE173.out) | exact HB.out)); rintro e w6 ⟨v180, v183, v186, rfl, ho0, ho1, ho2, hi, hb, hk⟩; refine ⟨_, rfl, ?_⟩; replace BK173 := Az (KeepBut.blk hk (g' := gb173) (o := .cells #[.int .i64 0, .slice none 0 0, .slice none 0 0, .slice none 0 0] 41 (0, 0)) (bu BK173.out) NB173_177.out (by simp)); have HO181 := Az (Kd.R_lower ho0 (below_size (by repeat (first | (with_reducible first | exact HB.out | apply ba | apply bn | apply bd | refine bt ?_ (IsS110.ge HI177.out) | refine bt ?_ GE173.out) | exact HB.out)))); have HO184 := Az (Kd.R_lower ho1 (below_size (by repeat (first | (with_reducible first | exact HB.out | apply ba | apply bn | apply bd | refine bt ?_ (IsS110.ge HI177.out) | refine bt ?_ GE173.out) | exact HB.out)))); have HO187 := Az (Kd.R_lower ho2 (below_size (by repeat (first | (with_reducible first | exact HB.out | apply ba | apply bn | apply bd | refine bt ?_ (IsS110.ge HI177.out) | refine bt ?_ GE173.out) | exact HB.out)))); replace HB := Az (hb); replace HI177 := Az (hi); (try clear hb); (try clear hb2); (try clear hk); (try clear hi); (try clear ho0); (try clear ho1); (try clear ho2); have hnb7 := NB173_177.out; have hnc7 := NB177_173.out; obtain ⟨hcz8_0, hcz8_1, hcz8_2, hcz8_3⟩ := bc4 BK173.out; obtain ⟨hfz8_0, hfz8_1, hfz8_2, hfz8_3⟩ := bf4_ BK173.out; obtain ⟨Ao9, co9, eo9⟩ := Kd.R_slice HO181.out; subst eo9; obtain ⟨Ao10, co10, eo10⟩ := Kd.R_slice HO184.out; subst eo10; obtain ⟨Ao11, co11, eo11⟩ := Kd.R_slice HO187.out; subst eo11))
 refine bodyPost_ret (results_cell_row rfl _ _ gb173 41 #[.int .i64 t178, .slice Ao9 t179.length co9, .slice Ao10 t182.length co10, .slice Ao11 t185.length co11] (0, 0) _ rfl (by refine bu ?_; refine blk_put (cs := #[.int .i64 t178, .slice Ao9 t179.length co9, .slice Ao10 t182.length co10, .slice none 0 0]) ?_ 3 _ rfl; refine bu ?_; refine blk_put (cs := #[.int .i64 t178, .slice Ao9 t179.length co9, .slice none 0 0, .slice none 0 0]) ?_ 2 _ rfl; refine bu ?_; refine blk_put (cs := #[.int .i64 t178, .slice none 0 0, .slice none 0 0, .slice none 0 0]) ?_ 1 _ rfl; refine bu ?_; refine blk_put (cs := #[.int .i64 0, .slice none 0 0, .slice none 0 0, .slice none 0 0]) ?_ 0 _ rfl; refine bu ?_; exact BK173.out) Try.underlying41 rfl (by kernel_rfl)) rfl ?_; exact ⟨_, _, _, rz, by (with_reducible repeat (first | apply Kd.R_alloc | apply Kd.R_drewN | apply Kd.R_drew)); exact Kd.R_mono (Kd.R_far (p := ⟨gb173, 3, none⟩) (Kd.R_far (p := ⟨gb173, 2, none⟩) (Kd.R_far (p := ⟨gb173, 1, none⟩) (Kd.R_far (p := ⟨gb173, 0, none⟩) (Kd.R_types HO181.out BK173.out (by decide)) (fun _ hk => hk.2) (.int .i64 t178)) (fun _ hk => hk.2) (.slice Ao9 t179.length co9)) (fun _ hk => hk.2) (.slice Ao10 t182.length co10)) (fun _ hk => hk.2) (.slice Ao11 t185.length co11)) (fun _ hk => trivial), by (with_reducible repeat (first | apply Kd.R_alloc | apply Kd.R_drewN | apply Kd.R_drew)); exact Kd.R_mono (Kd.R_far (p := ⟨gb173, 3, none⟩) (Kd.R_far (p := ⟨gb173, 2, none⟩) (Kd.R_far (p := ⟨gb173, 1, none⟩) (Kd.R_far (p := ⟨gb173, 0, none⟩) (Kd.R_types HO184.out BK173.out (by decide)) (fun _ hk => hk.2) (.int .i64 t178)) (fun _ hk => hk.2) (.slice Ao9 t179.length co9)) (fun _ hk => hk.2) (.slice Ao10 t182.length co10)) (fun _ hk => hk.2) (.slice Ao11 t185.length co11)) (fun _ hk => trivial), by (with_reducible repeat (first | apply Kd.R_alloc | apply Kd.R_drewN | apply Kd.R_drew)); exact Kd.R_mono (Kd.R_far (p := ⟨gb173, 3, none⟩) (Kd.R_far (p := ⟨gb173, 2, none⟩) (Kd.R_far (p := ⟨gb173, 1, none⟩) (Kd.R_far (p := ⟨gb173, 0, none⟩) (Kd.R_types HO187.out BK173.out (by decide)) (fun _ hk => hk.2) (.int .i64 t178)) (fun _ hk => hk.2) (.slice Ao9 t179.length co9)) (fun _ hk => hk.2) (.slice Ao10 t182.length co10)) (fun _ hk => hk.2) (.slice Ao11 t185.length co11)) (fun _ hk => trivial), by repeat (first | (with_reducible first | exact HB.out | apply ba | apply bn | apply bd | refine bt ?_ (IsS110.ge HI177.out) | refine bt ?_ GE173.out) | exact HB.out)⟩

/-! ### impl_in: function 36 -/
def impl_in.f (a0 : Int) (a1 : Int) (a2 : Int) : Option (Bool) := if a0 ≥ a1 then (some (decide (a0 ≤ a2))) else (some false)
set_option maxHeartbeats 8000000 in
set_option maxRecDepth 100000 in
theorem impl_in.calls (a0 : Int) (a1 : Int) (a2 : Int) (r : Bool) (w : World) (h : impl_in.f a0 a1 a2 = some r) :
  Calls Try.prog 36 #[.int .i64 a0, .int .i64 a1, .int .i64 a2] w fun e w' => e = .returned (.bool r) ∧ Drawn0 w w' := by
 have H : (if a0 ≥ a1 then (some (decide (a0 ≤ a2))) else (some false)) = some r := h; clear h
 by_cases c4 : a0 ≥ a1
 ·
  rw [if_pos c4] at H; have c4b0 : decide (a1 ≤ a0) = true := decide_eq_true c4; clear c4; obtain rfl := Option.some.inj H
  go_enter Try.func36, Try.ntmps36
  go_wp2
  go_ret
  exact ⟨by first | rfl | (simp; done) | (simp [*]; done), by repeat (first | exact Drawn0.refl _ | apply Drawn0.step)⟩
 ·
  rw [if_neg c4] at H; have c4b0 : decide (a1 ≤ a0) = false := decide_eq_false c4; clear c4; obtain rfl := Option.some.inj H
  go_enter Try.func36, Try.ntmps36
  go_wp2
  go_ret
  exact ⟨by first | rfl | (simp; done) | (simp [*]; done), by repeat (first | exact Drawn0.refl _ | apply Drawn0.step)⟩

/-! ### impl_NetOk: function 17, by hand -/
def impl_NetOk.inB (a b c : Int) : Bool := decide (b ≤ a) && decide (a ≤ c)
theorem impl_NetOk.in_eq (a b c : Int) : impl_in.f a b c = some (impl_NetOk.inB a b c) := by
 unfold impl_in.f impl_NetOk.inB
 by_cases h : a ≥ b
 ·
  rw [if_pos h, decide_eq_true (show b ≤ a from h)]; rfl
 ·
  rw [if_neg h, decide_eq_false (show ¬ b ≤ a from h)]; rfl
theorem impl_NetOk.in_r {a b c : Int} {r : Bool} (h : impl_NetOk.inB a b c = r) : impl_in.f a b c = some r := by rw [← h]; exact impl_NetOk.in_eq a b c
theorem impl_NetOk.bd {B : Nat} {a w : World} (h : Below B a w) (q : Nat) : Below B a (w.drewN q) := ⟨h.os, h.tape, h.output, h.size, h.block⟩
def impl_NetOk.p1 (b : Int) (x : S57) : Bool := !(impl_NetOk.inB x.f0 0 (wrap64 (b - 1))) || !(impl_NetOk.inB x.f1 0 100000)
def impl_NetOk.p2 (b : Int) (x : S55) : Bool := !(impl_NetOk.inB x.f0 0 (wrap64 (b - 1))) || (!(impl_NetOk.inB x.f1 0 (wrap64 (b - 1))) || decide (x.f0 = x.f1))
def impl_NetOk.p3 (b : Int) (x : S59) : Bool := !(impl_NetOk.inB x.f0 0 (wrap64 (b - 1))) || (!(impl_NetOk.inB x.f1 1 100000) || !(impl_NetOk.inB x.f2 0 9))
set_option maxHeartbeats 4000000 in
set_option maxRecDepth 100000 in
theorem impl_NetOk.bus (x b : Int) (B : Nat) (w0 : World) (hB : B < w0.heap.size) (hcell : w0.cell? ⟨B, 0, none⟩ = some (.int .i64 b)) (W : World) (hb : Below w0.heap.size w0 W) :
  Calls Try.prog 44 #[.int .i64 x, .pointer (some ⟨B, 0, none⟩)] W fun e w' => e = .returned (.bool (impl_NetOk.inB x 0 (wrap64 (b - 1)))) ∧ ∃ nd, w' = W.drewN nd := by
 have hc : W.cell? ⟨B, 0, none⟩ = some (.int .i64 b) := (hb.cell (p := ⟨B, 0, none⟩) hB).trans hcell; have hi := impl_NetOk.in_eq x 0 (wrap64 (b - 1)); generalize impl_NetOk.inB x 0 (wrap64 (b - 1)) = r at hi ⊢
 go_enter Try.func44, Try.ntmps44
 go_wp2_with (go_at_call 36; refine (impl_in.calls _ _ _ r _ hi).mono ?_; rintro e w' ⟨rfl, nd, rfl⟩)
 go_ret
 exact ⟨rfl, _, rfl⟩
set_option maxHeartbeats 4000000 in
set_option maxRecDepth 100000 in
theorem impl_NetOk.cl1 (b : Int) (x : S57) (Bi Bn : Nat) (w0 : World) (hBi : Bi < w0.heap.size) (hBn : Bn < w0.heap.size) (hci : w0.cell? ⟨Bi, 0, none⟩ = some (.func (.func 44) #[] #[.pointer (some ⟨Bn, 0, none⟩)])) (hcn : w0.cell? ⟨Bn, 0, none⟩ = some (.int .i64 b)) (W : World) (hb : Below w0.heap.size w0 W) :
  Calls Try.prog 46 #[.agg #[.int .i64 x.f0, .int .i64 x.f1, .bool x.f2], .pointer (some ⟨Bi, 0, none⟩)] W fun e w' => e = .returned (.bool (impl_NetOk.p1 b x)) ∧ Below w0.heap.size w0 w' := by
 have hc : W.cell? ⟨Bi, 0, none⟩ = some (.func (.func 44) #[] #[.pointer (some ⟨Bn, 0, none⟩)]) := (hb.cell (p := ⟨Bi, 0, none⟩) hBi).trans hci; have hBW : Bi < W.heap.size := Nat.lt_of_lt_of_le hBi hb.size
 have hne : Bi ≠ W.heap.size := by omega
 have HBUS := impl_NetOk.bus x.f0 b Bn w0 hBn hcn
 unfold impl_NetOk.p1
 have hbel := fun (o : Obj) => hb.alloc hb.size o
 cases h1 : impl_NetOk.inB x.f0 0 (wrap64 (b - 1))
 ·
  simp only [h1] at HBUS
  go_enter Try.func46, Try.ntmps46
  go_wp2_with (go_at_call 44; (with_reducible refine (HBUS _ ?hb).mono ?_); (case hb => first | exact hbel _ | exact impl_NetOk.bd (hbel _) _ | exact impl_NetOk.bd (impl_NetOk.bd (hbel _) _) _); rintro e w' ⟨rfl, nd, rfl⟩)
  all_goals (go_ret; exact ⟨by first | rfl | simp_all, by first | exact hbel _ | exact impl_NetOk.bd (hbel _) _ | exact impl_NetOk.bd (impl_NetOk.bd (hbel _) _) _ | exact impl_NetOk.bd (impl_NetOk.bd (impl_NetOk.bd (hbel _) _) _) _⟩)
 ·
  simp only [h1] at HBUS
  cases h2 : impl_NetOk.inB x.f1 0 100000
  ·
   go_enter Try.func46, Try.ntmps46
   go_wp2_with (first | (go_at_call 44; (with_reducible refine (HBUS _ ?hb).mono ?_); (case hb => first | exact hbel _ | exact impl_NetOk.bd (hbel _) _ | exact impl_NetOk.bd (impl_NetOk.bd (hbel _) _) _); rintro e w' ⟨rfl, nd, rfl⟩) | (go_at_call 36; (with_reducible refine (impl_in.calls x.f1 0 100000 false _ ?hi).mono ?_); (case hi => exact impl_NetOk.in_r h2); rintro e w' ⟨rfl, nd, rfl⟩))
   all_goals (go_ret; exact ⟨by first | rfl | simp_all, by first | exact hbel _ | exact impl_NetOk.bd (hbel _) _ | exact impl_NetOk.bd (impl_NetOk.bd (hbel _) _) _ | exact impl_NetOk.bd (impl_NetOk.bd (impl_NetOk.bd (hbel _) _) _) _⟩)
  ·
   go_enter Try.func46, Try.ntmps46
   go_wp2_with (first | (go_at_call 44; (with_reducible refine (HBUS _ ?hb).mono ?_); (case hb => first | exact hbel _ | exact impl_NetOk.bd (hbel _) _ | exact impl_NetOk.bd (impl_NetOk.bd (hbel _) _) _); rintro e w' ⟨rfl, nd, rfl⟩) | (go_at_call 36; (with_reducible refine (impl_in.calls x.f1 0 100000 true _ ?hi).mono ?_); (case hi => exact impl_NetOk.in_r h2); rintro e w' ⟨rfl, nd, rfl⟩))
   all_goals (go_ret; exact ⟨by first | rfl | simp_all, by first | exact hbel _ | exact impl_NetOk.bd (hbel _) _ | exact impl_NetOk.bd (impl_NetOk.bd (hbel _) _) _ | exact impl_NetOk.bd (impl_NetOk.bd (impl_NetOk.bd (hbel _) _) _) _⟩)
theorem impl_NetOk.rd1 (l : List S57) (i : Nat) (h : i < l.length) : rd_T57 l (i : Int) = l[i] := by
 show l.getD (i : Int).toNat z57 = _
 rw [Int.toNat_natCast, List.getD_eq_getElem?_getD, List.getElem?_eq_getElem h]; rfl
set_option maxHeartbeats 4000000 in
set_option maxRecDepth 100000 in
theorem impl_NetOk.index1 (A0 : Option Addr) (c0 : Nat) (l0 : List S57) (p : S57 → Bool) (Bi : Nat) (r : Bool) (w : World) (hr0 : Kd.C k57 w A0 l0.length l0) (hone : ∀ (x : S57) (W : World), Below w.heap.size w W → Calls Try.prog 46 #[.agg #[.int .i64 x.f0, .int .i64 x.f1, .bool x.f2], .pointer (some ⟨Bi, 0, none⟩)] W fun e w' => e = .returned (.bool (p x)) ∧ Below w.heap.size w w') (h : l0.any p = r) :
  Calls Try.prog 70 #[.slice A0 l0.length c0, .func (.func 46) #[] #[.pointer (some ⟨Bi, 0, none⟩)]] w fun e w' => ∃ n : Int, e = .returned (.int .i64 n) ∧ decide (0 ≤ n) = r ∧ Below w.heap.size w w' := by
 have hu := Try.underlying57; have HR := Az hr0; have HL := Az h; have HO := Az hone; have hlen := hr0.2.1; have HN := Az hlen; clear hr0 h hlen hone; have HB := Az (Below.refl w.heap.size w); have hlen : l0.length ≤ 9223372036854775807 := HN.out
 go_enter Try.func70, Try.ntmps70
 go_wp2
 go_loopg [5, 8] l0.length (fun gg _ s8 wr => ∃ kk : Nat, kk ≤ l0.length ∧ l0.length - kk ≤ gg ∧ s8 = .int .i64 kk ∧ Aside0 (Below w.heap.size w wr) ∧ Aside0 ((l0.drop kk).any p = r))
 case atStart => exact ⟨0, Nat.zero_le _, by omega, rfl, HB, HL⟩
 case round =>
  obtain ⟨kk, hkk, hg, rfl, BW, A⟩ := hrel; clear HB
  by_cases hlt : kk < l0.length
  ·
   have hltz : (kk : Int) < (l0.length : Int) := by omega
   have hA := A.out; rw [List.drop_eq_getElem_cons hlt, List.any_cons, ← impl_NetOk.rd1 _ _ hlt] at hA; clear A; obtain ⟨ad, e, hx0, hx1, hx2⟩ := at_T57 HR.out (kk : Int) (by omega) hltz
   cases e
   simp only [Int.toNat_natCast] at hx0 hx1 hx2; replace hx0 := (BW.out.cell (World.block_lt_of_cell? w _ hx0)).trans hx0; replace hx1 := (BW.out.cell (World.block_lt_of_cell? w _ hx1)).trans hx1; replace hx2 := (BW.out.cell (World.block_lt_of_cell? w _ hx2)).trans hx2; have hone := HO.out (rd_T57 l0 (kk : Int)) wr BW.out
   cases hq : p (rd_T57 l0 (kk : Int))
   ·
    rw [hq] at hA hone; rw [Bool.false_or] at hA; have HC := Az hone; have HA := Az hA; clear hone hA
    go_wp2_with (go_at_call 46; refine HC.out.mono ?_; rintro e w' ⟨rfl, hb'⟩)
    go_roundg (l0.length - (kk + 1))
    case measure => omega
    case rel => exact ⟨kk + 1, by omega, by omega, by go_num, ⟨hb'⟩, HA⟩
   ·
    rw [hq] at hA hone; rw [Bool.true_or] at hA; have HC := Az hone; have HA := Az hA; clear hone hA
    go_wp2_with (go_at_call 46; refine HC.out.mono ?_; rintro e w' ⟨rfl, hb'⟩)
    go_ret
    exact ⟨(kk : Int), rfl, by rw [← HA.out]; simp, hb'⟩
  ·
   have hltz : ¬ (kk : Int) < (l0.length : Int) := by omega
   have : kk = l0.length := by omega
   subst this; have hr := A.out; rw [List.drop_length] at hr; have HR' := Az hr; clear hr A
   go_wp2
   go_ret
   exact ⟨-1, rfl, by rw [← HR'.out]; rfl, BW.out⟩
set_option maxHeartbeats 4000000 in
set_option maxRecDepth 100000 in
theorem impl_NetOk.contains1 (A0 : Option Addr) (c0 : Nat) (l0 : List S57) (p : S57 → Bool) (Bi : Nat) (r : Bool) (w : World) (hr0 : Kd.C k57 w A0 l0.length l0) (hone : ∀ (x : S57) (W : World), Below w.heap.size w W → Calls Try.prog 46 #[.agg #[.int .i64 x.f0, .int .i64 x.f1, .bool x.f2], .pointer (some ⟨Bi, 0, none⟩)] W fun e w' => e = .returned (.bool (p x)) ∧ Below w.heap.size w w') (h : l0.any p = r) :
  Calls Try.prog 45 #[.slice A0 l0.length c0, .func (.func 46) #[] #[.pointer (some ⟨Bi, 0, none⟩)]] w fun e w' => e = .returned (.bool r) ∧ Below w.heap.size w w' := by
 have HC := Az (impl_NetOk.index1 A0 c0 l0 p Bi r w hr0 hone h); clear hr0 hone h
 go_enter Try.func45, Try.ntmps45
 go_wp2_with (go_at_call 70; refine HC.out.mono ?_; rintro e w' ⟨n, rfl, hn, hb⟩)
 go_ret
 exact ⟨by subst hn; rfl, hb⟩
set_option maxHeartbeats 4000000 in
set_option maxRecDepth 100000 in
theorem impl_NetOk.cl2 (b : Int) (x : S55) (Bi Bn : Nat) (w0 : World) (hBi : Bi < w0.heap.size) (hBn : Bn < w0.heap.size) (hci : w0.cell? ⟨Bi, 0, none⟩ = some (.func (.func 44) #[] #[.pointer (some ⟨Bn, 0, none⟩)])) (hcn : w0.cell? ⟨Bn, 0, none⟩ = some (.int .i64 b)) (W : World) (hb : Below w0.heap.size w0 W) :
  Calls Try.prog 48 #[.agg #[.int .i64 x.f0, .int .i64 x.f1, .bool x.f2], .pointer (some ⟨Bi, 0, none⟩)] W fun e w' => e = .returned (.bool (impl_NetOk.p2 b x)) ∧ Below w0.heap.size w0 w' := by
 have hc : W.cell? ⟨Bi, 0, none⟩ = some (.func (.func 44) #[] #[.pointer (some ⟨Bn, 0, none⟩)]) := (hb.cell (p := ⟨Bi, 0, none⟩) hBi).trans hci; have hBW : Bi < W.heap.size := Nat.lt_of_lt_of_le hBi hb.size
 have hne : Bi ≠ W.heap.size := by omega
 have HBUS := impl_NetOk.bus x.f0 b Bn w0 hBn hcn; have HBUS2 := impl_NetOk.bus x.f1 b Bn w0 hBn hcn
 unfold impl_NetOk.p2
 have hbel := fun (o : Obj) => hb.alloc hb.size o
 cases h1 : impl_NetOk.inB x.f0 0 (wrap64 (b - 1))
 ·
  simp only [h1] at HBUS
  go_enter Try.func48, Try.ntmps48
  go_wp2_with (go_at_call 44; (with_reducible refine (HBUS _ ?hb).mono ?_); (case hb => first | exact hbel _ | exact impl_NetOk.bd (hbel _) _ | exact impl_NetOk.bd (impl_NetOk.bd (hbel _) _) _); rintro e w' ⟨rfl, nd, rfl⟩)
  all_goals (go_ret; exact ⟨by first | rfl | simp_all, by first | exact hbel _ | exact impl_NetOk.bd (hbel _) _ | exact impl_NetOk.bd (impl_NetOk.bd (hbel _) _) _ | exact impl_NetOk.bd (impl_NetOk.bd (impl_NetOk.bd (hbel _) _) _) _⟩)
 ·
  simp only [h1] at HBUS
  cases h2 : impl_NetOk.inB x.f1 0 (wrap64 (b - 1))
  ·
   simp only [h2] at HBUS2
   go_enter Try.func48, Try.ntmps48
   go_wp2_with (first | (go_at_call 44; (with_reducible refine (HBUS _ ?hb).mono ?_); (case hb => first | exact hbel _ | exact impl_NetOk.bd (hbel _) _ | exact impl_NetOk.bd (impl_NetOk.bd (hbel _) _) _); rintro e w' ⟨rfl, nd, rfl⟩) | (go_at_call 44; (with_reducible refine (HBUS2 _ ?hb).mono ?_); (case hb => first | exact hbel _ | exact impl_NetOk.bd (hbel _) _ | exact impl_NetOk.bd (impl_NetOk.bd (hbel _) _) _); rintro e w' ⟨rfl, nd, rfl⟩))
   all_goals (go_ret; exact ⟨by first | rfl | simp_all, by first | exact hbel _ | exact impl_NetOk.bd (hbel _) _ | exact impl_NetOk.bd (impl_NetOk.bd (hbel _) _) _ | exact impl_NetOk.bd (impl_NetOk.bd (impl_NetOk.bd (hbel _) _) _) _⟩)
  ·
   simp only [h2] at HBUS2
   by_cases h3 : x.f0 = x.f1
   ·
    go_enter Try.func48, Try.ntmps48
    go_wp2_with (first | (go_at_call 44; (with_reducible refine (HBUS _ ?hb).mono ?_); (case hb => first | exact hbel _ | exact impl_NetOk.bd (hbel _) _ | exact impl_NetOk.bd (impl_NetOk.bd (hbel _) _) _); rintro e w' ⟨rfl, nd, rfl⟩) | (go_at_call 44; (with_reducible refine (HBUS2 _ ?hb).mono ?_); (case hb => first | exact hbel _ | exact impl_NetOk.bd (hbel _) _ | exact impl_NetOk.bd (impl_NetOk.bd (hbel _) _) _); rintro e w' ⟨rfl, nd, rfl⟩))
    all_goals (go_ret; exact ⟨by first | rfl | simp_all, by first | exact hbel _ | exact impl_NetOk.bd (hbel _) _ | exact impl_NetOk.bd (impl_NetOk.bd (hbel _) _) _ | exact impl_NetOk.bd (impl_NetOk.bd (impl_NetOk.bd (hbel _) _) _) _⟩)
   ·
    go_enter Try.func48, Try.ntmps48
    go_wp2_with (first | (go_at_call 44; (with_reducible refine (HBUS _ ?hb).mono ?_); (case hb => first | exact hbel _ | exact impl_NetOk.bd (hbel _) _ | exact impl_NetOk.bd (impl_NetOk.bd (hbel _) _) _); rintro e w' ⟨rfl, nd, rfl⟩) | (go_at_call 44; (with_reducible refine (HBUS2 _ ?hb).mono ?_); (case hb => first | exact hbel _ | exact impl_NetOk.bd (hbel _) _ | exact impl_NetOk.bd (impl_NetOk.bd (hbel _) _) _); rintro e w' ⟨rfl, nd, rfl⟩))
    all_goals (go_ret; exact ⟨by first | rfl | simp_all, by first | exact hbel _ | exact impl_NetOk.bd (hbel _) _ | exact impl_NetOk.bd (impl_NetOk.bd (hbel _) _) _ | exact impl_NetOk.bd (impl_NetOk.bd (impl_NetOk.bd (hbel _) _) _) _⟩)
theorem impl_NetOk.rd2 (l : List S55) (i : Nat) (h : i < l.length) : rd_T55 l (i : Int) = l[i] := by
 show l.getD (i : Int).toNat z55 = _
 rw [Int.toNat_natCast, List.getD_eq_getElem?_getD, List.getElem?_eq_getElem h]; rfl
set_option maxHeartbeats 4000000 in
set_option maxRecDepth 100000 in
theorem impl_NetOk.index2 (A0 : Option Addr) (c0 : Nat) (l0 : List S55) (p : S55 → Bool) (Bi : Nat) (r : Bool) (w : World) (hr0 : Kd.C k55 w A0 l0.length l0) (hone : ∀ (x : S55) (W : World), Below w.heap.size w W → Calls Try.prog 48 #[.agg #[.int .i64 x.f0, .int .i64 x.f1, .bool x.f2], .pointer (some ⟨Bi, 0, none⟩)] W fun e w' => e = .returned (.bool (p x)) ∧ Below w.heap.size w w') (h : l0.any p = r) :
  Calls Try.prog 71 #[.slice A0 l0.length c0, .func (.func 48) #[] #[.pointer (some ⟨Bi, 0, none⟩)]] w fun e w' => ∃ n : Int, e = .returned (.int .i64 n) ∧ decide (0 ≤ n) = r ∧ Below w.heap.size w w' := by
 have hu := Try.underlying55; have HR := Az hr0; have HL := Az h; have HO := Az hone; have hlen := hr0.2.1; have HN := Az hlen; clear hr0 h hlen hone; have HB := Az (Below.refl w.heap.size w); have hlen : l0.length ≤ 9223372036854775807 := HN.out
 go_enter Try.func71, Try.ntmps71
 go_wp2
 go_loopg [5, 8] l0.length (fun gg _ s8 wr => ∃ kk : Nat, kk ≤ l0.length ∧ l0.length - kk ≤ gg ∧ s8 = .int .i64 kk ∧ Aside0 (Below w.heap.size w wr) ∧ Aside0 ((l0.drop kk).any p = r))
 case atStart => exact ⟨0, Nat.zero_le _, by omega, rfl, HB, HL⟩
 case round =>
  obtain ⟨kk, hkk, hg, rfl, BW, A⟩ := hrel; clear HB
  by_cases hlt : kk < l0.length
  ·
   have hltz : (kk : Int) < (l0.length : Int) := by omega
   have hA := A.out; rw [List.drop_eq_getElem_cons hlt, List.any_cons, ← impl_NetOk.rd2 _ _ hlt] at hA; clear A; obtain ⟨ad, e, hx0, hx1, hx2⟩ := at_T55 HR.out (kk : Int) (by omega) hltz
   cases e
   simp only [Int.toNat_natCast] at hx0 hx1 hx2; replace hx0 := (BW.out.cell (World.block_lt_of_cell? w _ hx0)).trans hx0; replace hx1 := (BW.out.cell (World.block_lt_of_cell? w _ hx1)).trans hx1; replace hx2 := (BW.out.cell (World.block_lt_of_cell? w _ hx2)).trans hx2; have hone := HO.out (rd_T55 l0 (kk : Int)) wr BW.out
   cases hq : p (rd_T55 l0 (kk : Int))
   ·
    rw [hq] at hA hone; rw [Bool.false_or] at hA; have HC := Az hone; have HA := Az hA; clear hone hA
    go_wp2_with (go_at_call 48; refine HC.out.mono ?_; rintro e w' ⟨rfl, hb'⟩)
    go_roundg (l0.length - (kk + 1))
    case measure => omega
    case rel => exact ⟨kk + 1, by omega, by omega, by go_num, ⟨hb'⟩, HA⟩
   ·
    rw [hq] at hA hone; rw [Bool.true_or] at hA; have HC := Az hone; have HA := Az hA; clear hone hA
    go_wp2_with (go_at_call 48; refine HC.out.mono ?_; rintro e w' ⟨rfl, hb'⟩)
    go_ret
    exact ⟨(kk : Int), rfl, by rw [← HA.out]; simp, hb'⟩
  ·
   have hltz : ¬ (kk : Int) < (l0.length : Int) := by omega
   have : kk = l0.length := by omega
   subst this; have hr := A.out; rw [List.drop_length] at hr; have HR' := Az hr; clear hr A
   go_wp2
   go_ret
   exact ⟨-1, rfl, by rw [← HR'.out]; rfl, BW.out⟩
set_option maxHeartbeats 4000000 in
set_option maxRecDepth 100000 in
theorem impl_NetOk.contains2 (A0 : Option Addr) (c0 : Nat) (l0 : List S55) (p : S55 → Bool) (Bi : Nat) (r : Bool) (w : World) (hr0 : Kd.C k55 w A0 l0.length l0) (hone : ∀ (x : S55) (W : World), Below w.heap.size w W → Calls Try.prog 48 #[.agg #[.int .i64 x.f0, .int .i64 x.f1, .bool x.f2], .pointer (some ⟨Bi, 0, none⟩)] W fun e w' => e = .returned (.bool (p x)) ∧ Below w.heap.size w w') (h : l0.any p = r) :
  Calls Try.prog 47 #[.slice A0 l0.length c0, .func (.func 48) #[] #[.pointer (some ⟨Bi, 0, none⟩)]] w fun e w' => e = .returned (.bool r) ∧ Below w.heap.size w w' := by
 have HC := Az (impl_NetOk.index2 A0 c0 l0 p Bi r w hr0 hone h); clear hr0 hone h
 go_enter Try.func47, Try.ntmps47
 go_wp2_with (go_at_call 71; refine HC.out.mono ?_; rintro e w' ⟨n, rfl, hn, hb⟩)
 go_ret
 exact ⟨by subst hn; rfl, hb⟩
set_option maxHeartbeats 4000000 in
set_option maxRecDepth 100000 in
theorem impl_NetOk.cl3 (b : Int) (x : S59) (Bi Bn : Nat) (w0 : World) (hBi : Bi < w0.heap.size) (hBn : Bn < w0.heap.size) (hci : w0.cell? ⟨Bi, 0, none⟩ = some (.func (.func 44) #[] #[.pointer (some ⟨Bn, 0, none⟩)])) (hcn : w0.cell? ⟨Bn, 0, none⟩ = some (.int .i64 b)) (W : World) (hb : Below w0.heap.size w0 W) :
  Calls Try.prog 50 #[.agg #[.int .i64 x.f0, .int .i64 x.f1, .int .i64 x.f2], .pointer (some ⟨Bi, 0, none⟩)] W fun e w' => e = .returned (.bool (impl_NetOk.p3 b x)) ∧ Below w0.heap.size w0 w' := by
 have hc : W.cell? ⟨Bi, 0, none⟩ = some (.func (.func 44) #[] #[.pointer (some ⟨Bn, 0, none⟩)]) := (hb.cell (p := ⟨Bi, 0, none⟩) hBi).trans hci; have hBW : Bi < W.heap.size := Nat.lt_of_lt_of_le hBi hb.size
 have hne : Bi ≠ W.heap.size := by omega
 have HBUS := impl_NetOk.bus x.f0 b Bn w0 hBn hcn
 unfold impl_NetOk.p3
 have hbel := fun (o : Obj) => hb.alloc hb.size o
 cases h1 : impl_NetOk.inB x.f0 0 (wrap64 (b - 1))
 ·
  simp only [h1] at HBUS
  go_enter Try.func50, Try.ntmps50
  go_wp2_with (go_at_call 44; (with_reducible refine (HBUS _ ?hb).mono ?_); (case hb => first | exact hbel _ | exact impl_NetOk.bd (hbel _) _ | exact impl_NetOk.bd (impl_NetOk.bd (hbel _) _) _); rintro e w' ⟨rfl, nd, rfl⟩)
  all_goals (go_ret; exact ⟨by first | rfl | simp_all, by first | exact hbel _ | exact impl_NetOk.bd (hbel _) _ | exact impl_NetOk.bd (impl_NetOk.bd (hbel _) _) _ | exact impl_NetOk.bd (impl_NetOk.bd (impl_NetOk.bd (hbel _) _) _) _⟩)
 ·
  simp only [h1] at HBUS
  cases h2 : impl_NetOk.inB x.f1 1 100000
  ·
   go_enter Try.func50, Try.ntmps50
   go_wp2_with (first | (go_at_call 44; (with_reducible refine (HBUS _ ?hb).mono ?_); (case hb => first | exact hbel _ | exact impl_NetOk.bd (hbel _) _ | exact impl_NetOk.bd (impl_NetOk.bd (hbel _) _) _); rintro e w' ⟨rfl, nd, rfl⟩) | (go_at_call 36; (with_reducible refine (impl_in.calls x.f1 1 100000 false _ ?hi).mono ?_); (case hi => exact impl_NetOk.in_r h2); rintro e w' ⟨rfl, nd, rfl⟩))
   all_goals (go_ret; exact ⟨by first | rfl | simp_all, by first | exact hbel _ | exact impl_NetOk.bd (hbel _) _ | exact impl_NetOk.bd (impl_NetOk.bd (hbel _) _) _ | exact impl_NetOk.bd (impl_NetOk.bd (impl_NetOk.bd (hbel _) _) _) _⟩)
  ·
   cases h3 : impl_NetOk.inB x.f2 0 9
   ·
    go_enter Try.func50, Try.ntmps50
    go_wp2_with (first | (go_at_call 44; (with_reducible refine (HBUS _ ?hb).mono ?_); (case hb => first | exact hbel _ | exact impl_NetOk.bd (hbel _) _ | exact impl_NetOk.bd (impl_NetOk.bd (hbel _) _) _); rintro e w' ⟨rfl, nd, rfl⟩) | (go_at_call 36; (with_reducible refine (impl_in.calls x.f1 1 100000 true _ ?hi).mono ?_); (case hi => exact impl_NetOk.in_r h2); rintro e w' ⟨rfl, nd, rfl⟩) | (go_at_call 36; (with_reducible refine (impl_in.calls x.f2 0 9 false _ ?hi).mono ?_); (case hi => exact impl_NetOk.in_r h3); rintro e w' ⟨rfl, nd, rfl⟩))
    all_goals (go_ret; exact ⟨by first | rfl | simp_all, by first | exact hbel _ | exact impl_NetOk.bd (hbel _) _ | exact impl_NetOk.bd (impl_NetOk.bd (hbel _) _) _ | exact impl_NetOk.bd (impl_NetOk.bd (impl_NetOk.bd (hbel _) _) _) _⟩)
   ·
    go_enter Try.func50, Try.ntmps50
    go_wp2_with (first | (go_at_call 44; (with_reducible refine (HBUS _ ?hb).mono ?_); (case hb => first | exact hbel _ | exact impl_NetOk.bd (hbel _) _ | exact impl_NetOk.bd (impl_NetOk.bd (hbel _) _) _); rintro e w' ⟨rfl, nd, rfl⟩) | (go_at_call 36; (with_reducible refine (impl_in.calls x.f1 1 100000 true _ ?hi).mono ?_); (case hi => exact impl_NetOk.in_r h2); rintro e w' ⟨rfl, nd, rfl⟩) | (go_at_call 36; (with_reducible refine (impl_in.calls x.f2 0 9 true _ ?hi).mono ?_); (case hi => exact impl_NetOk.in_r h3); rintro e w' ⟨rfl, nd, rfl⟩))
    all_goals (go_ret; exact ⟨by first | rfl | simp_all, by first | exact hbel _ | exact impl_NetOk.bd (hbel _) _ | exact impl_NetOk.bd (impl_NetOk.bd (hbel _) _) _ | exact impl_NetOk.bd (impl_NetOk.bd (impl_NetOk.bd (hbel _) _) _) _⟩)
theorem impl_NetOk.rd3 (l : List S59) (i : Nat) (h : i < l.length) : rd_T59 l (i : Int) = l[i] := by
 show l.getD (i : Int).toNat z59 = _
 rw [Int.toNat_natCast, List.getD_eq_getElem?_getD, List.getElem?_eq_getElem h]; rfl
set_option maxHeartbeats 4000000 in
set_option maxRecDepth 100000 in
theorem impl_NetOk.index3 (A0 : Option Addr) (c0 : Nat) (l0 : List S59) (p : S59 → Bool) (Bi : Nat) (r : Bool) (w : World) (hr0 : Kd.C k59 w A0 l0.length l0) (hone : ∀ (x : S59) (W : World), Below w.heap.size w W → Calls Try.prog 50 #[.agg #[.int .i64 x.f0, .int .i64 x.f1, .int .i64 x.f2], .pointer (some ⟨Bi, 0, none⟩)] W fun e w' => e = .returned (.bool (p x)) ∧ Below w.heap.size w w') (h : l0.any p = r) :
  Calls Try.prog 72 #[.slice A0 l0.length c0, .func (.func 50) #[] #[.pointer (some ⟨Bi, 0, none⟩)]] w fun e w' => ∃ n : Int, e = .returned (.int .i64 n) ∧ decide (0 ≤ n) = r ∧ Below w.heap.size w w' := by
 have hu := Try.underlying59; have HR := Az hr0; have HL := Az h; have HO := Az hone; have hlen := hr0.2.1; have HN := Az hlen; clear hr0 h hlen hone; have HB := Az (Below.refl w.heap.size w); have hlen : l0.length ≤ 9223372036854775807 := HN.out
 go_enter Try.func72, Try.ntmps72
 go_wp2
 go_loopg [5, 8] l0.length (fun gg _ s8 wr => ∃ kk : Nat, kk ≤ l0.length ∧ l0.length - kk ≤ gg ∧ s8 = .int .i64 kk ∧ Aside0 (Below w.heap.size w wr) ∧ Aside0 ((l0.drop kk).any p = r))
 case atStart => exact ⟨0, Nat.zero_le _, by omega, rfl, HB, HL⟩
 case round =>
  obtain ⟨kk, hkk, hg, rfl, BW, A⟩ := hrel; clear HB
  by_cases hlt : kk < l0.length
  ·
   have hltz : (kk : Int) < (l0.length : Int) := by omega
   have hA := A.out; rw [List.drop_eq_getElem_cons hlt, List.any_cons, ← impl_NetOk.rd3 _ _ hlt] at hA; clear A; obtain ⟨ad, e, hx0, hx1, hx2⟩ := at_T59 HR.out (kk : Int) (by omega) hltz
   cases e
   simp only [Int.toNat_natCast] at hx0 hx1 hx2; replace hx0 := (BW.out.cell (World.block_lt_of_cell? w _ hx0)).trans hx0; replace hx1 := (BW.out.cell (World.block_lt_of_cell? w _ hx1)).trans hx1; replace hx2 := (BW.out.cell (World.block_lt_of_cell? w _ hx2)).trans hx2; have hone := HO.out (rd_T59 l0 (kk : Int)) wr BW.out
   cases hq : p (rd_T59 l0 (kk : Int))
   ·
    rw [hq] at hA hone; rw [Bool.false_or] at hA; have HC := Az hone; have HA := Az hA; clear hone hA
    go_wp2_with (go_at_call 50; refine HC.out.mono ?_; rintro e w' ⟨rfl, hb'⟩)
    go_roundg (l0.length - (kk + 1))
    case measure => omega
    case rel => exact ⟨kk + 1, by omega, by omega, by go_num, ⟨hb'⟩, HA⟩
   ·
    rw [hq] at hA hone; rw [Bool.true_or] at hA; have HC := Az hone; have HA := Az hA; clear hone hA
    go_wp2_with (go_at_call 50; refine HC.out.mono ?_; rintro e w' ⟨rfl, hb'⟩)
    go_ret
    exact ⟨(kk : Int), rfl, by rw [← HA.out]; simp, hb'⟩
  ·
   have hltz : ¬ (kk : Int) < (l0.length : Int) := by omega
   have : kk = l0.length := by omega
   subst this; have hr := A.out; rw [List.drop_length] at hr; have HR' := Az hr; clear hr A
   go_wp2
   go_ret
   exact ⟨-1, rfl, by rw [← HR'.out]; rfl, BW.out⟩
set_option maxHeartbeats 4000000 in
set_option maxRecDepth 100000 in
theorem impl_NetOk.contains3 (A0 : Option Addr) (c0 : Nat) (l0 : List S59) (p : S59 → Bool) (Bi : Nat) (r : Bool) (w : World) (hr0 : Kd.C k59 w A0 l0.length l0) (hone : ∀ (x : S59) (W : World), Below w.heap.size w W → Calls Try.prog 50 #[.agg #[.int .i64 x.f0, .int .i64 x.f1, .int .i64 x.f2], .pointer (some ⟨Bi, 0, none⟩)] W fun e w' => e = .returned (.bool (p x)) ∧ Below w.heap.size w w') (h : l0.any p = r) :
  Calls Try.prog 49 #[.slice A0 l0.length c0, .func (.func 50) #[] #[.pointer (some ⟨Bi, 0, none⟩)]] w fun e w' => e = .returned (.bool r) ∧ Below w.heap.size w w' := by
 have HC := Az (impl_NetOk.index3 A0 c0 l0 p Bi r w hr0 hone h); clear hr0 hone h
 go_enter Try.func49, Try.ntmps49
 go_wp2_with (go_at_call 72; refine HC.out.mono ?_; rintro e w' ⟨n, rfl, hn, hb⟩)
 go_ret
 exact ⟨by subst hn; rfl, hb⟩
def impl_NetOk.f (a0_0 : Int) (l0_1 : List S57) (l0_2 : List S55) (l0_3 : List S59) : Option Bool := some (if impl_NetOk.inB a0_0 1 8 = true then (if l0_1.length ≤ 6 then (if l0_2.length ≤ 16 then (if l0_3.length ≤ 40 then (!(l0_1.any (impl_NetOk.p1 a0_0)) && (!(l0_2.any (impl_NetOk.p2 a0_0)) && !(l0_3.any (impl_NetOk.p3 a0_0)))) else false) else false) else false) else false)
set_option maxHeartbeats 4000000 in
set_option maxRecDepth 100000 in
theorem impl_NetOk.calls (a0_0 : Int) (A0_1 : Option Addr) (c0_1 : Nat) (l0_1 : List S57) (A0_2 : Option Addr) (c0_2 : Nat) (l0_2 : List S55) (A0_3 : Option Addr) (c0_3 : Nat) (l0_3 : List S59) (r : Bool) (w : World) (hr0_1 : Kd.C k57 w A0_1 l0_1.length l0_1) (hc0_1 : l0_1.length ≤ c0_1) (hr0_2 : Kd.C k55 w A0_2 l0_2.length l0_2) (hc0_2 : l0_2.length ≤ c0_2) (hr0_3 : Kd.C k59 w A0_3 l0_3.length l0_3) (hc0_3 : l0_3.length ≤ c0_3) (h : impl_NetOk.f a0_0 l0_1 l0_2 l0_3 = some r) :
  Calls Try.prog 17 #[.agg #[.int .i64 a0_0, .slice A0_1 l0_1.length c0_1, .slice A0_2 l0_2.length c0_2, .slice A0_3 l0_3.length c0_3]] w fun e w' => e = .returned (.bool r) ∧ Below w.heap.size w w' := by
 have h := Option.some.inj h
 cases g0 : impl_NetOk.inB a0_0 1 8
 ·
  simp only [g0, Bool.false_eq_true, if_false] at h; subst h; clear hr0_1 hr0_2 hr0_3
  go_enter Try.func17, Try.ntmps17
  go_wp2_with (first | ((with_reducible refine gate_dst (N := 1) rfl ?_); refine box_event ?hg (N := 1) ?hd (cs := #[.int .i64 a0_0, .slice A0_1 l0_1.length c0_1, .slice A0_2 l0_2.length c0_2, .slice A0_3 l0_3.length c0_3]) (t := 41) ?hr ?_; (case hd => rfl); (case hg => rfl); (case hr => first | (go_simp; done) | (go_simp; rfl)); intro g1 hg1 w1 hbox1 hb1; have HB1 := Az hb1; have BK1 := Az hbox1; have HG1 := Az (show w.heap.size ≤ g1 by rw [hg1]; exact Nat.le_refl _); clear hb1 hbox1 hg1) | ((with_reducible refine gate_dst (N := 3) rfl ?_); refine box_event ?hg (N := 3) ?hd (cs := #[.nilFunc]) (t := 72) ?hr ?_; (case hd => rfl); (case hg => rfl); (case hr => first | (go_simp; done) | (go_simp; rfl)); intro g3 hg3 w3 hbox3 hb3; have HB3 := Az (below_step HB1.out hb3); have BK13 := Az (blk_below BK1.out hb3); have BK3 := Az hbox3; have HG3 := Az (show w.heap.size ≤ g3 by rw [hg3]; exact HB1.out.size); have HNE := Az (show g1 ≠ g3 by rw [hg3]; exact Nat.ne_of_lt (blk_lt BK1.out)); have hcz : w3.cell? ⟨g3, 0, none⟩ = some Value.nilFunc := (blk_cell hbox3 0).trans rfl; have hfz : w3.frozen? ⟨g3, 0, none⟩ = false := blk_frozen hbox3 0; have hcy : w3.cell? ⟨g1, 0, none⟩ = some (.int .i64 a0_0) := (blk_cell BK13.out 0).trans rfl; have hny := HNE.out; clear hb3 hbox3 hg3 HB1 BK1) | (go_at_call 36; (with_reducible refine (impl_in.calls a0_0 1 8 false _ ?hi).mono ?_); (case hi => exact impl_NetOk.in_r g0); rintro e w' ⟨rfl, nd, rfl⟩; have HX := Az (pw_below_drewN (below_set (j := 0) (v := (Value.func (.func 44) #[] #[.pointer (some ⟨g1, 0, none⟩)])) HB3.out HG3.out) nd); have BX3 := Az (blk_drewN (blk_put (cs := #[.nilFunc]) BK3.out 0 (Value.func (.func 44) #[] #[.pointer (some ⟨g1, 0, none⟩)]) rfl) nd); have BX1 := Az (blk_drewN (blk_far (p := ⟨g3, 0, none⟩) BK13.out HNE.out (Value.func (.func 44) #[] #[.pointer (some ⟨g1, 0, none⟩)])) nd); clear hcz hfz hcy hny; generalize hX : (w3.setCell ⟨g3, 0, none⟩ (Value.func (.func 44) #[] #[.pointer (some ⟨g1, 0, none⟩)])).drewN nd = X at *; clear hX; obtain ⟨c0, c1, c2, c3⟩ := bc4 BX1.out))
  all_goals first | (exfalso; omega) | (go_ret; exact ⟨by first | rfl | simp_all, HX.out⟩)
 ·
  simp only [g0, if_true] at h; have HR1 := Az hr0_1; have HR2 := Az hr0_2; have HR3 := Az hr0_3; clear hr0_1 hr0_2 hr0_3
  by_cases q1 : l0_1.length ≤ 6
  case neg =>
   rw [if_neg q1] at h
   have z1 : ¬ ((l0_1.length : Int) ≤ 6) := by omega
   have y1 : (l0_1.length : Int) > 6 := by omega
   subst h
   go_enter Try.func17, Try.ntmps17
   go_wp2_with (first | ((with_reducible refine gate_dst (N := 1) rfl ?_); refine box_event ?hg (N := 1) ?hd (cs := #[.int .i64 a0_0, .slice A0_1 l0_1.length c0_1, .slice A0_2 l0_2.length c0_2, .slice A0_3 l0_3.length c0_3]) (t := 41) ?hr ?_; (case hd => rfl); (case hg => rfl); (case hr => first | (go_simp; done) | (go_simp; rfl)); intro g1 hg1 w1 hbox1 hb1; have HB1 := Az hb1; have BK1 := Az hbox1; have HG1 := Az (show w.heap.size ≤ g1 by rw [hg1]; exact Nat.le_refl _); clear hb1 hbox1 hg1) | ((with_reducible refine gate_dst (N := 3) rfl ?_); refine box_event ?hg (N := 3) ?hd (cs := #[.nilFunc]) (t := 72) ?hr ?_; (case hd => rfl); (case hg => rfl); (case hr => first | (go_simp; done) | (go_simp; rfl)); intro g3 hg3 w3 hbox3 hb3; have HB3 := Az (below_step HB1.out hb3); have BK13 := Az (blk_below BK1.out hb3); have BK3 := Az hbox3; have HG3 := Az (show w.heap.size ≤ g3 by rw [hg3]; exact HB1.out.size); have HNE := Az (show g1 ≠ g3 by rw [hg3]; exact Nat.ne_of_lt (blk_lt BK1.out)); have hcz : w3.cell? ⟨g3, 0, none⟩ = some Value.nilFunc := (blk_cell hbox3 0).trans rfl; have hfz : w3.frozen? ⟨g3, 0, none⟩ = false := blk_frozen hbox3 0; have hcy : w3.cell? ⟨g1, 0, none⟩ = some (.int .i64 a0_0) := (blk_cell BK13.out 0).trans rfl; have hny := HNE.out; clear hb3 hbox3 hg3 HB1 BK1) | (go_at_call 36; (with_reducible refine (impl_in.calls a0_0 1 8 true _ ?hi).mono ?_); (case hi => exact impl_NetOk.in_r g0); rintro e w' ⟨rfl, nd, rfl⟩; have HX := Az (pw_below_drewN (below_set (j := 0) (v := (Value.func (.func 44) #[] #[.pointer (some ⟨g1, 0, none⟩)])) HB3.out HG3.out) nd); have BX3 := Az (blk_drewN (blk_put (cs := #[.nilFunc]) BK3.out 0 (Value.func (.func 44) #[] #[.pointer (some ⟨g1, 0, none⟩)]) rfl) nd); have BX1 := Az (blk_drewN (blk_far (p := ⟨g3, 0, none⟩) BK13.out HNE.out (Value.func (.func 44) #[] #[.pointer (some ⟨g1, 0, none⟩)])) nd); clear hcz hfz hcy hny; generalize hX : (w3.setCell ⟨g3, 0, none⟩ (Value.func (.func 44) #[] #[.pointer (some ⟨g1, 0, none⟩)])).drewN nd = X at *; clear hX; obtain ⟨c0, c1, c2, c3⟩ := bc4 BX1.out))
   all_goals first | (exfalso; omega) | (go_ret; exact ⟨by first | rfl | simp_all, HX.out⟩)
  rw [if_pos q1] at h
  have z1 : (l0_1.length : Int) ≤ 6 := by omega
  have y1 : ¬ (l0_1.length : Int) > 6 := by omega
  by_cases q2 : l0_2.length ≤ 16
  case neg =>
   rw [if_neg q2] at h
   have z2 : ¬ ((l0_2.length : Int) ≤ 16) := by omega
   have y2 : (l0_2.length : Int) > 16 := by omega
   subst h
   go_enter Try.func17, Try.ntmps17
   go_wp2_with (first | ((with_reducible refine gate_dst (N := 1) rfl ?_); refine box_event ?hg (N := 1) ?hd (cs := #[.int .i64 a0_0, .slice A0_1 l0_1.length c0_1, .slice A0_2 l0_2.length c0_2, .slice A0_3 l0_3.length c0_3]) (t := 41) ?hr ?_; (case hd => rfl); (case hg => rfl); (case hr => first | (go_simp; done) | (go_simp; rfl)); intro g1 hg1 w1 hbox1 hb1; have HB1 := Az hb1; have BK1 := Az hbox1; have HG1 := Az (show w.heap.size ≤ g1 by rw [hg1]; exact Nat.le_refl _); clear hb1 hbox1 hg1) | ((with_reducible refine gate_dst (N := 3) rfl ?_); refine box_event ?hg (N := 3) ?hd (cs := #[.nilFunc]) (t := 72) ?hr ?_; (case hd => rfl); (case hg => rfl); (case hr => first | (go_simp; done) | (go_simp; rfl)); intro g3 hg3 w3 hbox3 hb3; have HB3 := Az (below_step HB1.out hb3); have BK13 := Az (blk_below BK1.out hb3); have BK3 := Az hbox3; have HG3 := Az (show w.heap.size ≤ g3 by rw [hg3]; exact HB1.out.size); have HNE := Az (show g1 ≠ g3 by rw [hg3]; exact Nat.ne_of_lt (blk_lt BK1.out)); have hcz : w3.cell? ⟨g3, 0, none⟩ = some Value.nilFunc := (blk_cell hbox3 0).trans rfl; have hfz : w3.frozen? ⟨g3, 0, none⟩ = false := blk_frozen hbox3 0; have hcy : w3.cell? ⟨g1, 0, none⟩ = some (.int .i64 a0_0) := (blk_cell BK13.out 0).trans rfl; have hny := HNE.out; clear hb3 hbox3 hg3 HB1 BK1) | (go_at_call 36; (with_reducible refine (impl_in.calls a0_0 1 8 true _ ?hi).mono ?_); (case hi => exact impl_NetOk.in_r g0); rintro e w' ⟨rfl, nd, rfl⟩; have HX := Az (pw_below_drewN (below_set (j := 0) (v := (Value.func (.func 44) #[] #[.pointer (some ⟨g1, 0, none⟩)])) HB3.out HG3.out) nd); have BX3 := Az (blk_drewN (blk_put (cs := #[.nilFunc]) BK3.out 0 (Value.func (.func 44) #[] #[.pointer (some ⟨g1, 0, none⟩)]) rfl) nd); have BX1 := Az (blk_drewN (blk_far (p := ⟨g3, 0, none⟩) BK13.out HNE.out (Value.func (.func 44) #[] #[.pointer (some ⟨g1, 0, none⟩)])) nd); clear hcz hfz hcy hny; generalize hX : (w3.setCell ⟨g3, 0, none⟩ (Value.func (.func 44) #[] #[.pointer (some ⟨g1, 0, none⟩)])).drewN nd = X at *; clear hX; obtain ⟨c0, c1, c2, c3⟩ := bc4 BX1.out))
   all_goals first | (exfalso; omega) | (go_ret; exact ⟨by first | rfl | simp_all, HX.out⟩)
  rw [if_pos q2] at h
  have z2 : (l0_2.length : Int) ≤ 16 := by omega
  have y2 : ¬ (l0_2.length : Int) > 16 := by omega
  by_cases q3 : l0_3.length ≤ 40
  case neg =>
   rw [if_neg q3] at h
   have z3 : ¬ ((l0_3.length : Int) ≤ 40) := by omega
   have y3 : (l0_3.length : Int) > 40 := by omega
   subst h
   go_enter Try.func17, Try.ntmps17
   go_wp2_with (first | ((with_reducible refine gate_dst (N := 1) rfl ?_); refine box_event ?hg (N := 1) ?hd (cs := #[.int .i64 a0_0, .slice A0_1 l0_1.length c0_1, .slice A0_2 l0_2.length c0_2, .slice A0_3 l0_3.length c0_3]) (t := 41) ?hr ?_; (case hd => rfl); (case hg => rfl); (case hr => first | (go_simp; done) | (go_simp; rfl)); intro g1 hg1 w1 hbox1 hb1; have HB1 := Az hb1; have BK1 := Az hbox1; have HG1 := Az (show w.heap.size ≤ g1 by rw [hg1]; exact Nat.le_refl _); clear hb1 hbox1 hg1) | ((with_reducible refine gate_dst (N := 3) rfl ?_); refine box_event ?hg (N := 3) ?hd (cs := #[.nilFunc]) (t := 72) ?hr ?_; (case hd => rfl); (case hg => rfl); (case hr => first | (go_simp; done) | (go_simp; rfl)); intro g3 hg3 w3 hbox3 hb3; have HB3 := Az (below_step HB1.out hb3); have BK13 := Az (blk_below BK1.out hb3); have BK3 := Az hbox3; have HG3 := Az (show w.heap.size ≤ g3 by rw [hg3]; exact HB1.out.size); have HNE := Az (show g1 ≠ g3 by rw [hg3]; exact Nat.ne_of_lt (blk_lt BK1.out)); have hcz : w3.cell? ⟨g3, 0, none⟩ = some Value.nilFunc := (blk_cell hbox3 0).trans rfl; have hfz : w3.frozen? ⟨g3, 0, none⟩ = false := blk_frozen hbox3 0; have hcy : w3.cell? ⟨g1, 0, none⟩ = some (.int .i64 a0_0) := (blk_cell BK13.out 0).trans rfl; have hny := HNE.out; clear hb3 hbox3 hg3 HB1 BK1) | (go_at_call 36; (with_reducible refine (impl_in.calls a0_0 1 8 true _ ?hi).mono ?_); (case hi => exact impl_NetOk.in_r g0); rintro e w' ⟨rfl, nd, rfl⟩; have HX := Az (pw_below_drewN (below_set (j := 0) (v := (Value.func (.func 44) #[] #[.pointer (some ⟨g1, 0, none⟩)])) HB3.out HG3.out) nd); have BX3 := Az (blk_drewN (blk_put (cs := #[.nilFunc]) BK3.out 0 (Value.func (.func 44) #[] #[.pointer (some ⟨g1, 0, none⟩)]) rfl) nd); have BX1 := Az (blk_drewN (blk_far (p := ⟨g3, 0, none⟩) BK13.out HNE.out (Value.func (.func 44) #[] #[.pointer (some ⟨g1, 0, none⟩)])) nd); clear hcz hfz hcy hny; generalize hX : (w3.setCell ⟨g3, 0, none⟩ (Value.func (.func 44) #[] #[.pointer (some ⟨g1, 0, none⟩)])).drewN nd = X at *; clear hX; obtain ⟨c0, c1, c2, c3⟩ := bc4 BX1.out))
   all_goals first | (exfalso; omega) | (go_ret; exact ⟨by first | rfl | simp_all, HX.out⟩)
  rw [if_pos q3] at h
  have z3 : (l0_3.length : Int) ≤ 40 := by omega
  have y3 : ¬ (l0_3.length : Int) > 40 := by omega
  cases e1 : l0_1.any (impl_NetOk.p1 a0_0) <;> cases e2 : l0_2.any (impl_NetOk.p2 a0_0) <;> cases e3 : l0_3.any (impl_NetOk.p3 a0_0)
  ·
   have HA1 := Az e1; have HA2 := Az e2; have HA3 := Az e3; rw [e1, e2, e3] at h; have h : true = r := h; subst h; clear e1 e2 e3
   go_enter Try.func17, Try.ntmps17
   go_wp2_with (first | ((with_reducible refine gate_dst (N := 1) rfl ?_); refine box_event ?hg (N := 1) ?hd (cs := #[.int .i64 a0_0, .slice A0_1 l0_1.length c0_1, .slice A0_2 l0_2.length c0_2, .slice A0_3 l0_3.length c0_3]) (t := 41) ?hr ?_; (case hd => rfl); (case hg => rfl); (case hr => first | (go_simp; done) | (go_simp; rfl)); intro g1 hg1 w1 hbox1 hb1; have HB1 := Az hb1; have BK1 := Az hbox1; have HG1 := Az (show w.heap.size ≤ g1 by rw [hg1]; exact Nat.le_refl _); clear hb1 hbox1 hg1) | ((with_reducible refine gate_dst (N := 3) rfl ?_); refine box_event ?hg (N := 3) ?hd (cs := #[.nilFunc]) (t := 72) ?hr ?_; (case hd => rfl); (case hg => rfl); (case hr => first | (go_simp; done) | (go_simp; rfl)); intro g3 hg3 w3 hbox3 hb3; have HB3 := Az (below_step HB1.out hb3); have BK13 := Az (blk_below BK1.out hb3); have BK3 := Az hbox3; have HG3 := Az (show w.heap.size ≤ g3 by rw [hg3]; exact HB1.out.size); have HNE := Az (show g1 ≠ g3 by rw [hg3]; exact Nat.ne_of_lt (blk_lt BK1.out)); have hcz : w3.cell? ⟨g3, 0, none⟩ = some Value.nilFunc := (blk_cell hbox3 0).trans rfl; have hfz : w3.frozen? ⟨g3, 0, none⟩ = false := blk_frozen hbox3 0; have hcy : w3.cell? ⟨g1, 0, none⟩ = some (.int .i64 a0_0) := (blk_cell BK13.out 0).trans rfl; have hny := HNE.out; clear hb3 hbox3 hg3 HB1 BK1) | (go_at_call 36; (with_reducible refine (impl_in.calls a0_0 1 8 true _ ?hi).mono ?_); (case hi => exact impl_NetOk.in_r g0); rintro e w' ⟨rfl, nd, rfl⟩; have HX := Az (pw_below_drewN (below_set (j := 0) (v := (Value.func (.func 44) #[] #[.pointer (some ⟨g1, 0, none⟩)])) HB3.out HG3.out) nd); have BX3 := Az (blk_drewN (blk_put (cs := #[.nilFunc]) BK3.out 0 (Value.func (.func 44) #[] #[.pointer (some ⟨g1, 0, none⟩)]) rfl) nd); have BX1 := Az (blk_drewN (blk_far (p := ⟨g3, 0, none⟩) BK13.out HNE.out (Value.func (.func 44) #[] #[.pointer (some ⟨g1, 0, none⟩)])) nd); clear hcz hfz hcy hny; generalize hX : (w3.setCell ⟨g3, 0, none⟩ (Value.func (.func 44) #[] #[.pointer (some ⟨g1, 0, none⟩)])).drewN nd = X at *; clear hX; obtain ⟨c0, c1, c2, c3⟩ := bc4 BX1.out) | (go_at_call 45; (with_reducible refine (impl_NetOk.contains1 A0_1 c0_1 l0_1 (impl_NetOk.p1 a0_0) g3 false _ ?ha ?hb ?hc).mono ?_); (case ha => exact Kd.C_below HR1.out HX.out); (case hb => exact fun x W hb => impl_NetOk.cl1 a0_0 x g3 g1 _ (blk_lt BX3.out) (blk_lt BX1.out) ((blk_cell BX3.out 0).trans rfl) ((blk_cell BX1.out 0).trans rfl) W hb); (case hc => exact HA1.out); rintro e X2 ⟨rfl, hb'⟩; have n0 := Az (below_step HX.out hb'); have n1 := Az (blk_below BX1.out hb'); have n3 := Az (blk_below BX3.out hb'); clear HX BX1 BX3 c0 c1 c2 c3 hb'; have HX := n0; have BX1 := n1; have BX3 := n3; clear n0 n1 n3; obtain ⟨c0, c1, c2, c3⟩ := bc4 BX1.out) | (go_at_call 47; (with_reducible refine (impl_NetOk.contains2 A0_2 c0_2 l0_2 (impl_NetOk.p2 a0_0) g3 false _ ?ha ?hb ?hc).mono ?_); (case ha => exact Kd.C_below HR2.out HX.out); (case hb => exact fun x W hb => impl_NetOk.cl2 a0_0 x g3 g1 _ (blk_lt BX3.out) (blk_lt BX1.out) ((blk_cell BX3.out 0).trans rfl) ((blk_cell BX1.out 0).trans rfl) W hb); (case hc => exact HA2.out); rintro e X2 ⟨rfl, hb'⟩; have n0 := Az (below_step HX.out hb'); have n1 := Az (blk_below BX1.out hb'); have n3 := Az (blk_below BX3.out hb'); clear HX BX1 BX3 c0 c1 c2 c3 hb'; have HX := n0; have BX1 := n1; have BX3 := n3; clear n0 n1 n3; obtain ⟨c0, c1, c2, c3⟩ := bc4 BX1.out) | (go_at_call 49; (with_reducible refine (impl_NetOk.contains3 A0_3 c0_3 l0_3 (impl_NetOk.p3 a0_0) g3 false _ ?ha ?hb ?hc).mono ?_); (case ha => exact Kd.C_below HR3.out HX.out); (case hb => exact fun x W hb => impl_NetOk.cl3 a0_0 x g3 g1 _ (blk_lt BX3.out) (blk_lt BX1.out) ((blk_cell BX3.out 0).trans rfl) ((blk_cell BX1.out 0).trans rfl) W hb); (case hc => exact HA3.out); rintro e X2 ⟨rfl, hb'⟩; have n0 := Az (below_step HX.out hb'); have n1 := Az (blk_below BX1.out hb'); have n3 := Az (blk_below BX3.out hb'); clear HX BX1 BX3 c0 c1 c2 c3 hb'; have HX := n0; have BX1 := n1; have BX3 := n3; clear n0 n1 n3; obtain ⟨c0, c1, c2, c3⟩ := bc4 BX1.out))
   all_goals first | (exfalso; omega) | (go_ret; exact ⟨by first | rfl | simp_all, HX.out⟩)
  ·
   have HA1 := Az e1; have HA2 := Az e2; have HA3 := Az e3; rw [e1, e2, e3] at h; have h : false = r := h; subst h; clear e1 e2 e3
   go_enter Try.func17, Try.ntmps17
   go_wp2_with (first | ((with_reducible refine gate_dst (N := 1) rfl ?_); refine box_event ?hg (N := 1) ?hd (cs := #[.int .i64 a0_0, .slice A0_1 l0_1.length c0_1, .slice A0_2 l0_2.length c0_2, .slice A0_3 l0_3.length c0_3]) (t := 41) ?hr ?_; (case hd => rfl); (case hg => rfl); (case hr => first | (go_simp; done) | (go_simp; rfl)); intro g1 hg1 w1 hbox1 hb1; have HB1 := Az hb1; have BK1 := Az hbox1; have HG1 := Az (show w.heap.size ≤ g1 by rw [hg1]; exact Nat.le_refl _); clear hb1 hbox1 hg1) | ((with_reducible refine gate_dst (N := 3) rfl ?_); refine box_event ?hg (N := 3) ?hd (cs := #[.nilFunc]) (t := 72) ?hr ?_; (case hd => rfl); (case hg => rfl); (case hr => first | (go_simp; done) | (go_simp; rfl)); intro g3 hg3 w3 hbox3 hb3; have HB3 := Az (below_step HB1.out hb3); have BK13 := Az (blk_below BK1.out hb3); have BK3 := Az hbox3; have HG3 := Az (show w.heap.size ≤ g3 by rw [hg3]; exact HB1.out.size); have HNE := Az (show g1 ≠ g3 by rw [hg3]; exact Nat.ne_of_lt (blk_lt BK1.out)); have hcz : w3.cell? ⟨g3, 0, none⟩ = some Value.nilFunc := (blk_cell hbox3 0).trans rfl; have hfz : w3.frozen? ⟨g3, 0, none⟩ = false := blk_frozen hbox3 0; have hcy : w3.cell? ⟨g1, 0, none⟩ = some (.int .i64 a0_0) := (blk_cell BK13.out 0).trans rfl; have hny := HNE.out; clear hb3 hbox3 hg3 HB1 BK1) | (go_at_call 36; (with_reducible refine (impl_in.calls a0_0 1 8 true _ ?hi).mono ?_); (case hi => exact impl_NetOk.in_r g0); rintro e w' ⟨rfl, nd, rfl⟩; have HX := Az (pw_below_drewN (below_set (j := 0) (v := (Value.func (.func 44) #[] #[.pointer (some ⟨g1, 0, none⟩)])) HB3.out HG3.out) nd); have BX3 := Az (blk_drewN (blk_put (cs := #[.nilFunc]) BK3.out 0 (Value.func (.func 44) #[] #[.pointer (some ⟨g1, 0, none⟩)]) rfl) nd); have BX1 := Az (blk_drewN (blk_far (p := ⟨g3, 0, none⟩) BK13.out HNE.out (Value.func (.func 44) #[] #[.pointer (some ⟨g1, 0, none⟩)])) nd); clear hcz hfz hcy hny; generalize hX : (w3.setCell ⟨g3, 0, none⟩ (Value.func (.func 44) #[] #[.pointer (some ⟨g1, 0, none⟩)])).drewN nd = X at *; clear hX; obtain ⟨c0, c1, c2, c3⟩ := bc4 BX1.out) | (go_at_call 45; (with_reducible refine (impl_NetOk.contains1 A0_1 c0_1 l0_1 (impl_NetOk.p1 a0_0) g3 false _ ?ha ?hb ?hc).mono ?_); (case ha => exact Kd.C_below HR1.out HX.out); (case hb => exact fun x W hb => impl_NetOk.cl1 a0_0 x g3 g1 _ (blk_lt BX3.out) (blk_lt BX1.out) ((blk_cell BX3.out 0).trans rfl) ((blk_cell BX1.out 0).trans rfl) W hb); (case hc => exact HA1.out); rintro e X2 ⟨rfl, hb'⟩; have n0 := Az (below_step HX.out hb'); have n1 := Az (blk_below BX1.out hb'); have n3 := Az (blk_below BX3.out hb'); clear HX BX1 BX3 c0 c1 c2 c3 hb'; have HX := n0; have BX1 := n1; have BX3 := n3; clear n0 n1 n3; obtain ⟨c0, c1, c2, c3⟩ := bc4 BX1.out) | (go_at_call 47; (with_reducible refine (impl_NetOk.contains2 A0_2 c0_2 l0_2 (impl_NetOk.p2 a0_0) g3 false _ ?ha ?hb ?hc).mono ?_); (case ha => exact Kd.C_below HR2.out HX.out); (case hb => exact fun x W hb => impl_NetOk.cl2 a0_0 x g3 g1 _ (blk_lt BX3.out) (blk_lt BX1.out) ((blk_cell BX3.out 0).trans rfl) ((blk_cell BX1.out 0).trans rfl) W hb); (case hc => exact HA2.out); rintro e X2 ⟨rfl, hb'⟩; have n0 := Az (below_step HX.out hb'); have n1 := Az (blk_below BX1.out hb'); have n3 := Az (blk_below BX3.out hb'); clear HX BX1 BX3 c0 c1 c2 c3 hb'; have HX := n0; have BX1 := n1; have BX3 := n3; clear n0 n1 n3; obtain ⟨c0, c1, c2, c3⟩ := bc4 BX1.out) | (go_at_call 49; (with_reducible refine (impl_NetOk.contains3 A0_3 c0_3 l0_3 (impl_NetOk.p3 a0_0) g3 true _ ?ha ?hb ?hc).mono ?_); (case ha => exact Kd.C_below HR3.out HX.out); (case hb => exact fun x W hb => impl_NetOk.cl3 a0_0 x g3 g1 _ (blk_lt BX3.out) (blk_lt BX1.out) ((blk_cell BX3.out 0).trans rfl) ((blk_cell BX1.out 0).trans rfl) W hb); (case hc => exact HA3.out); rintro e X2 ⟨rfl, hb'⟩; have n0 := Az (below_step HX.out hb'); have n1 := Az (blk_below BX1.out hb'); have n3 := Az (blk_below BX3.out hb'); clear HX BX1 BX3 c0 c1 c2 c3 hb'; have HX := n0; have BX1 := n1; have BX3 := n3; clear n0 n1 n3; obtain ⟨c0, c1, c2, c3⟩ := bc4 BX1.out))
   all_goals first | (exfalso; omega) | (go_ret; exact ⟨by first | rfl | simp_all, HX.out⟩)
  ·
   have HA1 := Az e1; have HA2 := Az e2; have HA3 := Az e3; rw [e1, e2, e3] at h; have h : false = r := h; subst h; clear e1 e2 e3
   go_enter Try.func17, Try.ntmps17
   go_wp2_with (first | ((with_reducible refine gate_dst (N := 1) rfl ?_); refine box_event ?hg (N := 1) ?hd (cs := #[.int .i64 a0_0, .slice A0_1 l0_1.length c0_1, .slice A0_2 l0_2.length c0_2, .slice A0_3 l0_3.length c0_3]) (t := 41) ?hr ?_; (case hd => rfl); (case hg => rfl); (case hr => first | (go_simp; done) | (go_simp; rfl)); intro g1 hg1 w1 hbox1 hb1; have HB1 := Az hb1; have BK1 := Az hbox1; have HG1 := Az (show w.heap.size ≤ g1 by rw [hg1]; exact Nat.le_refl _); clear hb1 hbox1 hg1) | ((with_reducible refine gate_dst (N := 3) rfl ?_); refine box_event ?hg (N := 3) ?hd (cs := #[.nilFunc]) (t := 72) ?hr ?_; (case hd => rfl); (case hg => rfl); (case hr => first | (go_simp; done) | (go_simp; rfl)); intro g3 hg3 w3 hbox3 hb3; have HB3 := Az (below_step HB1.out hb3); have BK13 := Az (blk_below BK1.out hb3); have BK3 := Az hbox3; have HG3 := Az (show w.heap.size ≤ g3 by rw [hg3]; exact HB1.out.size); have HNE := Az (show g1 ≠ g3 by rw [hg3]; exact Nat.ne_of_lt (blk_lt BK1.out)); have hcz : w3.cell? ⟨g3, 0, none⟩ = some Value.nilFunc := (blk_cell hbox3 0).trans rfl; have hfz : w3.frozen? ⟨g3, 0, none⟩ = false := blk_frozen hbox3 0; have hcy : w3.cell? ⟨g1, 0, none⟩ = some (.int .i64 a0_0) := (blk_cell BK13.out 0).trans rfl; have hny := HNE.out; clear hb3 hbox3 hg3 HB1 BK1) | (go_at_call 36; (with_reducible refine (impl_in.calls a0_0 1 8 true _ ?hi).mono ?_); (case hi => exact impl_NetOk.in_r g0); rintro e w' ⟨rfl, nd, rfl⟩; have HX := Az (pw_below_drewN (below_set (j := 0) (v := (Value.func (.func 44) #[] #[.pointer (some ⟨g1, 0, none⟩)])) HB3.out HG3.out) nd); have BX3 := Az (blk_drewN (blk_put (cs := #[.nilFunc]) BK3.out 0 (Value.func (.func 44) #[] #[.pointer (some ⟨g1, 0, none⟩)]) rfl) nd); have BX1 := Az (blk_drewN (blk_far (p := ⟨g3, 0, none⟩) BK13.out HNE.out (Value.func (.func 44) #[] #[.pointer (some ⟨g1, 0, none⟩)])) nd); clear hcz hfz hcy hny; generalize hX : (w3.setCell ⟨g3, 0, none⟩ (Value.func (.func 44) #[] #[.pointer (some ⟨g1, 0, none⟩)])).drewN nd = X at *; clear hX; obtain ⟨c0, c1, c2, c3⟩ := bc4 BX1.out) | (go_at_call 45; (with_reducible refine (impl_NetOk.contains1 A0_1 c0_1 l0_1 (impl_NetOk.p1 a0_0) g3 false _ ?ha ?hb ?hc).mono ?_); (case ha => exact Kd.C_below HR1.out HX.out); (case hb => exact fun x W hb => impl_NetOk.cl1 a0_0 x g3 g1 _ (blk_lt BX3.out) (blk_lt BX1.out) ((blk_cell BX3.out 0).trans rfl) ((blk_cell BX1.out 0).trans rfl) W hb); (case hc => exact HA1.out); rintro e X2 ⟨rfl, hb'⟩; have n0 := Az (below_step HX.out hb'); have n1 := Az (blk_below BX1.out hb'); have n3 := Az (blk_below BX3.out hb'); clear HX BX1 BX3 c0 c1 c2 c3 hb'; have HX := n0; have BX1 := n1; have BX3 := n3; clear n0 n1 n3; obtain ⟨c0, c1, c2, c3⟩ := bc4 BX1.out) | (go_at_call 47; (with_reducible refine (impl_NetOk.contains2 A0_2 c0_2 l0_2 (impl_NetOk.p2 a0_0) g3 true _ ?ha ?hb ?hc).mono ?_); (case ha => exact Kd.C_below HR2.out HX.out); (case hb => exact fun x W hb => impl_NetOk.cl2 a0_0 x g3 g1 _ (blk_lt BX3.out) (blk_lt BX1.out) ((blk_cell BX3.out 0).trans rfl) ((blk_cell BX1.out 0).trans rfl) W hb); (case hc => exact HA2.out); rintro e X2 ⟨rfl, hb'⟩; have n0 := Az (below_step HX.out hb'); have n1 := Az (blk_below BX1.out hb'); have n3 := Az (blk_below BX3.out hb'); clear HX BX1 BX3 c0 c1 c2 c3 hb'; have HX := n0; have BX1 := n1; have BX3 := n3; clear n0 n1 n3; obtain ⟨c0, c1, c2, c3⟩ := bc4 BX1.out) | (go_at_call 49; (with_reducible refine (impl_NetOk.contains3 A0_3 c0_3 l0_3 (impl_NetOk.p3 a0_0) g3 false _ ?ha ?hb ?hc).mono ?_); (case ha => exact Kd.C_below HR3.out HX.out); (case hb => exact fun x W hb => impl_NetOk.cl3 a0_0 x g3 g1 _ (blk_lt BX3.out) (blk_lt BX1.out) ((blk_cell BX3.out 0).trans rfl) ((blk_cell BX1.out 0).trans rfl) W hb); (case hc => exact HA3.out); rintro e X2 ⟨rfl, hb'⟩; have n0 := Az (below_step HX.out hb'); have n1 := Az (blk_below BX1.out hb'); have n3 := Az (blk_below BX3.out hb'); clear HX BX1 BX3 c0 c1 c2 c3 hb'; have HX := n0; have BX1 := n1; have BX3 := n3; clear n0 n1 n3; obtain ⟨c0, c1, c2, c3⟩ := bc4 BX1.out))
   all_goals first | (exfalso; omega) | (go_ret; exact ⟨by first | rfl | simp_all, HX.out⟩)
  ·
   have HA1 := Az e1; have HA2 := Az e2; have HA3 := Az e3; rw [e1, e2, e3] at h; have h : false = r := h; subst h; clear e1 e2 e3
   go_enter Try.func17, Try.ntmps17
   go_wp2_with (first | ((with_reducible refine gate_dst (N := 1) rfl ?_); refine box_event ?hg (N := 1) ?hd (cs := #[.int .i64 a0_0, .slice A0_1 l0_1.length c0_1, .slice A0_2 l0_2.length c0_2, .slice A0_3 l0_3.length c0_3]) (t := 41) ?hr ?_; (case hd => rfl); (case hg => rfl); (case hr => first | (go_simp; done) | (go_simp; rfl)); intro g1 hg1 w1 hbox1 hb1; have HB1 := Az hb1; have BK1 := Az hbox1; have HG1 := Az (show w.heap.size ≤ g1 by rw [hg1]; exact Nat.le_refl _); clear hb1 hbox1 hg1) | ((with_reducible refine gate_dst (N := 3) rfl ?_); refine box_event ?hg (N := 3) ?hd (cs := #[.nilFunc]) (t := 72) ?hr ?_; (case hd => rfl); (case hg => rfl); (case hr => first | (go_simp; done) | (go_simp; rfl)); intro g3 hg3 w3 hbox3 hb3; have HB3 := Az (below_step HB1.out hb3); have BK13 := Az (blk_below BK1.out hb3); have BK3 := Az hbox3; have HG3 := Az (show w.heap.size ≤ g3 by rw [hg3]; exact HB1.out.size); have HNE := Az (show g1 ≠ g3 by rw [hg3]; exact Nat.ne_of_lt (blk_lt BK1.out)); have hcz : w3.cell? ⟨g3, 0, none⟩ = some Value.nilFunc := (blk_cell hbox3 0).trans rfl; have hfz : w3.frozen? ⟨g3, 0, none⟩ = false := blk_frozen hbox3 0; have hcy : w3.cell? ⟨g1, 0, none⟩ = some (.int .i64 a0_0) := (blk_cell BK13.out 0).trans rfl; have hny := HNE.out; clear hb3 hbox3 hg3 HB1 BK1) | (go_at_call 36; (with_reducible refine (impl_in.calls a0_0 1 8 true _ ?hi).mono ?_); (case hi => exact impl_NetOk.in_r g0); rintro e w' ⟨rfl, nd, rfl⟩; have HX := Az (pw_below_drewN (below_set (j := 0) (v := (Value.func (.func 44) #[] #[.pointer (some ⟨g1, 0, none⟩)])) HB3.out HG3.out) nd); have BX3 := Az (blk_drewN (blk_put (cs := #[.nilFunc]) BK3.out 0 (Value.func (.func 44) #[] #[.pointer (some ⟨g1, 0, none⟩)]) rfl) nd); have BX1 := Az (blk_drewN (blk_far (p := ⟨g3, 0, none⟩) BK13.out HNE.out (Value.func (.func 44) #[] #[.pointer (some ⟨g1, 0, none⟩)])) nd); clear hcz hfz hcy hny; generalize hX : (w3.setCell ⟨g3, 0, none⟩ (Value.func (.func 44) #[] #[.pointer (some ⟨g1, 0, none⟩)])).drewN nd = X at *; clear hX; obtain ⟨c0, c1, c2, c3⟩ := bc4 BX1.out) | (go_at_call 45; (with_reducible refine (impl_NetOk.contains1 A0_1 c0_1 l0_1 (impl_NetOk.p1 a0_0) g3 false _ ?ha ?hb ?hc).mono ?_); (case ha => exact Kd.C_below HR1.out HX.out); (case hb => exact fun x W hb => impl_NetOk.cl1 a0_0 x g3 g1 _ (blk_lt BX3.out) (blk_lt BX1.out) ((blk_cell BX3.out 0).trans rfl) ((blk_cell BX1.out 0).trans rfl) W hb); (case hc => exact HA1.out); rintro e X2 ⟨rfl, hb'⟩; have n0 := Az (below_step HX.out hb'); have n1 := Az (blk_below BX1.out hb'); have n3 := Az (blk_below BX3.out hb'); clear HX BX1 BX3 c0 c1 c2 c3 hb'; have HX := n0; have BX1 := n1; have BX3 := n3; clear n0 n1 n3; obtain ⟨c0, c1, c2, c3⟩ := bc4 BX1.out) | (go_at_call 47; (with_reducible refine (impl_NetOk.contains2 A0_2 c0_2 l0_2 (impl_NetOk.p2 a0_0) g3 true _ ?ha ?hb ?hc).mono ?_); (case ha => exact Kd.C_below HR2.out HX.out); (case hb => exact fun x W hb => impl_NetOk.cl2 a0_0 x g3 g1 _ (blk_lt BX3.out) (blk_lt BX1.out) ((blk_cell BX3.out 0).trans rfl) ((blk_cell BX1.out 0).trans rfl) W hb); (case hc => exact HA2.out); rintro e X2 ⟨rfl, hb'⟩; have n0 := Az (below_step HX.out hb'); have n1 := Az (blk_below BX1.out hb'); have n3 := Az (blk_below BX3.out hb'); clear HX BX1 BX3 c0 c1 c2 c3 hb'; have HX := n0; have BX1 := n1; have BX3 := n3; clear n0 n1 n3; obtain ⟨c0, c1, c2, c3⟩ := bc4 BX1.out) | (go_at_call 49; (with_reducible refine (impl_NetOk.contains3 A0_3 c0_3 l0_3 (impl_NetOk.p3 a0_0) g3 true _ ?ha ?hb ?hc).mono ?_); (case ha => exact Kd.C_below HR3.out HX.out); (case hb => exact fun x W hb => impl_NetOk.cl3 a0_0 x g3 g1 _ (blk_lt BX3.out) (blk_lt BX1.out) ((blk_cell BX3.out 0).trans rfl) ((blk_cell BX1.out 0).trans rfl) W hb); (case hc => exact HA3.out); rintro e X2 ⟨rfl, hb'⟩; have n0 := Az (below_step HX.out hb'); have n1 := Az (blk_below BX1.out hb'); have n3 := Az (blk_below BX3.out hb'); clear HX BX1 BX3 c0 c1 c2 c3 hb'; have HX := n0; have BX1 := n1; have BX3 := n3; clear n0 n1 n3; obtain ⟨c0, c1, c2, c3⟩ := bc4 BX1.out))
   all_goals first | (exfalso; omega) | (go_ret; exact ⟨by first | rfl | simp_all, HX.out⟩)
  ·
   have HA1 := Az e1; have HA2 := Az e2; have HA3 := Az e3; rw [e1, e2, e3] at h; have h : false = r := h; subst h; clear e1 e2 e3
   go_enter Try.func17, Try.ntmps17
   go_wp2_with (first | ((with_reducible refine gate_dst (N := 1) rfl ?_); refine box_event ?hg (N := 1) ?hd (cs := #[.int .i64 a0_0, .slice A0_1 l0_1.length c0_1, .slice A0_2 l0_2.length c0_2, .slice A0_3 l0_3.length c0_3]) (t := 41) ?hr ?_; (case hd => rfl); (case hg => rfl); (case hr => first | (go_simp; done) | (go_simp; rfl)); intro g1 hg1 w1 hbox1 hb1; have HB1 := Az hb1; have BK1 := Az hbox1; have HG1 := Az (show w.heap.size ≤ g1 by rw [hg1]; exact Nat.le_refl _); clear hb1 hbox1 hg1) | ((with_reducible refine gate_dst (N := 3) rfl ?_); refine box_event ?hg (N := 3) ?hd (cs := #[.nilFunc]) (t := 72) ?hr ?_; (case hd => rfl); (case hg => rfl); (case hr => first | (go_simp; done) | (go_simp; rfl)); intro g3 hg3 w3 hbox3 hb3; have HB3 := Az (below_step HB1.out hb3); have BK13 := Az (blk_below BK1.out hb3); have BK3 := Az hbox3; have HG3 := Az (show w.heap.size ≤ g3 by rw [hg3]; exact HB1.out.size); have HNE := Az (show g1 ≠ g3 by rw [hg3]; exact Nat.ne_of_lt (blk_lt BK1.out)); have hcz : w3.cell? ⟨g3, 0, none⟩ = some Value.nilFunc := (blk_cell hbox3 0).trans rfl; have hfz : w3.frozen? ⟨g3, 0, none⟩ = false := blk_frozen hbox3 0; have hcy : w3.cell? ⟨g1, 0, none⟩ = some (.int .i64 a0_0) := (blk_cell BK13.out 0).trans rfl; have hny := HNE.out; clear hb3 hbox3 hg3 HB1 BK1) | (go_at_call 36; (with_reducible refine (impl_in.calls a0_0 1 8 true _ ?hi).mono ?_); (case hi => exact impl_NetOk.in_r g0); rintro e w' ⟨rfl, nd, rfl⟩; have HX := Az (pw_below_drewN (below_set (j := 0) (v := (Value.func (.func 44) #[] #[.pointer (some ⟨g1, 0, none⟩)])) HB3.out HG3.out) nd); have BX3 := Az (blk_drewN (blk_put (cs := #[.nilFunc]) BK3.out 0 (Value.func (.func 44) #[] #[.pointer (some ⟨g1, 0, none⟩)]) rfl) nd); have BX1 := Az (blk_drewN (blk_far (p := ⟨g3, 0, none⟩) BK13.out HNE.out (Value.func (.func 44) #[] #[.pointer (some ⟨g1, 0, none⟩)])) nd); clear hcz hfz hcy hny; generalize hX : (w3.setCell ⟨g3, 0, none⟩ (Value.func (.func 44) #[] #[.pointer (some ⟨g1, 0, none⟩)])).drewN nd = X at *; clear hX; obtain ⟨c0, c1, c2, c3⟩ := bc4 BX1.out) | (go_at_call 45; (with_reducible refine (impl_NetOk.contains1 A0_1 c0_1 l0_1 (impl_NetOk.p1 a0_0) g3 true _ ?ha ?hb ?hc).mono ?_); (case ha => exact Kd.C_below HR1.out HX.out); (case hb => exact fun x W hb => impl_NetOk.cl1 a0_0 x g3 g1 _ (blk_lt BX3.out) (blk_lt BX1.out) ((blk_cell BX3.out 0).trans rfl) ((blk_cell BX1.out 0).trans rfl) W hb); (case hc => exact HA1.out); rintro e X2 ⟨rfl, hb'⟩; have n0 := Az (below_step HX.out hb'); have n1 := Az (blk_below BX1.out hb'); have n3 := Az (blk_below BX3.out hb'); clear HX BX1 BX3 c0 c1 c2 c3 hb'; have HX := n0; have BX1 := n1; have BX3 := n3; clear n0 n1 n3; obtain ⟨c0, c1, c2, c3⟩ := bc4 BX1.out) | (go_at_call 47; (with_reducible refine (impl_NetOk.contains2 A0_2 c0_2 l0_2 (impl_NetOk.p2 a0_0) g3 false _ ?ha ?hb ?hc).mono ?_); (case ha => exact Kd.C_below HR2.out HX.out); (case hb => exact fun x W hb => impl_NetOk.cl2 a0_0 x g3 g1 _ (blk_lt BX3.out) (blk_lt BX1.out) ((blk_cell BX3.out 0).trans rfl) ((blk_cell BX1.out 0).trans rfl) W hb); (case hc => exact HA2.out); rintro e X2 ⟨rfl, hb'⟩; have n0 := Az (below_step HX.out hb'); have n1 := Az (blk_below BX1.out hb'); have n3 := Az (blk_below BX3.out hb'); clear HX BX1 BX3 c0 c1 c2 c3 hb'; have HX := n0; have BX1 := n1; have BX3 := n3; clear n0 n1 n3; obtain ⟨c0, c1, c2, c3⟩ := bc4 BX1.out) | (go_at_call 49; (with_reducible refine (impl_NetOk.contains3 A0_3 c0_3 l0_3 (impl_NetOk.p3 a0_0) g3 false _ ?ha ?hb ?hc).mono ?_); (case ha => exact Kd.C_below HR3.out HX.out); (case hb => exact fun x W hb => impl_NetOk.cl3 a0_0 x g3 g1 _ (blk_lt BX3.out) (blk_lt BX1.out) ((blk_cell BX3.out 0).trans rfl) ((blk_cell BX1.out 0).trans rfl) W hb); (case hc => exact HA3.out); rintro e X2 ⟨rfl, hb'⟩; have n0 := Az (below_step HX.out hb'); have n1 := Az (blk_below BX1.out hb'); have n3 := Az (blk_below BX3.out hb'); clear HX BX1 BX3 c0 c1 c2 c3 hb'; have HX := n0; have BX1 := n1; have BX3 := n3; clear n0 n1 n3; obtain ⟨c0, c1, c2, c3⟩ := bc4 BX1.out))
   all_goals first | (exfalso; omega) | (go_ret; exact ⟨by first | rfl | simp_all, HX.out⟩)
  ·
   have HA1 := Az e1; have HA2 := Az e2; have HA3 := Az e3; rw [e1, e2, e3] at h; have h : false = r := h; subst h; clear e1 e2 e3
   go_enter Try.func17, Try.ntmps17
   go_wp2_with (first | ((with_reducible refine gate_dst (N := 1) rfl ?_); refine box_event ?hg (N := 1) ?hd (cs := #[.int .i64 a0_0, .slice A0_1 l0_1.length c0_1, .slice A0_2 l0_2.length c0_2, .slice A0_3 l0_3.length c0_3]) (t := 41) ?hr ?_; (case hd => rfl); (case hg => rfl); (case hr => first | (go_simp; done) | (go_simp; rfl)); intro g1 hg1 w1 hbox1 hb1; have HB1 := Az hb1; have BK1 := Az hbox1; have HG1 := Az (show w.heap.size ≤ g1 by rw [hg1]; exact Nat.le_refl _); clear hb1 hbox1 hg1) | ((with_reducible refine gate_dst (N := 3) rfl ?_); refine box_event ?hg (N := 3) ?hd (cs := #[.nilFunc]) (t := 72) ?hr ?_; (case hd => rfl); (case hg => rfl); (case hr => first | (go_simp; done) | (go_simp; rfl)); intro g3 hg3 w3 hbox3 hb3; have HB3 := Az (below_step HB1.out hb3); have BK13 := Az (blk_below BK1.out hb3); have BK3 := Az hbox3; have HG3 := Az (show w.heap.size ≤ g3 by rw [hg3]; exact HB1.out.size); have HNE := Az (show g1 ≠ g3 by rw [hg3]; exact Nat.ne_of_lt (blk_lt BK1.out)); have hcz : w3.cell? ⟨g3, 0, none⟩ = some Value.nilFunc := (blk_cell hbox3 0).trans rfl; have hfz : w3.frozen? ⟨g3, 0, none⟩ = false := blk_frozen hbox3 0; have hcy : w3.cell? ⟨g1, 0, none⟩ = some (.int .i64 a0_0) := (blk_cell BK13.out 0).trans rfl; have hny := HNE.out; clear hb3 hbox3 hg3 HB1 BK1) | (go_at_call 36; (with_reducible refine (impl_in.calls a0_0 1 8 true _ ?hi).mono ?_); (case hi => exact impl_NetOk.in_r g0); rintro e w' ⟨rfl, nd, rfl⟩; have HX := Az (pw_below_drewN (below_set (j := 0) (v := (Value.func (.func 44) #[] #[.pointer (some ⟨g1, 0, none⟩)])) HB3.out HG3.out) nd); have BX3 := Az (blk_drewN (blk_put (cs := #[.nilFunc]) BK3.out 0 (Value.func (.func 44) #[] #[.pointer (some ⟨g1, 0, none⟩)]) rfl) nd); have BX1 := Az (blk_drewN (blk_far (p := ⟨g3, 0, none⟩) BK13.out HNE.out (Value.func (.func 44) #[] #[.pointer (some ⟨g1, 0, none⟩)])) nd); clear hcz hfz hcy hny; generalize hX : (w3.setCell ⟨g3, 0, none⟩ (Value.func (.func 44) #[] #[.pointer (some ⟨g1, 0, none⟩)])).drewN nd = X at *; clear hX; obtain ⟨c0, c1, c2, c3⟩ := bc4 BX1.out) | (go_at_call 45; (with_reducible refine (impl_NetOk.contains1 A0_1 c0_1 l0_1 (impl_NetOk.p1 a0_0) g3 true _ ?ha ?hb ?hc).mono ?_); (case ha => exact Kd.C_below HR1.out HX.out); (case hb => exact fun x W hb => impl_NetOk.cl1 a0_0 x g3 g1 _ (blk_lt BX3.out) (blk_lt BX1.out) ((blk_cell BX3.out 0).trans rfl) ((blk_cell BX1.out 0).trans rfl) W hb); (case hc => exact HA1.out); rintro e X2 ⟨rfl, hb'⟩; have n0 := Az (below_step HX.out hb'); have n1 := Az (blk_below BX1.out hb'); have n3 := Az (blk_below BX3.out hb'); clear HX BX1 BX3 c0 c1 c2 c3 hb'; have HX := n0; have BX1 := n1; have BX3 := n3; clear n0 n1 n3; obtain ⟨c0, c1, c2, c3⟩ := bc4 BX1.out) | (go_at_call 47; (with_reducible refine (impl_NetOk.contains2 A0_2 c0_2 l0_2 (impl_NetOk.p2 a0_0) g3 false _ ?ha ?hb ?hc).mono ?_); (case ha => exact Kd.C_below HR2.out HX.out); (case hb => exact fun x W hb => impl_NetOk.cl2 a0_0 x g3 g1 _ (blk_lt BX3.out) (blk_lt BX1.out) ((blk_cell BX3.out 0).trans rfl) ((blk_cell BX1.out 0).trans rfl) W hb); (case hc => exact HA2.out); rintro e X2 ⟨rfl, hb'⟩; have n0 := Az (below_step HX.out hb'); have n1 := Az (blk_below BX1.out hb'); have n3 := Az (blk_below BX3.out hb'); clear HX BX1 BX3 c0 c1 c2 c3 hb'; have HX := n0; have BX1 := n1; have BX3 := n3; clear n0 n1 n3; obtain ⟨c0, c1, c2, c3⟩ := bc4 BX1.out) | (go_at_call 49; (with_reducible refine (impl_NetOk.contains3 A0_3 c0_3 l0_3 (impl_NetOk.p3 a0_0) g3 true _ ?ha ?hb ?hc).mono ?_); (case ha => exact Kd.C_below HR3.out HX.out); (case hb => exact fun x W hb => impl_NetOk.cl3 a0_0 x g3 g1 _ (blk_lt BX3.out) (blk_lt BX1.out) ((blk_cell BX3.out 0).trans rfl) ((blk_cell BX1.out 0).trans rfl) W hb); (case hc => exact HA3.out); rintro e X2 ⟨rfl, hb'⟩; have n0 := Az (below_step HX.out hb'); have n1 := Az (blk_below BX1.out hb'); have n3 := Az (blk_below BX3.out hb'); clear HX BX1 BX3 c0 c1 c2 c3 hb'; have HX := n0; have BX1 := n1; have BX3 := n3; clear n0 n1 n3; obtain ⟨c0, c1, c2, c3⟩ := bc4 BX1.out))
   all_goals first | (exfalso; omega) | (go_ret; exact ⟨by first | rfl | simp_all, HX.out⟩)
  ·
   have HA1 := Az e1; have HA2 := Az e2; have HA3 := Az e3; rw [e1, e2, e3] at h; have h : false = r := h; subst h; clear e1 e2 e3
   go_enter Try.func17, Try.ntmps17
   go_wp2_with (first | ((with_reducible refine gate_dst (N := 1) rfl ?_); refine box_event ?hg (N := 1) ?hd (cs := #[.int .i64 a0_0, .slice A0_1 l0_1.length c0_1, .slice A0_2 l0_2.length c0_2, .slice A0_3 l0_3.length c0_3]) (t := 41) ?hr ?_; (case hd => rfl); (case hg => rfl); (case hr => first | (go_simp; done) | (go_simp; rfl)); intro g1 hg1 w1 hbox1 hb1; have HB1 := Az hb1; have BK1 := Az hbox1; have HG1 := Az (show w.heap.size ≤ g1 by rw [hg1]; exact Nat.le_refl _); clear hb1 hbox1 hg1) | ((with_reducible refine gate_dst (N := 3) rfl ?_); refine box_event ?hg (N := 3) ?hd (cs := #[.nilFunc]) (t := 72) ?hr ?_; (case hd => rfl); (case hg => rfl); (case hr => first | (go_simp; done) | (go_simp; rfl)); intro g3 hg3 w3 hbox3 hb3; have HB3 := Az (below_step HB1.out hb3); have BK13 := Az (blk_below BK1.out hb3); have BK3 := Az hbox3; have HG3 := Az (show w.heap.size ≤ g3 by rw [hg3]; exact HB1.out.size); have HNE := Az (show g1 ≠ g3 by rw [hg3]; exact Nat.ne_of_lt (blk_lt BK1.out)); have hcz : w3.cell? ⟨g3, 0, none⟩ = some Value.nilFunc := (blk_cell hbox3 0).trans rfl; have hfz : w3.frozen? ⟨g3, 0, none⟩ = false := blk_frozen hbox3 0; have hcy : w3.cell? ⟨g1, 0, none⟩ = some (.int .i64 a0_0) := (blk_cell BK13.out 0).trans rfl; have hny := HNE.out; clear hb3 hbox3 hg3 HB1 BK1) | (go_at_call 36; (with_reducible refine (impl_in.calls a0_0 1 8 true _ ?hi).mono ?_); (case hi => exact impl_NetOk.in_r g0); rintro e w' ⟨rfl, nd, rfl⟩; have HX := Az (pw_below_drewN (below_set (j := 0) (v := (Value.func (.func 44) #[] #[.pointer (some ⟨g1, 0, none⟩)])) HB3.out HG3.out) nd); have BX3 := Az (blk_drewN (blk_put (cs := #[.nilFunc]) BK3.out 0 (Value.func (.func 44) #[] #[.pointer (some ⟨g1, 0, none⟩)]) rfl) nd); have BX1 := Az (blk_drewN (blk_far (p := ⟨g3, 0, none⟩) BK13.out HNE.out (Value.func (.func 44) #[] #[.pointer (some ⟨g1, 0, none⟩)])) nd); clear hcz hfz hcy hny; generalize hX : (w3.setCell ⟨g3, 0, none⟩ (Value.func (.func 44) #[] #[.pointer (some ⟨g1, 0, none⟩)])).drewN nd = X at *; clear hX; obtain ⟨c0, c1, c2, c3⟩ := bc4 BX1.out) | (go_at_call 45; (with_reducible refine (impl_NetOk.contains1 A0_1 c0_1 l0_1 (impl_NetOk.p1 a0_0) g3 true _ ?ha ?hb ?hc).mono ?_); (case ha => exact Kd.C_below HR1.out HX.out); (case hb => exact fun x W hb => impl_NetOk.cl1 a0_0 x g3 g1 _ (blk_lt BX3.out) (blk_lt BX1.out) ((blk_cell BX3.out 0).trans rfl) ((blk_cell BX1.out 0).trans rfl) W hb); (case hc => exact HA1.out); rintro e X2 ⟨rfl, hb'⟩; have n0 := Az (below_step HX.out hb'); have n1 := Az (blk_below BX1.out hb'); have n3 := Az (blk_below BX3.out hb'); clear HX BX1 BX3 c0 c1 c2 c3 hb'; have HX := n0; have BX1 := n1; have BX3 := n3; clear n0 n1 n3; obtain ⟨c0, c1, c2, c3⟩ := bc4 BX1.out) | (go_at_call 47; (with_reducible refine (impl_NetOk.contains2 A0_2 c0_2 l0_2 (impl_NetOk.p2 a0_0) g3 true _ ?ha ?hb ?hc).mono ?_); (case ha => exact Kd.C_below HR2.out HX.out); (case hb => exact fun x W hb => impl_NetOk.cl2 a0_0 x g3 g1 _ (blk_lt BX3.out) (blk_lt BX1.out) ((blk_cell BX3.out 0).trans rfl) ((blk_cell BX1.out 0).trans rfl) W hb); (case hc => exact HA2.out); rintro e X2 ⟨rfl, hb'⟩; have n0 := Az (below_step HX.out hb'); have n1 := Az (blk_below BX1.out hb'); have n3 := Az (blk_below BX3.out hb'); clear HX BX1 BX3 c0 c1 c2 c3 hb'; have HX := n0; have BX1 := n1; have BX3 := n3; clear n0 n1 n3; obtain ⟨c0, c1, c2, c3⟩ := bc4 BX1.out) | (go_at_call 49; (with_reducible refine (impl_NetOk.contains3 A0_3 c0_3 l0_3 (impl_NetOk.p3 a0_0) g3 false _ ?ha ?hb ?hc).mono ?_); (case ha => exact Kd.C_below HR3.out HX.out); (case hb => exact fun x W hb => impl_NetOk.cl3 a0_0 x g3 g1 _ (blk_lt BX3.out) (blk_lt BX1.out) ((blk_cell BX3.out 0).trans rfl) ((blk_cell BX1.out 0).trans rfl) W hb); (case hc => exact HA3.out); rintro e X2 ⟨rfl, hb'⟩; have n0 := Az (below_step HX.out hb'); have n1 := Az (blk_below BX1.out hb'); have n3 := Az (blk_below BX3.out hb'); clear HX BX1 BX3 c0 c1 c2 c3 hb'; have HX := n0; have BX1 := n1; have BX3 := n3; clear n0 n1 n3; obtain ⟨c0, c1, c2, c3⟩ := bc4 BX1.out))
   all_goals first | (exfalso; omega) | (go_ret; exact ⟨by first | rfl | simp_all, HX.out⟩)
  ·
   have HA1 := Az e1; have HA2 := Az e2; have HA3 := Az e3; rw [e1, e2, e3] at h; have h : false = r := h; subst h; clear e1 e2 e3
   go_enter Try.func17, Try.ntmps17
   go_wp2_with (first | ((with_reducible refine gate_dst (N := 1) rfl ?_); refine box_event ?hg (N := 1) ?hd (cs := #[.int .i64 a0_0, .slice A0_1 l0_1.length c0_1, .slice A0_2 l0_2.length c0_2, .slice A0_3 l0_3.length c0_3]) (t := 41) ?hr ?_; (case hd => rfl); (case hg => rfl); (case hr => first | (go_simp; done) | (go_simp; rfl)); intro g1 hg1 w1 hbox1 hb1; have HB1 := Az hb1; have BK1 := Az hbox1; have HG1 := Az (show w.heap.size ≤ g1 by rw [hg1]; exact Nat.le_refl _); clear hb1 hbox1 hg1) | ((with_reducible refine gate_dst (N := 3) rfl ?_); refine box_event ?hg (N := 3) ?hd (cs := #[.nilFunc]) (t := 72) ?hr ?_; (case hd => rfl); (case hg => rfl); (case hr => first | (go_simp; done) | (go_simp; rfl)); intro g3 hg3 w3 hbox3 hb3; have HB3 := Az (below_step HB1.out hb3); have BK13 := Az (blk_below BK1.out hb3); have BK3 := Az hbox3; have HG3 := Az (show w.heap.size ≤ g3 by rw [hg3]; exact HB1.out.size); have HNE := Az (show g1 ≠ g3 by rw [hg3]; exact Nat.ne_of_lt (blk_lt BK1.out)); have hcz : w3.cell? ⟨g3, 0, none⟩ = some Value.nilFunc := (blk_cell hbox3 0).trans rfl; have hfz : w3.frozen? ⟨g3, 0, none⟩ = false := blk_frozen hbox3 0; have hcy : w3.cell? ⟨g1, 0, none⟩ = some (.int .i64 a0_0) := (blk_cell BK13.out 0).trans rfl; have hny := HNE.out; clear hb3 hbox3 hg3 HB1 BK1) | (go_at_call 36; (with_reducible refine (impl_in.calls a0_0 1 8 true _ ?hi).mono ?_); (case hi => exact impl_NetOk.in_r g0); rintro e w' ⟨rfl, nd, rfl⟩; have HX := Az (pw_below_drewN (below_set (j := 0) (v := (Value.func (.func 44) #[] #[.pointer (some ⟨g1, 0, none⟩)])) HB3.out HG3.out) nd); have BX3 := Az (blk_drewN (blk_put (cs := #[.nilFunc]) BK3.out 0 (Value.func (.func 44) #[] #[.pointer (some ⟨g1, 0, none⟩)]) rfl) nd); have BX1 := Az (blk_drewN (blk_far (p := ⟨g3, 0, none⟩) BK13.out HNE.out (Value.func (.func 44) #[] #[.pointer (some ⟨g1, 0, none⟩)])) nd); clear hcz hfz hcy hny; generalize hX : (w3.setCell ⟨g3, 0, none⟩ (Value.func (.func 44) #[] #[.pointer (some ⟨g1, 0, none⟩)])).drewN nd = X at *; clear hX; obtain ⟨c0, c1, c2, c3⟩ := bc4 BX1.out) | (go_at_call 45; (with_reducible refine (impl_NetOk.contains1 A0_1 c0_1 l0_1 (impl_NetOk.p1 a0_0) g3 true _ ?ha ?hb ?hc).mono ?_); (case ha => exact Kd.C_below HR1.out HX.out); (case hb => exact fun x W hb => impl_NetOk.cl1 a0_0 x g3 g1 _ (blk_lt BX3.out) (blk_lt BX1.out) ((blk_cell BX3.out 0).trans rfl) ((blk_cell BX1.out 0).trans rfl) W hb); (case hc => exact HA1.out); rintro e X2 ⟨rfl, hb'⟩; have n0 := Az (below_step HX.out hb'); have n1 := Az (blk_below BX1.out hb'); have n3 := Az (blk_below BX3.out hb'); clear HX BX1 BX3 c0 c1 c2 c3 hb'; have HX := n0; have BX1 := n1; have BX3 := n3; clear n0 n1 n3; obtain ⟨c0, c1, c2, c3⟩ := bc4 BX1.out) | (go_at_call 47; (with_reducible refine (impl_NetOk.contains2 A0_2 c0_2 l0_2 (impl_NetOk.p2 a0_0) g3 true _ ?ha ?hb ?hc).mono ?_); (case ha => exact Kd.C_below HR2.out HX.out); (case hb => exact fun x W hb => impl_NetOk.cl2 a0_0 x g3 g1 _ (blk_lt BX3.out) (blk_lt BX1.out) ((blk_cell BX3.out 0).trans rfl) ((blk_cell BX1.out 0).trans rfl) W hb); (case hc => exact HA2.out); rintro e X2 ⟨rfl, hb'⟩; have n0 := Az (below_step HX.out hb'); have n1 := Az (blk_below BX1.out hb'); have n3 := Az (blk_below BX3.out hb'); clear HX BX1 BX3 c0 c1 c2 c3 hb'; have HX := n0; have BX1 := n1; have BX3 := n3; clear n0 n1 n3; obtain ⟨c0, c1, c2, c3⟩ := bc4 BX1.out) | (go_at_call 49; (with_reducible refine (impl_NetOk.contains3 A0_3 c0_3 l0_3 (impl_NetOk.p3 a0_0) g3 true _ ?ha ?hb ?hc).mono ?_); (case ha => exact Kd.C_below HR3.out HX.out); (case hb => exact fun x W hb => impl_NetOk.cl3 a0_0 x g3 g1 _ (blk_lt BX3.out) (blk_lt BX1.out) ((blk_cell BX3.out 0).trans rfl) ((blk_cell BX1.out 0).trans rfl) W hb); (case hc => exact HA3.out); rintro e X2 ⟨rfl, hb'⟩; have n0 := Az (below_step HX.out hb'); have n1 := Az (blk_below BX1.out hb'); have n3 := Az (blk_below BX3.out hb'); clear HX BX1 BX3 c0 c1 c2 c3 hb'; have HX := n0; have BX1 := n1; have BX3 := n3; clear n0 n1 n3; obtain ⟨c0, c1, c2, c3⟩ := bc4 BX1.out))
   all_goals first | (exfalso; omega) | (go_ret; exact ⟨by first | rfl | simp_all, HX.out⟩)

/-! ### slices_Index_int_int: function 85 -/
def slices_Index_int_int.l0 : Nat → List Int → Int → Int → Int → Option (Int)
 | 0, _, _, _, _ => none
 | k + 1, x0, x1, x7, x8 => if x8 < x7 then (if 0 ≤ x8 then (if x8 < (x0.length : Int) then (if x1 = (rd x0 x8) then (some x8) else (slices_Index_int_int.l0 k x0 x1 x7 (wrap64 (x8 + 1)))) else (none)) else (none)) else (some (-1))
def slices_Index_int_int.f (k : Nat) (l0 : List Int) (a1 : Int) : Option (Int) := slices_Index_int_int.l0 k l0 a1 (l0.length : Int) 0
set_option maxHeartbeats 8000000 in
set_option maxRecDepth 100000 in
theorem slices_Index_int_int.calls (k : Nat) (A0 : Option Addr) (c0 : Nat) (l0 : List Int) (a1 : Int) (r : Int) (w : World) (hr0 : Kd.C (Kd.int .i64) w A0 l0.length l0) (hc0 : l0.length ≤ c0) (h : slices_Index_int_int.f k l0 a1 = some r) :
  Calls Try.prog 85 #[.slice A0 l0.length c0, .int .i64 a1] w fun e w' => e = .returned (.int .i64 r) ∧ Drawn0 w w' := by
 have HR0 := Az hr0; have HC0 := Az hc0; clear hr0 hc0; have H : (slices_Index_int_int.l0 k l0 a1 (l0.length : Int) 0) = some r := h; clear h; have H' := Az H; clear H
 go_enter Try.func85, Try.ntmps85
 go_wp2
 go_loopg [8] k (fun kq v8 w' => ∃ (x8_1 : Int), v8 = .int .i64 x8_1 ∧ Aside0 (slices_Index_int_int.l0 kq l0 a1 (l0.length : Int) x8_1 = some r) ∧ Aside0 (kq ≤ k) ∧ Drawn0 w w')
 case atStart => exact ⟨(0), (by first | rfl | (simp; done) | (simp [*]; done)), H', ⟨Nat.le_refl _⟩, by repeat (first | exact Drawn0.refl _ | apply Drawn0.step)⟩
 case round =>
  clear H'; (try clear p2); obtain ⟨x8_1, rfl, HA, HK1, ⟨m1, rfl⟩⟩ := hrel
  cases gk with
  | zero => exact absurd HA.out (by simp [slices_Index_int_int.l0])
  | succ k1 =>
   have H := HA.out; clear HA; simp only [slices_Index_int_int.l0] at H
   by_cases c3 : x8_1 < (l0.length : Int)
   ·
    rw [if_pos c3] at H; have c3b0 : decide (x8_1 < (l0.length : Int)) = true := decide_eq_true c3; clear c3
    by_cases c4 : 0 ≤ x8_1
    ·
     rw [if_pos c4] at H; have c4b0 : decide (0 ≤ x8_1) = true := decide_eq_true c4; clear c4
     by_cases c5 : x8_1 < (l0.length : Int)
     ·
      rw [if_pos c5] at H; have c5b0 : decide (x8_1 < (l0.length : Int)) = true := decide_eq_true c5; clear c5
      by_cases c6 : a1 = (rd l0 x8_1)
      ·
       rw [if_pos c6] at H; have c6b0 : (a1 == (rd l0 x8_1)) = true := beq_iff_eq.mpr c6; have c6b1 : (a1 != (rd l0 x8_1)) = false := bne_eq_false_iff_eq.mpr c6; clear c6; obtain rfl := Option.some.inj H; have p190 : 0 ≤ (x8_1 : Int) := oz; have q190 : x8_1 < (l0.length : Int) := oz; obtain ⟨ad190, e190, hx190_0⟩ := Kd.at_int HR0.out x8_1 p190 q190
       cases e190
       replace p190 := eq_true p190; replace q190 := eq_true q190
       go_wp2
       go_ret
       exact ⟨by first | rfl | (simp; done) | (simp [*]; done), by repeat (first | exact Drawn0.refl _ | apply Drawn0.step)⟩
      ·
       rw [if_neg c6] at H; have c6b0 : (a1 == (rd l0 x8_1)) = false := beq_eq_false_iff_ne.mpr c6; have c6b1 : (a1 != (rd l0 x8_1)) = true := bne_iff_ne.mpr c6; have H' := Az H; clear H; have p190 : 0 ≤ (x8_1 : Int) := oz; have q190 : x8_1 < (l0.length : Int) := oz; obtain ⟨ad190, e190, hx190_0⟩ := Kd.at_int HR0.out x8_1 p190 q190
       cases e190
       replace p190 := eq_true p190; replace q190 := eq_true q190
       go_wp2
       go_roundg k1
       case measure => have := HK1.out; omega
       case rel => exact ⟨(wrap64 (x8_1 + 1)), (by first | rfl | (simp; done) | (simp [*]; done)), H', ⟨by have := HK1.out; omega⟩, by repeat (first | exact Drawn0.refl _ | apply Drawn0.step)⟩
     ·
      rw [if_neg c5] at H; exact absurd H (by simp)
    ·
     rw [if_neg c4] at H; exact absurd H (by simp)
   ·
    rw [if_neg c3] at H; have c3b0 : decide (x8_1 < (l0.length : Int)) = false := decide_eq_false c3; clear c3; obtain rfl := Option.some.inj H
    go_wp2
    go_ret
    exact ⟨by first | rfl | (simp; done) | (simp [*]; done), by repeat (first | exact Drawn0.refl _ | apply Drawn0.step)⟩

/-! ### slices_Contains_int_int: function 76 -/
def slices_Contains_int_int.f (k : Nat) (l0 : List Int) (a1 : Int) : Option (Bool) := (slices_Index_int_int.f k l0 a1).bind fun t191 => (some (decide (t191 ≥ 0)))
set_option maxHeartbeats 8000000 in
set_option maxRecDepth 100000 in
theorem slices_Contains_int_int.calls (k : Nat) (A0 : Option Addr) (c0 : Nat) (l0 : List Int) (a1 : Int) (r : Bool) (w : World) (hr0 : Kd.C (Kd.int .i64) w A0 l0.length l0) (hc0 : l0.length ≤ c0) (h : slices_Contains_int_int.f k l0 a1 = some r) :
  Calls Try.prog 76 #[.slice A0 l0.length c0, .int .i64 a1] w fun e w' => e = .returned (.bool r) ∧ Drawn0 w w' := by
 have HR0 := Az hr0; have HC0 := Az hc0; clear hr0 hc0; have H : ((slices_Index_int_int.f k l0 a1).bind fun t191 => (some (decide (t191 ≥ 0)))) = some r := h; clear h; replace H := Option.bind_eq_some_iff.mp H; obtain ⟨t191, A30, H⟩ := H; replace H : (some (decide (t191 ≥ 0))) = some r := H; have A3 := Az A30; clear A30; obtain rfl := Option.some.inj H
 go_enter Try.func76, Try.ntmps76
 go_wp2_with (first | ((with_reducible refine gate_callee (f := 85) rfl ?_); refine goesL_ (some 7) rfl rfl Try.func85 (by kernel_rfl) rfl #[.slice A0 l0.length c0, .int .i64 a1] rfl (by (try simp only [List.map_toArray, List.map_cons, List.map_nil]); first | done | rfl) ?_; (with_reducible refine (slices_Index_int_int.calls k _ _ l0 a1 t191 _ ?side1 ?side2 A3.out).mono ?_); (case side1 => repeat (first | exact HR0.out | (with_reducible refine Kd.C_alloc ?_ _) | (with_reducible refine Kd.C_drewN ?_ _) | (with_reducible refine Kd.C_drew ?_))); (case side2 => exact HC0.out); rintro e w' ⟨rfl, ⟨nd, rfl⟩⟩; refine ⟨_, rfl, ?_⟩))
 go_ret
 exact ⟨by first | rfl | (simp; done) | (simp [*]; done), by repeat (first | exact Drawn0.refl _ | apply Drawn0.step)⟩

end Go.Proofs.Ytbbfibokedlkkaa.PFnTied
