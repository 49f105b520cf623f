/- Walks of the functions named below, by a program of the session over the kit's printer. -/
import Derived.Test.YtbbfibokedlkkaaPFnTiedx0
namespace Go.Proofs.Ytbbfibokedlkkaa.PFnTied
open Go.RowKit Go.Proofs.YtbbfibokedlkkaaW.PrintWords Go.Proofs.YtbbfibokedlkkaaW.PrintLast Go.Proofs.YtbbfibokedlkkaaW.PrintMore
attribute [local go_sem] max2_int min2_int max_two min_two max_three min_three max_four min_four   -- for this text's walks alone
set_option linter.unusedVariables false
set_option linter.unusedSimpArgs false

/-! ### slices_SortStableFunc_int_int: function 79, by hand -/
/-- The rank of the use at a place. -/
def slices_SortStableFunc_int_int.rank (us : List S59) (x : Int) : Int := (rd_T59 us x).f2
def slices_SortStableFunc_int_int.okay (l0 : List Int) (us : List S59) : Prop := l0.length ≤ 40 ∧ (∀ x ∈ l0, 0 ≤ x ∧ x < (us.length : Int)) ∧ (∀ x ∈ l0, 0 ≤ slices_SortStableFunc_int_int.rank us x ∧ slices_SortStableFunc_int_int.rank us x ≤ 1000000)
instance (l0 : List Int) (us : List S59) : Decidable (slices_SortStableFunc_int_int.okay l0 us) := by unfold slices_SortStableFunc_int_int.okay; exact inferInstance
def slices_SortStableFunc_int_int.f (l0 : List Int) (us : List S59) : Option (List Int) := if slices_SortStableFunc_int_int.okay l0 us then some (l0.mergeSort fun x y => decide (slices_SortStableFunc_int_int.rank us x ≤ slices_SortStableFunc_int_int.rank us y)) else none
theorem slices_SortStableFunc_int_int.len {l0 : List Int} {us : List S59} {r : List Int} (h : slices_SortStableFunc_int_int.f l0 us = some r) : ((r.length : Nat) : Int) = ((l0.length : Nat) : Int) := by
 unfold slices_SortStableFunc_int_int.f at h
 split at h
 ·
  rw [← Option.some.inj h, List.length_mergeSort]
 ·
  cases h
/-- The variable over which the comparison is closed. -/
structure slices_SortStableFunc_int_int.box (w0 w : World) (B : Nat) (us : List S59) : Prop where
 mk ::
 out : ∃ (v0 v1 v2 : Value) (A : Option Addr) (c : Nat), w.heap[B]? = some (.cells #[v0, v1, v2, .slice A us.length c] 41 (0, 0)) ∧ Kd.C k59 w0 A us.length us
set_option maxHeartbeats 4000000 in
set_option maxRecDepth 100000 in
theorem slices_SortStableFunc_int_int.one (us : List S59) (x y : Int) (B : Nat) (W : World) (v0 v1 v2 : Value) (A : Option Addr) (c : Nat) (hb : W.heap[B]? = some (.cells #[v0, v1, v2, .slice A us.length c] 41 (0, 0))) (hC : Kd.C k59 W A us.length us)
  (hx : 0 ≤ x ∧ x < (us.length : Int)) (hy : 0 ≤ y ∧ y < (us.length : Int)) (rx : 0 ≤ slices_SortStableFunc_int_int.rank us x ∧ slices_SortStableFunc_int_int.rank us x ≤ 1000000) (ry : 0 ≤ slices_SortStableFunc_int_int.rank us y ∧ slices_SortStableFunc_int_int.rank us y ≤ 1000000) :
  Calls Try.prog 80 #[.int .i64 x, .int .i64 y, .pointer (some ⟨B, 0, none⟩)] W fun e w' => e = .returned (.int .i64 (slices_SortStableFunc_int_int.rank us x - slices_SortStableFunc_int_int.rank us y)) ∧ ∃ q os, w' = Go.Sort.grow (W.drewN q) os := by
 have hu := Try.underlying59; have hu2 := Try.underlying41; have hlen := hC.2.1; obtain ⟨ad, e, hx0, hx1, hx2⟩ := at_T59 hC x hx.1 hx.2; obtain ⟨ad', e', hy0, hy1, hy2⟩ := at_T59 hC y hy.1 hy.2; subst e
 obtain rfl : ad = ad' := by injection e'
 have hcb : W.cell? ⟨B, 3, none⟩ = some (.slice (some ad) us.length c) := (blk_cell hb 3).trans rfl
 unfold slices_SortStableFunc_int_int.rank at rx ry ⊢
 obtain ⟨p, hp⟩ : ∃ p, (rd_T59 us x).f2 = p := ⟨_, rfl⟩; obtain ⟨q, hq⟩ : ∃ q, (rd_T59 us y).f2 = q := ⟨_, rfl⟩; rw [hp] at rx hx2 ⊢; rw [hq] at ry hy2 ⊢
 have hpq : IntKind.i64.wrap (p - q) = p - q := by rw [IntKind.wrap_i64]; omega
 obtain ⟨x0, x1⟩ := hx; obtain ⟨y0, y1⟩ := hy; clear hx0 hx1 hy0 hy1 hp hq hb hC rx ry e'
 go_enter Try.func80, Try.ntmps80
 go_wp2_with fail
 go_quiet (fail)
 all_goals go_wp2
 go_ret
 exact ⟨by first | rfl | (simp; done) | (go_simp; done), _, #[], (Go.Sort.grow_empty _).symm⟩
theorem slices_SortStableFunc_int_int.calls (P0_ : Nat → Prop) (u9000_ : Value) (l0 : List Int) (us : List S59) (r : List Int) (w0 w : World) {B : Nat} (hB : Below w0.heap.size w0 w) (ho0 : Kd.R (Kd.int .i64) 3 w w0.heap.size P0_ u9000_ l0) (h : slices_SortStableFunc_int_int.f l0 us = some r) (hbox_ : slices_SortStableFunc_int_int.box w0 w B us := by exact ⟨⟨_, _, _, _, _, (by first | exact Aside0.out (by assumption) | (repeat (first | refine blk_drewN ?_ _ | refine blk_drew ?_ | refine blk_alloc ?_ _)); exact Aside0.out (by assumption)), Aside0.out (by assumption)⟩⟩) :
  Calls Try.prog 79 #[u9000_, .func (.func 80) #[] #[.pointer (some ⟨B, 0, none⟩)]] w fun e w' => e = .returned (.tuple #[]) ∧ Kd.R (Kd.int .i64) 3 w' w0.heap.size (fun k_ => (P0_ k_ ∨ w.heap.size ≤ k_)) u9000_ r ∧ Below w0.heap.size w0 w' ∧ Kept w w' (fun k_ => P0_ k_) := by
 unfold slices_SortStableFunc_int_int.f at h
 by_cases hm : slices_SortStableFunc_int_int.okay l0 us
 ·
  rw [if_pos hm] at h; have hr := Option.some.inj h; clear h; obtain ⟨h40, hin, hrk⟩ := hm
  by_cases hn : l0.length = 0
  ·
   obtain rfl : l0 = [] := List.eq_nil_of_length_eq_zero hn
   obtain rfl : r = [] := by rw [← hr]; simp
   obtain ⟨A, c, rfl⟩ := Kd.R_slice ho0; refine (stb_none A c _ w).mono ?_; rintro e w' ⟨rfl, rfl⟩; exact ⟨rfl, Kd.R_mono ho0 (fun _ hk => .inl hk), hB, Kept.refl _ _⟩
  ·
   have ho := Kd.own_of_R ho0; obtain ⟨hlen, ⟨_, h0⟩ | ⟨g, cap, cur, hv, hbase, hc, h1, h2, h3, h4⟩⟩ := ho
   ·
    exact absurd h0 hn
   ·
    subst hv; have hP : P0_ g := ho0.1 g rfl; have hg : g < w.heap.size := (Array.getElem?_eq_some_iff.1 hc).1; have hH := Go.holds_of_blockI (ss := l0) hc (by rw [← Nat.mul_one l0.length]; exact h4)
    have hrl : r.length = l0.length := by rw [← hr]; exact List.length_mergeSort l0
    obtain ⟨v0, v1, v2, A, c, hbx, hC⟩ := hbox_.out
    have hne : B ≠ g := fun e => by rw [e, hc] at hbx; simp at hbx
    have hle : (fun x y => !Go.Proofs.ltOf (fun x y => slices_SortStableFunc_int_int.rank us x - slices_SortStableFunc_int_int.rank us y) y x) = fun x y => decide (slices_SortStableFunc_int_int.rank us x ≤ slices_SortStableFunc_int_int.rank us y) := by
     funext x y
     simp only [Go.Proofs.ltOf]
     by_cases hxy : slices_SortStableFunc_int_int.rank us x ≤ slices_SortStableFunc_int_int.rank us y
     ·
      rw [decide_eq_true hxy, decide_eq_false (by omega)]; rfl
     ·
      rw [decide_eq_false hxy, decide_eq_true (by omega)]; rfl
    have hs := stb_of (Value.int .i64) (fun _ => rfl) (fun x y => slices_SortStableFunc_int_int.rank us x - slices_SortStableFunc_int_int.rank us y) ⟨fun x => by simp [Go.Proofs.ltOf], fun x y z a b => by simp only [Go.Proofs.ltOf, decide_eq_true_eq] at a b ⊢; omega, fun x y z a b => by simp only [Go.Proofs.ltOf, decide_eq_false_iff_not] at a b ⊢; omega⟩
     80 #[.pointer (some ⟨B, 0, none⟩)] g cap l0 w (by omega) h40 (Go.Proofs.enters_of Try.func80 (by kernel_rfl) rfl) hH hg
     (fun x hx y hy W hgr => slices_SortStableFunc_int_int.one us x y B W v0 v1 v2 A c ((hgr.block B (blk_lt hbx) (fun e => hne (Option.some.inj e))).trans hbx) (Kd.C_below hC (pw_below_grown hB (some g) hB.size hgr (fun k hk => by cases hk; exact hbase))) (hin x hx) (hin y hy) (hrk x hx) (hrk y hy))
    rw [hle, hr] at hs; refine hs.mono ?_; rintro e w' ⟨rfl, n, os, rfl⟩; have hgr := Go.grownBy_sortedI (w := w) (g := g) (n := n) (os := os) r.toArray; refine ⟨rfl, Kd.R_of_own ?_ (fun k hk => .inl (ho0.1 k hk)), pw_below_grown hB (some g) hB.size hgr (fun k hk => by cases hk; exact hbase), Kept.of_grown hgr (Kept.refl _ _) (fun k hk => by cases hk; exact .inl hP)⟩; rw [hrl]; exact Go.ownsRow_sortedI hrl hbase hc h1 h2 h3
 ·
  rw [if_neg hm] at h
  cases h

/-! ### slices_Sort_int_int: function 81, by hand -/
def slices_Sort_int_int.ren : Go.Shelf.Ren := ⟨fun | 5 => 81 | 8 => 89 | 7 => 88 | 19 => 101 | 20 => 102 | 10 => 92 | 11 => 93 | 12 => 94 | 13 => 95 | 14 => 96 | 15 => 97 | 16 => 98 | 17 => 99 | 18 => 100 | 30 => 104 | 31 => 105 | 32 => 106 | 33 => 107 | 34 => 108 | 35 => 109 | 40 => 111 | n => n, fun | 23 => 45 | 25 => 3 | 3 => 3 | 32 => 119 | 22 => 45 | 0 => 0 | 44 => 132 | 46 => 134 | 4 => 4 | 36 => 124 | 35 => 123 | 41 => 129 | 5 => 5 | 9 => 9 | 53 => 135 | 57 => 112 | 63 => 140 | 64 => 141 | n => n, fun | n => n⟩
theorem slices_Sort_int_int.lays : Go.Proofs.SlLaysM.n5 Try.prog slices_Sort_int_int.ren := {
 mixed := by kernel_rfl,
 f5 := ⟨Try.f81.name, by decide, Try.func81.trans (congrArg some (by kernel_rfl))⟩,
 f7 := ⟨Try.f88.name, by decide, Try.func88.trans (congrArg some (by kernel_rfl))⟩,
 f8 := Try.func89.trans (congrArg some (by kernel_rfl)),
 f10 := ⟨Try.f92.name, by decide, Try.func92.trans (congrArg some (by kernel_rfl))⟩,
 f11 := ⟨Try.f93.name, by decide, Try.func93.trans (congrArg some (by kernel_rfl))⟩,
 f12 := ⟨Try.f94.name, by decide, Try.func94.trans (congrArg some (by kernel_rfl))⟩,
 f13 := ⟨Try.f95.name, by decide, Try.func95.trans (congrArg some (by kernel_rfl))⟩,
 f14 := ⟨Try.f96.name, by decide, Try.func96.trans (congrArg some (by kernel_rfl))⟩,
 f15 := ⟨Try.f97.name, by decide, Try.func97.trans (congrArg some (by kernel_rfl))⟩,
 f16 := ⟨Try.f98.name, by decide, Try.func98.trans (congrArg some (by kernel_rfl))⟩,
 f17 := ⟨Try.f99.name, by decide, Try.func99.trans (congrArg some (by kernel_rfl))⟩,
 f18 := ⟨Try.f100.name, by decide, Try.func100.trans (congrArg some (by kernel_rfl))⟩,
 f19 := Try.func101.trans (congrArg some (by kernel_rfl)),
 f20 := Try.func102.trans (congrArg some (by kernel_rfl)),
 f30 := ⟨Try.f104.name, by decide, Try.func104.trans (congrArg some (by kernel_rfl))⟩,
 f31 := Try.func105.trans (congrArg some (by kernel_rfl)),
 f32 := Try.func106.trans (congrArg some (by kernel_rfl)),
 f33 := ⟨Try.f107.name, by decide, Try.func107.trans (congrArg some (by kernel_rfl))⟩,
 f34 := ⟨Try.f108.name, by decide, Try.func108.trans (congrArg some (by kernel_rfl))⟩,
 f35 := ⟨Try.f109.name, by decide, Try.func109.trans (congrArg some (by kernel_rfl))⟩,
 f40 := ⟨Try.f111.name, by decide, Try.func111.trans (congrArg some (by kernel_rfl))⟩,
 t0 := Try.underlying0,
 a0 := Try.isAgg0,
 z0 := Try.sizeOf0,
 v0 := Try.zeroValue0,
 t3 := Try.underlying3,
 a3 := Try.isAgg3,
 z3 := Try.sizeOf3,
 v3 := Try.zeroValue3,
 t4 := Try.underlying4,
 a4 := Try.isAgg4,
 z4 := Try.sizeOf4,
 v4 := Try.zeroValue4,
 t5 := Try.underlying5,
 a5 := Try.isAgg5,
 z5 := Try.sizeOf5,
 v5 := Try.zeroValue5,
 t9 := Try.underlying9,
 a9 := Try.isAgg9,
 z9 := Try.sizeOf9,
 v9 := Try.zeroValue9,
 t22 := Try.underlying45,
 a22 := Try.isAgg45,
 z22 := Try.sizeOf45,
 v22 := Try.zeroValue45,
 t23 := Try.underlying45,
 a23 := Try.isAgg45,
 z23 := Try.sizeOf45,
 v23 := Try.zeroValue45,
 t25 := Try.underlying3,
 a25 := Try.isAgg3,
 z25 := Try.sizeOf3,
 v25 := Try.zeroValue3,
 t32 := Try.underlying119,
 a32 := Try.isAgg119,
 z32 := Try.sizeOf119,
 v32 := Try.zeroValue119,
 t35 := Try.underlying123,
 a35 := Try.isAgg123,
 z35 := Try.sizeOf123,
 v35 := Try.zeroValue123,
 t36 := Try.underlying124,
 a36 := Try.isAgg124,
 z36 := Try.sizeOf124,
 v36 := Try.zeroValue124,
 t41 := Try.underlying129,
 a41 := Try.isAgg129,
 z41 := Try.sizeOf129,
 v41 := Try.zeroValue129,
 t44 := Try.underlying132,
 a44 := Try.isAgg132,
 z44 := Try.sizeOf132,
 v44 := Try.zeroValue132,
 t46 := Try.underlying134,
 a46 := Try.isAgg134,
 z46 := Try.sizeOf134,
 v46 := Try.zeroValue134,
 t53 := Try.underlying135,
 a53 := Try.isAgg135,
 z53 := Try.sizeOf135,
 v53 := Try.zeroValue135,
 t57 := Try.underlying112,
 a57 := Try.isAgg112,
 z57 := Try.sizeOf112,
 v57 := Try.zeroValue112,
 t63 := Try.underlying140,
 a63 := Try.isAgg140,
 z63 := Try.sizeOf140,
 v63 := Try.zeroValue140,
 t64 := Try.underlying141,
 a64 := Try.isAgg141,
 z64 := Try.sizeOf141,
 v64 := Try.zeroValue141 }
def slices_Sort_int_int.f (l0 : List Int) : Option (List Int) := if l0.length ≤ 1000000 then some (l0.mergeSort fun x y => decide (x ≤ y)) else none
theorem slices_Sort_int_int.calls (P0_ : Nat → Prop) (u9000_ : Value) (l0 : List Int) (r : List Int) (w0 w : World) (hB : Below w0.heap.size w0 w) (ho0 : Kd.R (Kd.int .i64) 3 w w0.heap.size P0_ u9000_ l0) (h : slices_Sort_int_int.f l0 = some r) :
  Calls Try.prog 81 #[u9000_] w fun e w' => e = .returned (.tuple #[]) ∧ Kd.R (Kd.int .i64) 3 w' w0.heap.size (fun k_ => (P0_ k_ ∨ w.heap.size ≤ k_)) u9000_ r ∧ Below w0.heap.size w0 w' ∧ Kept w w' (fun k_ => P0_ k_) := by
 unfold slices_Sort_int_int.f at h
 by_cases hm : l0.length ≤ 1000000
 ·
  rw [if_pos hm] at h; have hr := Option.some.inj h; clear h
  by_cases hn : l0.length = 0
  ·
   obtain rfl : l0 = [] := List.eq_nil_of_length_eq_zero hn
   obtain rfl : r = [] := by rw [← hr]; simp
   obtain ⟨A, c, rfl⟩ := Kd.R_slice ho0; refine (AnyM.slices_Sort_int_none slices_Sort_int_int.lays A c w).mono ?_; rintro e w' ⟨rfl, rfl⟩; exact ⟨rfl, Kd.R_mono ho0 (fun _ hk => .inl hk), hB, Kept.refl _ _⟩
  ·
   have ho := Kd.own_of_R ho0; obtain ⟨hlen, ⟨_, h0⟩ | ⟨g, cap, cur, hv, hbase, hc, h1, h2, h3, h4⟩⟩ := ho
   ·
    exact absurd h0 hn
   ·
    subst hv; have hP : P0_ g := ho0.1 g rfl; have hg : g < w.heap.size := (Array.getElem?_eq_some_iff.1 hc).1; have hH := Go.holds_of_blockI (ss := l0) hc (by rw [← Nat.mul_one l0.length]; exact h4)
    have hrl : r.length = l0.length := by rw [← hr]; exact List.length_mergeSort l0
    refine (AnyM.slices_Sort_int slices_Sort_int_int.lays g 0 cap l0 w hH hg (by omega)).mono ?_; rintro e w' ⟨rfl, n, os, rfl⟩; rw [hr]; have hgr := Go.grownBy_sortedI (w := w) (g := g) (n := n) (os := os) r.toArray; refine ⟨rfl, Kd.R_of_own ?_ (fun k hk => .inl (ho0.1 k hk)), pw_below_grown hB (some g) hB.size hgr (fun k hk => by cases hk; exact hbase), Kept.of_grown hgr (Kept.refl _ _) (fun k hk => by cases hk; exact .inl hP)⟩; rw [hrl]; exact Go.ownsRow_sortedI hrl hbase hc h1 h2 h3
 ·
  rw [if_neg hm] at h
  cases h

end Go.Proofs.Ytbbfibokedlkkaa.PFnTied
