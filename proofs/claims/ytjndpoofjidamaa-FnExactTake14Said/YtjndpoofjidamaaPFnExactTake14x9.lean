/- Walks of the functions named below, by a program of the session over the kit's printer. -/
import Derived.Test.YtjndpoofjidamaaPFnExactTake14x0
namespace Go.Proofs.Ytjndpoofjidamaa.PFnExactTake14
open Go.RowKit Go.Proofs.YtjndpoofjidamaaW.PrintWords Go.Proofs.YtjndpoofjidamaaW.PrintLast Go.Proofs.YtjndpoofjidamaaW.PrintMore
attribute [local go_sem] max2_int min2_int max_two min_two max_three min_three max_four min_four   -- for this text's walks alone
set_option linter.unusedVariables false
set_option linter.unusedSimpArgs false
abbrev A9_0 := #[O,O,O,O,O,O,O,O,O,O,O,O,O,O]
abbrev A9_1 := #[O,I,O,O,O,O,O,O,O,O,O,O,O,O]
abbrev A9_2 := #[O,I,O,O,O,I,O,O,O,O,O,O,O,O]
abbrev A9_3 := #[O,I,O,O,O,I,O,O,O,I,O,O,O,O]
abbrev A9_4 := #[O,I,I,O,O,I,O,O,O,I,O,O,O,O]
abbrev A9_5 := #[O,I,I,O,O,I,I,O,O,I,O,O,O,O]
abbrev A9_6 := #[O,I,I,O,O,I,I,O,O,I,I,O,O,O]
abbrev A9_7 := #[I,I,I,I,I,I,I,I,I,I,I,O,O,O]
abbrev A9_8 := #[I,I,I,I,I,I,I,I,O,I,I,O,O,O]
abbrev A9_9 := #[I,I,I,I,I,I,I,O,I,I,I,O,O,O]
abbrev A9_10 := #[I,I,I,I,I,I,I,O,O,I,I,O,O,O]
abbrev A9_11 := #[I,I,I,I,O,I,I,O,I,I,I,O,O,O]
abbrev A9_12 := #[I,I,I,O,I,I,I,O,I,I,I,O,O,O]
abbrev A9_13 := #[I,I,I,I,O,I,I,O,O,I,I,O,O,O]
abbrev A9_14 := #[I,I,I,O,I,I,I,O,O,I,I,O,O,O]
abbrev A9_15 := #[I,I,I,O,O,I,I,O,I,I,I,O,O,O]
abbrev A9_16 := #[O,I,I,O,I,I,I,O,I,I,I,O,O,O]
abbrev A9_17 := #[I,I,I,O,O,I,I,O,O,I,I,O,O,O]
abbrev A9_18 := #[O,I,I,O,I,I,I,O,O,I,I,O,O,O]
abbrev A9_19 := #[O,I,I,O,O,I,I,O,I,I,I,O,O,O]
abbrev A9_20 := #[I,I,I,I,I,I,I,I,I,I,I,I,O,O]
abbrev A9_21 := #[I,I,I,I,I,I,I,I,I,I,I,I,I,O]
abbrev A9_22 := #[I,I,I,I,I,I,I,I,I,I,I,I,I,I]

/-! ### spec_l14Copy: function 74 -/
def spec_l14Copy.f (l0_0 : List ByteArray) (l0_1 : List ByteArray) (l0_2 : List ByteArray) : Option (List ByteArray × List ByteArray × List ByteArray) := (some (([] : List ByteArray) : List ByteArray)).bind fun y217 => (if y217.length + l0_0.length < 8796093022208 then ((some (([] : List ByteArray) : List ByteArray)).bind fun y223 => (if y223.length + l0_1.length < 8796093022208 then ((some (([] : List ByteArray) : List ByteArray)).bind fun y229 => (if y229.length + l0_2.length < 8796093022208 then (some ((y217 ++ l0_0), (y223 ++ l0_1), (y229 ++ l0_2))) else (none))) else (none))) else (none))
def spec_l14Copy.T1 : Bool × List (List Nat × List Nat) := (true, [([], []), ([], []), ([1], [1]), ([0, 2], [0, 2]), ([], []), ([], []), ([5], [5]), ([4, 6, 3], [4, 6]), ([], []), ([], []), ([9], [9]), ([8, 10, 7], [8, 10]), ([3, 7, 11], [3, 7, 11]), ([12, 11, 0, 1, 2, 3, 4, 5, 6, 7, 8, 9, 10, 11, 12], [12])])
def spec_l14Copy.B1 : List Nat := [0, 0, 2, 7, 0, 0, 32, 127, 0, 0, 512, 2047, 4095, 8191]
theorem spec_l14Copy.tab1 : rtab .any (opsOf Try.f74 1) = spec_l14Copy.T1 := by kernel_rfl
theorem spec_l14Copy.bits1 : waitsOk spec_l14Copy.T1.2 spec_l14Copy.B1 = true := by kernel_rfl
set_option maxHeartbeats 8000000 in
set_option maxRecDepth 100000 in
theorem spec_l14Copy.calls (A0_0 : Option Addr) (c0_0 : Nat) (l0_0 : List ByteArray) (A0_1 : Option Addr) (c0_1 : Nat) (l0_1 : List ByteArray) (A0_2 : Option Addr) (c0_2 : Nat) (l0_2 : List ByteArray) (r1 : List ByteArray) (r2 : List ByteArray) (r3 : List ByteArray) (w : World) (hr0_0 : Kd.C Kd.string w A0_0 l0_0.length l0_0) (hc0_0 : l0_0.length ≤ c0_0) (hr0_1 : Kd.C Kd.string w A0_1 l0_1.length l0_1) (hc0_1 : l0_1.length ≤ c0_1) (hr0_2 : Kd.C Kd.string w A0_2 l0_2.length l0_2) (hc0_2 : l0_2.length ≤ c0_2) (h : spec_l14Copy.f l0_0 l0_1 l0_2 = some (r1, r2, r3)) :
  Calls Try.prog 74 #[.agg #[.slice A0_0 l0_0.length c0_0, .slice A0_1 l0_1.length c0_1, .slice A0_2 l0_2.length c0_2]] w fun e w' => ∃ v0_ v1_ v2_ : Value, e = .returned (.agg #[v0_, v1_, v2_]) ∧ Kd.R Kd.string 9 w' w.heap.size (fun k_ => Nb (v1_) k_ ∧ Nb (v2_) k_) v0_ r1 ∧ Kd.R Kd.string 9 w' w.heap.size (fun k_ => Nb (v0_) k_ ∧ Nb (v2_) k_) v1_ r2 ∧ Kd.R Kd.string 9 w' w.heap.size (fun k_ => Nb (v0_) k_ ∧ Nb (v1_) k_) v2_ r3 ∧ Below w.heap.size w w' := by
 have hu47 := Try.underlying47; have HR0_0 := Az hr0_0; have HC0_0 := Az hc0_0; clear hr0_0 hc0_0; have HR0_1 := Az hr0_1; have HC0_1 := Az hc0_1; clear hr0_1 hc0_1; have HR0_2 := Az hr0_2; have HC0_2 := Az hc0_2; clear hr0_2 hc0_2; have HB := Az (Below.refl w.heap.size w); have H : ((some (([] : List ByteArray) : List ByteArray)).bind fun y217 => (if y217.length + l0_0.length < 8796093022208 then ((some (([] : List ByteArray) : List ByteArray)).bind fun y223 => (if y223.length + l0_1.length < 8796093022208 then ((some (([] : List ByteArray) : List ByteArray)).bind fun y229 => (if y229.length + l0_2.length < 8796093022208 then (some ((y217 ++ l0_0), (y223 ++ l0_1), (y229 ++ l0_2))) else (none))) else (none))) else (none))) = some (r1, r2, r3) := h; clear h; obtain ⟨y217, hy217⟩ : ∃ y_ : List ByteArray, y_ = (([] : List ByteArray)) := ⟨_, rfl⟩
 replace H : (if y217.length + l0_0.length < 8796093022208 then ((some (([] : List ByteArray) : List ByteArray)).bind fun y223 => (if y223.length + l0_1.length < 8796093022208 then ((some (([] : List ByteArray) : List ByteArray)).bind fun y229 => (if y229.length + l0_2.length < 8796093022208 then (some ((y217 ++ l0_0), (y223 ++ l0_1), (y229 ++ l0_2))) else (none))) else (none))) else (none)) = some (r1, r2, r3) := by have hy_ := hy217; exact yz
 have Ny217 := Az hy217; clear hy217
 by_cases c2 : y217.length + l0_0.length < 8796093022208
 ·
  rw [if_pos c2] at H; have LMc2 := Az c2; clear c2; obtain ⟨y220, hy220⟩ : ∃ y_ : List ByteArray, y_ = (y217 ++ l0_0) := ⟨_, rfl⟩
  replace H : ((some (([] : List ByteArray) : List ByteArray)).bind fun y223 => (if y223.length + l0_1.length < 8796093022208 then ((some (([] : List ByteArray) : List ByteArray)).bind fun y229 => (if y229.length + l0_2.length < 8796093022208 then (some (y220, (y223 ++ l0_1), (y229 ++ l0_2))) else (none))) else (none))) = some (r1, r2, r3) := by have hy_ := hy220; exact yz
  have Ny220 := Az hy220; clear hy220; obtain ⟨y223, hy223⟩ : ∃ y_ : List ByteArray, y_ = (([] : List ByteArray)) := ⟨_, rfl⟩
  replace H : (if y223.length + l0_1.length < 8796093022208 then ((some (([] : List ByteArray) : List ByteArray)).bind fun y229 => (if y229.length + l0_2.length < 8796093022208 then (some (y220, (y223 ++ l0_1), (y229 ++ l0_2))) else (none))) else (none)) = some (r1, r2, r3) := by have hy_ := hy223; exact yz
  have Ny223 := Az hy223; clear hy223
  by_cases c3 : y223.length + l0_1.length < 8796093022208
  ·
   rw [if_pos c3] at H; have LMc3 := Az c3; clear c3; obtain ⟨y226, hy226⟩ : ∃ y_ : List ByteArray, y_ = (y223 ++ l0_1) := ⟨_, rfl⟩
   replace H : ((some (([] : List ByteArray) : List ByteArray)).bind fun y229 => (if y229.length + l0_2.length < 8796093022208 then (some (y220, y226, (y229 ++ l0_2))) else (none))) = some (r1, r2, r3) := by have hy_ := hy226; exact yz
   have Ny226 := Az hy226; clear hy226; obtain ⟨y229, hy229⟩ : ∃ y_ : List ByteArray, y_ = (([] : List ByteArray)) := ⟨_, rfl⟩
   replace H : (if y229.length + l0_2.length < 8796093022208 then (some (y220, y226, (y229 ++ l0_2))) else (none)) = some (r1, r2, r3) := by have hy_ := hy229; exact yz
   have Ny229 := Az hy229; clear hy229
   by_cases c4 : y229.length + l0_2.length < 8796093022208
   ·
    rw [if_pos c4] at H; have LMc4 := Az c4; clear c4; obtain ⟨y232, hy232⟩ : ∃ y_ : List ByteArray, y_ = (y229 ++ l0_2) := ⟨_, rfl⟩
    replace H : (some (y220, y226, y232)) = some (r1, r2, r3) := by have hy_ := hy232; exact yz
    have Ny232 := Az hy232; clear hy232; simp only [Option.some.injEq, Prod.mk.injEq] at H; obtain ⟨rfl, rfl, rfl⟩ := H
    go_enter Try.func74, Try.ntmps74
    try go_wp2_with (first | ((with_reducible refine gate_dst (N := 1) rfl ?_); refine box_event ?hg (N := 1) ?hd (cs := #[.slice A0_0 l0_0.length c0_0, .slice A0_1 l0_1.length c0_1, .slice A0_2 l0_2.length c0_2]) (t := 47) ?hr ?_; (case hd => rfl); (case hg => rfl); (case hr => first | (go_simp; done) | (go_simp; rfl)); intro gb215 hg w5 hbox hb; have BK215 := Az (hbox); have GW215 := Az ((by rw [hg]; exact (below_size bz) : w.heap.size ≤ gb215)); replace HB := Az (below_step bz hb); have GE215 := GW215; clear hb hbox hg) | ((with_reducible refine gate_dst (N := 2) rfl ?_); refine box_event ?hg (N := 2) ?hd (cs := #[.slice none 0 0, .slice none 0 0, .slice none 0 0]) (t := 47) ?hr ?_; (case hd => rfl); (case hg => rfl); (case hr => first | (go_simp; done) | (go_simp; rfl)); intro gb216 hg w6 hbox hb; have n0_ := Az (blk_below (bu BK215.out) hb); have n1_ := Az (below_step bz hb); have n2_ := Az (hbox); have n3_ := Az ((by rw [hg]; exact (below_size bz) : w.heap.size ≤ gb216)); have n4_ := n3_; have n5_ := Az ((by rw [hg]; exact Nat.ne_of_lt (blk_lt (g := gb215) (o := .cells #[.slice A0_0 l0_0.length c0_0, .slice A0_1 l0_1.length c0_1, .slice A0_2 l0_2.length c0_2] 47 (0, 0)) (bu BK215.out)) : gb215 ≠ gb216)); have n6_ := Az n5_.out.symm; clear BK215; clear HB; have BK215 := n0_; have HB := n1_; have BK216 := n2_; have GW216 := n3_; have GE216 := n4_; have NB215_216 := n5_; have NB216_215 := n6_; clear n0_ n1_ n2_ n3_ n4_ n5_ n6_; clear hb hbox hg))
    replace BK215 := Az (blk_drew BK215.out); replace BK216 := Az (blk_drew BK216.out); replace HB := Az (below_drew1 HB.out); refine start_ (n := 14) (S := fun w' => w'.cell? ⟨gb215, 0, none⟩ = some (.slice A0_0 l0_0.length c0_0) ∧ w'.cell? ⟨gb215, 1, none⟩ = some (.slice A0_1 l0_1.length c0_1) ∧ w'.cell? ⟨gb215, 2, none⟩ = some (.slice A0_2 l0_2.length c0_2)) (ds := []) A9_0 (by kernel_rfl) rfl rfl (bc3 BK215.out) (fun hHeld => ?_); refine with_tabW spec_l14Copy.tab1 spec_l14Copy.bits1 (fun HT_ HW_ => ?_); generalize w6.drew = w7 at BK215 BK216 HB hHeld ⊢; refine pz 1 4 A9_1 HT_.out ?_; refine pz 5 8 A9_2 HT_.out ?_; refine pz 9 12 A9_3 HT_.out ?_; refine tz 2 5 A9_4 HT_.out HW_.out hHeld ?_
    refine tz 6 9 A9_5 HT_.out HW_.out hHeld ?_
    refine tz 10 13 A9_6 HT_.out HW_.out hHeld ?_
    refine join_ (σ := Value × Value × Value × Value × Value) 3 A9_7 (fun s_ => [(3, s_.1), (6, s_.2.1), (7, s_.2.2.1), (10, s_.2.2.2.1), (11, s_.2.2.2.2)]) (fun s_ w' => (w'.cell? ⟨gb215, 0, none⟩ = some (.slice A0_0 l0_0.length c0_0) ∧ w'.cell? ⟨gb215, 1, none⟩ = some (.slice A0_1 l0_1.length c0_1) ∧ w'.cell? ⟨gb215, 2, none⟩ = some (.slice A0_2 l0_2.length c0_2)) ∧ (Kd.R Kd.string 9 w' w.heap.size (fun k_ => Nb (s_.2.2.2.1) k_ ∧ Nb (s_.2.2.2.2) k_) s_.2.1 y220) ∧ (Kd.R Kd.string 9 w' w.heap.size (fun k_ => Nb (s_.2.1) k_ ∧ Nb (s_.2.2.2.2) k_) s_.2.2.2.1 y226) ∧ (Kd.R Kd.string 9 w' w.heap.size (fun k_ => Nb (s_.2.1) k_ ∧ Nb (s_.2.2.2.1) k_) s_.2.2.2.2 y229) ∧ (w'.heap[gb215]? = some (.cells #[.slice A0_0 l0_0.length c0_0, .slice A0_1 l0_1.length c0_1, .slice A0_2 l0_2.length c0_2] 47 (0, 0))) ∧ (w'.heap[gb216]? = some (.cells #[.slice none 0 0, .slice none 0 0, .slice none 0 0] 47 (0, 0))) ∧ (Below w.heap.size w w')) ?_ ?_; rotate_left
    ·
     intro hJ0_3_4_7_8; refine join_ (σ := Value × Value × Value × Value) 4 A9_8 (fun s_ => [(3, s_.1), (6, s_.2.1), (7, s_.2.2.1), (10, s_.2.2.2)]) (fun s_ w' => (w'.cell? ⟨gb215, 0, none⟩ = some (.slice A0_0 l0_0.length c0_0) ∧ w'.cell? ⟨gb215, 1, none⟩ = some (.slice A0_1 l0_1.length c0_1) ∧ w'.cell? ⟨gb215, 2, none⟩ = some (.slice A0_2 l0_2.length c0_2)) ∧ (Kd.R Kd.string 9 w' w.heap.size (fun k_ => Nb (s_.2.2.2) k_) s_.2.1 y220) ∧ (Kd.R Kd.string 9 w' w.heap.size (fun k_ => Nb (s_.2.1) k_) s_.2.2.2 y226) ∧ (w'.heap[gb215]? = some (.cells #[.slice A0_0 l0_0.length c0_0, .slice A0_1 l0_1.length c0_1, .slice A0_2 l0_2.length c0_2] 47 (0, 0))) ∧ (w'.heap[gb216]? = some (.cells #[.slice none 0 0, .slice none 0 0, .slice none 0 0] 47 (0, 0))) ∧ (Below w.heap.size w w')) ?_ ?_; rotate_left
     ·
      intro hJ0_3_4_7; refine join_ (σ := Value × Value × Value × Value) 4 A9_9 (fun s_ => [(3, s_.1), (6, s_.2.1), (7, s_.2.2.1), (11, s_.2.2.2)]) (fun s_ w' => (w'.cell? ⟨gb215, 0, none⟩ = some (.slice A0_0 l0_0.length c0_0) ∧ w'.cell? ⟨gb215, 1, none⟩ = some (.slice A0_1 l0_1.length c0_1) ∧ w'.cell? ⟨gb215, 2, none⟩ = some (.slice A0_2 l0_2.length c0_2)) ∧ (Kd.R Kd.string 9 w' w.heap.size (fun k_ => Nb (s_.2.2.1) k_ ∧ Nb (s_.2.2.2) k_) s_.2.1 y220) ∧ (Kd.R Kd.string 9 w' w.heap.size (fun k_ => Nb (s_.2.1) k_ ∧ Nb (s_.2.2.2) k_) s_.2.2.1 y223) ∧ (Kd.R Kd.string 9 w' w.heap.size (fun k_ => Nb (s_.2.1) k_ ∧ Nb (s_.2.2.1) k_) s_.2.2.2 y229) ∧ (w'.heap[gb215]? = some (.cells #[.slice A0_0 l0_0.length c0_0, .slice A0_1 l0_1.length c0_1, .slice A0_2 l0_2.length c0_2] 47 (0, 0))) ∧ (w'.heap[gb216]? = some (.cells #[.slice none 0 0, .slice none 0 0, .slice none 0 0] 47 (0, 0))) ∧ (Below w.heap.size w w')) ?_ ?_; rotate_left
      ·
       intro hJ0_3_4_8; refine join_ (σ := Value × Value × Value) 5 A9_10 (fun s_ => [(3, s_.1), (6, s_.2.1), (7, s_.2.2)]) (fun s_ w' => (w'.cell? ⟨gb215, 0, none⟩ = some (.slice A0_0 l0_0.length c0_0) ∧ w'.cell? ⟨gb215, 1, none⟩ = some (.slice A0_1 l0_1.length c0_1) ∧ w'.cell? ⟨gb215, 2, none⟩ = some (.slice A0_2 l0_2.length c0_2)) ∧ (Kd.R Kd.string 9 w' w.heap.size (fun k_ => Nb (s_.2.2) k_) s_.2.1 y220) ∧ (Kd.R Kd.string 9 w' w.heap.size (fun k_ => Nb (s_.2.1) k_) s_.2.2 y223) ∧ (w'.heap[gb215]? = some (.cells #[.slice A0_0 l0_0.length c0_0, .slice A0_1 l0_1.length c0_1, .slice A0_2 l0_2.length c0_2] 47 (0, 0))) ∧ (w'.heap[gb216]? = some (.cells #[.slice none 0 0, .slice none 0 0, .slice none 0 0] 47 (0, 0))) ∧ (Below w.heap.size w w')) ?_ ?_; rotate_left
       ·
        intro hJ0_3_4; refine join_ (σ := Value × Value × Value) 5 A9_11 (fun s_ => [(3, s_.1), (6, s_.2.1), (11, s_.2.2)]) (fun s_ w' => (w'.cell? ⟨gb215, 0, none⟩ = some (.slice A0_0 l0_0.length c0_0) ∧ w'.cell? ⟨gb215, 1, none⟩ = some (.slice A0_1 l0_1.length c0_1) ∧ w'.cell? ⟨gb215, 2, none⟩ = some (.slice A0_2 l0_2.length c0_2)) ∧ (Kd.R Kd.string 9 w' w.heap.size (fun k_ => Nb (s_.2.2) k_) s_.2.1 y220) ∧ (Kd.R Kd.string 9 w' w.heap.size (fun k_ => Nb (s_.2.1) k_) s_.2.2 y229) ∧ (w'.heap[gb215]? = some (.cells #[.slice A0_0 l0_0.length c0_0, .slice A0_1 l0_1.length c0_1, .slice A0_2 l0_2.length c0_2] 47 (0, 0))) ∧ (w'.heap[gb216]? = some (.cells #[.slice none 0 0, .slice none 0 0, .slice none 0 0] 47 (0, 0))) ∧ (Below w.heap.size w w')) ?_ ?_; rotate_left
        ·
         intro hJ0_3_8; refine join_ (σ := Value × Value × Value) 5 A9_12 (fun s_ => [(3, s_.1), (7, s_.2.1), (11, s_.2.2)]) (fun s_ w' => (w'.cell? ⟨gb215, 0, none⟩ = some (.slice A0_0 l0_0.length c0_0) ∧ w'.cell? ⟨gb215, 1, none⟩ = some (.slice A0_1 l0_1.length c0_1) ∧ w'.cell? ⟨gb215, 2, none⟩ = some (.slice A0_2 l0_2.length c0_2)) ∧ (Kd.R Kd.string 9 w' w.heap.size (fun k_ => Nb (s_.2.1) k_ ∧ Nb (s_.2.2) k_) s_.1 y217) ∧ (Kd.R Kd.string 9 w' w.heap.size (fun k_ => Nb (s_.1) k_ ∧ Nb (s_.2.2) k_) s_.2.1 y223) ∧ (Kd.R Kd.string 9 w' w.heap.size (fun k_ => Nb (s_.1) k_ ∧ Nb (s_.2.1) k_) s_.2.2 y229) ∧ (w'.heap[gb215]? = some (.cells #[.slice A0_0 l0_0.length c0_0, .slice A0_1 l0_1.length c0_1, .slice A0_2 l0_2.length c0_2] 47 (0, 0))) ∧ (w'.heap[gb216]? = some (.cells #[.slice none 0 0, .slice none 0 0, .slice none 0 0] 47 (0, 0))) ∧ (Below w.heap.size w w')) ?_ ?_; rotate_left
         ·
          intro hJ0_4_8; refine join_ (σ := Value × Value) 6 A9_13 (fun s_ => [(3, s_.1), (6, s_.2)]) (fun s_ w' => (w'.cell? ⟨gb215, 0, none⟩ = some (.slice A0_0 l0_0.length c0_0) ∧ w'.cell? ⟨gb215, 1, none⟩ = some (.slice A0_1 l0_1.length c0_1) ∧ w'.cell? ⟨gb215, 2, none⟩ = some (.slice A0_2 l0_2.length c0_2)) ∧ (Kd.R Kd.string 9 w' w.heap.size (fun _ => True) s_.2 y220) ∧ (w'.heap[gb215]? = some (.cells #[.slice A0_0 l0_0.length c0_0, .slice A0_1 l0_1.length c0_1, .slice A0_2 l0_2.length c0_2] 47 (0, 0))) ∧ (w'.heap[gb216]? = some (.cells #[.slice none 0 0, .slice none 0 0, .slice none 0 0] 47 (0, 0))) ∧ (Below w.heap.size w w')) ?_ ?_; rotate_left
          ·
           intro hJ0_3; refine join_ (σ := Value × Value) 6 A9_14 (fun s_ => [(3, s_.1), (7, s_.2)]) (fun s_ w' => (w'.cell? ⟨gb215, 0, none⟩ = some (.slice A0_0 l0_0.length c0_0) ∧ w'.cell? ⟨gb215, 1, none⟩ = some (.slice A0_1 l0_1.length c0_1) ∧ w'.cell? ⟨gb215, 2, none⟩ = some (.slice A0_2 l0_2.length c0_2)) ∧ (Kd.R Kd.string 9 w' w.heap.size (fun k_ => Nb (s_.2) k_) s_.1 y217) ∧ (Kd.R Kd.string 9 w' w.heap.size (fun k_ => Nb (s_.1) k_) s_.2 y223) ∧ (w'.heap[gb215]? = some (.cells #[.slice A0_0 l0_0.length c0_0, .slice A0_1 l0_1.length c0_1, .slice A0_2 l0_2.length c0_2] 47 (0, 0))) ∧ (w'.heap[gb216]? = some (.cells #[.slice none 0 0, .slice none 0 0, .slice none 0 0] 47 (0, 0))) ∧ (Below w.heap.size w w')) ?_ ?_; rotate_left
           ·
            intro hJ0_4; refine join_ (σ := Value × Value) 6 A9_15 (fun s_ => [(3, s_.1), (11, s_.2)]) (fun s_ w' => (w'.cell? ⟨gb215, 0, none⟩ = some (.slice A0_0 l0_0.length c0_0) ∧ w'.cell? ⟨gb215, 1, none⟩ = some (.slice A0_1 l0_1.length c0_1) ∧ w'.cell? ⟨gb215, 2, none⟩ = some (.slice A0_2 l0_2.length c0_2)) ∧ (Kd.R Kd.string 9 w' w.heap.size (fun k_ => Nb (s_.2) k_) s_.1 y217) ∧ (Kd.R Kd.string 9 w' w.heap.size (fun k_ => Nb (s_.1) k_) s_.2 y229) ∧ (w'.heap[gb215]? = some (.cells #[.slice A0_0 l0_0.length c0_0, .slice A0_1 l0_1.length c0_1, .slice A0_2 l0_2.length c0_2] 47 (0, 0))) ∧ (w'.heap[gb216]? = some (.cells #[.slice none 0 0, .slice none 0 0, .slice none 0 0] 47 (0, 0))) ∧ (Below w.heap.size w w')) ?_ ?_; rotate_left
            ·
             intro hJ0_8; refine join_ (σ := Value × Value) 6 A9_16 (fun s_ => [(7, s_.1), (11, s_.2)]) (fun s_ w' => (w'.cell? ⟨gb215, 0, none⟩ = some (.slice A0_0 l0_0.length c0_0) ∧ w'.cell? ⟨gb215, 1, none⟩ = some (.slice A0_1 l0_1.length c0_1) ∧ w'.cell? ⟨gb215, 2, none⟩ = some (.slice A0_2 l0_2.length c0_2)) ∧ (Kd.R Kd.string 9 w' w.heap.size (fun k_ => Nb (s_.2) k_) s_.1 y223) ∧ (Kd.R Kd.string 9 w' w.heap.size (fun k_ => Nb (s_.1) k_) s_.2 y229) ∧ (w'.heap[gb215]? = some (.cells #[.slice A0_0 l0_0.length c0_0, .slice A0_1 l0_1.length c0_1, .slice A0_2 l0_2.length c0_2] 47 (0, 0))) ∧ (w'.heap[gb216]? = some (.cells #[.slice none 0 0, .slice none 0 0, .slice none 0 0] 47 (0, 0))) ∧ (Below w.heap.size w w')) ?_ ?_; rotate_left
             ·
              intro hJ4_8; refine join_ (σ := Value) 7 A9_17 (fun s_ => [(3, s_)]) (fun s_ w' => (w'.cell? ⟨gb215, 0, none⟩ = some (.slice A0_0 l0_0.length c0_0) ∧ w'.cell? ⟨gb215, 1, none⟩ = some (.slice A0_1 l0_1.length c0_1) ∧ w'.cell? ⟨gb215, 2, none⟩ = some (.slice A0_2 l0_2.length c0_2)) ∧ (Kd.R Kd.string 9 w' w.heap.size (fun _ => True) s_ y217) ∧ (w'.heap[gb215]? = some (.cells #[.slice A0_0 l0_0.length c0_0, .slice A0_1 l0_1.length c0_1, .slice A0_2 l0_2.length c0_2] 47 (0, 0))) ∧ (w'.heap[gb216]? = some (.cells #[.slice none 0 0, .slice none 0 0, .slice none 0 0] 47 (0, 0))) ∧ (Below w.heap.size w w')) ?_ ?_; rotate_left
              ·
               intro hJ0; refine join_ (σ := Value) 7 A9_18 (fun s_ => [(7, s_)]) (fun s_ w' => (w'.cell? ⟨gb215, 0, none⟩ = some (.slice A0_0 l0_0.length c0_0) ∧ w'.cell? ⟨gb215, 1, none⟩ = some (.slice A0_1 l0_1.length c0_1) ∧ w'.cell? ⟨gb215, 2, none⟩ = some (.slice A0_2 l0_2.length c0_2)) ∧ (Kd.R Kd.string 9 w' w.heap.size (fun _ => True) s_ y223) ∧ (w'.heap[gb215]? = some (.cells #[.slice A0_0 l0_0.length c0_0, .slice A0_1 l0_1.length c0_1, .slice A0_2 l0_2.length c0_2] 47 (0, 0))) ∧ (w'.heap[gb216]? = some (.cells #[.slice none 0 0, .slice none 0 0, .slice none 0 0] 47 (0, 0))) ∧ (Below w.heap.size w w')) ?_ ?_; rotate_left
               ·
                intro hJ4; refine join_ (σ := Value) 7 A9_19 (fun s_ => [(11, s_)]) (fun s_ w' => (w'.cell? ⟨gb215, 0, none⟩ = some (.slice A0_0 l0_0.length c0_0) ∧ w'.cell? ⟨gb215, 1, none⟩ = some (.slice A0_1 l0_1.length c0_1) ∧ w'.cell? ⟨gb215, 2, none⟩ = some (.slice A0_2 l0_2.length c0_2)) ∧ (Kd.R Kd.string 9 w' w.heap.size (fun _ => True) s_ y229) ∧ (w'.heap[gb215]? = some (.cells #[.slice A0_0 l0_0.length c0_0, .slice A0_1 l0_1.length c0_1, .slice A0_2 l0_2.length c0_2] 47 (0, 0))) ∧ (w'.heap[gb216]? = some (.cells #[.slice none 0 0, .slice none 0 0, .slice none 0 0] 47 (0, 0))) ∧ (Below w.heap.size w w')) ?_ ?_; rotate_left
                ·
                 intro hJ8; refine three_ (i := 0) (j := 4) (k := 8) (Ni := some 3) (Nj := some 7) (Nk := some 11) A9_17 A9_18 A9_19 rfl rfl rfl rfl rfl rfl (three_of HT_.out (by kernel_rfl)) (by decide) (by decide) (by decide) (fun K hK => ?_) (fun K hK => ?_) (fun K hK => ?_)
                 ·
                  refine Kd.R_lit_step Kd.string _ 9 ?hg (N := 3) ?hd (xs := ([] : List ByteArray)) (inner := []) (ok := fun _ => True) (okp := fun _ => True) ?hr ?hp (fun _ hk => hk) trivial (Below.refl _ _) (Nat.le_refl _) (by simp) ?_; (case hd => rfl); (case hg => rfl); (case hr => first | (go_simp; done) | (go_simp; rfl)); (case hp => exact (Reps.none _ _)); intro v218 w8 ho9 hb hg_ hnew_; clear hg_ hnew_
                  (first | rw [← Ny217.out] at ho9 | (simp only [Int.reduceToNat] at ho9; rw [← Ny217.out] at ho9))
                  have HO219 := Az (Kd.R_lower ho9 (below_size bz)); replace BK215 := Az (blk_below (bu BK215.out) hb); replace BK216 := Az (blk_below (bu BK216.out) hb); replace HB := Az (below_step bz hb); clear hb ho9; refine hK.out _ _ (bc3 BK215.out) (fun hHeld => ?_); clear hK K; refine norm_ (a' := ?_) ?_ ?_; rotate_left
                  ·
                   show Act.put _ (some 3) _ = _
                   simp only [Act.put, sA, sB, sC, i64_w, i32_w]
                   rfl
                  exact norm_ (by first | (simp only [putAll, Act.put, sA, sB, sC]; done) | (simp only [putAll, Act.put, sA, sB, sC]; rfl)) (hJ0 (v218) _ ⟨hHeld, (ru HO219.out), (bu BK215.out), (bu BK216.out), bz⟩)
                 ·
                  refine Kd.R_lit_step Kd.string _ 9 ?hg (N := 7) ?hd (xs := ([] : List ByteArray)) (inner := []) (ok := fun _ => True) (okp := fun _ => True) ?hr ?hp (fun _ hk => hk) trivial (Below.refl _ _) (Nat.le_refl _) (by simp) ?_; (case hd => rfl); (case hg => rfl); (case hr => first | (go_simp; done) | (go_simp; rfl)); (case hp => exact (Reps.none _ _)); intro v224 w8 ho9 hb hg_ hnew_; clear hg_ hnew_
                  (first | rw [← Ny223.out] at ho9 | (simp only [Int.reduceToNat] at ho9; rw [← Ny223.out] at ho9))
                  have HO225 := Az (Kd.R_lower ho9 (below_size bz)); replace BK215 := Az (blk_below (bu BK215.out) hb); replace BK216 := Az (blk_below (bu BK216.out) hb); replace HB := Az (below_step bz hb); clear hb ho9; refine hK.out _ _ (bc3 BK215.out) (fun hHeld => ?_); clear hK K; refine norm_ (a' := ?_) ?_ ?_; rotate_left
                  ·
                   show Act.put _ (some 7) _ = _
                   simp only [Act.put, sA, sB, sC, i64_w, i32_w]
                   rfl
                  exact norm_ (by first | (simp only [putAll, Act.put, sA, sB, sC]; done) | (simp only [putAll, Act.put, sA, sB, sC]; rfl)) (hJ4 (v224) _ ⟨hHeld, (ru HO225.out), (bu BK215.out), (bu BK216.out), bz⟩)
                 ·
                  refine Kd.R_lit_step Kd.string _ 9 ?hg (N := 11) ?hd (xs := ([] : List ByteArray)) (inner := []) (ok := fun _ => True) (okp := fun _ => True) ?hr ?hp (fun _ hk => hk) trivial (Below.refl _ _) (Nat.le_refl _) (by simp) ?_; (case hd => rfl); (case hg => rfl); (case hr => first | (go_simp; done) | (go_simp; rfl)); (case hp => exact (Reps.none _ _)); intro v230 w8 ho9 hb hg_ hnew_; clear hg_ hnew_
                  (first | rw [← Ny229.out] at ho9 | (simp only [Int.reduceToNat] at ho9; rw [← Ny229.out] at ho9))
                  have HO231 := Az (Kd.R_lower ho9 (below_size bz)); replace BK215 := Az (blk_below (bu BK215.out) hb); replace BK216 := Az (blk_below (bu BK216.out) hb); replace HB := Az (below_step bz hb); clear hb ho9; refine hK.out _ _ (bc3 BK215.out) (fun hHeld => ?_); clear hK K; refine norm_ (a' := ?_) ?_ ?_; rotate_left
                  ·
                   show Act.put _ (some 11) _ = _
                   simp only [Act.put, sA, sB, sC, i64_w, i32_w]
                   rfl
                  exact norm_ (by first | (simp only [putAll, Act.put, sA, sB, sC]; done) | (simp only [putAll, Act.put, sA, sB, sC]; rfl)) (hJ8 (v230) _ ⟨hHeld, (ru HO231.out), (bu BK215.out), (bu BK216.out), bz⟩)
                ·
                 rintro v230 w10 ⟨hS_, h0_, h1_, h2_, h3_⟩; have n0_ : Aside0 (Kd.R Kd.string 9 w10 w.heap.size (fun _ => True) v230 y229) := ⟨h0_⟩; have n1_ : Aside0 (w10.heap[gb215]? = some (.cells #[.slice A0_0 l0_0.length c0_0, .slice A0_1 l0_1.length c0_1, .slice A0_2 l0_2.length c0_2] 47 (0, 0))) := ⟨h1_⟩; have n2_ : Aside0 (w10.heap[gb216]? = some (.cells #[.slice none 0 0, .slice none 0 0, .slice none 0 0] 47 (0, 0))) := ⟨h2_⟩; have n3_ : Aside0 (Below w.heap.size w w10) := ⟨h3_⟩; clear BK215; clear BK216; clear HB; clear h0_ h1_ h2_ h3_; have HO231 := n0_; have BK215 := n1_; have BK216 := n2_; have HB := n3_; clear n0_ n1_ n2_ n3_; have hHeld : w10.cell? ⟨gb215, 0, none⟩ = some (.slice A0_0 l0_0.length c0_0) ∧ w10.cell? ⟨gb215, 1, none⟩ = some (.slice A0_1 l0_1.length c0_1) ∧ w10.cell? ⟨gb215, 2, none⟩ = some (.slice A0_2 l0_2.length c0_2) := hS_; refine norm_ (a' := ?_) ?_ ?_; rotate_left
                 ·
                  simp only [putAll, Act.put, sA, sB, sC]
                  rfl
                 refine two_ (i := 0) (j := 4) (Ni := some 3) (Nj := some 7) A9_15 A9_16 rfl rfl rfl rfl (two_of HT_.out (by kernel_rfl)) (by decide) (by decide) (fun K hK => ?_) (fun K hK => ?_)
                 ·
                  refine Kd.R_lit_step Kd.string _ 9 ?hg (N := 3) ?hd (xs := ([] : List ByteArray)) (inner := []) (ok := fun _ => True) (okp := fun _ => True) ?hr ?hp (fun _ hk => hk) trivial (Below.refl _ _) (Nat.le_refl _) (by simp) ?_; (case hd => rfl); (case hg => rfl); (case hr => first | (go_simp; done) | (go_simp; rfl)); (case hp => exact (Reps.none _ _)); intro v218 w11 ho12 hb hg_ hnew_; clear hg_ hnew_
                  (first | rw [← Ny217.out] at ho12 | (simp only [Int.reduceToNat] at ho12; rw [← Ny217.out] at ho12))
                  have HO219 := Az (Kd.R_lower (rn ho12 HO231) (below_size bz)); replace HO231 := Az (Kd.R_elder' (ru HO231.out) (Kd.R_base ho12) hb); replace BK215 := Az (blk_below (bu BK215.out) hb); replace BK216 := Az (blk_below (bu BK216.out) hb); replace HB := Az (below_step bz hb); clear hb ho12; refine hK.out _ _ (bc3 BK215.out) (fun hHeld => ?_); clear hK K; refine norm_ (a' := ?_) ?_ ?_; rotate_left
                  ·
                   show Act.put _ (some 3) _ = _
                   simp only [Act.put, sA, sB, sC, i64_w, i32_w]
                   rfl
                  exact norm_ (by first | (simp only [putAll, Act.put, sA, sB, sC]; done) | (simp only [putAll, Act.put, sA, sB, sC]; rfl)) (hJ0_8 (v218, v230) _ ⟨hHeld, (by (with_reducible repeat (first | apply Kd.R_alloc | apply Kd.R_drewN | apply Kd.R_drew)); exact Kd.R_mono HO219.out (fun _ hk => hk.2)), (by (with_reducible repeat (first | apply Kd.R_alloc | apply Kd.R_drewN | apply Kd.R_drew)); exact Kd.R_mono HO231.out (fun _ hk => hk.2)), (bu BK215.out), (bu BK216.out), bz⟩)
                 ·
                  refine Kd.R_lit_step Kd.string _ 9 ?hg (N := 7) ?hd (xs := ([] : List ByteArray)) (inner := []) (ok := fun _ => True) (okp := fun _ => True) ?hr ?hp (fun _ hk => hk) trivial (Below.refl _ _) (Nat.le_refl _) (by simp) ?_; (case hd => rfl); (case hg => rfl); (case hr => first | (go_simp; done) | (go_simp; rfl)); (case hp => exact (Reps.none _ _)); intro v224 w11 ho12 hb hg_ hnew_; clear hg_ hnew_
                  (first | rw [← Ny223.out] at ho12 | (simp only [Int.reduceToNat] at ho12; rw [← Ny223.out] at ho12))
                  have HO225 := Az (Kd.R_lower (rn ho12 HO231) (below_size bz)); replace HO231 := Az (Kd.R_elder' (ru HO231.out) (Kd.R_base ho12) hb); replace BK215 := Az (blk_below (bu BK215.out) hb); replace BK216 := Az (blk_below (bu BK216.out) hb); replace HB := Az (below_step bz hb); clear hb ho12; refine hK.out _ _ (bc3 BK215.out) (fun hHeld => ?_); clear hK K; refine norm_ (a' := ?_) ?_ ?_; rotate_left
                  ·
                   show Act.put _ (some 7) _ = _
                   simp only [Act.put, sA, sB, sC, i64_w, i32_w]
                   rfl
                  exact norm_ (by first | (simp only [putAll, Act.put, sA, sB, sC]; done) | (simp only [putAll, Act.put, sA, sB, sC]; rfl)) (hJ4_8 (v224, v230) _ ⟨hHeld, (by (with_reducible repeat (first | apply Kd.R_alloc | apply Kd.R_drewN | apply Kd.R_drew)); exact Kd.R_mono HO225.out (fun _ hk => hk.2)), (by (with_reducible repeat (first | apply Kd.R_alloc | apply Kd.R_drewN | apply Kd.R_drew)); exact Kd.R_mono HO231.out (fun _ hk => hk.2)), (bu BK215.out), (bu BK216.out), bz⟩)
               ·
                rintro v224 w10 ⟨hS_, h0_, h1_, h2_, h3_⟩; have n0_ : Aside0 (Kd.R Kd.string 9 w10 w.heap.size (fun _ => True) v224 y223) := ⟨h0_⟩; have n1_ : Aside0 (w10.heap[gb215]? = some (.cells #[.slice A0_0 l0_0.length c0_0, .slice A0_1 l0_1.length c0_1, .slice A0_2 l0_2.length c0_2] 47 (0, 0))) := ⟨h1_⟩; have n2_ : Aside0 (w10.heap[gb216]? = some (.cells #[.slice none 0 0, .slice none 0 0, .slice none 0 0] 47 (0, 0))) := ⟨h2_⟩; have n3_ : Aside0 (Below w.heap.size w w10) := ⟨h3_⟩; clear BK215; clear BK216; clear HB; clear h0_ h1_ h2_ h3_; have HO225 := n0_; have BK215 := n1_; have BK216 := n2_; have HB := n3_; clear n0_ n1_ n2_ n3_; have hHeld : w10.cell? ⟨gb215, 0, none⟩ = some (.slice A0_0 l0_0.length c0_0) ∧ w10.cell? ⟨gb215, 1, none⟩ = some (.slice A0_1 l0_1.length c0_1) ∧ w10.cell? ⟨gb215, 2, none⟩ = some (.slice A0_2 l0_2.length c0_2) := hS_; refine norm_ (a' := ?_) ?_ ?_; rotate_left
                ·
                 simp only [putAll, Act.put, sA, sB, sC]
                 rfl
                refine two_ (i := 0) (j := 8) (Ni := some 3) (Nj := some 11) A9_14 A9_16 rfl rfl rfl rfl (two_of HT_.out (by kernel_rfl)) (by decide) (by decide) (fun K hK => ?_) (fun K hK => ?_)
                ·
                 refine Kd.R_lit_step Kd.string _ 9 ?hg (N := 3) ?hd (xs := ([] : List ByteArray)) (inner := []) (ok := fun _ => True) (okp := fun _ => True) ?hr ?hp (fun _ hk => hk) trivial (Below.refl _ _) (Nat.le_refl _) (by simp) ?_; (case hd => rfl); (case hg => rfl); (case hr => first | (go_simp; done) | (go_simp; rfl)); (case hp => exact (Reps.none _ _)); intro v218 w11 ho12 hb hg_ hnew_; clear hg_ hnew_
                 (first | rw [← Ny217.out] at ho12 | (simp only [Int.reduceToNat] at ho12; rw [← Ny217.out] at ho12))
                 have HO219 := Az (Kd.R_lower (rn ho12 HO225) (below_size bz)); replace HO225 := Az (Kd.R_elder' (ru HO225.out) (Kd.R_base ho12) hb); replace BK215 := Az (blk_below (bu BK215.out) hb); replace BK216 := Az (blk_below (bu BK216.out) hb); replace HB := Az (below_step bz hb); clear hb ho12; refine hK.out _ _ (bc3 BK215.out) (fun hHeld => ?_); clear hK K; refine norm_ (a' := ?_) ?_ ?_; rotate_left
                 ·
                  show Act.put _ (some 3) _ = _
                  simp only [Act.put, sA, sB, sC, i64_w, i32_w]
                  rfl
                 exact norm_ (by first | (simp only [putAll, Act.put, sA, sB, sC]; done) | (simp only [putAll, Act.put, sA, sB, sC]; rfl)) (hJ0_4 (v218, v224) _ ⟨hHeld, (by (with_reducible repeat (first | apply Kd.R_alloc | apply Kd.R_drewN | apply Kd.R_drew)); exact Kd.R_mono HO219.out (fun _ hk => hk.2)), (by (with_reducible repeat (first | apply Kd.R_alloc | apply Kd.R_drewN | apply Kd.R_drew)); exact Kd.R_mono HO225.out (fun _ hk => hk.2)), (bu BK215.out), (bu BK216.out), bz⟩)
                ·
                 refine Kd.R_lit_step Kd.string _ 9 ?hg (N := 11) ?hd (xs := ([] : List ByteArray)) (inner := []) (ok := fun _ => True) (okp := fun _ => True) ?hr ?hp (fun _ hk => hk) trivial (Below.refl _ _) (Nat.le_refl _) (by simp) ?_; (case hd => rfl); (case hg => rfl); (case hr => first | (go_simp; done) | (go_simp; rfl)); (case hp => exact (Reps.none _ _)); intro v230 w11 ho12 hb hg_ hnew_; clear hg_ hnew_
                 (first | rw [← Ny229.out] at ho12 | (simp only [Int.reduceToNat] at ho12; rw [← Ny229.out] at ho12))
                 have HO231 := Az (Kd.R_lower (rn ho12 HO225) (below_size bz)); replace HO225 := Az (Kd.R_elder' (ru HO225.out) (Kd.R_base ho12) hb); replace BK215 := Az (blk_below (bu BK215.out) hb); replace BK216 := Az (blk_below (bu BK216.out) hb); replace HB := Az (below_step bz hb); clear hb ho12; refine hK.out _ _ (bc3 BK215.out) (fun hHeld => ?_); clear hK K; refine norm_ (a' := ?_) ?_ ?_; rotate_left
                 ·
                  show Act.put _ (some 11) _ = _
                  simp only [Act.put, sA, sB, sC, i64_w, i32_w]
                  rfl
                 exact norm_ (by first | (simp only [putAll, Act.put, sA, sB, sC]; done) | (simp only [putAll, Act.put, sA, sB, sC]; rfl)) (hJ4_8 (v224, v230) _ ⟨hHeld, (by (with_reducible repeat (first | apply Kd.R_alloc | apply Kd.R_drewN | apply Kd.R_drew)); exact Kd.R_mono HO225.out (fun _ hk => hk.2)), (by (with_reducible repeat (first | apply Kd.R_alloc | apply Kd.R_drewN | apply Kd.R_drew)); exact Kd.R_mono HO231.out (fun _ hk => hk.2)), (bu BK215.out), (bu BK216.out), bz⟩)
              ·
               rintro v218 w10 ⟨hS_, h0_, h1_, h2_, h3_⟩; have n0_ : Aside0 (Kd.R Kd.string 9 w10 w.heap.size (fun _ => True) v218 y217) := ⟨h0_⟩; have n1_ : Aside0 (w10.heap[gb215]? = some (.cells #[.slice A0_0 l0_0.length c0_0, .slice A0_1 l0_1.length c0_1, .slice A0_2 l0_2.length c0_2] 47 (0, 0))) := ⟨h1_⟩; have n2_ : Aside0 (w10.heap[gb216]? = some (.cells #[.slice none 0 0, .slice none 0 0, .slice none 0 0] 47 (0, 0))) := ⟨h2_⟩; have n3_ : Aside0 (Below w.heap.size w w10) := ⟨h3_⟩; clear BK215; clear BK216; clear HB; clear h0_ h1_ h2_ h3_; have HO219 := n0_; have BK215 := n1_; have BK216 := n2_; have HB := n3_; clear n0_ n1_ n2_ n3_; have hHeld : w10.cell? ⟨gb215, 0, none⟩ = some (.slice A0_0 l0_0.length c0_0) ∧ w10.cell? ⟨gb215, 1, none⟩ = some (.slice A0_1 l0_1.length c0_1) ∧ w10.cell? ⟨gb215, 2, none⟩ = some (.slice A0_2 l0_2.length c0_2) := hS_; refine norm_ (a' := ?_) ?_ ?_; rotate_left
               ·
                simp only [putAll, Act.put, sA, sB, sC]
                rfl
               refine three_ (i := 3) (j := 4) (k := 8) (Ni := some 6) (Nj := some 7) (Nk := some 11) A9_13 A9_14 A9_15 rfl rfl rfl rfl rfl rfl (three_of HT_.out (by kernel_rfl)) (by decide) (by decide) (by decide) (fun K hK => ?_) (fun K hK => ?_) (fun K hK => ?_)
               ·
                refine Kd.R_append_rows_step Kd.string (w0 := w) w.heap.size (by rfl) (.tmp 3) (.tmp 5) 29 9 (.string ⟨#[]⟩) 16 rfl Try.underlying29 info9 rfl (by decide) (by omega) v218 y217 l0_0 _ _ _ (fun _ => True) (fun _ => False) rfl rfl ?aO ?aR (fun _ _ h => h) (fun _ h => h.elim) ?aF ?aB ?aS ?aL ?_
                (case aR => exact cu HR0_0.out HB.out)
                (case aB => exact bz)
                (case aF => exact (fun _ _ => trivial))
                (case aO => exact (ru HO219.out))
                (case aS => exact (below_size bz))
                (case aL => have := LMc2.out; omega)
                intro v221 w11 ho hb hg hat; rw [← Ny220.out] at ho; replace BK215 := Az (blk_grown (g := gb215) (o := .cells #[.slice A0_0 l0_0.length c0_0, .slice A0_1 l0_1.length c0_1, .slice A0_2 l0_2.length c0_2] 47 (0, 0)) (bu BK215.out) hg (Kd.R_ne HO219.out BK215.out (by decide))); replace BK216 := Az (blk_grown (g := gb216) (o := .cells #[.slice none 0 0, .slice none 0 0, .slice none 0 0] 47 (0, 0)) (bu BK216.out) hg (Kd.R_ne HO219.out BK216.out (by decide))); replace HB := Az (hb); have HO222 := Az (ho); clear HO219; clear ho hb hg hat; refine hK.out _ _ (bc3 BK215.out) (fun hHeld => ?_); clear hK K; refine norm_ (a' := ?_) ?_ ?_; rotate_left
                ·
                 show Act.put _ (some 6) _ = _
                 simp only [Act.put, sA, sB, sC, i64_w, i32_w]
                 rfl
                exact norm_ (by first | (simp only [putAll, Act.put, sA, sB, sC]; done) | (simp only [putAll, Act.put, sA, sB, sC]; rfl)) (hJ0_3 (v218, v221) _ ⟨hHeld, (ru HO222.out), (bu BK215.out), (bu BK216.out), bz⟩)
               ·
                refine Kd.R_lit_step Kd.string _ 9 ?hg (N := 7) ?hd (xs := ([] : List ByteArray)) (inner := []) (ok := fun _ => True) (okp := fun _ => True) ?hr ?hp (fun _ hk => hk) trivial (Below.refl _ _) (Nat.le_refl _) (by simp) ?_; (case hd => rfl); (case hg => rfl); (case hr => first | (go_simp; done) | (go_simp; rfl)); (case hp => exact (Reps.none _ _)); intro v224 w11 ho12 hb hg_ hnew_; clear hg_ hnew_
                (first | rw [← Ny223.out] at ho12 | (simp only [Int.reduceToNat] at ho12; rw [← Ny223.out] at ho12))
                have HO225 := Az (Kd.R_lower (rn ho12 HO219) (below_size bz)); replace HO219 := Az (Kd.R_elder' (ru HO219.out) (Kd.R_base ho12) hb); replace BK215 := Az (blk_below (bu BK215.out) hb); replace BK216 := Az (blk_below (bu BK216.out) hb); replace HB := Az (below_step bz hb); clear hb ho12; refine hK.out _ _ (bc3 BK215.out) (fun hHeld => ?_); clear hK K; refine norm_ (a' := ?_) ?_ ?_; rotate_left
                ·
                 show Act.put _ (some 7) _ = _
                 simp only [Act.put, sA, sB, sC, i64_w, i32_w]
                 rfl
                exact norm_ (by first | (simp only [putAll, Act.put, sA, sB, sC]; done) | (simp only [putAll, Act.put, sA, sB, sC]; rfl)) (hJ0_4 (v218, v224) _ ⟨hHeld, (by (with_reducible repeat (first | apply Kd.R_alloc | apply Kd.R_drewN | apply Kd.R_drew)); exact Kd.R_mono HO219.out (fun _ hk => hk.2)), (by (with_reducible repeat (first | apply Kd.R_alloc | apply Kd.R_drewN | apply Kd.R_drew)); exact Kd.R_mono HO225.out (fun _ hk => hk.2)), (bu BK215.out), (bu BK216.out), bz⟩)
               ·
                refine Kd.R_lit_step Kd.string _ 9 ?hg (N := 11) ?hd (xs := ([] : List ByteArray)) (inner := []) (ok := fun _ => True) (okp := fun _ => True) ?hr ?hp (fun _ hk => hk) trivial (Below.refl _ _) (Nat.le_refl _) (by simp) ?_; (case hd => rfl); (case hg => rfl); (case hr => first | (go_simp; done) | (go_simp; rfl)); (case hp => exact (Reps.none _ _)); intro v230 w11 ho12 hb hg_ hnew_; clear hg_ hnew_
                (first | rw [← Ny229.out] at ho12 | (simp only [Int.reduceToNat] at ho12; rw [← Ny229.out] at ho12))
                have HO231 := Az (Kd.R_lower (rn ho12 HO219) (below_size bz)); replace HO219 := Az (Kd.R_elder' (ru HO219.out) (Kd.R_base ho12) hb); replace BK215 := Az (blk_below (bu BK215.out) hb); replace BK216 := Az (blk_below (bu BK216.out) hb); replace HB := Az (below_step bz hb); clear hb ho12; refine hK.out _ _ (bc3 BK215.out) (fun hHeld => ?_); clear hK K; refine norm_ (a' := ?_) ?_ ?_; rotate_left
                ·
                 show Act.put _ (some 11) _ = _
                 simp only [Act.put, sA, sB, sC, i64_w, i32_w]
                 rfl
                exact norm_ (by first | (simp only [putAll, Act.put, sA, sB, sC]; done) | (simp only [putAll, Act.put, sA, sB, sC]; rfl)) (hJ0_8 (v218, v230) _ ⟨hHeld, (by (with_reducible repeat (first | apply Kd.R_alloc | apply Kd.R_drewN | apply Kd.R_drew)); exact Kd.R_mono HO219.out (fun _ hk => hk.2)), (by (with_reducible repeat (first | apply Kd.R_alloc | apply Kd.R_drewN | apply Kd.R_drew)); exact Kd.R_mono HO231.out (fun _ hk => hk.2)), (bu BK215.out), (bu BK216.out), bz⟩)
             ·
              rintro ⟨v224, v230⟩ w12 ⟨hS_, h0_, h1_, h2_, h3_, h4_⟩; have n0_ : Aside0 (Kd.R Kd.string 9 w12 w.heap.size (fun k_ => Nb (v230) k_) v224 y223) := ⟨h0_⟩; have n1_ : Aside0 (Kd.R Kd.string 9 w12 w.heap.size (fun k_ => Nb (v224) k_) v230 y229) := ⟨h1_⟩; have n2_ : Aside0 (w12.heap[gb215]? = some (.cells #[.slice A0_0 l0_0.length c0_0, .slice A0_1 l0_1.length c0_1, .slice A0_2 l0_2.length c0_2] 47 (0, 0))) := ⟨h2_⟩; have n3_ : Aside0 (w12.heap[gb216]? = some (.cells #[.slice none 0 0, .slice none 0 0, .slice none 0 0] 47 (0, 0))) := ⟨h3_⟩; have n4_ : Aside0 (Below w.heap.size w w12) := ⟨h4_⟩; clear BK215; clear BK216; clear HB; clear h0_ h1_ h2_ h3_ h4_; have HO225 := n0_; have HO231 := n1_; have BK215 := n2_; have BK216 := n3_; have HB := n4_; clear n0_ n1_ n2_ n3_ n4_; have hHeld : w12.cell? ⟨gb215, 0, none⟩ = some (.slice A0_0 l0_0.length c0_0) ∧ w12.cell? ⟨gb215, 1, none⟩ = some (.slice A0_1 l0_1.length c0_1) ∧ w12.cell? ⟨gb215, 2, none⟩ = some (.slice A0_2 l0_2.length c0_2) := hS_; refine norm_ (a' := ?_) ?_ ?_; rotate_left
              ·
               simp only [putAll, Act.put, sA, sB, sC]
               rfl
              refine one_ (i := 0) (N := some 3) A9_12 rfl rfl (one_of HT_.out (by kernel_rfl)) (by decide) (fun K hK => ?_); refine Kd.R_lit_step Kd.string _ 9 ?hg (N := 3) ?hd (xs := ([] : List ByteArray)) (inner := []) (ok := fun _ => True) (okp := fun _ => True) ?hr ?hp (fun _ hk => hk) trivial (Below.refl _ _) (Nat.le_refl _) (by simp) ?_; (case hd => rfl); (case hg => rfl); (case hr => first | (go_simp; done) | (go_simp; rfl)); (case hp => exact (Reps.none _ _)); intro v218 w13 ho14 hb hg_ hnew_; clear hg_ hnew_
              (first | rw [← Ny217.out] at ho14 | (simp only [Int.reduceToNat] at ho14; rw [← Ny217.out] at ho14))
              have HO219 := Az (Kd.R_lower (rn (rn ho14 HO225) HO231) (below_size bz)); replace HO225 := Az (Kd.R_elder' (ru HO225.out) (Kd.R_base ho14) hb); replace HO231 := Az (Kd.R_elder' (ru HO231.out) (Kd.R_base ho14) hb); replace BK215 := Az (blk_below (bu BK215.out) hb); replace BK216 := Az (blk_below (bu BK216.out) hb); replace HB := Az (below_step bz hb); clear hb ho14; refine hK.out _ _ (bc3 BK215.out) (fun hHeld => ?_); clear hK K; refine norm_ (a' := ?_) ?_ ?_; rotate_left
              ·
               show Act.put _ (some 3) _ = _
               simp only [Act.put, sA, sB, sC, i64_w, i32_w]
               rfl
              exact norm_ (by first | (simp only [putAll, Act.put, sA, sB, sC]; done) | (simp only [putAll, Act.put, sA, sB, sC]; rfl)) (hJ0_4_8 (v218, v224, v230) _ ⟨hHeld, (rm HO219), (rm HO225), (rm HO231), (bu BK215.out), (bu BK216.out), bz⟩)
            ·
             rintro ⟨v218, v230⟩ w12 ⟨hS_, h0_, h1_, h2_, h3_, h4_⟩; have n0_ : Aside0 (Kd.R Kd.string 9 w12 w.heap.size (fun k_ => Nb (v230) k_) v218 y217) := ⟨h0_⟩; have n1_ : Aside0 (Kd.R Kd.string 9 w12 w.heap.size (fun k_ => Nb (v218) k_) v230 y229) := ⟨h1_⟩; have n2_ : Aside0 (w12.heap[gb215]? = some (.cells #[.slice A0_0 l0_0.length c0_0, .slice A0_1 l0_1.length c0_1, .slice A0_2 l0_2.length c0_2] 47 (0, 0))) := ⟨h2_⟩; have n3_ : Aside0 (w12.heap[gb216]? = some (.cells #[.slice none 0 0, .slice none 0 0, .slice none 0 0] 47 (0, 0))) := ⟨h3_⟩; have n4_ : Aside0 (Below w.heap.size w w12) := ⟨h4_⟩; clear BK215; clear BK216; clear HB; clear h0_ h1_ h2_ h3_ h4_; have HO219 := n0_; have HO231 := n1_; have BK215 := n2_; have BK216 := n3_; have HB := n4_; clear n0_ n1_ n2_ n3_ n4_; have hHeld : w12.cell? ⟨gb215, 0, none⟩ = some (.slice A0_0 l0_0.length c0_0) ∧ w12.cell? ⟨gb215, 1, none⟩ = some (.slice A0_1 l0_1.length c0_1) ∧ w12.cell? ⟨gb215, 2, none⟩ = some (.slice A0_2 l0_2.length c0_2) := hS_; refine norm_ (a' := ?_) ?_ ?_; rotate_left
             ·
              simp only [putAll, Act.put, sA, sB, sC]
              rfl
             refine two_ (i := 3) (j := 4) (Ni := some 6) (Nj := some 7) A9_11 A9_12 rfl rfl rfl rfl (two_of HT_.out (by kernel_rfl)) (by decide) (by decide) (fun K hK => ?_) (fun K hK => ?_)
             ·
              refine Kd.R_append_rows_step Kd.string (w0 := w) w.heap.size (by rfl) (.tmp 3) (.tmp 5) 29 9 (.string ⟨#[]⟩) 16 rfl Try.underlying29 info9 rfl (by decide) (by omega) v218 y217 l0_0 _ _ _ (fun k_ => Nb (v230) k_) (fun _ => False) rfl rfl ?aO ?aR (fun _ _ h => h) (fun _ h => h.elim) ?aF ?aB ?aS ?aL ?_
              (case aR => exact cu HR0_0.out HB.out)
              (case aB => exact bz)
              (case aF => exact (fun k_ hk => Kd.fresh' (Kd.R_lt (ru HO231.out)) k_ hk))
              (case aO => exact (ru HO219.out))
              (case aS => exact (below_size bz))
              (case aL => have := LMc2.out; omega)
              intro v221 w13 ho hb hg hat; rw [← Ny220.out] at ho; replace BK215 := Az (blk_grown (g := gb215) (o := .cells #[.slice A0_0 l0_0.length c0_0, .slice A0_1 l0_1.length c0_1, .slice A0_2 l0_2.length c0_2] 47 (0, 0)) (bu BK215.out) hg (Kd.R_ne HO219.out BK215.out (by decide))); replace BK216 := Az (blk_grown (g := gb216) (o := .cells #[.slice none 0 0, .slice none 0 0, .slice none 0 0] 47 (0, 0)) (bu BK216.out) hg (Kd.R_ne HO219.out BK216.out (by decide))); replace HO231 := Az (Kd.R_after (ok := (fun _ => True)) (by (with_reducible repeat (first | apply Kd.R_alloc | apply Kd.R_drewN | apply Kd.R_drew)); exact Kd.R_mono HO231.out (fun _ hk => ⟨trivial, hk⟩)) hg hat); replace HB := Az (hb); have HO222 := Az (ho); clear HO219; clear ho hb hg hat; refine hK.out _ _ (bc3 BK215.out) (fun hHeld => ?_); clear hK K; refine norm_ (a' := ?_) ?_ ?_; rotate_left
              ·
               show Act.put _ (some 6) _ = _
               simp only [Act.put, sA, sB, sC, i64_w, i32_w]
               rfl
              exact norm_ (by first | (simp only [putAll, Act.put, sA, sB, sC]; done) | (simp only [putAll, Act.put, sA, sB, sC]; rfl)) (hJ0_3_8 (v218, v221, v230) _ ⟨hHeld, (ru HO222.out), (by (with_reducible repeat (first | apply Kd.R_alloc | apply Kd.R_drewN | apply Kd.R_drew)); exact Kd.R_mono HO231.out (fun _ hk => hk.2)), (bu BK215.out), (bu BK216.out), bz⟩)
             ·
              refine Kd.R_lit_step Kd.string _ 9 ?hg (N := 7) ?hd (xs := ([] : List ByteArray)) (inner := []) (ok := fun _ => True) (okp := fun _ => True) ?hr ?hp (fun _ hk => hk) trivial (Below.refl _ _) (Nat.le_refl _) (by simp) ?_; (case hd => rfl); (case hg => rfl); (case hr => first | (go_simp; done) | (go_simp; rfl)); (case hp => exact (Reps.none _ _)); intro v224 w13 ho14 hb hg_ hnew_; clear hg_ hnew_
              (first | rw [← Ny223.out] at ho14 | (simp only [Int.reduceToNat] at ho14; rw [← Ny223.out] at ho14))
              have HO225 := Az (Kd.R_lower (rn (rn ho14 HO219) HO231) (below_size bz)); replace HO219 := Az (Kd.R_elder' (ru HO219.out) (Kd.R_base ho14) hb); replace HO231 := Az (Kd.R_elder' (ru HO231.out) (Kd.R_base ho14) hb); replace BK215 := Az (blk_below (bu BK215.out) hb); replace BK216 := Az (blk_below (bu BK216.out) hb); replace HB := Az (below_step bz hb); clear hb ho14; refine hK.out _ _ (bc3 BK215.out) (fun hHeld => ?_); clear hK K; refine norm_ (a' := ?_) ?_ ?_; rotate_left
              ·
               show Act.put _ (some 7) _ = _
               simp only [Act.put, sA, sB, sC, i64_w, i32_w]
               rfl
              exact norm_ (by first | (simp only [putAll, Act.put, sA, sB, sC]; done) | (simp only [putAll, Act.put, sA, sB, sC]; rfl)) (hJ0_4_8 (v218, v224, v230) _ ⟨hHeld, (rm HO219), (rm HO225), (ru HO231.out), (bu BK215.out), (bu BK216.out), bz⟩)
           ·
            rintro ⟨v218, v224⟩ w12 ⟨hS_, h0_, h1_, h2_, h3_, h4_⟩; have n0_ : Aside0 (Kd.R Kd.string 9 w12 w.heap.size (fun k_ => Nb (v224) k_) v218 y217) := ⟨h0_⟩; have n1_ : Aside0 (Kd.R Kd.string 9 w12 w.heap.size (fun k_ => Nb (v218) k_) v224 y223) := ⟨h1_⟩; have n2_ : Aside0 (w12.heap[gb215]? = some (.cells #[.slice A0_0 l0_0.length c0_0, .slice A0_1 l0_1.length c0_1, .slice A0_2 l0_2.length c0_2] 47 (0, 0))) := ⟨h2_⟩; have n3_ : Aside0 (w12.heap[gb216]? = some (.cells #[.slice none 0 0, .slice none 0 0, .slice none 0 0] 47 (0, 0))) := ⟨h3_⟩; have n4_ : Aside0 (Below w.heap.size w w12) := ⟨h4_⟩; clear BK215; clear BK216; clear HB; clear h0_ h1_ h2_ h3_ h4_; have HO219 := n0_; have HO225 := n1_; have BK215 := n2_; have BK216 := n3_; have HB := n4_; clear n0_ n1_ n2_ n3_ n4_; have hHeld : w12.cell? ⟨gb215, 0, none⟩ = some (.slice A0_0 l0_0.length c0_0) ∧ w12.cell? ⟨gb215, 1, none⟩ = some (.slice A0_1 l0_1.length c0_1) ∧ w12.cell? ⟨gb215, 2, none⟩ = some (.slice A0_2 l0_2.length c0_2) := hS_; refine norm_ (a' := ?_) ?_ ?_; rotate_left
            ·
             simp only [putAll, Act.put, sA, sB, sC]
             rfl
            refine two_ (i := 3) (j := 8) (Ni := some 6) (Nj := some 11) A9_10 A9_12 rfl rfl rfl rfl (two_of HT_.out (by kernel_rfl)) (by decide) (by decide) (fun K hK => ?_) (fun K hK => ?_)
            ·
             refine Kd.R_append_rows_step Kd.string (w0 := w) w.heap.size (by rfl) (.tmp 3) (.tmp 5) 29 9 (.string ⟨#[]⟩) 16 rfl Try.underlying29 info9 rfl (by decide) (by omega) v218 y217 l0_0 _ _ _ (fun k_ => Nb (v224) k_) (fun _ => False) rfl rfl ?aO ?aR (fun _ _ h => h) (fun _ h => h.elim) ?aF ?aB ?aS ?aL ?_
             (case aR => exact cu HR0_0.out HB.out)
             (case aB => exact bz)
             (case aF => exact (fun k_ hk => Kd.fresh' (Kd.R_lt (ru HO225.out)) k_ hk))
             (case aO => exact (ru HO219.out))
             (case aS => exact (below_size bz))
             (case aL => have := LMc2.out; omega)
             intro v221 w13 ho hb hg hat; rw [← Ny220.out] at ho; replace BK215 := Az (blk_grown (g := gb215) (o := .cells #[.slice A0_0 l0_0.length c0_0, .slice A0_1 l0_1.length c0_1, .slice A0_2 l0_2.length c0_2] 47 (0, 0)) (bu BK215.out) hg (Kd.R_ne HO219.out BK215.out (by decide))); replace BK216 := Az (blk_grown (g := gb216) (o := .cells #[.slice none 0 0, .slice none 0 0, .slice none 0 0] 47 (0, 0)) (bu BK216.out) hg (Kd.R_ne HO219.out BK216.out (by decide))); replace HO225 := Az (Kd.R_after (ok := (fun _ => True)) (by (with_reducible repeat (first | apply Kd.R_alloc | apply Kd.R_drewN | apply Kd.R_drew)); exact Kd.R_mono HO225.out (fun _ hk => ⟨trivial, hk⟩)) hg hat); replace HB := Az (hb); have HO222 := Az (ho); clear HO219; clear ho hb hg hat; refine hK.out _ _ (bc3 BK215.out) (fun hHeld => ?_); clear hK K; refine norm_ (a' := ?_) ?_ ?_; rotate_left
             ·
              show Act.put _ (some 6) _ = _
              simp only [Act.put, sA, sB, sC, i64_w, i32_w]
              rfl
             exact norm_ (by first | (simp only [putAll, Act.put, sA, sB, sC]; done) | (simp only [putAll, Act.put, sA, sB, sC]; rfl)) (hJ0_3_4 (v218, v221, v224) _ ⟨hHeld, (ru HO222.out), (by (with_reducible repeat (first | apply Kd.R_alloc | apply Kd.R_drewN | apply Kd.R_drew)); exact Kd.R_mono HO225.out (fun _ hk => hk.2)), (bu BK215.out), (bu BK216.out), bz⟩)
            ·
             refine Kd.R_lit_step Kd.string _ 9 ?hg (N := 11) ?hd (xs := ([] : List ByteArray)) (inner := []) (ok := fun _ => True) (okp := fun _ => True) ?hr ?hp (fun _ hk => hk) trivial (Below.refl _ _) (Nat.le_refl _) (by simp) ?_; (case hd => rfl); (case hg => rfl); (case hr => first | (go_simp; done) | (go_simp; rfl)); (case hp => exact (Reps.none _ _)); intro v230 w13 ho14 hb hg_ hnew_; clear hg_ hnew_
             (first | rw [← Ny229.out] at ho14 | (simp only [Int.reduceToNat] at ho14; rw [← Ny229.out] at ho14))
             have HO231 := Az (Kd.R_lower (rn (rn ho14 HO219) HO225) (below_size bz)); replace HO219 := Az (Kd.R_elder' (ru HO219.out) (Kd.R_base ho14) hb); replace HO225 := Az (Kd.R_elder' (ru HO225.out) (Kd.R_base ho14) hb); replace BK215 := Az (blk_below (bu BK215.out) hb); replace BK216 := Az (blk_below (bu BK216.out) hb); replace HB := Az (below_step bz hb); clear hb ho14; refine hK.out _ _ (bc3 BK215.out) (fun hHeld => ?_); clear hK K; refine norm_ (a' := ?_) ?_ ?_; rotate_left
             ·
              show Act.put _ (some 11) _ = _
              simp only [Act.put, sA, sB, sC, i64_w, i32_w]
              rfl
             exact norm_ (by first | (simp only [putAll, Act.put, sA, sB, sC]; done) | (simp only [putAll, Act.put, sA, sB, sC]; rfl)) (hJ0_4_8 (v218, v224, v230) _ ⟨hHeld, (ru HO219.out), (ru HO225.out), (rm HO231), (bu BK215.out), (bu BK216.out), bz⟩)
          ·
           rintro ⟨v218, v221⟩ w11 ⟨hS_, h0_, h1_, h2_, h3_⟩; have n0_ : Aside0 (Kd.R Kd.string 9 w11 w.heap.size (fun _ => True) v221 y220) := ⟨h0_⟩; have n1_ : Aside0 (w11.heap[gb215]? = some (.cells #[.slice A0_0 l0_0.length c0_0, .slice A0_1 l0_1.length c0_1, .slice A0_2 l0_2.length c0_2] 47 (0, 0))) := ⟨h1_⟩; have n2_ : Aside0 (w11.heap[gb216]? = some (.cells #[.slice none 0 0, .slice none 0 0, .slice none 0 0] 47 (0, 0))) := ⟨h2_⟩; have n3_ : Aside0 (Below w.heap.size w w11) := ⟨h3_⟩; clear BK215; clear BK216; clear HB; clear h0_ h1_ h2_ h3_; have HO222 := n0_; have BK215 := n1_; have BK216 := n2_; have HB := n3_; clear n0_ n1_ n2_ n3_; have hHeld : w11.cell? ⟨gb215, 0, none⟩ = some (.slice A0_0 l0_0.length c0_0) ∧ w11.cell? ⟨gb215, 1, none⟩ = some (.slice A0_1 l0_1.length c0_1) ∧ w11.cell? ⟨gb215, 2, none⟩ = some (.slice A0_2 l0_2.length c0_2) := hS_; refine norm_ (a' := ?_) ?_ ?_; rotate_left
           ·
            simp only [putAll, Act.put, sA, sB, sC]
            rfl
           refine two_ (i := 4) (j := 8) (Ni := some 7) (Nj := some 11) A9_10 A9_11 rfl rfl rfl rfl (two_of HT_.out (by kernel_rfl)) (by decide) (by decide) (fun K hK => ?_) (fun K hK => ?_)
           ·
            refine Kd.R_lit_step Kd.string _ 9 ?hg (N := 7) ?hd (xs := ([] : List ByteArray)) (inner := []) (ok := fun _ => True) (okp := fun _ => True) ?hr ?hp (fun _ hk => hk) trivial (Below.refl _ _) (Nat.le_refl _) (by simp) ?_; (case hd => rfl); (case hg => rfl); (case hr => first | (go_simp; done) | (go_simp; rfl)); (case hp => exact (Reps.none _ _)); intro v224 w12 ho13 hb hg_ hnew_; clear hg_ hnew_
            (first | rw [← Ny223.out] at ho13 | (simp only [Int.reduceToNat] at ho13; rw [← Ny223.out] at ho13))
            have HO225 := Az (Kd.R_lower (rn ho13 HO222) (below_size bz)); replace HO222 := Az (Kd.R_elder' (ru HO222.out) (Kd.R_base ho13) hb); replace BK215 := Az (blk_below (bu BK215.out) hb); replace BK216 := Az (blk_below (bu BK216.out) hb); replace HB := Az (below_step bz hb); clear hb ho13; refine hK.out _ _ (bc3 BK215.out) (fun hHeld => ?_); clear hK K; refine norm_ (a' := ?_) ?_ ?_; rotate_left
            ·
             show Act.put _ (some 7) _ = _
             simp only [Act.put, sA, sB, sC, i64_w, i32_w]
             rfl
            exact norm_ (by first | (simp only [putAll, Act.put, sA, sB, sC]; done) | (simp only [putAll, Act.put, sA, sB, sC]; rfl)) (hJ0_3_4 (v218, v221, v224) _ ⟨hHeld, (by (with_reducible repeat (first | apply Kd.R_alloc | apply Kd.R_drewN | apply Kd.R_drew)); exact Kd.R_mono HO222.out (fun _ hk => hk.2)), (by (with_reducible repeat (first | apply Kd.R_alloc | apply Kd.R_drewN | apply Kd.R_drew)); exact Kd.R_mono HO225.out (fun _ hk => hk.2)), (bu BK215.out), (bu BK216.out), bz⟩)
           ·
            refine Kd.R_lit_step Kd.string _ 9 ?hg (N := 11) ?hd (xs := ([] : List ByteArray)) (inner := []) (ok := fun _ => True) (okp := fun _ => True) ?hr ?hp (fun _ hk => hk) trivial (Below.refl _ _) (Nat.le_refl _) (by simp) ?_; (case hd => rfl); (case hg => rfl); (case hr => first | (go_simp; done) | (go_simp; rfl)); (case hp => exact (Reps.none _ _)); intro v230 w12 ho13 hb hg_ hnew_; clear hg_ hnew_
            (first | rw [← Ny229.out] at ho13 | (simp only [Int.reduceToNat] at ho13; rw [← Ny229.out] at ho13))
            have HO231 := Az (Kd.R_lower (rn ho13 HO222) (below_size bz)); replace HO222 := Az (Kd.R_elder' (ru HO222.out) (Kd.R_base ho13) hb); replace BK215 := Az (blk_below (bu BK215.out) hb); replace BK216 := Az (blk_below (bu BK216.out) hb); replace HB := Az (below_step bz hb); clear hb ho13; refine hK.out _ _ (bc3 BK215.out) (fun hHeld => ?_); clear hK K; refine norm_ (a' := ?_) ?_ ?_; rotate_left
            ·
             show Act.put _ (some 11) _ = _
             simp only [Act.put, sA, sB, sC, i64_w, i32_w]
             rfl
            exact norm_ (by first | (simp only [putAll, Act.put, sA, sB, sC]; done) | (simp only [putAll, Act.put, sA, sB, sC]; rfl)) (hJ0_3_8 (v218, v221, v230) _ ⟨hHeld, (by (with_reducible repeat (first | apply Kd.R_alloc | apply Kd.R_drewN | apply Kd.R_drew)); exact Kd.R_mono HO222.out (fun _ hk => hk.2)), (by (with_reducible repeat (first | apply Kd.R_alloc | apply Kd.R_drewN | apply Kd.R_drew)); exact Kd.R_mono HO231.out (fun _ hk => hk.2)), (bu BK215.out), (bu BK216.out), bz⟩)
         ·
          rintro ⟨v218, v224, v230⟩ w14 ⟨hS_, h0_, h1_, h2_, h3_, h4_, h5_⟩; have n0_ : Aside0 (Kd.R Kd.string 9 w14 w.heap.size (fun k_ => Nb (v224) k_ ∧ Nb (v230) k_) v218 y217) := ⟨h0_⟩; have n1_ : Aside0 (Kd.R Kd.string 9 w14 w.heap.size (fun k_ => Nb (v218) k_ ∧ Nb (v230) k_) v224 y223) := ⟨h1_⟩; have n2_ : Aside0 (Kd.R Kd.string 9 w14 w.heap.size (fun k_ => Nb (v218) k_ ∧ Nb (v224) k_) v230 y229) := ⟨h2_⟩; have n3_ : Aside0 (w14.heap[gb215]? = some (.cells #[.slice A0_0 l0_0.length c0_0, .slice A0_1 l0_1.length c0_1, .slice A0_2 l0_2.length c0_2] 47 (0, 0))) := ⟨h3_⟩; have n4_ : Aside0 (w14.heap[gb216]? = some (.cells #[.slice none 0 0, .slice none 0 0, .slice none 0 0] 47 (0, 0))) := ⟨h4_⟩; have n5_ : Aside0 (Below w.heap.size w w14) := ⟨h5_⟩; clear BK215; clear BK216; clear HB; clear h0_ h1_ h2_ h3_ h4_ h5_; have HO219 := n0_; have HO225 := n1_; have HO231 := n2_; have BK215 := n3_; have BK216 := n4_; have HB := n5_; clear n0_ n1_ n2_ n3_ n4_ n5_; have hHeld : w14.cell? ⟨gb215, 0, none⟩ = some (.slice A0_0 l0_0.length c0_0) ∧ w14.cell? ⟨gb215, 1, none⟩ = some (.slice A0_1 l0_1.length c0_1) ∧ w14.cell? ⟨gb215, 2, none⟩ = some (.slice A0_2 l0_2.length c0_2) := hS_; refine norm_ (a' := ?_) ?_ ?_; rotate_left
          ·
           simp only [putAll, Act.put, sA, sB, sC]
           rfl
          refine one_ (i := 3) (N := some 6) A9_9 rfl rfl (one_of HT_.out (by kernel_rfl)) (by decide) (fun K hK => ?_); refine Kd.R_append_rows_step Kd.string (w0 := w) w.heap.size (by rfl) (.tmp 3) (.tmp 5) 29 9 (.string ⟨#[]⟩) 16 rfl Try.underlying29 info9 rfl (by decide) (by omega) v218 y217 l0_0 _ _ _ (fun k_ => Nb (v224) k_ ∧ Nb (v230) k_) (fun _ => False) rfl rfl ?aO ?aR (fun _ _ h => h) (fun _ h => h.elim) ?aF ?aB ?aS ?aL ?_
          (case aR => exact cu HR0_0.out HB.out)
          (case aB => exact bz)
          (case aF => exact (fun k_ hk => ⟨Kd.fresh' (Kd.R_lt (ru HO225.out)) k_ hk, Kd.fresh' (Kd.R_lt (ru HO231.out)) k_ hk⟩))
          (case aO => exact (ru HO219.out))
          (case aS => exact (below_size bz))
          (case aL => have := LMc2.out; omega)
          intro v221 w15 ho hb hg hat; rw [← Ny220.out] at ho; replace BK215 := Az (blk_grown (g := gb215) (o := .cells #[.slice A0_0 l0_0.length c0_0, .slice A0_1 l0_1.length c0_1, .slice A0_2 l0_2.length c0_2] 47 (0, 0)) (bu BK215.out) hg (Kd.R_ne HO219.out BK215.out (by decide))); replace BK216 := Az (blk_grown (g := gb216) (o := .cells #[.slice none 0 0, .slice none 0 0, .slice none 0 0] 47 (0, 0)) (bu BK216.out) hg (Kd.R_ne HO219.out BK216.out (by decide))); replace HO225 := Az (Kd.R_after (ok := (fun k_ => Nb (v230) k_)) (rm HO225) hg hat); replace HO231 := Az (Kd.R_after (ok := (fun k_ => Nb (v224) k_)) (rm HO231) hg hat); replace HB := Az (hb); have HO222 := Az (ho); clear HO219; clear ho hb hg hat; refine hK.out _ _ (bc3 BK215.out) (fun hHeld => ?_); clear hK K; refine norm_ (a' := ?_) ?_ ?_; rotate_left
          ·
           show Act.put _ (some 6) _ = _
           simp only [Act.put, sA, sB, sC, i64_w, i32_w]
           rfl
          exact norm_ (by first | (simp only [putAll, Act.put, sA, sB, sC]; done) | (simp only [putAll, Act.put, sA, sB, sC]; rfl)) (hJ0_3_4_8 (v218, v221, v224, v230) _ ⟨hHeld, (ru HO222.out), (rm HO225), (rm HO231), (bu BK215.out), (bu BK216.out), bz⟩)
        ·
         rintro ⟨v218, v221, v230⟩ w13 ⟨hS_, h0_, h1_, h2_, h3_, h4_⟩; have n0_ : Aside0 (Kd.R Kd.string 9 w13 w.heap.size (fun k_ => Nb (v230) k_) v221 y220) := ⟨h0_⟩; have n1_ : Aside0 (Kd.R Kd.string 9 w13 w.heap.size (fun k_ => Nb (v221) k_) v230 y229) := ⟨h1_⟩; have n2_ : Aside0 (w13.heap[gb215]? = some (.cells #[.slice A0_0 l0_0.length c0_0, .slice A0_1 l0_1.length c0_1, .slice A0_2 l0_2.length c0_2] 47 (0, 0))) := ⟨h2_⟩; have n3_ : Aside0 (w13.heap[gb216]? = some (.cells #[.slice none 0 0, .slice none 0 0, .slice none 0 0] 47 (0, 0))) := ⟨h3_⟩; have n4_ : Aside0 (Below w.heap.size w w13) := ⟨h4_⟩; clear BK215; clear BK216; clear HB; clear h0_ h1_ h2_ h3_ h4_; have HO222 := n0_; have HO231 := n1_; have BK215 := n2_; have BK216 := n3_; have HB := n4_; clear n0_ n1_ n2_ n3_ n4_; have hHeld : w13.cell? ⟨gb215, 0, none⟩ = some (.slice A0_0 l0_0.length c0_0) ∧ w13.cell? ⟨gb215, 1, none⟩ = some (.slice A0_1 l0_1.length c0_1) ∧ w13.cell? ⟨gb215, 2, none⟩ = some (.slice A0_2 l0_2.length c0_2) := hS_; refine norm_ (a' := ?_) ?_ ?_; rotate_left
         ·
          simp only [putAll, Act.put, sA, sB, sC]
          rfl
         refine one_ (i := 4) (N := some 7) A9_9 rfl rfl (one_of HT_.out (by kernel_rfl)) (by decide) (fun K hK => ?_); refine Kd.R_lit_step Kd.string _ 9 ?hg (N := 7) ?hd (xs := ([] : List ByteArray)) (inner := []) (ok := fun _ => True) (okp := fun _ => True) ?hr ?hp (fun _ hk => hk) trivial (Below.refl _ _) (Nat.le_refl _) (by simp) ?_; (case hd => rfl); (case hg => rfl); (case hr => first | (go_simp; done) | (go_simp; rfl)); (case hp => exact (Reps.none _ _)); intro v224 w14 ho15 hb hg_ hnew_; clear hg_ hnew_
         (first | rw [← Ny223.out] at ho15 | (simp only [Int.reduceToNat] at ho15; rw [← Ny223.out] at ho15))
         have HO225 := Az (Kd.R_lower (rn (rn ho15 HO222) HO231) (below_size bz)); replace HO222 := Az (Kd.R_elder' (ru HO222.out) (Kd.R_base ho15) hb); replace HO231 := Az (Kd.R_elder' (ru HO231.out) (Kd.R_base ho15) hb); replace BK215 := Az (blk_below (bu BK215.out) hb); replace BK216 := Az (blk_below (bu BK216.out) hb); replace HB := Az (below_step bz hb); clear hb ho15; refine hK.out _ _ (bc3 BK215.out) (fun hHeld => ?_); clear hK K; refine norm_ (a' := ?_) ?_ ?_; rotate_left
         ·
          show Act.put _ (some 7) _ = _
          simp only [Act.put, sA, sB, sC, i64_w, i32_w]
          rfl
         exact norm_ (by first | (simp only [putAll, Act.put, sA, sB, sC]; done) | (simp only [putAll, Act.put, sA, sB, sC]; rfl)) (hJ0_3_4_8 (v218, v221, v224, v230) _ ⟨hHeld, (rm HO222), (rm HO225), (ru HO231.out), (bu BK215.out), (bu BK216.out), bz⟩)
       ·
        rintro ⟨v218, v221, v224⟩ w13 ⟨hS_, h0_, h1_, h2_, h3_, h4_⟩; have n0_ : Aside0 (Kd.R Kd.string 9 w13 w.heap.size (fun k_ => Nb (v224) k_) v221 y220) := ⟨h0_⟩; have n1_ : Aside0 (Kd.R Kd.string 9 w13 w.heap.size (fun k_ => Nb (v221) k_) v224 y223) := ⟨h1_⟩; have n2_ : Aside0 (w13.heap[gb215]? = some (.cells #[.slice A0_0 l0_0.length c0_0, .slice A0_1 l0_1.length c0_1, .slice A0_2 l0_2.length c0_2] 47 (0, 0))) := ⟨h2_⟩; have n3_ : Aside0 (w13.heap[gb216]? = some (.cells #[.slice none 0 0, .slice none 0 0, .slice none 0 0] 47 (0, 0))) := ⟨h3_⟩; have n4_ : Aside0 (Below w.heap.size w w13) := ⟨h4_⟩; clear BK215; clear BK216; clear HB; clear h0_ h1_ h2_ h3_ h4_; have HO222 := n0_; have HO225 := n1_; have BK215 := n2_; have BK216 := n3_; have HB := n4_; clear n0_ n1_ n2_ n3_ n4_; have hHeld : w13.cell? ⟨gb215, 0, none⟩ = some (.slice A0_0 l0_0.length c0_0) ∧ w13.cell? ⟨gb215, 1, none⟩ = some (.slice A0_1 l0_1.length c0_1) ∧ w13.cell? ⟨gb215, 2, none⟩ = some (.slice A0_2 l0_2.length c0_2) := hS_; refine norm_ (a' := ?_) ?_ ?_; rotate_left
        ·
         simp only [putAll, Act.put, sA, sB, sC]
         rfl
        refine two_ (i := 7) (j := 8) (Ni := some 10) (Nj := some 11) A9_8 A9_9 rfl rfl rfl rfl (two_of HT_.out (by kernel_rfl)) (by decide) (by decide) (fun K hK => ?_) (fun K hK => ?_)
        ·
         refine Kd.R_append_rows_step Kd.string (w0 := w) w.heap.size (by rfl) (.tmp 7) (.tmp 9) 29 9 (.string ⟨#[]⟩) 16 rfl Try.underlying29 info9 rfl (by decide) (by omega) v224 y223 l0_1 _ _ _ (fun k_ => Nb (v221) k_) (fun _ => False) rfl rfl ?aO ?aR (fun _ _ h => h) (fun _ h => h.elim) ?aF ?aB ?aS ?aL ?_
         (case aR => exact cu HR0_1.out HB.out)
         (case aB => exact bz)
         (case aF => exact (fun k_ hk => Kd.fresh' (Kd.R_lt (ru HO222.out)) k_ hk))
         (case aO => exact (ru HO225.out))
         (case aS => exact (below_size bz))
         (case aL => have := LMc3.out; omega)
         intro v227 w14 ho hb hg hat; rw [← Ny226.out] at ho; replace BK215 := Az (blk_grown (g := gb215) (o := .cells #[.slice A0_0 l0_0.length c0_0, .slice A0_1 l0_1.length c0_1, .slice A0_2 l0_2.length c0_2] 47 (0, 0)) (bu BK215.out) hg (Kd.R_ne HO225.out BK215.out (by decide))); replace BK216 := Az (blk_grown (g := gb216) (o := .cells #[.slice none 0 0, .slice none 0 0, .slice none 0 0] 47 (0, 0)) (bu BK216.out) hg (Kd.R_ne HO225.out BK216.out (by decide))); replace HO222 := Az (Kd.R_after (ok := (fun _ => True)) (by (with_reducible repeat (first | apply Kd.R_alloc | apply Kd.R_drewN | apply Kd.R_drew)); exact Kd.R_mono HO222.out (fun _ hk => ⟨trivial, hk⟩)) hg hat); replace HB := Az (hb); have HO228 := Az (ho); clear HO225; clear ho hb hg hat; refine hK.out _ _ (bc3 BK215.out) (fun hHeld => ?_); clear hK K; refine norm_ (a' := ?_) ?_ ?_; rotate_left
         ·
          show Act.put _ (some 10) _ = _
          simp only [Act.put, sA, sB, sC, i64_w, i32_w]
          rfl
         exact norm_ (by first | (simp only [putAll, Act.put, sA, sB, sC]; done) | (simp only [putAll, Act.put, sA, sB, sC]; rfl)) (hJ0_3_4_7 (v218, v221, v224, v227) _ ⟨hHeld, (by (with_reducible repeat (first | apply Kd.R_alloc | apply Kd.R_drewN | apply Kd.R_drew)); exact Kd.R_mono HO222.out (fun _ hk => hk.2)), (ru HO228.out), (bu BK215.out), (bu BK216.out), bz⟩)
        ·
         refine Kd.R_lit_step Kd.string _ 9 ?hg (N := 11) ?hd (xs := ([] : List ByteArray)) (inner := []) (ok := fun _ => True) (okp := fun _ => True) ?hr ?hp (fun _ hk => hk) trivial (Below.refl _ _) (Nat.le_refl _) (by simp) ?_; (case hd => rfl); (case hg => rfl); (case hr => first | (go_simp; done) | (go_simp; rfl)); (case hp => exact (Reps.none _ _)); intro v230 w14 ho15 hb hg_ hnew_; clear hg_ hnew_
         (first | rw [← Ny229.out] at ho15 | (simp only [Int.reduceToNat] at ho15; rw [← Ny229.out] at ho15))
         have HO231 := Az (Kd.R_lower (rn (rn ho15 HO222) HO225) (below_size bz)); replace HO222 := Az (Kd.R_elder' (ru HO222.out) (Kd.R_base ho15) hb); replace HO225 := Az (Kd.R_elder' (ru HO225.out) (Kd.R_base ho15) hb); replace BK215 := Az (blk_below (bu BK215.out) hb); replace BK216 := Az (blk_below (bu BK216.out) hb); replace HB := Az (below_step bz hb); clear hb ho15; refine hK.out _ _ (bc3 BK215.out) (fun hHeld => ?_); clear hK K; refine norm_ (a' := ?_) ?_ ?_; rotate_left
         ·
          show Act.put _ (some 11) _ = _
          simp only [Act.put, sA, sB, sC, i64_w, i32_w]
          rfl
         exact norm_ (by first | (simp only [putAll, Act.put, sA, sB, sC]; done) | (simp only [putAll, Act.put, sA, sB, sC]; rfl)) (hJ0_3_4_8 (v218, v221, v224, v230) _ ⟨hHeld, (ru HO222.out), (ru HO225.out), (rm HO231), (bu BK215.out), (bu BK216.out), bz⟩)
      ·
       rintro ⟨v218, v221, v224, v230⟩ w15 ⟨hS_, h0_, h1_, h2_, h3_, h4_, h5_⟩; have n0_ : Aside0 (Kd.R Kd.string 9 w15 w.heap.size (fun k_ => Nb (v224) k_ ∧ Nb (v230) k_) v221 y220) := ⟨h0_⟩; have n1_ : Aside0 (Kd.R Kd.string 9 w15 w.heap.size (fun k_ => Nb (v221) k_ ∧ Nb (v230) k_) v224 y223) := ⟨h1_⟩; have n2_ : Aside0 (Kd.R Kd.string 9 w15 w.heap.size (fun k_ => Nb (v221) k_ ∧ Nb (v224) k_) v230 y229) := ⟨h2_⟩; have n3_ : Aside0 (w15.heap[gb215]? = some (.cells #[.slice A0_0 l0_0.length c0_0, .slice A0_1 l0_1.length c0_1, .slice A0_2 l0_2.length c0_2] 47 (0, 0))) := ⟨h3_⟩; have n4_ : Aside0 (w15.heap[gb216]? = some (.cells #[.slice none 0 0, .slice none 0 0, .slice none 0 0] 47 (0, 0))) := ⟨h4_⟩; have n5_ : Aside0 (Below w.heap.size w w15) := ⟨h5_⟩; clear BK215; clear BK216; clear HB; clear h0_ h1_ h2_ h3_ h4_ h5_; have HO222 := n0_; have HO225 := n1_; have HO231 := n2_; have BK215 := n3_; have BK216 := n4_; have HB := n5_; clear n0_ n1_ n2_ n3_ n4_ n5_; have hHeld : w15.cell? ⟨gb215, 0, none⟩ = some (.slice A0_0 l0_0.length c0_0) ∧ w15.cell? ⟨gb215, 1, none⟩ = some (.slice A0_1 l0_1.length c0_1) ∧ w15.cell? ⟨gb215, 2, none⟩ = some (.slice A0_2 l0_2.length c0_2) := hS_; refine norm_ (a' := ?_) ?_ ?_; rotate_left
       ·
        simp only [putAll, Act.put, sA, sB, sC]
        rfl
       refine one_ (i := 7) (N := some 10) A9_7 rfl rfl (one_of HT_.out (by kernel_rfl)) (by decide) (fun K hK => ?_); refine Kd.R_append_rows_step Kd.string (w0 := w) w.heap.size (by rfl) (.tmp 7) (.tmp 9) 29 9 (.string ⟨#[]⟩) 16 rfl Try.underlying29 info9 rfl (by decide) (by omega) v224 y223 l0_1 _ _ _ (fun k_ => Nb (v221) k_ ∧ Nb (v230) k_) (fun _ => False) rfl rfl ?aO ?aR (fun _ _ h => h) (fun _ h => h.elim) ?aF ?aB ?aS ?aL ?_
       (case aR => exact cu HR0_1.out HB.out)
       (case aB => exact bz)
       (case aF => exact (fun k_ hk => ⟨Kd.fresh' (Kd.R_lt (ru HO222.out)) k_ hk, Kd.fresh' (Kd.R_lt (ru HO231.out)) k_ hk⟩))
       (case aO => exact (ru HO225.out))
       (case aS => exact (below_size bz))
       (case aL => have := LMc3.out; omega)
       intro v227 w16 ho hb hg hat; rw [← Ny226.out] at ho; replace BK215 := Az (blk_grown (g := gb215) (o := .cells #[.slice A0_0 l0_0.length c0_0, .slice A0_1 l0_1.length c0_1, .slice A0_2 l0_2.length c0_2] 47 (0, 0)) (bu BK215.out) hg (Kd.R_ne HO225.out BK215.out (by decide))); replace BK216 := Az (blk_grown (g := gb216) (o := .cells #[.slice none 0 0, .slice none 0 0, .slice none 0 0] 47 (0, 0)) (bu BK216.out) hg (Kd.R_ne HO225.out BK216.out (by decide))); replace HO222 := Az (Kd.R_after (ok := (fun k_ => Nb (v230) k_)) (rm HO222) hg hat); replace HO231 := Az (Kd.R_after (ok := (fun k_ => Nb (v221) k_)) (ru HO231.out) hg hat); replace HB := Az (hb); have HO228 := Az (ho); clear HO225; clear ho hb hg hat; refine hK.out _ _ (bc3 BK215.out) (fun hHeld => ?_); clear hK K; refine norm_ (a' := ?_) ?_ ?_; rotate_left
       ·
        show Act.put _ (some 10) _ = _
        simp only [Act.put, sA, sB, sC, i64_w, i32_w]
        rfl
       exact norm_ (by first | (simp only [putAll, Act.put, sA, sB, sC]; done) | (simp only [putAll, Act.put, sA, sB, sC]; rfl)) (hJ0_3_4_7_8 (v218, v221, v224, v227, v230) _ ⟨hHeld, (rm HO222), (ru HO228.out), (ru HO231.out), (bu BK215.out), (bu BK216.out), bz⟩)
     ·
      rintro ⟨v218, v221, v224, v227⟩ w14 ⟨hS_, h0_, h1_, h2_, h3_, h4_⟩; have n0_ : Aside0 (Kd.R Kd.string 9 w14 w.heap.size (fun k_ => Nb (v227) k_) v221 y220) := ⟨h0_⟩; have n1_ : Aside0 (Kd.R Kd.string 9 w14 w.heap.size (fun k_ => Nb (v221) k_) v227 y226) := ⟨h1_⟩; have n2_ : Aside0 (w14.heap[gb215]? = some (.cells #[.slice A0_0 l0_0.length c0_0, .slice A0_1 l0_1.length c0_1, .slice A0_2 l0_2.length c0_2] 47 (0, 0))) := ⟨h2_⟩; have n3_ : Aside0 (w14.heap[gb216]? = some (.cells #[.slice none 0 0, .slice none 0 0, .slice none 0 0] 47 (0, 0))) := ⟨h3_⟩; have n4_ : Aside0 (Below w.heap.size w w14) := ⟨h4_⟩; clear BK215; clear BK216; clear HB; clear h0_ h1_ h2_ h3_ h4_; have HO222 := n0_; have HO228 := n1_; have BK215 := n2_; have BK216 := n3_; have HB := n4_; clear n0_ n1_ n2_ n3_ n4_; have hHeld : w14.cell? ⟨gb215, 0, none⟩ = some (.slice A0_0 l0_0.length c0_0) ∧ w14.cell? ⟨gb215, 1, none⟩ = some (.slice A0_1 l0_1.length c0_1) ∧ w14.cell? ⟨gb215, 2, none⟩ = some (.slice A0_2 l0_2.length c0_2) := hS_; refine norm_ (a' := ?_) ?_ ?_; rotate_left
      ·
       simp only [putAll, Act.put, sA, sB, sC]
       rfl
      refine one_ (i := 8) (N := some 11) A9_7 rfl rfl (one_of HT_.out (by kernel_rfl)) (by decide) (fun K hK => ?_); refine Kd.R_lit_step Kd.string _ 9 ?hg (N := 11) ?hd (xs := ([] : List ByteArray)) (inner := []) (ok := fun _ => True) (okp := fun _ => True) ?hr ?hp (fun _ hk => hk) trivial (Below.refl _ _) (Nat.le_refl _) (by simp) ?_; (case hd => rfl); (case hg => rfl); (case hr => first | (go_simp; done) | (go_simp; rfl)); (case hp => exact (Reps.none _ _)); intro v230 w15 ho16 hb hg_ hnew_; clear hg_ hnew_
      (first | rw [← Ny229.out] at ho16 | (simp only [Int.reduceToNat] at ho16; rw [← Ny229.out] at ho16))
      have HO231 := Az (Kd.R_lower (rn (rn ho16 HO222) HO228) (below_size bz)); replace HO222 := Az (Kd.R_elder' (ru HO222.out) (Kd.R_base ho16) hb); replace HO228 := Az (Kd.R_elder' (ru HO228.out) (Kd.R_base ho16) hb); replace BK215 := Az (blk_below (bu BK215.out) hb); replace BK216 := Az (blk_below (bu BK216.out) hb); replace HB := Az (below_step bz hb); clear hb ho16; refine hK.out _ _ (bc3 BK215.out) (fun hHeld => ?_); clear hK K; refine norm_ (a' := ?_) ?_ ?_; rotate_left
      ·
       show Act.put _ (some 11) _ = _
       simp only [Act.put, sA, sB, sC, i64_w, i32_w]
       rfl
      exact norm_ (by first | (simp only [putAll, Act.put, sA, sB, sC]; done) | (simp only [putAll, Act.put, sA, sB, sC]; rfl)) (hJ0_3_4_7_8 (v218, v221, v224, v227, v230) _ ⟨hHeld, (ru HO222.out), (ru HO228.out), (rm HO231), (bu BK215.out), (bu BK216.out), bz⟩)
    rintro ⟨v218, v221, v224, v227, v230⟩ w16 ⟨hS_, h0_, h1_, h2_, h3_, h4_, h5_⟩; have n0_ : Aside0 (Kd.R Kd.string 9 w16 w.heap.size (fun k_ => Nb (v227) k_ ∧ Nb (v230) k_) v221 y220) := ⟨h0_⟩; have n1_ : Aside0 (Kd.R Kd.string 9 w16 w.heap.size (fun k_ => Nb (v221) k_ ∧ Nb (v230) k_) v227 y226) := ⟨h1_⟩; have n2_ : Aside0 (Kd.R Kd.string 9 w16 w.heap.size (fun k_ => Nb (v221) k_ ∧ Nb (v227) k_) v230 y229) := ⟨h2_⟩; have n3_ : Aside0 (w16.heap[gb215]? = some (.cells #[.slice A0_0 l0_0.length c0_0, .slice A0_1 l0_1.length c0_1, .slice A0_2 l0_2.length c0_2] 47 (0, 0))) := ⟨h3_⟩; have n4_ : Aside0 (w16.heap[gb216]? = some (.cells #[.slice none 0 0, .slice none 0 0, .slice none 0 0] 47 (0, 0))) := ⟨h4_⟩; have n5_ : Aside0 (Below w.heap.size w w16) := ⟨h5_⟩; clear BK215; clear BK216; clear HB; clear h0_ h1_ h2_ h3_ h4_ h5_; have HO222 := n0_; have HO228 := n1_; have HO231 := n2_; have BK215 := n3_; have BK216 := n4_; have HB := n5_; clear n0_ n1_ n2_ n3_ n4_ n5_; have hHeld : w16.cell? ⟨gb215, 0, none⟩ = some (.slice A0_0 l0_0.length c0_0) ∧ w16.cell? ⟨gb215, 1, none⟩ = some (.slice A0_1 l0_1.length c0_1) ∧ w16.cell? ⟨gb215, 2, none⟩ = some (.slice A0_2 l0_2.length c0_2) := hS_; refine norm_ (a' := ?_) ?_ ?_; rotate_left
    ·
     simp only [putAll, Act.put, sA, sB, sC]
     rfl
    refine one_ (i := 11) (N := some 14) A9_20 rfl rfl (one_of HT_.out (by kernel_rfl)) (by decide) (fun K hK => ?_); refine Kd.R_append_rows_step Kd.string (w0 := w) w.heap.size (by rfl) (.tmp 11) (.tmp 13) 29 9 (.string ⟨#[]⟩) 16 rfl Try.underlying29 info9 rfl (by decide) (by omega) v230 y229 l0_2 _ _ _ (fun k_ => Nb (v221) k_ ∧ Nb (v227) k_) (fun _ => False) rfl rfl ?aO ?aR (fun _ _ h => h) (fun _ h => h.elim) ?aF ?aB ?aS ?aL ?_
    (case aR => exact cu HR0_2.out HB.out)
    (case aB => exact bz)
    (case aF => exact (fun k_ hk => ⟨Kd.fresh' (Kd.R_lt (ru HO222.out)) k_ hk, Kd.fresh' (Kd.R_lt (ru HO228.out)) k_ hk⟩))
    (case aO => exact (ru HO231.out))
    (case aS => exact (below_size bz))
    (case aL => have := LMc4.out; omega)
    intro v233 w17 ho hb hg hat; rw [← Ny232.out] at ho; replace BK215 := Az (blk_grown (g := gb215) (o := .cells #[.slice A0_0 l0_0.length c0_0, .slice A0_1 l0_1.length c0_1, .slice A0_2 l0_2.length c0_2] 47 (0, 0)) (bu BK215.out) hg (Kd.R_ne HO231.out BK215.out (by decide))); replace BK216 := Az (blk_grown (g := gb216) (o := .cells #[.slice none 0 0, .slice none 0 0, .slice none 0 0] 47 (0, 0)) (bu BK216.out) hg (Kd.R_ne HO231.out BK216.out (by decide))); replace HO222 := Az (Kd.R_after (ok := (fun k_ => Nb (v227) k_)) (ru HO222.out) hg hat); replace HO228 := Az (Kd.R_after (ok := (fun k_ => Nb (v221) k_)) (ru HO228.out) hg hat); replace HB := Az (hb); have HO234 := Az (ho); clear HO231; clear ho hb hg hat; obtain ⟨Ao18, co18, eo18⟩ := Kd.R_slice HO234.out
    (first | subst eo18 | (injection eo18 with f1_ f2_ f3_; have f4_ := f1_.symm; have f5_ := f3_.symm; clear f1_ f2_ f3_; subst f4_; subst f5_))
    obtain ⟨Ao19, co19, eo19⟩ := Kd.R_slice HO228.out
    (first | subst eo19 | (injection eo19 with f1_ f2_ f3_; have f4_ := f1_.symm; have f5_ := f3_.symm; clear f1_ f2_ f3_; subst f4_; subst f5_))
    obtain ⟨Ao20, co20, eo20⟩ := Kd.R_slice HO222.out
    (first | subst eo20 | (injection eo20 with f1_ f2_ f3_; have f4_ := f1_.symm; have f5_ := f3_.symm; clear f1_ f2_ f3_; subst f4_; subst f5_))
    refine hK.out _ _ (bc3 BK215.out) (fun hHeld => ?_); clear hK K; refine norm_ (a' := ?_) ?_ ?_; rotate_left
    ·
     show Act.put _ (some 14) _ = _
     simp only [Act.put, sA, sB, sC, i64_w, i32_w]
     rfl
    refine pz 12 15 A9_21 HT_.out ?_; refine one_ (i := 13) (N := none) A9_22 rfl rfl (one_of HT_.out (by kernel_rfl)) (by decide) (fun K hK => ?_); have hs21 : w17.cell? ⟨gb216, 0, none⟩ = some (.slice none 0 0) := (blk_cell BK216.out 0).trans rfl; have hfs21 := blk_frozen BK216.out 0; have hns21_0 := NB215_216.out; have hms21_0 := NB216_215.out; have hs22 : w17.cell? ⟨gb216, 1, none⟩ = some (.slice none 0 0) := (blk_cell BK216.out 1).trans rfl; have hfs22 := blk_frozen BK216.out 1; have hns22_0 := NB215_216.out; have hms22_0 := NB216_215.out; have hs23 : w17.cell? ⟨gb216, 2, none⟩ = some (.slice none 0 0) := (blk_cell BK216.out 2).trans rfl; have hfs23 := blk_frozen BK216.out 2; have hns23_0 := NB215_216.out; have hms23_0 := NB216_215.out; refine skip_ (w1 := ?_) (by rfl) rfl ?_ ?_; rotate_left
    ·
     go_simp
     rfl
    refine hK.out _ _ ⟨((cell_far (p := ⟨gb216, _, none⟩) NB215_216.out _).trans (((cell_far (p := ⟨gb216, _, none⟩) NB215_216.out _).trans (((cell_far (p := ⟨gb216, _, none⟩) NB215_216.out _).trans (hHeld.1)))))), ((cell_far (p := ⟨gb216, _, none⟩) NB215_216.out _).trans (((cell_far (p := ⟨gb216, _, none⟩) NB215_216.out _).trans (((cell_far (p := ⟨gb216, _, none⟩) NB215_216.out _).trans (hHeld.2.1)))))), ((cell_far (p := ⟨gb216, _, none⟩) NB215_216.out _).trans (((cell_far (p := ⟨gb216, _, none⟩) NB215_216.out _).trans (((cell_far (p := ⟨gb216, _, none⟩) NB215_216.out _).trans (hHeld.2.2))))))⟩ (fun hHeld => ?_); clear hK K; refine done_ (done_of HT_.out (by kernel_rfl)) ?_
    try go_wp2
    refine bodyPost_ret (results_cell_row rfl _ _ gb216 47 #[.slice Ao20 y220.length co20, .slice Ao19 y226.length co19, .slice Ao18 y232.length co18] (0, 0) _ rfl (by refine bu ?_; refine blk_put (cs := #[.slice Ao20 y220.length co20, .slice Ao19 y226.length co19, .slice none 0 0]) ?_ 2 _ rfl; refine bu ?_; refine blk_put (cs := #[.slice Ao20 y220.length co20, .slice none 0 0, .slice none 0 0]) ?_ 1 _ rfl; refine bu ?_; refine blk_put (cs := #[.slice none 0 0, .slice none 0 0, .slice none 0 0]) ?_ 0 _ rfl; refine bu ?_; exact BK216.out) Try.underlying47 rfl (by kernel_rfl)) rfl ?_; exact ⟨_, _, _, rz, by (with_reducible repeat (first | apply Kd.R_alloc | apply Kd.R_drewN | apply Kd.R_drew)); exact Kd.R_mono (Kd.R_far (p := ⟨gb216, 2, none⟩) (Kd.R_far (p := ⟨gb216, 1, none⟩) (Kd.R_far (p := ⟨gb216, 0, none⟩) (Kd.R_types HO222.out BK216.out (by decide)) (fun _ hk => hk.2) (.slice Ao20 y220.length co20)) (fun _ hk => hk.2) (.slice Ao19 y226.length co19)) (fun _ hk => hk.2) (.slice Ao18 y232.length co18)) kz, by (with_reducible repeat (first | apply Kd.R_alloc | apply Kd.R_drewN | apply Kd.R_drew)); exact Kd.R_mono (Kd.R_far (p := ⟨gb216, 2, none⟩) (Kd.R_far (p := ⟨gb216, 1, none⟩) (Kd.R_far (p := ⟨gb216, 0, none⟩) (Kd.R_types HO228.out BK216.out (by decide)) (fun _ hk => hk.2) (.slice Ao20 y220.length co20)) (fun _ hk => hk.2) (.slice Ao19 y226.length co19)) (fun _ hk => hk.2) (.slice Ao18 y232.length co18)) kz, by (with_reducible repeat (first | apply Kd.R_alloc | apply Kd.R_drewN | apply Kd.R_drew)); exact Kd.R_mono (Kd.R_far (p := ⟨gb216, 2, none⟩) (Kd.R_far (p := ⟨gb216, 1, none⟩) (Kd.R_far (p := ⟨gb216, 0, none⟩) (Kd.R_types HO234.out BK216.out (by decide)) (fun _ hk => hk.2) (.slice Ao20 y220.length co20)) (fun _ hk => hk.2) (.slice Ao19 y226.length co19)) (fun _ hk => hk.2) (.slice Ao18 y232.length co18)) kz, bz⟩
   ·
    rw [if_neg c4] at H; exact absurd H (by simp)
  ·
   rw [if_neg c3] at H; exact absurd H (by simp)
 ·
  rw [if_neg c2] at H; exact absurd H (by simp)

end Go.Proofs.Ytjndpoofjidamaa.PFnExactTake14
