/- Walks of the functions named below, by a program of the session over the kit's printer. -/
import Derived.Test.YtbbfibokedlkkaaPFnExactCloseForx0
import Derived.Test.YtbbfibokedlkkaaPFnExactCloseForx3
namespace Go.Proofs.Ytbbfibokedlkkaa.PFnExactCloseFor
open Go.RowKit Go.Proofs.YtbbfibokedlkkaaW.PrintWords Go.Proofs.YtbbfibokedlkkaaW.PrintLast Go.Proofs.YtbbfibokedlkkaaW.PrintMore
attribute [local go_sem] max2_int min2_int max_two min_two max_three min_three max_four min_four   -- for this text's walks alone
set_option linter.unusedVariables false
set_option linter.unusedSimpArgs false

/-! ### laws_markUseS: function 57 -/
def laws_markUseS.l0 : Nat → List (S59) → Int → Int → Option (Int × (List (S59)))
 | 0, _, _, _ => none
 | k + 1, x0, x1, x5 => if x5 < (x0.length : Int) then (if 0 ≤ x5 then ((some (x0.set (x5 : Int).toNat (⟨x1, (rd_T59 x0 x5).f1, (rd_T59 x0 x5).f2⟩ : S59) : List (S59))).bind fun y178 => ((some (y178.set (x5 : Int).toNat (⟨(rd_T59 y178 x5).f0, wrap64 (x1 + 1), (rd_T59 y178 x5).f2⟩ : S59) : List (S59))).bind fun y179 => (laws_markUseS.l0 k (y179.set (x5 : Int).toNat (⟨(rd_T59 y179 x5).f0, (rd_T59 y179 x5).f1, wrap64 ((wrap64 (x1 + 1)) + 1)⟩ : S59)) (wrap64 ((wrap64 ((wrap64 (x1 + 1)) + 1)) + 1)) (wrap64 (x5 + 1))))) else (none)) else (some (x1, x0))
def laws_markUseS.f (k : Nat) (l0 : List (S59)) (a1 : Int) : Option (Int × (List (S59))) := laws_markUseS.l0 k l0 a1 0
set_option maxHeartbeats 8000000 in
set_option maxRecDepth 100000 in
theorem laws_markUseS.calls (k : Nat) (P0_ : Nat → Prop) (u9000_ : Value) (l0 : List (S59)) (a1 : Int) (r1 : Int) (r2 : List (S59)) (w0 w : World) (hB : Below w0.heap.size w0 w) (ho0 : Kd.R k59 59 w w0.heap.size P0_ u9000_ l0) (h : laws_markUseS.f k l0 a1 = some (r1, r2)) :
  Calls Try.prog 57 #[u9000_, .int .i64 a1] w fun e w' => e = .returned (.int .i64 r1) ∧ Kd.R k59 59 w' w0.heap.size (fun k_ => (P0_ k_ ∨ w.heap.size ≤ k_)) u9000_ r2 ∧ Below w0.heap.size w0 w' ∧ Kept w w' (fun k_ => P0_ k_) := by
 have HO0 := Az (show Kd.R k59 59 w w0.heap.size (fun k_ => (P0_ k_ ∨ w.heap.size ≤ k_)) u9000_ l0 from Kd.R_mono ho0 (fun k_ hk => (.inl hk))); have HK := Az (Kept.refl w (fun k_ => P0_ k_)); have HW0 := Az hB.size; have HB := Az hB; clear hB; have H : (laws_markUseS.l0 k l0 a1 0) = some (r1, r2) := h; clear h; have H' := Az H; clear H
 go_enter Try.func57, Try.ntmps57
 go_wp2
 go_loopg [1, 5] k (fun kq v1 v5 w' => ∃ (x0_1 : List (S59)) (x1_1 : Int) (x5_1 : Int), v1 = .int .i64 x1_1 ∧ v5 = .int .i64 x5_1 ∧ Aside0 (laws_markUseS.l0 kq x0_1 x1_1 x5_1 = some (r1, r2)) ∧ Aside0 (kq ≤ k) ∧ Aside0 (Kd.R k59 59 w' w0.heap.size (fun k_ => (P0_ k_ ∨ w.heap.size ≤ k_)) u9000_ x0_1) ∧ Aside0 (Kept w w' (fun k_ => P0_ k_)) ∧ Aside0 (Below w0.heap.size w0 w'))
 case atStart => exact ⟨(l0), (a1), (0), (by first | rfl | (simp; done) | (simp [*]; done)), (by first | rfl | (simp; done) | (simp [*]; done)), H', ⟨Nat.le_refl _⟩, ⟨ru HO0.out⟩, ⟨by repeat (first | (with_reducible first | exact HK.out | apply Kept.alloc | apply Kept.drewN | apply Kept.drew) | exact HK.out)⟩, ⟨bz⟩⟩
 case round =>
  clear H'; (try clear p2); obtain ⟨x0_1, x1_1, x5_1, rfl, rfl, HA, HK1, HO_0, HK, HB⟩ := hrel
  cases gk with
  | zero => exact absurd HA.out (by simp [laws_markUseS.l0])
  | succ k1 =>
   have H := HA.out; clear HA; simp only [laws_markUseS.l0] at H
   by_cases c3 : x5_1 < (x0_1.length : Int)
   ·
    rw [if_pos c3] at H; have c3b0 : decide (x5_1 < (x0_1.length : Int)) = true := decide_eq_true c3; clear c3
    by_cases c4 : 0 ≤ x5_1
    ·
     rw [if_pos c4] at H; have c4b0 : decide (0 ≤ x5_1) = true := decide_eq_true c4; clear c4; obtain ⟨y178, hy178⟩ : ∃ y_ : List (S59), y_ = (x0_1.set (x5_1 : Int).toNat (⟨x1_1, (rd_T59 x0_1 x5_1).f1, (rd_T59 x0_1 x5_1).f2⟩ : S59)) := ⟨_, rfl⟩
     replace H : ((some (y178.set (x5_1 : Int).toNat (⟨(rd_T59 y178 x5_1).f0, wrap64 (x1_1 + 1), (rd_T59 y178 x5_1).f2⟩ : S59) : List (S59))).bind fun y179 => (laws_markUseS.l0 k1 (y179.set (x5_1 : Int).toNat (⟨(rd_T59 y179 x5_1).f0, (rd_T59 y179 x5_1).f1, wrap64 ((wrap64 (x1_1 + 1)) + 1)⟩ : S59)) (wrap64 ((wrap64 ((wrap64 (x1_1 + 1)) + 1)) + 1)) (wrap64 (x5_1 + 1)))) = some (r1, r2) := by have hy_ := hy178; exact yz
     have Ny178 := Az hy178; clear hy178; obtain ⟨y179, hy179⟩ : ∃ y_ : List (S59), y_ = (y178.set (x5_1 : Int).toNat (⟨(rd_T59 y178 x5_1).f0, wrap64 (x1_1 + 1), (rd_T59 y178 x5_1).f2⟩ : S59)) := ⟨_, rfl⟩
     replace H : (laws_markUseS.l0 k1 (y179.set (x5_1 : Int).toNat (⟨(rd_T59 y179 x5_1).f0, (rd_T59 y179 x5_1).f1, wrap64 ((wrap64 (x1_1 + 1)) + 1)⟩ : S59)) (wrap64 ((wrap64 ((wrap64 (x1_1 + 1)) + 1)) + 1)) (wrap64 (x5_1 + 1))) = some (r1, r2) := by have hy_ := hy179; exact yz
     have Ny179 := Az hy179; clear hy179; obtain ⟨y180, hy180⟩ : ∃ y_ : List (S59), y_ = (y179.set (x5_1 : Int).toNat (⟨(rd_T59 y179 x5_1).f0, (rd_T59 y179 x5_1).f1, wrap64 ((wrap64 (x1_1 + 1)) + 1)⟩ : S59)) := ⟨_, rfl⟩
     replace H : (laws_markUseS.l0 k1 y180 (wrap64 ((wrap64 ((wrap64 (x1_1 + 1)) + 1)) + 1)) (wrap64 (x5_1 + 1))) = some (r1, r2) := by have hy_ := hy180; exact yz
     have Ny180 := Az hy180; clear hy180; have H' := Az H; clear H; obtain ⟨Ao8, co8, eo8⟩ := Kd.R_slice HO_0.out; subst eo8; have p5 : 0 ≤ (x5_1 : Int) := oz; have q5 : (x5_1 : Int) < ((x0_1.length : Int) : Int) := oz; obtain ⟨go5, co5, eo5, gb5, gl5, cl5, HG5⟩ := Kd.R_form HO_0.out (by omega)
     (first | cases eo5 | (injection eo5 with ea_ en_ ec_; (first | subst ea_ | (injection ea_ with ea_; subst ea_)); subst ec_; clear en_))
     have GB5 := Az gb5; have GG5 := Az HG5; clear gb5 gl5 HG5; have HMgo5 := Az (show (P0_ go5 ∨ w.heap.size ≤ go5) from (HO_0.out.1 _ rfl)); obtain ⟨ce5, hcl5, hM5, hcc5, hfr5⟩ := Kd.R_elem HO_0.out z59 (x5_1 : Int) p5 q5; obtain rfl := k59_openM hM5; have hx5_0 : wr.cell? ⟨go5, (x5_1 : Int).toNat * 3, none⟩ = some (.int .i64 ((rd_T59 x0_1 x5_1).f0)) := hcc5 0 _ rfl; have hx5_1 : wr.cell? ⟨go5, (x5_1 : Int).toNat * 3 + 1, none⟩ = some (.int .i64 ((rd_T59 x0_1 x5_1).f1)) := hcc5 1 _ rfl; have hx5_2 : wr.cell? ⟨go5, (x5_1 : Int).toNat * 3 + 2, none⟩ = some (.int .i64 ((rd_T59 x0_1 x5_1).f2)) := hcc5 2 _ rfl; have hf5_0 : wr.frozen? ⟨go5, (x5_1 : Int).toNat * 3, none⟩ = false := hfr5 0; have hf5_1 : wr.frozen? ⟨go5, (x5_1 : Int).toNat * 3 + 1, none⟩ = false := hfr5 1; have hf5_2 : wr.frozen? ⟨go5, (x5_1 : Int).toNat * 3 + 2, none⟩ = false := hfr5 2; clear hcl5 hcc5 hfr5 hM5; replace p5 := eq_true p5; replace q5 := eq_true q5; have HX9 := Az (show Kd.R k59 59 wr w0.heap.size (fun k_ => (P0_ k_ ∨ w.heap.size ≤ k_)) (.slice (some ⟨go5, 0, none⟩) x0_1.length co8) x0_1 from (ru HO_0.out)); obtain ⟨ce9, hcl9, hM9, hcc9, hfr9⟩ := Kd.R_elem HX9.out z59 (x5_1 : Int) oz (by have h_ : (x5_1 : Int) < ((x0_1.length : Int) : Int) := oz; first | exact h_ | (have e_ := (Kd.R_reads' HO_0.out).1; omega) | simpa using h_); obtain rfl := k59_openM hM9; have HP9 := Kd.R_seg HX9.out (x5_1 : Int) oz (by have h_ : (x5_1 : Int) < ((x0_1.length : Int) : Int) := oz; first | exact h_ | (have e_ := (Kd.R_reads' HO_0.out).1; omega) | simpa using h_) (seg := [.int .i64 x1_1]) (j := 0) hcl9 hcc9 (show 1 ≤ 3 from by decide) (x' := (⟨x1_1, (rd_T59 x0_1 x5_1).f1, (rd_T59 x0_1 x5_1).f2⟩ : S59)) (k59_mkM _ _ _ (⟨x1_1, (rd_T59 x0_1 x5_1).f1, (rd_T59 x0_1 x5_1).f2⟩ : S59) ) (fun _ hk => hk); have hx9_0 := hcc9 0 _ rfl
     (try simp only [show (k59).sz = 3 from rfl, Nat.mul_one, Nat.add_zero] at hx9_0)
     have hf9_0 := hfr9 0
     (try simp only [show (k59).sz = 3 from rfl, Nat.mul_one, Nat.add_zero] at hf9_0)
     clear hcl9 hcc9 hfr9 hM9
     go_wp2_with (first | ((with_reducible refine gate_store (t := 3) (p := 16) rfl ?_); refine store_event (t := 3) (p := 16) (v := ?vo_w10) (w1 := (wr.setCell ⟨go5, (x5_1 : Int).toNat * 3, none⟩ (.int .i64 x1_1))) ?hg ?ho ?hn ?hr ?_; (case ho => rfl); (case hg => rfl); (case hn => rfl); (case hr => first | (go_simp; done) | (go_simp; rfl)); intro w10 hw; have hg : wr.grownBy w10 (some go5) := (by rw [hw]; exact HP9.2); have hp_ : Kd.R k59 59 w10 w0.heap.size (fun k_ => (P0_ k_ ∨ w.heap.size ≤ k_)) (.slice (some ⟨go5, 0, none⟩) x0_1.length co8) y178 := (by rw [hw, Ny178.out]; exact HP9.1); clear HP9; replace HB := Az ((by rw [hw]; exact below_set (HB.out) GB5.out : Below w0.heap.size w0 w10)); replace HK := Az (Kept.of_grown (S := (fun k_ => P0_ k_)) hg (by repeat (first | (with_reducible first | exact HK.out | apply Kept.alloc | apply Kept.drewN | apply Kept.drew) | exact HK.out)) (fun k_ e_ => (HO_0.out.1 k_ e_))); replace HO_0 := Az (hp_); clear hg hw hp_; have p6 : 0 ≤ (x5_1 : Int) := oz; have q6 : (x5_1 : Int) < ((x0_1.length : Int) : Int) := oz; obtain ⟨ce6, hcl6, hM6, hcc6, hfr6⟩ := Kd.R_elem HO_0.out z59 (x5_1 : Int) p6 q6; obtain rfl := k59_openM hM6; have hx6_0 : w10.cell? ⟨go5, (x5_1 : Int).toNat * 3, none⟩ = some (.int .i64 ((rd_T59 y178 x5_1).f0)) := hcc6 0 _ rfl; have hx6_1 : w10.cell? ⟨go5, (x5_1 : Int).toNat * 3 + 1, none⟩ = some (.int .i64 ((rd_T59 y178 x5_1).f1)) := hcc6 1 _ rfl; have hx6_2 : w10.cell? ⟨go5, (x5_1 : Int).toNat * 3 + 2, none⟩ = some (.int .i64 ((rd_T59 y178 x5_1).f2)) := hcc6 2 _ rfl; have hf6_0 : w10.frozen? ⟨go5, (x5_1 : Int).toNat * 3, none⟩ = false := hfr6 0; have hf6_1 : w10.frozen? ⟨go5, (x5_1 : Int).toNat * 3 + 1, none⟩ = false := hfr6 1; have hf6_2 : w10.frozen? ⟨go5, (x5_1 : Int).toNat * 3 + 2, none⟩ = false := hfr6 2; clear hcl6 hcc6 hfr6 hM6; replace p6 := eq_true p6; replace q6 := eq_true q6; have HX11 := Az (show Kd.R k59 59 w10 w0.heap.size (fun k_ => (P0_ k_ ∨ w.heap.size ≤ k_)) (.slice (some ⟨go5, 0, none⟩) x0_1.length co8) y178 from (ru HO_0.out)); obtain ⟨ce11, hcl11, hM11, hcc11, hfr11⟩ := Kd.R_elem HX11.out z59 (x5_1 : Int) oz (by have h_ : (x5_1 : Int) < ((x0_1.length : Int) : Int) := oz; first | exact h_ | (have e_ := (Kd.R_reads' HO_0.out).1; omega) | simpa using h_); obtain rfl := k59_openM hM11; have HP11 := Kd.R_seg HX11.out (x5_1 : Int) oz (by have h_ : (x5_1 : Int) < ((x0_1.length : Int) : Int) := oz; first | exact h_ | (have e_ := (Kd.R_reads' HO_0.out).1; omega) | simpa using h_) (seg := [.int .i64 (wrap64 (x1_1 + 1))]) (j := 1) hcl11 hcc11 (show 2 ≤ 3 from by decide) (x' := (⟨(rd_T59 y178 x5_1).f0, wrap64 (x1_1 + 1), (rd_T59 y178 x5_1).f2⟩ : S59)) (k59_mkM _ _ _ (⟨(rd_T59 y178 x5_1).f0, wrap64 (x1_1 + 1), (rd_T59 y178 x5_1).f2⟩ : S59) ) (fun _ hk => hk); have hx11_1 := hcc11 1 _ rfl; (try simp only [show (k59).sz = 3 from rfl, Nat.mul_one, Nat.add_zero] at hx11_1); have hf11_1 := hfr11 1; (try simp only [show (k59).sz = 3 from rfl, Nat.mul_one, Nat.add_zero] at hf11_1); clear hcl11 hcc11 hfr11 hM11) | ((with_reducible refine gate_store (t := 3) (p := 23) rfl ?_); refine store_event (t := 3) (p := 23) (v := ?vo_w12) (w1 := (w10.setCell ⟨go5, (x5_1 : Int).toNat * 3 + 1, none⟩ (.int .i64 (wrap64 (x1_1 + 1))))) ?hg ?ho ?hn ?hr ?_; (case ho => rfl); (case hg => rfl); (case hn => rfl); (case hr => first | (go_simp; done) | (go_simp; rfl)); intro w12 hw; have hg : w10.grownBy w12 (some go5) := (by rw [hw]; exact HP11.2); have hp_ : Kd.R k59 59 w12 w0.heap.size (fun k_ => (P0_ k_ ∨ w.heap.size ≤ k_)) (.slice (some ⟨go5, 0, none⟩) x0_1.length co8) y179 := (by rw [hw, Ny179.out]; exact HP11.1); clear HP11; replace HB := Az ((by rw [hw]; exact below_set (HB.out) GB5.out : Below w0.heap.size w0 w12)); replace HK := Az (Kept.of_grown (S := (fun k_ => P0_ k_)) hg (by repeat (first | (with_reducible first | exact HK.out | apply Kept.alloc | apply Kept.drewN | apply Kept.drew) | exact HK.out)) (fun k_ e_ => (HO_0.out.1 k_ e_))); replace HO_0 := Az (hp_); clear hg hw hp_; have p7 : 0 ≤ (x5_1 : Int) := oz; have q7 : (x5_1 : Int) < ((x0_1.length : Int) : Int) := oz; obtain ⟨ce7, hcl7, hM7, hcc7, hfr7⟩ := Kd.R_elem HO_0.out z59 (x5_1 : Int) p7 q7; obtain rfl := k59_openM hM7; have hx7_0 : w12.cell? ⟨go5, (x5_1 : Int).toNat * 3, none⟩ = some (.int .i64 ((rd_T59 y179 x5_1).f0)) := hcc7 0 _ rfl; have hx7_1 : w12.cell? ⟨go5, (x5_1 : Int).toNat * 3 + 1, none⟩ = some (.int .i64 ((rd_T59 y179 x5_1).f1)) := hcc7 1 _ rfl; have hx7_2 : w12.cell? ⟨go5, (x5_1 : Int).toNat * 3 + 2, none⟩ = some (.int .i64 ((rd_T59 y179 x5_1).f2)) := hcc7 2 _ rfl; have hf7_0 : w12.frozen? ⟨go5, (x5_1 : Int).toNat * 3, none⟩ = false := hfr7 0; have hf7_1 : w12.frozen? ⟨go5, (x5_1 : Int).toNat * 3 + 1, none⟩ = false := hfr7 1; have hf7_2 : w12.frozen? ⟨go5, (x5_1 : Int).toNat * 3 + 2, none⟩ = false := hfr7 2; clear hcl7 hcc7 hfr7 hM7; replace p7 := eq_true p7; replace q7 := eq_true q7; have HX13 := Az (show Kd.R k59 59 w12 w0.heap.size (fun k_ => (P0_ k_ ∨ w.heap.size ≤ k_)) (.slice (some ⟨go5, 0, none⟩) x0_1.length co8) y179 from (ru HO_0.out)); obtain ⟨ce13, hcl13, hM13, hcc13, hfr13⟩ := Kd.R_elem HX13.out z59 (x5_1 : Int) oz (by have h_ : (x5_1 : Int) < ((x0_1.length : Int) : Int) := oz; first | exact h_ | (have e_ := (Kd.R_reads' HO_0.out).1; omega) | simpa using h_); obtain rfl := k59_openM hM13; have HP13 := Kd.R_seg HX13.out (x5_1 : Int) oz (by have h_ : (x5_1 : Int) < ((x0_1.length : Int) : Int) := oz; first | exact h_ | (have e_ := (Kd.R_reads' HO_0.out).1; omega) | simpa using h_) (seg := [.int .i64 (wrap64 ((wrap64 (x1_1 + 1)) + 1))]) (j := 2) hcl13 hcc13 (show 3 ≤ 3 from by decide) (x' := (⟨(rd_T59 y179 x5_1).f0, (rd_T59 y179 x5_1).f1, wrap64 ((wrap64 (x1_1 + 1)) + 1)⟩ : S59)) (k59_mkM _ _ _ (⟨(rd_T59 y179 x5_1).f0, (rd_T59 y179 x5_1).f1, wrap64 ((wrap64 (x1_1 + 1)) + 1)⟩ : S59) ) (fun _ hk => hk); have hx13_2 := hcc13 2 _ rfl; (try simp only [show (k59).sz = 3 from rfl, Nat.mul_one, Nat.add_zero] at hx13_2); have hf13_2 := hfr13 2; (try simp only [show (k59).sz = 3 from rfl, Nat.mul_one, Nat.add_zero] at hf13_2); clear hcl13 hcc13 hfr13 hM13) | ((with_reducible refine gate_store (t := 3) (p := 30) rfl ?_); refine store_event (t := 3) (p := 30) (v := ?vo_w14) (w1 := (w12.setCell ⟨go5, (x5_1 : Int).toNat * 3 + 2, none⟩ (.int .i64 (wrap64 ((wrap64 (x1_1 + 1)) + 1))))) ?hg ?ho ?hn ?hr ?_; (case ho => rfl); (case hg => rfl); (case hn => rfl); (case hr => first | (go_simp; done) | (go_simp; rfl)); intro w14 hw; have hg : w12.grownBy w14 (some go5) := (by rw [hw]; exact HP13.2); have hp_ : Kd.R k59 59 w14 w0.heap.size (fun k_ => (P0_ k_ ∨ w.heap.size ≤ k_)) (.slice (some ⟨go5, 0, none⟩) x0_1.length co8) y180 := (by rw [hw, Ny180.out]; exact HP13.1); clear HP13; replace HB := Az ((by rw [hw]; exact below_set (HB.out) GB5.out : Below w0.heap.size w0 w14)); replace HK := Az (Kept.of_grown (S := (fun k_ => P0_ k_)) hg (by repeat (first | (with_reducible first | exact HK.out | apply Kept.alloc | apply Kept.drewN | apply Kept.drew) | exact HK.out)) (fun k_ e_ => (HO_0.out.1 k_ e_))); replace HO_0 := Az (hp_); clear hg hw hp_))
     go_roundg k1
     case measure => have := HK1.out; omega
     case rel => exact ⟨(y180), (wrap64 ((wrap64 ((wrap64 (x1_1 + 1)) + 1)) + 1)), (wrap64 (x5_1 + 1)), (by first | rfl | (simp; done) | (simp [*]; done)), (by first | rfl | (simp; done) | (simp [*]; done)), H', ⟨by have := HK1.out; omega⟩, ⟨ru HO_0.out⟩, ⟨by repeat (first | (with_reducible first | exact HK.out | apply Kept.alloc | apply Kept.drewN | apply Kept.drew) | exact HK.out)⟩, ⟨bz⟩⟩
    ·
     rw [if_neg c4] at H; exact absurd H (by simp)
   ·
    rw [if_neg c3] at H; have c3b0 : decide (x5_1 < (x0_1.length : Int)) = false := decide_eq_false c3; clear c3; simp only [Option.some.injEq, Prod.mk.injEq] at H; obtain ⟨rfl, rfl⟩ := H; obtain ⟨Ao15, co15, eo15⟩ := Kd.R_slice HO_0.out; subst eo15
    go_wp2
    go_ret
    exact ⟨rz, ru HO_0.out, bz, by repeat (first | (with_reducible first | exact HK.out | apply Kept.alloc | apply Kept.drewN | apply Kept.drew) | exact HK.out)⟩

/-! ### laws_markNet7: function 22 -/
def laws_markNet7.f (k : Nat) (a0_0 : Int) (l0_1 : List (S57)) (l0_2 : List (S55)) (l0_3 : List (S59)) (a1 : Int) : Option (Int × (List (S57)) × (List (S55)) × (List (S59))) := (laws_markSourceS.f k l0_1 a1).bind fun bt182 => ((laws_markTieS.f k l0_2 bt182.1).bind fun bt184 => ((laws_markUseS.f k l0_3 bt184.1).bind fun bt186 => (some (bt186.1, bt182.2, bt184.2, bt186.2))))
set_option maxHeartbeats 8000000 in
set_option maxRecDepth 100000 in
theorem laws_markNet7.calls (k : Nat) (a0_0 : Int) (P0_1_ : Nat → Prop) (u9000_ : Value) (l0_1 : List (S57)) (P0_2_ : Nat → Prop) (u9001_ : Value) (l0_2 : List (S55)) (P0_3_ : Nat → Prop) (u9002_ : Value) (l0_3 : List (S59)) (a1 : Int) (r1 : Int) (r2 : List (S57)) (r3 : List (S55)) (r4 : List (S59)) (w0 w : World) (hB : Below w0.heap.size w0 w) (ho0_1 : Kd.R k57 57 w w0.heap.size P0_1_ u9000_ l0_1) (ho0_2 : Kd.R k55 55 w w0.heap.size P0_2_ u9001_ l0_2) (ho0_3 : Kd.R k59 59 w w0.heap.size P0_3_ u9002_ l0_3) (h : laws_markNet7.f k a0_0 l0_1 l0_2 l0_3 a1 = some (r1, r2, r3, r4)) :
  Calls Try.prog 22 #[.agg #[.int .i64 a0_0, u9000_, u9001_, u9002_], .int .i64 a1] w fun e w' => e = .returned (.int .i64 r1) ∧ Kd.R k57 57 w' w0.heap.size (fun k_ => ((P0_1_ k_ ∨ P0_2_ k_ ∨ P0_3_ k_) ∨ w.heap.size ≤ k_)) u9000_ r2 ∧ Kd.R k55 55 w' w0.heap.size (fun k_ => ((P0_1_ k_ ∨ P0_2_ k_ ∨ P0_3_ k_) ∨ w.heap.size ≤ k_)) u9001_ r3 ∧ Kd.R k59 59 w' w0.heap.size (fun k_ => ((P0_1_ k_ ∨ P0_2_ k_ ∨ P0_3_ k_) ∨ w.heap.size ≤ k_)) u9002_ r4 ∧ Below w0.heap.size w0 w' ∧ Kept w w' (fun k_ => P0_1_ k_ ∨ P0_2_ k_ ∨ P0_3_ k_) := by
 have hu41 := Try.underlying41; have HO0_1 := Az (show Kd.R k57 57 w w0.heap.size (fun k_ => ((P0_1_ k_ ∨ P0_2_ k_ ∨ P0_3_ k_) ∨ w.heap.size ≤ k_)) u9000_ l0_1 from Kd.R_mono ho0_1 (fun k_ hk => (.inl (.inl hk)))); have HO0_2 := Az (show Kd.R k55 55 w w0.heap.size (fun k_ => ((P0_1_ k_ ∨ P0_2_ k_ ∨ P0_3_ k_) ∨ w.heap.size ≤ k_)) u9001_ l0_2 from Kd.R_mono ho0_2 (fun k_ hk => (.inl (.inr (.inl hk))))); have HO0_3 := Az (show Kd.R k59 59 w w0.heap.size (fun k_ => ((P0_1_ k_ ∨ P0_2_ k_ ∨ P0_3_ k_) ∨ w.heap.size ≤ k_)) u9002_ l0_3 from Kd.R_mono ho0_3 (fun k_ hk => (.inl (.inr (.inr hk))))); have HK := Az (Kept.refl w (fun k_ => P0_1_ k_ ∨ P0_2_ k_ ∨ P0_3_ k_)); have HW0 := Az hB.size; have HB := Az hB; clear hB; have H : ((laws_markSourceS.f k l0_1 a1).bind fun bt182 => ((laws_markTieS.f k l0_2 bt182.1).bind fun bt184 => ((laws_markUseS.f k l0_3 bt184.1).bind fun bt186 => (some (bt186.1, bt182.2, bt184.2, bt186.2))))) = some (r1, r2, r3, r4) := h; clear h; replace H := Option.bind_eq_some_iff.mp H; obtain ⟨⟨t182, t183⟩, A30, H⟩ := H; replace H : ((laws_markTieS.f k l0_2 t182).bind fun bt184 => ((laws_markUseS.f k l0_3 bt184.1).bind fun bt186 => (some (bt186.1, t183, bt184.2, bt186.2)))) = some (r1, r2, r3, r4) := H; have A3 := Az A30; clear A30; replace H := Option.bind_eq_some_iff.mp H; obtain ⟨⟨t184, t185⟩, A40, H⟩ := H; replace H : ((laws_markUseS.f k l0_3 t184).bind fun bt186 => (some (bt186.1, t183, t185, bt186.2))) = some (r1, r2, r3, r4) := H; have A4 := Az A40; clear A40; replace H := Option.bind_eq_some_iff.mp H; obtain ⟨⟨t186, t187⟩, A50, H⟩ := H; replace H : (some (t186, t183, t185, t187)) = some (r1, r2, r3, r4) := H; have A5 := Az A50; clear A50; simp only [Option.some.injEq, Prod.mk.injEq] at H; obtain ⟨rfl, rfl, rfl, rfl⟩ := H; obtain ⟨Ao6, co6, eo6⟩ := Kd.R_slice HO0_1.out; subst eo6; obtain ⟨Ao7, co7, eo7⟩ := Kd.R_slice HO0_2.out; subst eo7; obtain ⟨Ao8, co8, eo8⟩ := Kd.R_slice HO0_3.out; subst eo8
 go_enter Try.func22, Try.ntmps22
 go_wp2_with (first | ((with_reducible refine gate_dst (N := 2) rfl ?_); refine box_event ?hg (N := 2) ?hd (cs := #[.int .i64 a0_0, .slice Ao6 l0_1.length co6, .slice Ao7 l0_2.length co7, .slice Ao8 l0_3.length co8]) (t := 41) ?hr ?_; (case hd => rfl); (case hg => rfl); (case hr => first | (go_simp; done) | (go_simp; rfl)); intro gb181 hg w9 hbox hb; replace HO0_1 := Az (Kd.R_below (ru HO0_1.out) hb); replace HO0_2 := Az (Kd.R_below (ru HO0_2.out) hb); replace HO0_3 := Az (Kd.R_below (ru HO0_3.out) hb); have BK181 := Az (hbox); have GW181 := Az ((by rw [hg]; exact (by first | exact HK.out.1 | exact (show Kept w _ (fun k_ => P0_1_ k_ ∨ P0_2_ k_ ∨ P0_3_ k_) from by repeat (first | (with_reducible first | exact HK.out | apply Kept.alloc | apply Kept.drewN | apply Kept.drew) | exact HK.out)).1) : w.heap.size ≤ gb181)); replace HK := Az (Kept.below (S := (fun k_ => P0_1_ k_ ∨ P0_2_ k_ ∨ P0_3_ k_)) (by repeat (first | (with_reducible first | exact HK.out | apply Kept.alloc | apply Kept.drewN | apply Kept.drew) | exact HK.out)) hb); have GE181 := Az ((by rw [hg]; exact (below_size bz) : w0.heap.size ≤ gb181)); replace HB := Az (below_step bz hb); clear hb hbox hg; obtain ⟨hcz10_0, hcz10_1, hcz10_2, hcz10_3⟩ := bc4 BK181.out; obtain ⟨hfz10_0, hfz10_1, hfz10_2, hfz10_3⟩ := bf4_ BK181.out) | ((with_reducible refine gate_callee (f := 55) rfl ?_); refine goesL_ (some 8) rfl rfl Try.func55 (by kernel_rfl) rfl #[.slice Ao6 l0_1.length co6, .int .i64 a1] rfl (by (try simp only [List.map_toArray, List.map_cons, List.map_nil]); first | done | rfl) ?_; (with_reducible refine (laws_markSourceS.calls k (fun k_ => some k_ = (.slice Ao6 l0_1.length co6 : Value).ownBlock) (.slice Ao6 l0_1.length co6) l0_1 a1 t182 t183 w0 _ ?side1 ?side2 A3.out).mono ?_); (case side1 => repeat (with_reducible first | exact HB.out | apply ba | apply bn | apply bd | refine bt ?_ GE181.out)); (case side2 => exact Kd.R_tight rfl HO0_1.out); rintro e w11 ⟨rfl, hy0, hb, hkp⟩; refine ⟨_, rfl, ?_⟩; replace HO0_2 := Az (Kd.R_mono (ok' := fun k_ => ((P0_1_ k_ ∨ P0_2_ k_ ∨ P0_3_ k_) ∨ w.heap.size ≤ k_)) (Kd.R_keptB ((Kd.R_apart' HO0_2.out (Kd.R_typed HO0_1.out) (by decide))) hkp (fun k_ hk_ hs_ => (hk_.2) hs_)) (fun k_ hk_ => hk_.1.1)); replace HO0_3 := Az (Kd.R_mono (ok' := fun k_ => ((P0_1_ k_ ∨ P0_2_ k_ ∨ P0_3_ k_) ∨ w.heap.size ≤ k_)) (Kd.R_keptB ((Kd.R_apart' HO0_3.out (Kd.R_typed HO0_1.out) (by decide))) hkp (fun k_ hk_ hs_ => (hk_.2) hs_)) (fun k_ hk_ => hk_.1.1)); replace BK181 := Az (blk_kept (bu BK181.out) hkp (fun hs_ => (fun e_ => (Kd.R_ne HO0_1.out BK181.out (by decide)) e_) hs_)); replace HK := Az (Kept.then_ (S := (fun k_ => P0_1_ k_ ∨ P0_2_ k_ ∨ P0_3_ k_)) (by repeat (first | (with_reducible first | exact HK.out | apply Kept.alloc | apply Kept.drewN | apply Kept.drew | refine Kept.setCell ?_ (.inr GW181.out) _) | exact HK.out)) hkp (fun k_ hs_ => (fun e_ => (HO0_1.out.1 k_ e_.symm)) hs_)); replace HO0_1 := Az (Kd.R_reok rfl hy0 (fun k_ e_ => HO0_1.out.1 k_ e_)); replace HB := Az (hb); (try clear hb); (try clear hkp); (try clear hy0); obtain ⟨hcz12_0, hcz12_1, hcz12_2, hcz12_3⟩ := bc4 BK181.out; obtain ⟨hfz12_0, hfz12_1, hfz12_2, hfz12_3⟩ := bf4_ BK181.out) | ((with_reducible refine gate_callee (f := 56) rfl ?_); refine goesL_ (some 12) rfl rfl Try.func56 (by kernel_rfl) rfl #[.slice Ao7 l0_2.length co7, .int .i64 t182] rfl (by (try simp only [List.map_toArray, List.map_cons, List.map_nil]); first | done | rfl) ?_; (with_reducible refine (laws_markTieS.calls k (fun k_ => some k_ = (.slice Ao7 l0_2.length co7 : Value).ownBlock) (.slice Ao7 l0_2.length co7) l0_2 t182 t184 t185 w0 _ ?side1 ?side2 A4.out).mono ?_); (case side1 => repeat (with_reducible first | exact HB.out | apply ba | apply bn | apply bd | refine bt ?_ GE181.out)); (case side2 => exact Kd.R_tight rfl HO0_2.out); rintro e w13 ⟨rfl, hy0, hb, hkp⟩; refine ⟨_, rfl, ?_⟩; replace HO0_1 := Az (Kd.R_mono (ok' := fun k_ => ((P0_1_ k_ ∨ P0_2_ k_ ∨ P0_3_ k_) ∨ w.heap.size ≤ k_)) (Kd.R_keptB ((Kd.R_apart' HO0_1.out (Kd.R_typed HO0_2.out) (by decide))) hkp (fun k_ hk_ hs_ => (hk_.2) hs_)) (fun k_ hk_ => hk_.1.1)); replace HO0_3 := Az (Kd.R_mono (ok' := fun k_ => ((P0_1_ k_ ∨ P0_2_ k_ ∨ P0_3_ k_) ∨ w.heap.size ≤ k_)) (Kd.R_keptB ((Kd.R_apart' HO0_3.out (Kd.R_typed HO0_2.out) (by decide))) hkp (fun k_ hk_ hs_ => (hk_.2) hs_)) (fun k_ hk_ => hk_.1.1)); replace BK181 := Az (blk_kept (bu BK181.out) hkp (fun hs_ => (fun e_ => (Kd.R_ne HO0_2.out BK181.out (by decide)) e_) hs_)); replace HK := Az (Kept.then_ (S := (fun k_ => P0_1_ k_ ∨ P0_2_ k_ ∨ P0_3_ k_)) (by repeat (first | (with_reducible first | exact HK.out | apply Kept.alloc | apply Kept.drewN | apply Kept.drew | refine Kept.setCell ?_ (.inr GW181.out) _) | exact HK.out)) hkp (fun k_ hs_ => (fun e_ => (HO0_2.out.1 k_ e_.symm)) hs_)); replace HO0_2 := Az (Kd.R_reok rfl hy0 (fun k_ e_ => HO0_2.out.1 k_ e_)); replace HB := Az (hb); (try clear hb); (try clear hkp); (try clear hy0); obtain ⟨hcz14_0, hcz14_1, hcz14_2, hcz14_3⟩ := bc4 BK181.out; obtain ⟨hfz14_0, hfz14_1, hfz14_2, hfz14_3⟩ := bf4_ BK181.out) | ((with_reducible refine gate_callee (f := 57) rfl ?_); refine goesL_ (some 16) rfl rfl Try.func57 (by kernel_rfl) rfl #[.slice Ao8 l0_3.length co8, .int .i64 t184] rfl (by (try simp only [List.map_toArray, List.map_cons, List.map_nil]); first | done | rfl) ?_; (with_reducible refine (laws_markUseS.calls k (fun k_ => some k_ = (.slice Ao8 l0_3.length co8 : Value).ownBlock) (.slice Ao8 l0_3.length co8) l0_3 t184 t186 t187 w0 _ ?side1 ?side2 A5.out).mono ?_); (case side1 => repeat (with_reducible first | exact HB.out | apply ba | apply bn | apply bd | refine bt ?_ GE181.out)); (case side2 => exact Kd.R_tight rfl HO0_3.out); rintro e w15 ⟨rfl, hy0, hb, hkp⟩; refine ⟨_, rfl, ?_⟩; replace HO0_1 := Az (Kd.R_mono (ok' := fun k_ => ((P0_1_ k_ ∨ P0_2_ k_ ∨ P0_3_ k_) ∨ w.heap.size ≤ k_)) (Kd.R_keptB ((Kd.R_apart' HO0_1.out (Kd.R_typed HO0_3.out) (by decide))) hkp (fun k_ hk_ hs_ => (hk_.2) hs_)) (fun k_ hk_ => hk_.1.1)); replace HO0_2 := Az (Kd.R_mono (ok' := fun k_ => ((P0_1_ k_ ∨ P0_2_ k_ ∨ P0_3_ k_) ∨ w.heap.size ≤ k_)) (Kd.R_keptB ((Kd.R_apart' HO0_2.out (Kd.R_typed HO0_3.out) (by decide))) hkp (fun k_ hk_ hs_ => (hk_.2) hs_)) (fun k_ hk_ => hk_.1.1)); replace BK181 := Az (blk_kept (bu BK181.out) hkp (fun hs_ => (fun e_ => (Kd.R_ne HO0_3.out BK181.out (by decide)) e_) hs_)); replace HK := Az (Kept.then_ (S := (fun k_ => P0_1_ k_ ∨ P0_2_ k_ ∨ P0_3_ k_)) (by repeat (first | (with_reducible first | exact HK.out | apply Kept.alloc | apply Kept.drewN | apply Kept.drew | refine Kept.setCell ?_ (.inr GW181.out) _) | exact HK.out)) hkp (fun k_ hs_ => (fun e_ => (HO0_3.out.1 k_ e_.symm)) hs_)); replace HO0_3 := Az (Kd.R_reok rfl hy0 (fun k_ e_ => HO0_3.out.1 k_ e_)); replace HB := Az (hb); (try clear hb); (try clear hkp); (try clear hy0)))
 go_ret
 exact ⟨rz, ru HO0_1.out, ru HO0_2.out, ru HO0_3.out, bz, by repeat (first | (with_reducible first | exact HK.out | apply Kept.alloc | apply Kept.drewN | apply Kept.drew | refine Kept.setCell ?_ (.inr GW181.out) _) | exact HK.out)⟩

/-! ### laws_markIntS: function 23 -/
def laws_markIntS.l0 : Nat → List Int → Int → Int → Option (Int × List Int)
 | 0, _, _, _ => none
 | k + 1, x0, x1, x5 => if x5 < (x0.length : Int) then (if 0 ≤ x5 then (laws_markIntS.l0 k (x0.set (x5 : Int).toNat x1) (wrap64 (x1 + 1)) (wrap64 (x5 + 1))) else (none)) else (some (x1, x0))
def laws_markIntS.f (k : Nat) (l0 : List Int) (a1 : Int) : Option (Int × List Int) := laws_markIntS.l0 k l0 a1 0
set_option maxHeartbeats 8000000 in
set_option maxRecDepth 100000 in
theorem laws_markIntS.calls (k : Nat) (P0_ : Nat → Prop) (u9000_ : Value) (l0 : List Int) (a1 : Int) (r1 : Int) (r2 : List Int) (w0 w : World) (hB : Below w0.heap.size w0 w) (ho0 : Kd.R (Kd.int .i64) 3 w w0.heap.size P0_ u9000_ l0) (h : laws_markIntS.f k l0 a1 = some (r1, r2)) :
  Calls Try.prog 23 #[u9000_, .int .i64 a1] w fun e w' => e = .returned (.int .i64 r1) ∧ Kd.R (Kd.int .i64) 3 w' w0.heap.size (fun k_ => (P0_ k_ ∨ w.heap.size ≤ k_)) u9000_ r2 ∧ Below w0.heap.size w0 w' ∧ Kept w w' (fun k_ => P0_ k_) := by
 have HO0 := Az (show Kd.R (Kd.int .i64) 3 w w0.heap.size (fun k_ => (P0_ k_ ∨ w.heap.size ≤ k_)) u9000_ l0 from Kd.R_mono ho0 (fun k_ hk => (.inl hk))); have HK := Az (Kept.refl w (fun k_ => P0_ k_)); have HW0 := Az hB.size; have HB := Az hB; clear hB; have H : (laws_markIntS.l0 k l0 a1 0) = some (r1, r2) := h; clear h; have H' := Az H; clear H
 go_enter Try.func23, Try.ntmps23
 go_wp2
 go_loopg [1, 5] k (fun kq v1 v5 w' => ∃ (x0_1 : List Int) (x1_1 : Int) (x5_1 : Int), v1 = .int .i64 x1_1 ∧ v5 = .int .i64 x5_1 ∧ Aside0 (laws_markIntS.l0 kq x0_1 x1_1 x5_1 = some (r1, r2)) ∧ Aside0 (kq ≤ k) ∧ Aside0 (Kd.R (Kd.int .i64) 3 w' w0.heap.size (fun k_ => (P0_ k_ ∨ w.heap.size ≤ k_)) u9000_ x0_1) ∧ Aside0 (Kept w w' (fun k_ => P0_ k_)) ∧ Aside0 (Below w0.heap.size w0 w'))
 case atStart => exact ⟨(l0), (a1), (0), (by first | rfl | (simp; done) | (simp [*]; done)), (by first | rfl | (simp; done) | (simp [*]; done)), H', ⟨Nat.le_refl _⟩, ⟨ru HO0.out⟩, ⟨by repeat (first | (with_reducible first | exact HK.out | apply Kept.alloc | apply Kept.drewN | apply Kept.drew) | exact HK.out)⟩, ⟨bz⟩⟩
 case round =>
  clear H'; (try clear c2); (try clear p2); obtain ⟨x0_1, x1_1, x5_1, rfl, rfl, HA, HK1, HO_0, HK, HB⟩ := hrel
  cases gk with
  | zero => exact absurd HA.out (by simp [laws_markIntS.l0])
  | succ k1 =>
   have H := HA.out; clear HA; simp only [laws_markIntS.l0] at H
   by_cases c3 : x5_1 < (x0_1.length : Int)
   ·
    rw [if_pos c3] at H; have c3b0 : decide (x5_1 < (x0_1.length : Int)) = true := decide_eq_true c3; clear c3
    by_cases c4 : 0 ≤ x5_1
    ·
     rw [if_pos c4] at H; have c4b0 : decide (0 ≤ x5_1) = true := decide_eq_true c4; clear c4; obtain ⟨y188, hy188⟩ : ∃ y_ : List Int, y_ = (x0_1.set (x5_1 : Int).toNat x1_1) := ⟨_, rfl⟩
     replace H : (laws_markIntS.l0 k1 y188 (wrap64 (x1_1 + 1)) (wrap64 (x5_1 + 1))) = some (r1, r2) := by have hy_ := hy188; exact yz
     have Ny188 := Az hy188; clear hy188; have H' := Az H; clear H; obtain ⟨Ao6, co6, eo6⟩ := Kd.R_slice HO_0.out; subst eo6; have p5 : 0 ≤ (x5_1 : Int) := oz; have q5 : (x5_1 : Int) < ((x0_1.length : Int) : Int) := oz; obtain ⟨go5, co5, eo5, gb5, gl5, cl5, HG5⟩ := Kd.R_form HO_0.out (by omega)
     (first | cases eo5 | (injection eo5 with ea_ en_ ec_; (first | subst ea_ | (injection ea_ with ea_; subst ea_)); subst ec_; clear en_))
     have GB5 := Az gb5; have GG5 := Az HG5; clear gb5 gl5 HG5; have HMgo5 := Az (show (P0_ go5 ∨ w.heap.size ≤ go5) from (HO_0.out.1 _ rfl)); obtain ⟨hx5_0, hf5_0⟩ := Kd.R_celln 0 HO_0.out (x5_1 : Int) p5 q5; replace p5 := eq_true p5; replace q5 := eq_true q5; have HP7 := Kd.R_putg HO_0.out (x5_1 : Int) x1_1
     go_wp2_with (first | ((with_reducible refine gate_store (t := 3) (p := 15) rfl ?_); refine store_event (t := 3) (p := 15) (v := ?vo_w8) (w1 := (wr.setCell ⟨go5, (x5_1 : Int).toNat, none⟩ (.int .i64 x1_1))) ?hg ?ho ?hn ?hr ?_; (case ho => rfl); (case hg => rfl); (case hn => rfl); (case hr => first | (go_simp; done) | (go_simp; rfl)); intro w8 hw; have hg : wr.grownBy w8 (some go5) := (by rw [hw]; exact HP7.2); have hp_ : Kd.R (Kd.int .i64) 3 w8 w0.heap.size (fun k_ => (P0_ k_ ∨ w.heap.size ≤ k_)) (.slice (some ⟨go5, 0, none⟩) x0_1.length co6) y188 := (by rw [hw, Ny188.out]; exact HP7.1); clear HP7; replace HB := Az ((by rw [hw]; exact below_set (HB.out) GB5.out : Below w0.heap.size w0 w8)); replace HK := Az (Kept.of_grown (S := (fun k_ => P0_ k_)) hg (by repeat (first | (with_reducible first | exact HK.out | apply Kept.alloc | apply Kept.drewN | apply Kept.drew) | exact HK.out)) (fun k_ e_ => (HO_0.out.1 k_ e_))); replace HO_0 := Az (hp_); clear hg hw hp_))
     go_roundg k1
     case measure => have := HK1.out; omega
     case rel => exact ⟨(y188), (wrap64 (x1_1 + 1)), (wrap64 (x5_1 + 1)), (by first | rfl | (simp; done) | (simp [*]; done)), (by first | rfl | (simp; done) | (simp [*]; done)), H', ⟨by have := HK1.out; omega⟩, ⟨ru HO_0.out⟩, ⟨by repeat (first | (with_reducible first | exact HK.out | apply Kept.alloc | apply Kept.drewN | apply Kept.drew) | exact HK.out)⟩, ⟨bz⟩⟩
    ·
     rw [if_neg c4] at H; exact absurd H (by simp)
   ·
    rw [if_neg c3] at H; have c3b0 : decide (x5_1 < (x0_1.length : Int)) = false := decide_eq_false c3; clear c3; simp only [Option.some.injEq, Prod.mk.injEq] at H; obtain ⟨rfl, rfl⟩ := H; obtain ⟨Ao9, co9, eo9⟩ := Kd.R_slice HO_0.out; subst eo9
    go_wp2
    go_ret
    exact ⟨rz, ru HO_0.out, bz, by repeat (first | (with_reducible first | exact HK.out | apply Kept.alloc | apply Kept.drewN | apply Kept.drew) | exact HK.out)⟩

/-! ### laws_heldIntS: function 24 -/
def laws_heldIntS.l0 : Nat → List Int → Int → Int → Option (Int)
 | 0, _, _, _ => none
 | k + 1, x0, x1, x5 => if x5 < (x0.length : Int) then (if 0 ≤ x5 then (if (rd x0 x5) = x1 then (laws_heldIntS.l0 k x0 (wrap64 (x1 + 1)) (wrap64 (x5 + 1))) else (some (-1))) else (none)) else (some x1)
def laws_heldIntS.f (k : Nat) (l0 : List Int) (a1 : Int) : Option (Int) := laws_heldIntS.l0 k l0 a1 0
set_option maxHeartbeats 8000000 in
set_option maxRecDepth 100000 in
theorem laws_heldIntS.calls (k : Nat) (A0 : Option Addr) (c0 : Nat) (l0 : List Int) (a1 : Int) (r : Int) (w : World) (hr0 : Kd.C (Kd.int .i64) w A0 l0.length l0) (hc0 : l0.length ≤ c0) (h : laws_heldIntS.f k l0 a1 = some r) :
  Calls Try.prog 24 #[.slice A0 l0.length c0, .int .i64 a1] w fun e w' => e = .returned (.int .i64 r) ∧ Drawn0 w w' := by
 have HR0 := Az hr0; have HC0 := Az hc0; clear hr0 hc0; have H : (laws_heldIntS.l0 k l0 a1 0) = some r := h; clear h; have H' := Az H; clear H
 go_enter Try.func24, Try.ntmps24
 go_wp2
 go_loopg [1, 5] k (fun kq v1 v5 w' => ∃ (x1_1 : Int) (x5_1 : Int), v1 = .int .i64 x1_1 ∧ v5 = .int .i64 x5_1 ∧ Aside0 (laws_heldIntS.l0 kq l0 x1_1 x5_1 = some r) ∧ Aside0 (kq ≤ k) ∧ Drawn0 w w')
 case atStart => exact ⟨(a1), (0), (by first | rfl | (simp; done) | (simp [*]; done)), (by first | rfl | (simp; done) | (simp [*]; done)), H', ⟨Nat.le_refl _⟩, by repeat (first | exact Drawn0.refl _ | apply Drawn0.step)⟩
 case round =>
  clear H'; (try clear c2); (try clear p2); obtain ⟨x1_1, x5_1, rfl, rfl, HA, HK1, ⟨m1, rfl⟩⟩ := hrel
  cases gk with
  | zero => exact absurd HA.out (by simp [laws_heldIntS.l0])
  | succ k1 =>
   have H := HA.out; clear HA; simp only [laws_heldIntS.l0] at H
   by_cases c3 : x5_1 < (l0.length : Int)
   ·
    rw [if_pos c3] at H; have c3b0 : decide (x5_1 < (l0.length : Int)) = true := decide_eq_true c3; clear c3
    by_cases c4 : 0 ≤ x5_1
    ·
     rw [if_pos c4] at H; have c4b0 : decide (0 ≤ x5_1) = true := decide_eq_true c4; clear c4
     by_cases c5 : (rd l0 x5_1) = x1_1
     ·
      rw [if_pos c5] at H; have c5b0 : ((rd l0 x5_1) == x1_1) = true := beq_iff_eq.mpr c5; have c5b1 : ((rd l0 x5_1) != x1_1) = false := bne_eq_false_iff_eq.mpr c5; clear c5; have H' := Az H; clear H; have p189 : 0 ≤ (x5_1 : Int) := oz; have q189 : x5_1 < (l0.length : Int) := oz; obtain ⟨ad189, e189, hx189_0⟩ := Kd.at_int HR0.out x5_1 p189 q189
      cases e189
      replace p189 := eq_true p189; replace q189 := eq_true q189
      go_wp2
      go_roundg k1
      case measure => have := HK1.out; omega
      case rel => exact ⟨(wrap64 (x1_1 + 1)), (wrap64 (x5_1 + 1)), (by first | rfl | (simp; done) | (simp [*]; done)), (by first | rfl | (simp; done) | (simp [*]; done)), H', ⟨by have := HK1.out; omega⟩, by repeat (first | exact Drawn0.refl _ | apply Drawn0.step)⟩
     ·
      rw [if_neg c5] at H; have c5b0 : ((rd l0 x5_1) == x1_1) = false := beq_eq_false_iff_ne.mpr c5; have c5b1 : ((rd l0 x5_1) != x1_1) = true := bne_iff_ne.mpr c5; obtain rfl := Option.some.inj H; have p189 : 0 ≤ (x5_1 : Int) := oz; have q189 : x5_1 < (l0.length : Int) := oz; obtain ⟨ad189, e189, hx189_0⟩ := Kd.at_int HR0.out x5_1 p189 q189
      cases e189
      replace p189 := eq_true p189; replace q189 := eq_true q189
      go_wp2
      go_ret
      exact ⟨by first | rfl | (simp; done) | (simp [*]; done), by repeat (first | exact Drawn0.refl _ | apply Drawn0.step)⟩
    ·
     rw [if_neg c4] at H; exact absurd H (by simp)
   ·
    rw [if_neg c3] at H; have c3b0 : decide (x5_1 < (l0.length : Int)) = false := decide_eq_false c3; clear c3; obtain rfl := Option.some.inj H
    go_wp2
    go_ret
    exact ⟨by first | rfl | (simp; done) | (simp [*]; done), by repeat (first | exact Drawn0.refl _ | apply Drawn0.step)⟩

/-! ### impl_in: function 36 -/
def impl_in.f (a0 : Int) (a1 : Int) (a2 : Int) : Option (Bool) := if a0 ≥ a1 then (some (decide (a0 ≤ a2))) else (some false)
set_option maxHeartbeats 8000000 in
set_option maxRecDepth 100000 in
theorem impl_in.calls (a0 : Int) (a1 : Int) (a2 : Int) (r : Bool) (w : World) (h : impl_in.f a0 a1 a2 = some r) :
  Calls Try.prog 36 #[.int .i64 a0, .int .i64 a1, .int .i64 a2] w fun e w' => e = .returned (.bool r) ∧ Drawn0 w w' := by
 have H : (if a0 ≥ a1 then (some (decide (a0 ≤ a2))) else (some false)) = some r := h; clear h
 by_cases c4 : a0 ≥ a1
 ·
  rw [if_pos c4] at H; have c4b0 : decide (a1 ≤ a0) = true := decide_eq_true c4; clear c4; obtain rfl := Option.some.inj H
  go_enter Try.func36, Try.ntmps36
  go_wp2
  go_ret
  exact ⟨by first | rfl | (simp; done) | (simp [*]; done), by repeat (first | exact Drawn0.refl _ | apply Drawn0.step)⟩
 ·
  rw [if_neg c4] at H; have c4b0 : decide (a1 ≤ a0) = false := decide_eq_false c4; clear c4; obtain rfl := Option.some.inj H
  go_enter Try.func36, Try.ntmps36
  go_wp2
  go_ret
  exact ⟨by first | rfl | (simp; done) | (simp [*]; done), by repeat (first | exact Drawn0.refl _ | apply Drawn0.step)⟩

/-! ### impl_NetOk: function 17, by hand -/
def impl_NetOk.inB (a b c : Int) : Bool := decide (b ≤ a) && decide (a ≤ c)
theorem impl_NetOk.in_eq (a b c : Int) : impl_in.f a b c = some (impl_NetOk.inB a b c) := by
 unfold impl_in.f impl_NetOk.inB
 by_cases h : a ≥ b
 ·
  rw [if_pos h, decide_eq_true (show b ≤ a from h)]; rfl
 ·
  rw [if_neg h, decide_eq_false (show ¬ b ≤ a from h)]; rfl
theorem impl_NetOk.in_r {a b c : Int} {r : Bool} (h : impl_NetOk.inB a b c = r) : impl_in.f a b c = some r := by rw [← h]; exact impl_NetOk.in_eq a b c
theorem impl_NetOk.bd {B : Nat} {a w : World} (h : Below B a w) (q : Nat) : Below B a (w.drewN q) := ⟨h.os, h.tape, h.output, h.size, h.block⟩
def impl_NetOk.p1 (b : Int) (x : S57) : Bool := !(impl_NetOk.inB x.f0 0 (wrap64 (b - 1))) || !(impl_NetOk.inB x.f1 0 100000)
def impl_NetOk.p2 (b : Int) (x : S55) : Bool := !(impl_NetOk.inB x.f0 0 (wrap64 (b - 1))) || (!(impl_NetOk.inB x.f1 0 (wrap64 (b - 1))) || decide (x.f0 = x.f1))
def impl_NetOk.p3 (b : Int) (x : S59) : Bool := !(impl_NetOk.inB x.f0 0 (wrap64 (b - 1))) || (!(impl_NetOk.inB x.f1 1 100000) || !(impl_NetOk.inB x.f2 0 9))
set_option maxHeartbeats 4000000 in
set_option maxRecDepth 100000 in
theorem impl_NetOk.bus (x b : Int) (B : Nat) (w0 : World) (hB : B < w0.heap.size) (hcell : w0.cell? ⟨B, 0, none⟩ = some (.int .i64 b)) (W : World) (hb : Below w0.heap.size w0 W) :
  Calls Try.prog 44 #[.int .i64 x, .pointer (some ⟨B, 0, none⟩)] W fun e w' => e = .returned (.bool (impl_NetOk.inB x 0 (wrap64 (b - 1)))) ∧ ∃ nd, w' = W.drewN nd := by
 have hc : W.cell? ⟨B, 0, none⟩ = some (.int .i64 b) := (hb.cell (p := ⟨B, 0, none⟩) hB).trans hcell; have hi := impl_NetOk.in_eq x 0 (wrap64 (b - 1)); generalize impl_NetOk.inB x 0 (wrap64 (b - 1)) = r at hi ⊢
 go_enter Try.func44, Try.ntmps44
 go_wp2_with (go_at_call 36; refine (impl_in.calls _ _ _ r _ hi).mono ?_; rintro e w' ⟨rfl, nd, rfl⟩)
 go_ret
 exact ⟨rfl, _, rfl⟩
set_option maxHeartbeats 4000000 in
set_option maxRecDepth 100000 in
theorem impl_NetOk.cl1 (b : Int) (x : S57) (Bi Bn : Nat) (w0 : World) (hBi : Bi < w0.heap.size) (hBn : Bn < w0.heap.size) (hci : w0.cell? ⟨Bi, 0, none⟩ = some (.func (.func 44) #[] #[.pointer (some ⟨Bn, 0, none⟩)])) (hcn : w0.cell? ⟨Bn, 0, none⟩ = some (.int .i64 b)) (W : World) (hb : Below w0.heap.size w0 W) :
  Calls Try.prog 46 #[.agg #[.int .i64 x.f0, .int .i64 x.f1, .bool x.f2], .pointer (some ⟨Bi, 0, none⟩)] W fun e w' => e = .returned (.bool (impl_NetOk.p1 b x)) ∧ Below w0.heap.size w0 w' := by
 have hc : W.cell? ⟨Bi, 0, none⟩ = some (.func (.func 44) #[] #[.pointer (some ⟨Bn, 0, none⟩)]) := (hb.cell (p := ⟨Bi, 0, none⟩) hBi).trans hci; have hBW : Bi < W.heap.size := Nat.lt_of_lt_of_le hBi hb.size
 have hne : Bi ≠ W.heap.size := by omega
 have HBUS := impl_NetOk.bus x.f0 b Bn w0 hBn hcn
 unfold impl_NetOk.p1
 have hbel := fun (o : Obj) => hb.alloc hb.size o
 cases h1 : impl_NetOk.inB x.f0 0 (wrap64 (b - 1))
 ·
  simp only [h1] at HBUS
  go_enter Try.func46, Try.ntmps46
  go_wp2_with (go_at_call 44; (with_reducible refine (HBUS _ ?hb).mono ?_); (case hb => first | exact hbel _ | exact impl_NetOk.bd (hbel _) _ | exact impl_NetOk.bd (impl_NetOk.bd (hbel _) _) _); rintro e w' ⟨rfl, nd, rfl⟩)
  all_goals (go_ret; exact ⟨by first | rfl | simp_all, by first | exact hbel _ | exact impl_NetOk.bd (hbel _) _ | exact impl_NetOk.bd (impl_NetOk.bd (hbel _) _) _ | exact impl_NetOk.bd (impl_NetOk.bd (impl_NetOk.bd (hbel _) _) _) _⟩)
 ·
  simp only [h1] at HBUS
  cases h2 : impl_NetOk.inB x.f1 0 100000
  ·
   go_enter Try.func46, Try.ntmps46
   go_wp2_with (first | (go_at_call 44; (with_reducible refine (HBUS _ ?hb).mono ?_); (case hb => first | exact hbel _ | exact impl_NetOk.bd (hbel _) _ | exact impl_NetOk.bd (impl_NetOk.bd (hbel _) _) _); rintro e w' ⟨rfl, nd, rfl⟩) | (go_at_call 36; (with_reducible refine (impl_in.calls x.f1 0 100000 false _ ?hi).mono ?_); (case hi => exact impl_NetOk.in_r h2); rintro e w' ⟨rfl, nd, rfl⟩))
   all_goals (go_ret; exact ⟨by first | rfl | simp_all, by first | exact hbel _ | exact impl_NetOk.bd (hbel _) _ | exact impl_NetOk.bd (impl_NetOk.bd (hbel _) _) _ | exact impl_NetOk.bd (impl_NetOk.bd (impl_NetOk.bd (hbel _) _) _) _⟩)
  ·
   go_enter Try.func46, Try.ntmps46
   go_wp2_with (first | (go_at_call 44; (with_reducible refine (HBUS _ ?hb).mono ?_); (case hb => first | exact hbel _ | exact impl_NetOk.bd (hbel _) _ | exact impl_NetOk.bd (impl_NetOk.bd (hbel _) _) _); rintro e w' ⟨rfl, nd, rfl⟩) | (go_at_call 36; (with_reducible refine (impl_in.calls x.f1 0 100000 true _ ?hi).mono ?_); (case hi => exact impl_NetOk.in_r h2); rintro e w' ⟨rfl, nd, rfl⟩))
   all_goals (go_ret; exact ⟨by first | rfl | simp_all, by first | exact hbel _ | exact impl_NetOk.bd (hbel _) _ | exact impl_NetOk.bd (impl_NetOk.bd (hbel _) _) _ | exact impl_NetOk.bd (impl_NetOk.bd (impl_NetOk.bd (hbel _) _) _) _⟩)
theorem impl_NetOk.rd1 (l : List S57) (i : Nat) (h : i < l.length) : rd_T57 l (i : Int) = l[i] := by
 show l.getD (i : Int).toNat z57 = _
 rw [Int.toNat_natCast, List.getD_eq_getElem?_getD, List.getElem?_eq_getElem h]; rfl
set_option maxHeartbeats 4000000 in
set_option maxRecDepth 100000 in
theorem impl_NetOk.index1 (A0 : Option Addr) (c0 : Nat) (l0 : List S57) (p : S57 → Bool) (Bi : Nat) (r : Bool) (w : World) (hr0 : Kd.C k57 w A0 l0.length l0) (hone : ∀ (x : S57) (W : World), Below w.heap.size w W → Calls Try.prog 46 #[.agg #[.int .i64 x.f0, .int .i64 x.f1, .bool x.f2], .pointer (some ⟨Bi, 0, none⟩)] W fun e w' => e = .returned (.bool (p x)) ∧ Below w.heap.size w w') (h : l0.any p = r) :
  Calls Try.prog 70 #[.slice A0 l0.length c0, .func (.func 46) #[] #[.pointer (some ⟨Bi, 0, none⟩)]] w fun e w' => ∃ n : Int, e = .returned (.int .i64 n) ∧ decide (0 ≤ n) = r ∧ Below w.heap.size w w' := by
 have hu := Try.underlying57; have HR := Az hr0; have HL := Az h; have HO := Az hone; have hlen := hr0.2.1; have HN := Az hlen; clear hr0 h hlen hone; have HB := Az (Below.refl w.heap.size w); have hlen : l0.length ≤ 9223372036854775807 := HN.out
 go_enter Try.func70, Try.ntmps70
 go_wp2
 go_loopg [5, 8] l0.length (fun gg _ s8 wr => ∃ kk : Nat, kk ≤ l0.length ∧ l0.length - kk ≤ gg ∧ s8 = .int .i64 kk ∧ Aside0 (Below w.heap.size w wr) ∧ Aside0 ((l0.drop kk).any p = r))
 case atStart => exact ⟨0, Nat.zero_le _, by omega, rfl, HB, HL⟩
 case round =>
  obtain ⟨kk, hkk, hg, rfl, BW, A⟩ := hrel; clear HB
  by_cases hlt : kk < l0.length
  ·
   have hltz : (kk : Int) < (l0.length : Int) := by omega
   have hA := A.out; rw [List.drop_eq_getElem_cons hlt, List.any_cons, ← impl_NetOk.rd1 _ _ hlt] at hA; clear A; obtain ⟨ad, e, hx0, hx1, hx2⟩ := at_T57 HR.out (kk : Int) (by omega) hltz
   cases e
   simp only [Int.toNat_natCast] at hx0 hx1 hx2; replace hx0 := (BW.out.cell (World.block_lt_of_cell? w _ hx0)).trans hx0; replace hx1 := (BW.out.cell (World.block_lt_of_cell? w _ hx1)).trans hx1; replace hx2 := (BW.out.cell (World.block_lt_of_cell? w _ hx2)).trans hx2; have hone := HO.out (rd_T57 l0 (kk : Int)) wr BW.out
   cases hq : p (rd_T57 l0 (kk : Int))
   ·
    rw [hq] at hA hone; rw [Bool.false_or] at hA; have HC := Az hone; have HA := Az hA; clear hone hA
    go_wp2_with (go_at_call 46; refine HC.out.mono ?_; rintro e w' ⟨rfl, hb'⟩)
    go_roundg (l0.length - (kk + 1))
    case measure => omega
    case rel => exact ⟨kk + 1, by omega, by omega, by go_num, ⟨hb'⟩, HA⟩
   ·
    rw [hq] at hA hone; rw [Bool.true_or] at hA; have HC := Az hone; have HA := Az hA; clear hone hA
    go_wp2_with (go_at_call 46; refine HC.out.mono ?_; rintro e w' ⟨rfl, hb'⟩)
    go_ret
    exact ⟨(kk : Int), rfl, by rw [← HA.out]; simp, hb'⟩
  ·
   have hltz : ¬ (kk : Int) < (l0.length : Int) := by omega
   have : kk = l0.length := by omega
   subst this; have hr := A.out; rw [List.drop_length] at hr; have HR' := Az hr; clear hr A
   go_wp2
   go_ret
   exact ⟨-1, rfl, by rw [← HR'.out]; rfl, BW.out⟩
set_option maxHeartbeats 4000000 in
set_option maxRecDepth 100000 in
theorem impl_NetOk.contains1 (A0 : Option Addr) (c0 : Nat) (l0 : List S57) (p : S57 → Bool) (Bi : Nat) (r : Bool) (w : World) (hr0 : Kd.C k57 w A0 l0.length l0) (hone : ∀ (x : S57) (W : World), Below w.heap.size w W → Calls Try.prog 46 #[.agg #[.int .i64 x.f0, .int .i64 x.f1, .bool x.f2], .pointer (some ⟨Bi, 0, none⟩)] W fun e w' => e = .returned (.bool (p x)) ∧ Below w.heap.size w w') (h : l0.any p = r) :
  Calls Try.prog 45 #[.slice A0 l0.length c0, .func (.func 46) #[] #[.pointer (some ⟨Bi, 0, none⟩)]] w fun e w' => e = .returned (.bool r) ∧ Below w.heap.size w w' := by
 have HC := Az (impl_NetOk.index1 A0 c0 l0 p Bi r w hr0 hone h); clear hr0 hone h
 go_enter Try.func45, Try.ntmps45
 go_wp2_with (go_at_call 70; refine HC.out.mono ?_; rintro e w' ⟨n, rfl, hn, hb⟩)
 go_ret
 exact ⟨by subst hn; rfl, hb⟩
set_option maxHeartbeats 4000000 in
set_option maxRecDepth 100000 in
theorem impl_NetOk.cl2 (b : Int) (x : S55) (Bi Bn : Nat) (w0 : World) (hBi : Bi < w0.heap.size) (hBn : Bn < w0.heap.size) (hci : w0.cell? ⟨Bi, 0, none⟩ = some (.func (.func 44) #[] #[.pointer (some ⟨Bn, 0, none⟩)])) (hcn : w0.cell? ⟨Bn, 0, none⟩ = some (.int .i64 b)) (W : World) (hb : Below w0.heap.size w0 W) :
  Calls Try.prog 48 #[.agg #[.int .i64 x.f0, .int .i64 x.f1, .bool x.f2], .pointer (some ⟨Bi, 0, none⟩)] W fun e w' => e = .returned (.bool (impl_NetOk.p2 b x)) ∧ Below w0.heap.size w0 w' := by
 have hc : W.cell? ⟨Bi, 0, none⟩ = some (.func (.func 44) #[] #[.pointer (some ⟨Bn, 0, none⟩)]) := (hb.cell (p := ⟨Bi, 0, none⟩) hBi).trans hci; have hBW : Bi < W.heap.size := Nat.lt_of_lt_of_le hBi hb.size
 have hne : Bi ≠ W.heap.size := by omega
 have HBUS := impl_NetOk.bus x.f0 b Bn w0 hBn hcn; have HBUS2 := impl_NetOk.bus x.f1 b Bn w0 hBn hcn
 unfold impl_NetOk.p2
 have hbel := fun (o : Obj) => hb.alloc hb.size o
 cases h1 : impl_NetOk.inB x.f0 0 (wrap64 (b - 1))
 ·
  simp only [h1] at HBUS
  go_enter Try.func48, Try.ntmps48
  go_wp2_with (go_at_call 44; (with_reducible refine (HBUS _ ?hb).mono ?_); (case hb => first | exact hbel _ | exact impl_NetOk.bd (hbel _) _ | exact impl_NetOk.bd (impl_NetOk.bd (hbel _) _) _); rintro e w' ⟨rfl, nd, rfl⟩)
  all_goals (go_ret; exact ⟨by first | rfl | simp_all, by first | exact hbel _ | exact impl_NetOk.bd (hbel _) _ | exact impl_NetOk.bd (impl_NetOk.bd (hbel _) _) _ | exact impl_NetOk.bd (impl_NetOk.bd (impl_NetOk.bd (hbel _) _) _) _⟩)
 ·
  simp only [h1] at HBUS
  cases h2 : impl_NetOk.inB x.f1 0 (wrap64 (b - 1))
  ·
   simp only [h2] at HBUS2
   go_enter Try.func48, Try.ntmps48
   go_wp2_with (first | (go_at_call 44; (with_reducible refine (HBUS _ ?hb).mono ?_); (case hb => first | exact hbel _ | exact impl_NetOk.bd (hbel _) _ | exact impl_NetOk.bd (impl_NetOk.bd (hbel _) _) _); rintro e w' ⟨rfl, nd, rfl⟩) | (go_at_call 44; (with_reducible refine (HBUS2 _ ?hb).mono ?_); (case hb => first | exact hbel _ | exact impl_NetOk.bd (hbel _) _ | exact impl_NetOk.bd (impl_NetOk.bd (hbel _) _) _); rintro e w' ⟨rfl, nd, rfl⟩))
   all_goals (go_ret; exact ⟨by first | rfl | simp_all, by first | exact hbel _ | exact impl_NetOk.bd (hbel _) _ | exact impl_NetOk.bd (impl_NetOk.bd (hbel _) _) _ | exact impl_NetOk.bd (impl_NetOk.bd (impl_NetOk.bd (hbel _) _) _) _⟩)
  ·
   simp only [h2] at HBUS2
   by_cases h3 : x.f0 = x.f1
   ·
    go_enter Try.func48, Try.ntmps48
    go_wp2_with (first | (go_at_call 44; (with_reducible refine (HBUS _ ?hb).mono ?_); (case hb => first | exact hbel _ | exact impl_NetOk.bd (hbel _) _ | exact impl_NetOk.bd (impl_NetOk.bd (hbel _) _) _); rintro e w' ⟨rfl, nd, rfl⟩) | (go_at_call 44; (with_reducible refine (HBUS2 _ ?hb).mono ?_); (case hb => first | exact hbel _ | exact impl_NetOk.bd (hbel _) _ | exact impl_NetOk.bd (impl_NetOk.bd (hbel _) _) _); rintro e w' ⟨rfl, nd, rfl⟩))
    all_goals (go_ret; exact ⟨by first | rfl | simp_all, by first | exact hbel _ | exact impl_NetOk.bd (hbel _) _ | exact impl_NetOk.bd (impl_NetOk.bd (hbel _) _) _ | exact impl_NetOk.bd (impl_NetOk.bd (impl_NetOk.bd (hbel _) _) _) _⟩)
   ·
    go_enter Try.func48, Try.ntmps48
    go_wp2_with (first | (go_at_call 44; (with_reducible refine (HBUS _ ?hb).mono ?_); (case hb => first | exact hbel _ | exact impl_NetOk.bd (hbel _) _ | exact impl_NetOk.bd (impl_NetOk.bd (hbel _) _) _); rintro e w' ⟨rfl, nd, rfl⟩) | (go_at_call 44; (with_reducible refine (HBUS2 _ ?hb).mono ?_); (case hb => first | exact hbel _ | exact impl_NetOk.bd (hbel _) _ | exact impl_NetOk.bd (impl_NetOk.bd (hbel _) _) _); rintro e w' ⟨rfl, nd, rfl⟩))
    all_goals (go_ret; exact ⟨by first | rfl | simp_all, by first | exact hbel _ | exact impl_NetOk.bd (hbel _) _ | exact impl_NetOk.bd (impl_NetOk.bd (hbel _) _) _ | exact impl_NetOk.bd (impl_NetOk.bd (impl_NetOk.bd (hbel _) _) _) _⟩)
theorem impl_NetOk.rd2 (l : List S55) (i : Nat) (h : i < l.length) : rd_T55 l (i : Int) = l[i] := by
 show l.getD (i : Int).toNat z55 = _
 rw [Int.toNat_natCast, List.getD_eq_getElem?_getD, List.getElem?_eq_getElem h]; rfl
set_option maxHeartbeats 4000000 in
set_option maxRecDepth 100000 in
theorem impl_NetOk.index2 (A0 : Option Addr) (c0 : Nat) (l0 : List S55) (p : S55 → Bool) (Bi : Nat) (r : Bool) (w : World) (hr0 : Kd.C k55 w A0 l0.length l0) (hone : ∀ (x : S55) (W : World), Below w.heap.size w W → Calls Try.prog 48 #[.agg #[.int .i64 x.f0, .int .i64 x.f1, .bool x.f2], .pointer (some ⟨Bi, 0, none⟩)] W fun e w' => e = .returned (.bool (p x)) ∧ Below w.heap.size w w') (h : l0.any p = r) :
  Calls Try.prog 71 #[.slice A0 l0.length c0, .func (.func 48) #[] #[.pointer (some ⟨Bi, 0, none⟩)]] w fun e w' => ∃ n : Int, e = .returned (.int .i64 n) ∧ decide (0 ≤ n) = r ∧ Below w.heap.size w w' := by
 have hu := Try.underlying55; have HR := Az hr0; have HL := Az h; have HO := Az hone; have hlen := hr0.2.1; have HN := Az hlen; clear hr0 h hlen hone; have HB := Az (Below.refl w.heap.size w); have hlen : l0.length ≤ 9223372036854775807 := HN.out
 go_enter Try.func71, Try.ntmps71
 go_wp2
 go_loopg [5, 8] l0.length (fun gg _ s8 wr => ∃ kk : Nat, kk ≤ l0.length ∧ l0.length - kk ≤ gg ∧ s8 = .int .i64 kk ∧ Aside0 (Below w.heap.size w wr) ∧ Aside0 ((l0.drop kk).any p = r))
 case atStart => exact ⟨0, Nat.zero_le _, by omega, rfl, HB, HL⟩
 case round =>
  obtain ⟨kk, hkk, hg, rfl, BW, A⟩ := hrel; clear HB
  by_cases hlt : kk < l0.length
  ·
   have hltz : (kk : Int) < (l0.length : Int) := by omega
   have hA := A.out; rw [List.drop_eq_getElem_cons hlt, List.any_cons, ← impl_NetOk.rd2 _ _ hlt] at hA; clear A; obtain ⟨ad, e, hx0, hx1, hx2⟩ := at_T55 HR.out (kk : Int) (by omega) hltz
   cases e
   simp only [Int.toNat_natCast] at hx0 hx1 hx2; replace hx0 := (BW.out.cell (World.block_lt_of_cell? w _ hx0)).trans hx0; replace hx1 := (BW.out.cell (World.block_lt_of_cell? w _ hx1)).trans hx1; replace hx2 := (BW.out.cell (World.block_lt_of_cell? w _ hx2)).trans hx2; have hone := HO.out (rd_T55 l0 (kk : Int)) wr BW.out
   cases hq : p (rd_T55 l0 (kk : Int))
   ·
    rw [hq] at hA hone; rw [Bool.false_or] at hA; have HC := Az hone; have HA := Az hA; clear hone hA
    go_wp2_with (go_at_call 48; refine HC.out.mono ?_; rintro e w' ⟨rfl, hb'⟩)
    go_roundg (l0.length - (kk + 1))
    case measure => omega
    case rel => exact ⟨kk + 1, by omega, by omega, by go_num, ⟨hb'⟩, HA⟩
   ·
    rw [hq] at hA hone; rw [Bool.true_or] at hA; have HC := Az hone; have HA := Az hA; clear hone hA
    go_wp2_with (go_at_call 48; refine HC.out.mono ?_; rintro e w' ⟨rfl, hb'⟩)
    go_ret
    exact ⟨(kk : Int), rfl, by rw [← HA.out]; simp, hb'⟩
  ·
   have hltz : ¬ (kk : Int) < (l0.length : Int) := by omega
   have : kk = l0.length := by omega
   subst this; have hr := A.out; rw [List.drop_length] at hr; have HR' := Az hr; clear hr A
   go_wp2
   go_ret
   exact ⟨-1, rfl, by rw [← HR'.out]; rfl, BW.out⟩
set_option maxHeartbeats 4000000 in
set_option maxRecDepth 100000 in
theorem impl_NetOk.contains2 (A0 : Option Addr) (c0 : Nat) (l0 : List S55) (p : S55 → Bool) (Bi : Nat) (r : Bool) (w : World) (hr0 : Kd.C k55 w A0 l0.length l0) (hone : ∀ (x : S55) (W : World), Below w.heap.size w W → Calls Try.prog 48 #[.agg #[.int .i64 x.f0, .int .i64 x.f1, .bool x.f2], .pointer (some ⟨Bi, 0, none⟩)] W fun e w' => e = .returned (.bool (p x)) ∧ Below w.heap.size w w') (h : l0.any p = r) :
  Calls Try.prog 47 #[.slice A0 l0.length c0, .func (.func 48) #[] #[.pointer (some ⟨Bi, 0, none⟩)]] w fun e w' => e = .returned (.bool r) ∧ Below w.heap.size w w' := by
 have HC := Az (impl_NetOk.index2 A0 c0 l0 p Bi r w hr0 hone h); clear hr0 hone h
 go_enter Try.func47, Try.ntmps47
 go_wp2_with (go_at_call 71; refine HC.out.mono ?_; rintro e w' ⟨n, rfl, hn, hb⟩)
 go_ret
 exact ⟨by subst hn; rfl, hb⟩
set_option maxHeartbeats 4000000 in
set_option maxRecDepth 100000 in
theorem impl_NetOk.cl3 (b : Int) (x : S59) (Bi Bn : Nat) (w0 : World) (hBi : Bi < w0.heap.size) (hBn : Bn < w0.heap.size) (hci : w0.cell? ⟨Bi, 0, none⟩ = some (.func (.func 44) #[] #[.pointer (some ⟨Bn, 0, none⟩)])) (hcn : w0.cell? ⟨Bn, 0, none⟩ = some (.int .i64 b)) (W : World) (hb : Below w0.heap.size w0 W) :
  Calls Try.prog 50 #[.agg #[.int .i64 x.f0, .int .i64 x.f1, .int .i64 x.f2], .pointer (some ⟨Bi, 0, none⟩)] W fun e w' => e = .returned (.bool (impl_NetOk.p3 b x)) ∧ Below w0.heap.size w0 w' := by
 have hc : W.cell? ⟨Bi, 0, none⟩ = some (.func (.func 44) #[] #[.pointer (some ⟨Bn, 0, none⟩)]) := (hb.cell (p := ⟨Bi, 0, none⟩) hBi).trans hci; have hBW : Bi < W.heap.size := Nat.lt_of_lt_of_le hBi hb.size
 have hne : Bi ≠ W.heap.size := by omega
 have HBUS := impl_NetOk.bus x.f0 b Bn w0 hBn hcn
 unfold impl_NetOk.p3
 have hbel := fun (o : Obj) => hb.alloc hb.size o
 cases h1 : impl_NetOk.inB x.f0 0 (wrap64 (b - 1))
 ·
  simp only [h1] at HBUS
  go_enter Try.func50, Try.ntmps50
  go_wp2_with (go_at_call 44; (with_reducible refine (HBUS _ ?hb).mono ?_); (case hb => first | exact hbel _ | exact impl_NetOk.bd (hbel _) _ | exact impl_NetOk.bd (impl_NetOk.bd (hbel _) _) _); rintro e w' ⟨rfl, nd, rfl⟩)
  all_goals (go_ret; exact ⟨by first | rfl | simp_all, by first | exact hbel _ | exact impl_NetOk.bd (hbel _) _ | exact impl_NetOk.bd (impl_NetOk.bd (hbel _) _) _ | exact impl_NetOk.bd (impl_NetOk.bd (impl_NetOk.bd (hbel _) _) _) _⟩)
 ·
  simp only [h1] at HBUS
  cases h2 : impl_NetOk.inB x.f1 1 100000
  ·
   go_enter Try.func50, Try.ntmps50
   go_wp2_with (first | (go_at_call 44; (with_reducible refine (HBUS _ ?hb).mono ?_); (case hb => first | exact hbel _ | exact impl_NetOk.bd (hbel _) _ | exact impl_NetOk.bd (impl_NetOk.bd (hbel _) _) _); rintro e w' ⟨rfl, nd, rfl⟩) | (go_at_call 36; (with_reducible refine (impl_in.calls x.f1 1 100000 false _ ?hi).mono ?_); (case hi => exact impl_NetOk.in_r h2); rintro e w' ⟨rfl, nd, rfl⟩))
   all_goals (go_ret; exact ⟨by first | rfl | simp_all, by first | exact hbel _ | exact impl_NetOk.bd (hbel _) _ | exact impl_NetOk.bd (impl_NetOk.bd (hbel _) _) _ | exact impl_NetOk.bd (impl_NetOk.bd (impl_NetOk.bd (hbel _) _) _) _⟩)
  ·
   cases h3 : impl_NetOk.inB x.f2 0 9
   ·
    go_enter Try.func50, Try.ntmps50
    go_wp2_with (first | (go_at_call 44; (with_reducible refine (HBUS _ ?hb).mono ?_); (case hb => first | exact hbel _ | exact impl_NetOk.bd (hbel _) _ | exact impl_NetOk.bd (impl_NetOk.bd (hbel _) _) _); rintro e w' ⟨rfl, nd, rfl⟩) | (go_at_call 36; (with_reducible refine (impl_in.calls x.f1 1 100000 true _ ?hi).mono ?_); (case hi => exact impl_NetOk.in_r h2); rintro e w' ⟨rfl, nd, rfl⟩) | (go_at_call 36; (with_reducible refine (impl_in.calls x.f2 0 9 false _ ?hi).mono ?_); (case hi => exact impl_NetOk.in_r h3); rintro e w' ⟨rfl, nd, rfl⟩))
    all_goals (go_ret; exact ⟨by first | rfl | simp_all, by first | exact hbel _ | exact impl_NetOk.bd (hbel _) _ | exact impl_NetOk.bd (impl_NetOk.bd (hbel _) _) _ | exact impl_NetOk.bd (impl_NetOk.bd (impl_NetOk.bd (hbel _) _) _) _⟩)
   ·
    go_enter Try.func50, Try.ntmps50
    go_wp2_with (first | (go_at_call 44; (with_reducible refine (HBUS _ ?hb).mono ?_); (case hb => first | exact hbel _ | exact impl_NetOk.bd (hbel _) _ | exact impl_NetOk.bd (impl_NetOk.bd (hbel _) _) _); rintro e w' ⟨rfl, nd, rfl⟩) | (go_at_call 36; (with_reducible refine (impl_in.calls x.f1 1 100000 true _ ?hi).mono ?_); (case hi => exact impl_NetOk.in_r h2); rintro e w' ⟨rfl, nd, rfl⟩) | (go_at_call 36; (with_reducible refine (impl_in.calls x.f2 0 9 true _ ?hi).mono ?_); (case hi => exact impl_NetOk.in_r h3); rintro e w' ⟨rfl, nd, rfl⟩))
    all_goals (go_ret; exact ⟨by first | rfl | simp_all, by first | exact hbel _ | exact impl_NetOk.bd (hbel _) _ | exact impl_NetOk.bd (impl_NetOk.bd (hbel _) _) _ | exact impl_NetOk.bd (impl_NetOk.bd (impl_NetOk.bd (hbel _) _) _) _⟩)
theorem impl_NetOk.rd3 (l : List S59) (i : Nat) (h : i < l.length) : rd_T59 l (i : Int) = l[i] := by
 show l.getD (i : Int).toNat z59 = _
 rw [Int.toNat_natCast, List.getD_eq_getElem?_getD, List.getElem?_eq_getElem h]; rfl
set_option maxHeartbeats 4000000 in
set_option maxRecDepth 100000 in
theorem impl_NetOk.index3 (A0 : Option Addr) (c0 : Nat) (l0 : List S59) (p : S59 → Bool) (Bi : Nat) (r : Bool) (w : World) (hr0 : Kd.C k59 w A0 l0.length l0) (hone : ∀ (x : S59) (W : World), Below w.heap.size w W → Calls Try.prog 50 #[.agg #[.int .i64 x.f0, .int .i64 x.f1, .int .i64 x.f2], .pointer (some ⟨Bi, 0, none⟩)] W fun e w' => e = .returned (.bool (p x)) ∧ Below w.heap.size w w') (h : l0.any p = r) :
  Calls Try.prog 72 #[.slice A0 l0.length c0, .func (.func 50) #[] #[.pointer (some ⟨Bi, 0, none⟩)]] w fun e w' => ∃ n : Int, e = .returned (.int .i64 n) ∧ decide (0 ≤ n) = r ∧ Below w.heap.size w w' := by
 have hu := Try.underlying59; have HR := Az hr0; have HL := Az h; have HO := Az hone; have hlen := hr0.2.1; have HN := Az hlen; clear hr0 h hlen hone; have HB := Az (Below.refl w.heap.size w); have hlen : l0.length ≤ 9223372036854775807 := HN.out
 go_enter Try.func72, Try.ntmps72
 go_wp2
 go_loopg [5, 8] l0.length (fun gg _ s8 wr => ∃ kk : Nat, kk ≤ l0.length ∧ l0.length - kk ≤ gg ∧ s8 = .int .i64 kk ∧ Aside0 (Below w.heap.size w wr) ∧ Aside0 ((l0.drop kk).any p = r))
 case atStart => exact ⟨0, Nat.zero_le _, by omega, rfl, HB, HL⟩
 case round =>
  obtain ⟨kk, hkk, hg, rfl, BW, A⟩ := hrel; clear HB
  by_cases hlt : kk < l0.length
  ·
   have hltz : (kk : Int) < (l0.length : Int) := by omega
   have hA := A.out; rw [List.drop_eq_getElem_cons hlt, List.any_cons, ← impl_NetOk.rd3 _ _ hlt] at hA; clear A; obtain ⟨ad, e, hx0, hx1, hx2⟩ := at_T59 HR.out (kk : Int) (by omega) hltz
   cases e
   simp only [Int.toNat_natCast] at hx0 hx1 hx2; replace hx0 := (BW.out.cell (World.block_lt_of_cell? w _ hx0)).trans hx0; replace hx1 := (BW.out.cell (World.block_lt_of_cell? w _ hx1)).trans hx1; replace hx2 := (BW.out.cell (World.block_lt_of_cell? w _ hx2)).trans hx2; have hone := HO.out (rd_T59 l0 (kk : Int)) wr BW.out
   cases hq : p (rd_T59 l0 (kk : Int))
   ·
    rw [hq] at hA hone; rw [Bool.false_or] at hA; have HC := Az hone; have HA := Az hA; clear hone hA
    go_wp2_with (go_at_call 50; refine HC.out.mono ?_; rintro e w' ⟨rfl, hb'⟩)
    go_roundg (l0.length - (kk + 1))
    case measure => omega
    case rel => exact ⟨kk + 1, by omega, by omega, by go_num, ⟨hb'⟩, HA⟩
   ·
    rw [hq] at hA hone; rw [Bool.true_or] at hA; have HC := Az hone; have HA := Az hA; clear hone hA
    go_wp2_with (go_at_call 50; refine HC.out.mono ?_; rintro e w' ⟨rfl, hb'⟩)
    go_ret
    exact ⟨(kk : Int), rfl, by rw [← HA.out]; simp, hb'⟩
  ·
   have hltz : ¬ (kk : Int) < (l0.length : Int) := by omega
   have : kk = l0.length := by omega
   subst this; have hr := A.out; rw [List.drop_length] at hr; have HR' := Az hr; clear hr A
   go_wp2
   go_ret
   exact ⟨-1, rfl, by rw [← HR'.out]; rfl, BW.out⟩
set_option maxHeartbeats 4000000 in
set_option maxRecDepth 100000 in
theorem impl_NetOk.contains3 (A0 : Option Addr) (c0 : Nat) (l0 : List S59) (p : S59 → Bool) (Bi : Nat) (r : Bool) (w : World) (hr0 : Kd.C k59 w A0 l0.length l0) (hone : ∀ (x : S59) (W : World), Below w.heap.size w W → Calls Try.prog 50 #[.agg #[.int .i64 x.f0, .int .i64 x.f1, .int .i64 x.f2], .pointer (some ⟨Bi, 0, none⟩)] W fun e w' => e = .returned (.bool (p x)) ∧ Below w.heap.size w w') (h : l0.any p = r) :
  Calls Try.prog 49 #[.slice A0 l0.length c0, .func (.func 50) #[] #[.pointer (some ⟨Bi, 0, none⟩)]] w fun e w' => e = .returned (.bool r) ∧ Below w.heap.size w w' := by
 have HC := Az (impl_NetOk.index3 A0 c0 l0 p Bi r w hr0 hone h); clear hr0 hone h
 go_enter Try.func49, Try.ntmps49
 go_wp2_with (go_at_call 72; refine HC.out.mono ?_; rintro e w' ⟨n, rfl, hn, hb⟩)
 go_ret
 exact ⟨by subst hn; rfl, hb⟩
def impl_NetOk.f (a0_0 : Int) (l0_1 : List S57) (l0_2 : List S55) (l0_3 : List S59) : Option Bool := some (if impl_NetOk.inB a0_0 1 8 = true then (if l0_1.length ≤ 6 then (if l0_2.length ≤ 16 then (if l0_3.length ≤ 40 then (!(l0_1.any (impl_NetOk.p1 a0_0)) && (!(l0_2.any (impl_NetOk.p2 a0_0)) && !(l0_3.any (impl_NetOk.p3 a0_0)))) else false) else false) else false) else false)
set_option maxHeartbeats 4000000 in
set_option maxRecDepth 100000 in
theorem impl_NetOk.calls (a0_0 : Int) (A0_1 : Option Addr) (c0_1 : Nat) (l0_1 : List S57) (A0_2 : Option Addr) (c0_2 : Nat) (l0_2 : List S55) (A0_3 : Option Addr) (c0_3 : Nat) (l0_3 : List S59) (r : Bool) (w : World) (hr0_1 : Kd.C k57 w A0_1 l0_1.length l0_1) (hc0_1 : l0_1.length ≤ c0_1) (hr0_2 : Kd.C k55 w A0_2 l0_2.length l0_2) (hc0_2 : l0_2.length ≤ c0_2) (hr0_3 : Kd.C k59 w A0_3 l0_3.length l0_3) (hc0_3 : l0_3.length ≤ c0_3) (h : impl_NetOk.f a0_0 l0_1 l0_2 l0_3 = some r) :
  Calls Try.prog 17 #[.agg #[.int .i64 a0_0, .slice A0_1 l0_1.length c0_1, .slice A0_2 l0_2.length c0_2, .slice A0_3 l0_3.length c0_3]] w fun e w' => e = .returned (.bool r) ∧ Below w.heap.size w w' := by
 have h := Option.some.inj h
 cases g0 : impl_NetOk.inB a0_0 1 8
 ·
  simp only [g0, Bool.false_eq_true, if_false] at h; subst h; clear hr0_1 hr0_2 hr0_3
  go_enter Try.func17, Try.ntmps17
  go_wp2_with (first | ((with_reducible refine gate_dst (N := 1) rfl ?_); refine box_event ?hg (N := 1) ?hd (cs := #[.int .i64 a0_0, .slice A0_1 l0_1.length c0_1, .slice A0_2 l0_2.length c0_2, .slice A0_3 l0_3.length c0_3]) (t := 41) ?hr ?_; (case hd => rfl); (case hg => rfl); (case hr => first | (go_simp; done) | (go_simp; rfl)); intro g1 hg1 w1 hbox1 hb1; have HB1 := Az hb1; have BK1 := Az hbox1; have HG1 := Az (show w.heap.size ≤ g1 by rw [hg1]; exact Nat.le_refl _); clear hb1 hbox1 hg1) | ((with_reducible refine gate_dst (N := 3) rfl ?_); refine box_event ?hg (N := 3) ?hd (cs := #[.nilFunc]) (t := 72) ?hr ?_; (case hd => rfl); (case hg => rfl); (case hr => first | (go_simp; done) | (go_simp; rfl)); intro g3 hg3 w3 hbox3 hb3; have HB3 := Az (below_step HB1.out hb3); have BK13 := Az (blk_below BK1.out hb3); have BK3 := Az hbox3; have HG3 := Az (show w.heap.size ≤ g3 by rw [hg3]; exact HB1.out.size); have HNE := Az (show g1 ≠ g3 by rw [hg3]; exact Nat.ne_of_lt (blk_lt BK1.out)); have hcz : w3.cell? ⟨g3, 0, none⟩ = some Value.nilFunc := (blk_cell hbox3 0).trans rfl; have hfz : w3.frozen? ⟨g3, 0, none⟩ = false := blk_frozen hbox3 0; have hcy : w3.cell? ⟨g1, 0, none⟩ = some (.int .i64 a0_0) := (blk_cell BK13.out 0).trans rfl; have hny := HNE.out; clear hb3 hbox3 hg3 HB1 BK1) | (go_at_call 36; (with_reducible refine (impl_in.calls a0_0 1 8 false _ ?hi).mono ?_); (case hi => exact impl_NetOk.in_r g0); rintro e w' ⟨rfl, nd, rfl⟩; have HX := Az (pw_below_drewN (below_set (j := 0) (v := (Value.func (.func 44) #[] #[.pointer (some ⟨g1, 0, none⟩)])) HB3.out HG3.out) nd); have BX3 := Az (blk_drewN (blk_put (cs := #[.nilFunc]) BK3.out 0 (Value.func (.func 44) #[] #[.pointer (some ⟨g1, 0, none⟩)]) rfl) nd); have BX1 := Az (blk_drewN (blk_far (p := ⟨g3, 0, none⟩) BK13.out HNE.out (Value.func (.func 44) #[] #[.pointer (some ⟨g1, 0, none⟩)])) nd); clear hcz hfz hcy hny; generalize hX : (w3.setCell ⟨g3, 0, none⟩ (Value.func (.func 44) #[] #[.pointer (some ⟨g1, 0, none⟩)])).drewN nd = X at *; clear hX; obtain ⟨c0, c1, c2, c3⟩ := bc4 BX1.out))
  all_goals first | (exfalso; omega) | (go_ret; exact ⟨by first | rfl | simp_all, HX.out⟩)
 ·
  simp only [g0, if_true] at h; have HR1 := Az hr0_1; have HR2 := Az hr0_2; have HR3 := Az hr0_3; clear hr0_1 hr0_2 hr0_3
  by_cases q1 : l0_1.length ≤ 6
  case neg =>
   rw [if_neg q1] at h
   have z1 : ¬ ((l0_1.length : Int) ≤ 6) := by omega
   have y1 : (l0_1.length : Int) > 6 := by omega
   subst h
   go_enter Try.func17, Try.ntmps17
   go_wp2_with (first | ((with_reducible refine gate_dst (N := 1) rfl ?_); refine box_event ?hg (N := 1) ?hd (cs := #[.int .i64 a0_0, .slice A0_1 l0_1.length c0_1, .slice A0_2 l0_2.length c0_2, .slice A0_3 l0_3.length c0_3]) (t := 41) ?hr ?_; (case hd => rfl); (case hg => rfl); (case hr => first | (go_simp; done) | (go_simp; rfl)); intro g1 hg1 w1 hbox1 hb1; have HB1 := Az hb1; have BK1 := Az hbox1; have HG1 := Az (show w.heap.size ≤ g1 by rw [hg1]; exact Nat.le_refl _); clear hb1 hbox1 hg1) | ((with_reducible refine gate_dst (N := 3) rfl ?_); refine box_event ?hg (N := 3) ?hd (cs := #[.nilFunc]) (t := 72) ?hr ?_; (case hd => rfl); (case hg => rfl); (case hr => first | (go_simp; done) | (go_simp; rfl)); intro g3 hg3 w3 hbox3 hb3; have HB3 := Az (below_step HB1.out hb3); have BK13 := Az (blk_below BK1.out hb3); have BK3 := Az hbox3; have HG3 := Az (show w.heap.size ≤ g3 by rw [hg3]; exact HB1.out.size); have HNE := Az (show g1 ≠ g3 by rw [hg3]; exact Nat.ne_of_lt (blk_lt BK1.out)); have hcz : w3.cell? ⟨g3, 0, none⟩ = some Value.nilFunc := (blk_cell hbox3 0).trans rfl; have hfz : w3.frozen? ⟨g3, 0, none⟩ = false := blk_frozen hbox3 0; have hcy : w3.cell? ⟨g1, 0, none⟩ = some (.int .i64 a0_0) := (blk_cell BK13.out 0).trans rfl; have hny := HNE.out; clear hb3 hbox3 hg3 HB1 BK1) | (go_at_call 36; (with_reducible refine (impl_in.calls a0_0 1 8 true _ ?hi).mono ?_); (case hi => exact impl_NetOk.in_r g0); rintro e w' ⟨rfl, nd, rfl⟩; have HX := Az (pw_below_drewN (below_set (j := 0) (v := (Value.func (.func 44) #[] #[.pointer (some ⟨g1, 0, none⟩)])) HB3.out HG3.out) nd); have BX3 := Az (blk_drewN (blk_put (cs := #[.nilFunc]) BK3.out 0 (Value.func (.func 44) #[] #[.pointer (some ⟨g1, 0, none⟩)]) rfl) nd); have BX1 := Az (blk_drewN (blk_far (p := ⟨g3, 0, none⟩) BK13.out HNE.out (Value.func (.func 44) #[] #[.pointer (some ⟨g1, 0, none⟩)])) nd); clear hcz hfz hcy hny; generalize hX : (w3.setCell ⟨g3, 0, none⟩ (Value.func (.func 44) #[] #[.pointer (some ⟨g1, 0, none⟩)])).drewN nd = X at *; clear hX; obtain ⟨c0, c1, c2, c3⟩ := bc4 BX1.out))
   all_goals first | (exfalso; omega) | (go_ret; exact ⟨by first | rfl | simp_all, HX.out⟩)
  rw [if_pos q1] at h
  have z1 : (l0_1.length : Int) ≤ 6 := by omega
  have y1 : ¬ (l0_1.length : Int) > 6 := by omega
  by_cases q2 : l0_2.length ≤ 16
  case neg =>
   rw [if_neg q2] at h
   have z2 : ¬ ((l0_2.length : Int) ≤ 16) := by omega
   have y2 : (l0_2.length : Int) > 16 := by omega
   subst h
   go_enter Try.func17, Try.ntmps17
   go_wp2_with (first | ((with_reducible refine gate_dst (N := 1) rfl ?_); refine box_event ?hg (N := 1) ?hd (cs := #[.int .i64 a0_0, .slice A0_1 l0_1.length c0_1, .slice A0_2 l0_2.length c0_2, .slice A0_3 l0_3.length c0_3]) (t := 41) ?hr ?_; (case hd => rfl); (case hg => rfl); (case hr => first | (go_simp; done) | (go_simp; rfl)); intro g1 hg1 w1 hbox1 hb1; have HB1 := Az hb1; have BK1 := Az hbox1; have HG1 := Az (show w.heap.size ≤ g1 by rw [hg1]; exact Nat.le_refl _); clear hb1 hbox1 hg1) | ((with_reducible refine gate_dst (N := 3) rfl ?_); refine box_event ?hg (N := 3) ?hd (cs := #[.nilFunc]) (t := 72) ?hr ?_; (case hd => rfl); (case hg => rfl); (case hr => first | (go_simp; done) | (go_simp; rfl)); intro g3 hg3 w3 hbox3 hb3; have HB3 := Az (below_step HB1.out hb3); have BK13 := Az (blk_below BK1.out hb3); have BK3 := Az hbox3; have HG3 := Az (show w.heap.size ≤ g3 by rw [hg3]; exact HB1.out.size); have HNE := Az (show g1 ≠ g3 by rw [hg3]; exact Nat.ne_of_lt (blk_lt BK1.out)); have hcz : w3.cell? ⟨g3, 0, none⟩ = some Value.nilFunc := (blk_cell hbox3 0).trans rfl; have hfz : w3.frozen? ⟨g3, 0, none⟩ = false := blk_frozen hbox3 0; have hcy : w3.cell? ⟨g1, 0, none⟩ = some (.int .i64 a0_0) := (blk_cell BK13.out 0).trans rfl; have hny := HNE.out; clear hb3 hbox3 hg3 HB1 BK1) | (go_at_call 36; (with_reducible refine (impl_in.calls a0_0 1 8 true _ ?hi).mono ?_); (case hi => exact impl_NetOk.in_r g0); rintro e w' ⟨rfl, nd, rfl⟩; have HX := Az (pw_below_drewN (below_set (j := 0) (v := (Value.func (.func 44) #[] #[.pointer (some ⟨g1, 0, none⟩)])) HB3.out HG3.out) nd); have BX3 := Az (blk_drewN (blk_put (cs := #[.nilFunc]) BK3.out 0 (Value.func (.func 44) #[] #[.pointer (some ⟨g1, 0, none⟩)]) rfl) nd); have BX1 := Az (blk_drewN (blk_far (p := ⟨g3, 0, none⟩) BK13.out HNE.out (Value.func (.func 44) #[] #[.pointer (some ⟨g1, 0, none⟩)])) nd); clear hcz hfz hcy hny; generalize hX : (w3.setCell ⟨g3, 0, none⟩ (Value.func (.func 44) #[] #[.pointer (some ⟨g1, 0, none⟩)])).drewN nd = X at *; clear hX; obtain ⟨c0, c1, c2, c3⟩ := bc4 BX1.out))
   all_goals first | (exfalso; omega) | (go_ret; exact ⟨by first | rfl | simp_all, HX.out⟩)
  rw [if_pos q2] at h
  have z2 : (l0_2.length : Int) ≤ 16 := by omega
  have y2 : ¬ (l0_2.length : Int) > 16 := by omega
  by_cases q3 : l0_3.length ≤ 40
  case neg =>
   rw [if_neg q3] at h
   have z3 : ¬ ((l0_3.length : Int) ≤ 40) := by omega
   have y3 : (l0_3.length : Int) > 40 := by omega
   subst h
   go_enter Try.func17, Try.ntmps17
   go_wp2_with (first | ((with_reducible refine gate_dst (N := 1) rfl ?_); refine box_event ?hg (N := 1) ?hd (cs := #[.int .i64 a0_0, .slice A0_1 l0_1.length c0_1, .slice A0_2 l0_2.length c0_2, .slice A0_3 l0_3.length c0_3]) (t := 41) ?hr ?_; (case hd => rfl); (case hg => rfl); (case hr => first | (go_simp; done) | (go_simp; rfl)); intro g1 hg1 w1 hbox1 hb1; have HB1 := Az hb1; have BK1 := Az hbox1; have HG1 := Az (show w.heap.size ≤ g1 by rw [hg1]; exact Nat.le_refl _); clear hb1 hbox1 hg1) | ((with_reducible refine gate_dst (N := 3) rfl ?_); refine box_event ?hg (N := 3) ?hd (cs := #[.nilFunc]) (t := 72) ?hr ?_; (case hd => rfl); (case hg => rfl); (case hr => first | (go_simp; done) | (go_simp; rfl)); intro g3 hg3 w3 hbox3 hb3; have HB3 := Az (below_step HB1.out hb3); have BK13 := Az (blk_below BK1.out hb3); have BK3 := Az hbox3; have HG3 := Az (show w.heap.size ≤ g3 by rw [hg3]; exact HB1.out.size); have HNE := Az (show g1 ≠ g3 by rw [hg3]; exact Nat.ne_of_lt (blk_lt BK1.out)); have hcz : w3.cell? ⟨g3, 0, none⟩ = some Value.nilFunc := (blk_cell hbox3 0).trans rfl; have hfz : w3.frozen? ⟨g3, 0, none⟩ = false := blk_frozen hbox3 0; have hcy : w3.cell? ⟨g1, 0, none⟩ = some (.int .i64 a0_0) := (blk_cell BK13.out 0).trans rfl; have hny := HNE.out; clear hb3 hbox3 hg3 HB1 BK1) | (go_at_call 36; (with_reducible refine (impl_in.calls a0_0 1 8 true _ ?hi).mono ?_); (case hi => exact impl_NetOk.in_r g0); rintro e w' ⟨rfl, nd, rfl⟩; have HX := Az (pw_below_drewN (below_set (j := 0) (v := (Value.func (.func 44) #[] #[.pointer (some ⟨g1, 0, none⟩)])) HB3.out HG3.out) nd); have BX3 := Az (blk_drewN (blk_put (cs := #[.nilFunc]) BK3.out 0 (Value.func (.func 44) #[] #[.pointer (some ⟨g1, 0, none⟩)]) rfl) nd); have BX1 := Az (blk_drewN (blk_far (p := ⟨g3, 0, none⟩) BK13.out HNE.out (Value.func (.func 44) #[] #[.pointer (some ⟨g1, 0, none⟩)])) nd); clear hcz hfz hcy hny; generalize hX : (w3.setCell ⟨g3, 0, none⟩ (Value.func (.func 44) #[] #[.pointer (some ⟨g1, 0, none⟩)])).drewN nd = X at *; clear hX; obtain ⟨c0, c1, c2, c3⟩ := bc4 BX1.out))
   all_goals first | (exfalso; omega) | (go_ret; exact ⟨by first | rfl | simp_all, HX.out⟩)
  rw [if_pos q3] at h
  have z3 : (l0_3.length : Int) ≤ 40 := by omega
  have y3 : ¬ (l0_3.length : Int) > 40 := by omega
  cases e1 : l0_1.any (impl_NetOk.p1 a0_0) <;> cases e2 : l0_2.any (impl_NetOk.p2 a0_0) <;> cases e3 : l0_3.any (impl_NetOk.p3 a0_0)
  ·
   have HA1 := Az e1; have HA2 := Az e2; have HA3 := Az e3; rw [e1, e2, e3] at h; have h : true = r := h; subst h; clear e1 e2 e3
   go_enter Try.func17, Try.ntmps17
   go_wp2_with (first | ((with_reducible refine gate_dst (N := 1) rfl ?_); refine box_event ?hg (N := 1) ?hd (cs := #[.int .i64 a0_0, .slice A0_1 l0_1.length c0_1, .slice A0_2 l0_2.length c0_2, .slice A0_3 l0_3.length c0_3]) (t := 41) ?hr ?_; (case hd => rfl); (case hg => rfl); (case hr => first | (go_simp; done) | (go_simp; rfl)); intro g1 hg1 w1 hbox1 hb1; have HB1 := Az hb1; have BK1 := Az hbox1; have HG1 := Az (show w.heap.size ≤ g1 by rw [hg1]; exact Nat.le_refl _); clear hb1 hbox1 hg1) | ((with_reducible refine gate_dst (N := 3) rfl ?_); refine box_event ?hg (N := 3) ?hd (cs := #[.nilFunc]) (t := 72) ?hr ?_; (case hd => rfl); (case hg => rfl); (case hr => first | (go_simp; done) | (go_simp; rfl)); intro g3 hg3 w3 hbox3 hb3; have HB3 := Az (below_step HB1.out hb3); have BK13 := Az (blk_below BK1.out hb3); have BK3 := Az hbox3; have HG3 := Az (show w.heap.size ≤ g3 by rw [hg3]; exact HB1.out.size); have HNE := Az (show g1 ≠ g3 by rw [hg3]; exact Nat.ne_of_lt (blk_lt BK1.out)); have hcz : w3.cell? ⟨g3, 0, none⟩ = some Value.nilFunc := (blk_cell hbox3 0).trans rfl; have hfz : w3.frozen? ⟨g3, 0, none⟩ = false := blk_frozen hbox3 0; have hcy : w3.cell? ⟨g1, 0, none⟩ = some (.int .i64 a0_0) := (blk_cell BK13.out 0).trans rfl; have hny := HNE.out; clear hb3 hbox3 hg3 HB1 BK1) | (go_at_call 36; (with_reducible refine (impl_in.calls a0_0 1 8 true _ ?hi).mono ?_); (case hi => exact impl_NetOk.in_r g0); rintro e w' ⟨rfl, nd, rfl⟩; have HX := Az (pw_below_drewN (below_set (j := 0) (v := (Value.func (.func 44) #[] #[.pointer (some ⟨g1, 0, none⟩)])) HB3.out HG3.out) nd); have BX3 := Az (blk_drewN (blk_put (cs := #[.nilFunc]) BK3.out 0 (Value.func (.func 44) #[] #[.pointer (some ⟨g1, 0, none⟩)]) rfl) nd); have BX1 := Az (blk_drewN (blk_far (p := ⟨g3, 0, none⟩) BK13.out HNE.out (Value.func (.func 44) #[] #[.pointer (some ⟨g1, 0, none⟩)])) nd); clear hcz hfz hcy hny; generalize hX : (w3.setCell ⟨g3, 0, none⟩ (Value.func (.func 44) #[] #[.pointer (some ⟨g1, 0, none⟩)])).drewN nd = X at *; clear hX; obtain ⟨c0, c1, c2, c3⟩ := bc4 BX1.out) | (go_at_call 45; (with_reducible refine (impl_NetOk.contains1 A0_1 c0_1 l0_1 (impl_NetOk.p1 a0_0) g3 false _ ?ha ?hb ?hc).mono ?_); (case ha => exact Kd.C_below HR1.out HX.out); (case hb => exact fun x W hb => impl_NetOk.cl1 a0_0 x g3 g1 _ (blk_lt BX3.out) (blk_lt BX1.out) ((blk_cell BX3.out 0).trans rfl) ((blk_cell BX1.out 0).trans rfl) W hb); (case hc => exact HA1.out); rintro e X2 ⟨rfl, hb'⟩; have n0 := Az (below_step HX.out hb'); have n1 := Az (blk_below BX1.out hb'); have n3 := Az (blk_below BX3.out hb'); clear HX BX1 BX3 c0 c1 c2 c3 hb'; have HX := n0; have BX1 := n1; have BX3 := n3; clear n0 n1 n3; obtain ⟨c0, c1, c2, c3⟩ := bc4 BX1.out) | (go_at_call 47; (with_reducible refine (impl_NetOk.contains2 A0_2 c0_2 l0_2 (impl_NetOk.p2 a0_0) g3 false _ ?ha ?hb ?hc).mono ?_); (case ha => exact Kd.C_below HR2.out HX.out); (case hb => exact fun x W hb => impl_NetOk.cl2 a0_0 x g3 g1 _ (blk_lt BX3.out) (blk_lt BX1.out) ((blk_cell BX3.out 0).trans rfl) ((blk_cell BX1.out 0).trans rfl) W hb); (case hc => exact HA2.out); rintro e X2 ⟨rfl, hb'⟩; have n0 := Az (below_step HX.out hb'); have n1 := Az (blk_below BX1.out hb'); have n3 := Az (blk_below BX3.out hb'); clear HX BX1 BX3 c0 c1 c2 c3 hb'; have HX := n0; have BX1 := n1; have BX3 := n3; clear n0 n1 n3; obtain ⟨c0, c1, c2, c3⟩ := bc4 BX1.out) | (go_at_call 49; (with_reducible refine (impl_NetOk.contains3 A0_3 c0_3 l0_3 (impl_NetOk.p3 a0_0) g3 false _ ?ha ?hb ?hc).mono ?_); (case ha => exact Kd.C_below HR3.out HX.out); (case hb => exact fun x W hb => impl_NetOk.cl3 a0_0 x g3 g1 _ (blk_lt BX3.out) (blk_lt BX1.out) ((blk_cell BX3.out 0).trans rfl) ((blk_cell BX1.out 0).trans rfl) W hb); (case hc => exact HA3.out); rintro e X2 ⟨rfl, hb'⟩; have n0 := Az (below_step HX.out hb'); have n1 := Az (blk_below BX1.out hb'); have n3 := Az (blk_below BX3.out hb'); clear HX BX1 BX3 c0 c1 c2 c3 hb'; have HX := n0; have BX1 := n1; have BX3 := n3; clear n0 n1 n3; obtain ⟨c0, c1, c2, c3⟩ := bc4 BX1.out))
   all_goals first | (exfalso; omega) | (go_ret; exact ⟨by first | rfl | simp_all, HX.out⟩)
  ·
   have HA1 := Az e1; have HA2 := Az e2; have HA3 := Az e3; rw [e1, e2, e3] at h; have h : false = r := h; subst h; clear e1 e2 e3
   go_enter Try.func17, Try.ntmps17
   go_wp2_with (first | ((with_reducible refine gate_dst (N := 1) rfl ?_); refine box_event ?hg (N := 1) ?hd (cs := #[.int .i64 a0_0, .slice A0_1 l0_1.length c0_1, .slice A0_2 l0_2.length c0_2, .slice A0_3 l0_3.length c0_3]) (t := 41) ?hr ?_; (case hd => rfl); (case hg => rfl); (case hr => first | (go_simp; done) | (go_simp; rfl)); intro g1 hg1 w1 hbox1 hb1; have HB1 := Az hb1; have BK1 := Az hbox1; have HG1 := Az (show w.heap.size ≤ g1 by rw [hg1]; exact Nat.le_refl _); clear hb1 hbox1 hg1) | ((with_reducible refine gate_dst (N := 3) rfl ?_); refine box_event ?hg (N := 3) ?hd (cs := #[.nilFunc]) (t := 72) ?hr ?_; (case hd => rfl); (case hg => rfl); (case hr => first | (go_simp; done) | (go_simp; rfl)); intro g3 hg3 w3 hbox3 hb3; have HB3 := Az (below_step HB1.out hb3); have BK13 := Az (blk_below BK1.out hb3); have BK3 := Az hbox3; have HG3 := Az (show w.heap.size ≤ g3 by rw [hg3]; exact HB1.out.size); have HNE := Az (show g1 ≠ g3 by rw [hg3]; exact Nat.ne_of_lt (blk_lt BK1.out)); have hcz : w3.cell? ⟨g3, 0, none⟩ = some Value.nilFunc := (blk_cell hbox3 0).trans rfl; have hfz : w3.frozen? ⟨g3, 0, none⟩ = false := blk_frozen hbox3 0; have hcy : w3.cell? ⟨g1, 0, none⟩ = some (.int .i64 a0_0) := (blk_cell BK13.out 0).trans rfl; have hny := HNE.out; clear hb3 hbox3 hg3 HB1 BK1) | (go_at_call 36; (with_reducible refine (impl_in.calls a0_0 1 8 true _ ?hi).mono ?_); (case hi => exact impl_NetOk.in_r g0); rintro e w' ⟨rfl, nd, rfl⟩; have HX := Az (pw_below_drewN (below_set (j := 0) (v := (Value.func (.func 44) #[] #[.pointer (some ⟨g1, 0, none⟩)])) HB3.out HG3.out) nd); have BX3 := Az (blk_drewN (blk_put (cs := #[.nilFunc]) BK3.out 0 (Value.func (.func 44) #[] #[.pointer (some ⟨g1, 0, none⟩)]) rfl) nd); have BX1 := Az (blk_drewN (blk_far (p := ⟨g3, 0, none⟩) BK13.out HNE.out (Value.func (.func 44) #[] #[.pointer (some ⟨g1, 0, none⟩)])) nd); clear hcz hfz hcy hny; generalize hX : (w3.setCell ⟨g3, 0, none⟩ (Value.func (.func 44) #[] #[.pointer (some ⟨g1, 0, none⟩)])).drewN nd = X at *; clear hX; obtain ⟨c0, c1, c2, c3⟩ := bc4 BX1.out) | (go_at_call 45; (with_reducible refine (impl_NetOk.contains1 A0_1 c0_1 l0_1 (impl_NetOk.p1 a0_0) g3 false _ ?ha ?hb ?hc).mono ?_); (case ha => exact Kd.C_below HR1.out HX.out); (case hb => exact fun x W hb => impl_NetOk.cl1 a0_0 x g3 g1 _ (blk_lt BX3.out) (blk_lt BX1.out) ((blk_cell BX3.out 0).trans rfl) ((blk_cell BX1.out 0).trans rfl) W hb); (case hc => exact HA1.out); rintro e X2 ⟨rfl, hb'⟩; have n0 := Az (below_step HX.out hb'); have n1 := Az (blk_below BX1.out hb'); have n3 := Az (blk_below BX3.out hb'); clear HX BX1 BX3 c0 c1 c2 c3 hb'; have HX := n0; have BX1 := n1; have BX3 := n3; clear n0 n1 n3; obtain ⟨c0, c1, c2, c3⟩ := bc4 BX1.out) | (go_at_call 47; (with_reducible refine (impl_NetOk.contains2 A0_2 c0_2 l0_2 (impl_NetOk.p2 a0_0) g3 false _ ?ha ?hb ?hc).mono ?_); (case ha => exact Kd.C_below HR2.out HX.out); (case hb => exact fun x W hb => impl_NetOk.cl2 a0_0 x g3 g1 _ (blk_lt BX3.out) (blk_lt BX1.out) ((blk_cell BX3.out 0).trans rfl) ((blk_cell BX1.out 0).trans rfl) W hb); (case hc => exact HA2.out); rintro e X2 ⟨rfl, hb'⟩; have n0 := Az (below_step HX.out hb'); have n1 := Az (blk_below BX1.out hb'); have n3 := Az (blk_below BX3.out hb'); clear HX BX1 BX3 c0 c1 c2 c3 hb'; have HX := n0; have BX1 := n1; have BX3 := n3; clear n0 n1 n3; obtain ⟨c0, c1, c2, c3⟩ := bc4 BX1.out) | (go_at_call 49; (with_reducible refine (impl_NetOk.contains3 A0_3 c0_3 l0_3 (impl_NetOk.p3 a0_0) g3 true _ ?ha ?hb ?hc).mono ?_); (case ha => exact Kd.C_below HR3.out HX.out); (case hb => exact fun x W hb => impl_NetOk.cl3 a0_0 x g3 g1 _ (blk_lt BX3.out) (blk_lt BX1.out) ((blk_cell BX3.out 0).trans rfl) ((blk_cell BX1.out 0).trans rfl) W hb); (case hc => exact HA3.out); rintro e X2 ⟨rfl, hb'⟩; have n0 := Az (below_step HX.out hb'); have n1 := Az (blk_below BX1.out hb'); have n3 := Az (blk_below BX3.out hb'); clear HX BX1 BX3 c0 c1 c2 c3 hb'; have HX := n0; have BX1 := n1; have BX3 := n3; clear n0 n1 n3; obtain ⟨c0, c1, c2, c3⟩ := bc4 BX1.out))
   all_goals first | (exfalso; omega) | (go_ret; exact ⟨by first | rfl | simp_all, HX.out⟩)
  ·
   have HA1 := Az e1; have HA2 := Az e2; have HA3 := Az e3; rw [e1, e2, e3] at h; have h : false = r := h; subst h; clear e1 e2 e3
   go_enter Try.func17, Try.ntmps17
   go_wp2_with (first | ((with_reducible refine gate_dst (N := 1) rfl ?_); refine box_event ?hg (N := 1) ?hd (cs := #[.int .i64 a0_0, .slice A0_1 l0_1.length c0_1, .slice A0_2 l0_2.length c0_2, .slice A0_3 l0_3.length c0_3]) (t := 41) ?hr ?_; (case hd => rfl); (case hg => rfl); (case hr => first | (go_simp; done) | (go_simp; rfl)); intro g1 hg1 w1 hbox1 hb1; have HB1 := Az hb1; have BK1 := Az hbox1; have HG1 := Az (show w.heap.size ≤ g1 by rw [hg1]; exact Nat.le_refl _); clear hb1 hbox1 hg1) | ((with_reducible refine gate_dst (N := 3) rfl ?_); refine box_event ?hg (N := 3) ?hd (cs := #[.nilFunc]) (t := 72) ?hr ?_; (case hd => rfl); (case hg => rfl); (case hr => first | (go_simp; done) | (go_simp; rfl)); intro g3 hg3 w3 hbox3 hb3; have HB3 := Az (below_step HB1.out hb3); have BK13 := Az (blk_below BK1.out hb3); have BK3 := Az hbox3; have HG3 := Az (show w.heap.size ≤ g3 by rw [hg3]; exact HB1.out.size); have HNE := Az (show g1 ≠ g3 by rw [hg3]; exact Nat.ne_of_lt (blk_lt BK1.out)); have hcz : w3.cell? ⟨g3, 0, none⟩ = some Value.nilFunc := (blk_cell hbox3 0).trans rfl; have hfz : w3.frozen? ⟨g3, 0, none⟩ = false := blk_frozen hbox3 0; have hcy : w3.cell? ⟨g1, 0, none⟩ = some (.int .i64 a0_0) := (blk_cell BK13.out 0).trans rfl; have hny := HNE.out; clear hb3 hbox3 hg3 HB1 BK1) | (go_at_call 36; (with_reducible refine (impl_in.calls a0_0 1 8 true _ ?hi).mono ?_); (case hi => exact impl_NetOk.in_r g0); rintro e w' ⟨rfl, nd, rfl⟩; have HX := Az (pw_below_drewN (below_set (j := 0) (v := (Value.func (.func 44) #[] #[.pointer (some ⟨g1, 0, none⟩)])) HB3.out HG3.out) nd); have BX3 := Az (blk_drewN (blk_put (cs := #[.nilFunc]) BK3.out 0 (Value.func (.func 44) #[] #[.pointer (some ⟨g1, 0, none⟩)]) rfl) nd); have BX1 := Az (blk_drewN (blk_far (p := ⟨g3, 0, none⟩) BK13.out HNE.out (Value.func (.func 44) #[] #[.pointer (some ⟨g1, 0, none⟩)])) nd); clear hcz hfz hcy hny; generalize hX : (w3.setCell ⟨g3, 0, none⟩ (Value.func (.func 44) #[] #[.pointer (some ⟨g1, 0, none⟩)])).drewN nd = X at *; clear hX; obtain ⟨c0, c1, c2, c3⟩ := bc4 BX1.out) | (go_at_call 45; (with_reducible refine (impl_NetOk.contains1 A0_1 c0_1 l0_1 (impl_NetOk.p1 a0_0) g3 false _ ?ha ?hb ?hc).mono ?_); (case ha => exact Kd.C_below HR1.out HX.out); (case hb => exact fun x W hb => impl_NetOk.cl1 a0_0 x g3 g1 _ (blk_lt BX3.out) (blk_lt BX1.out) ((blk_cell BX3.out 0).trans rfl) ((blk_cell BX1.out 0).trans rfl) W hb); (case hc => exact HA1.out); rintro e X2 ⟨rfl, hb'⟩; have n0 := Az (below_step HX.out hb'); have n1 := Az (blk_below BX1.out hb'); have n3 := Az (blk_below BX3.out hb'); clear HX BX1 BX3 c0 c1 c2 c3 hb'; have HX := n0; have BX1 := n1; have BX3 := n3; clear n0 n1 n3; obtain ⟨c0, c1, c2, c3⟩ := bc4 BX1.out) | (go_at_call 47; (with_reducible refine (impl_NetOk.contains2 A0_2 c0_2 l0_2 (impl_NetOk.p2 a0_0) g3 true _ ?ha ?hb ?hc).mono ?_); (case ha => exact Kd.C_below HR2.out HX.out); (case hb => exact fun x W hb => impl_NetOk.cl2 a0_0 x g3 g1 _ (blk_lt BX3.out) (blk_lt BX1.out) ((blk_cell BX3.out 0).trans rfl) ((blk_cell BX1.out 0).trans rfl) W hb); (case hc => exact HA2.out); rintro e X2 ⟨rfl, hb'⟩; have n0 := Az (below_step HX.out hb'); have n1 := Az (blk_below BX1.out hb'); have n3 := Az (blk_below BX3.out hb'); clear HX BX1 BX3 c0 c1 c2 c3 hb'; have HX := n0; have BX1 := n1; have BX3 := n3; clear n0 n1 n3; obtain ⟨c0, c1, c2, c3⟩ := bc4 BX1.out) | (go_at_call 49; (with_reducible refine (impl_NetOk.contains3 A0_3 c0_3 l0_3 (impl_NetOk.p3 a0_0) g3 false _ ?ha ?hb ?hc).mono ?_); (case ha => exact Kd.C_below HR3.out HX.out); (case hb => exact fun x W hb => impl_NetOk.cl3 a0_0 x g3 g1 _ (blk_lt BX3.out) (blk_lt BX1.out) ((blk_cell BX3.out 0).trans rfl) ((blk_cell BX1.out 0).trans rfl) W hb); (case hc => exact HA3.out); rintro e X2 ⟨rfl, hb'⟩; have n0 := Az (below_step HX.out hb'); have n1 := Az (blk_below BX1.out hb'); have n3 := Az (blk_below BX3.out hb'); clear HX BX1 BX3 c0 c1 c2 c3 hb'; have HX := n0; have BX1 := n1; have BX3 := n3; clear n0 n1 n3; obtain ⟨c0, c1, c2, c3⟩ := bc4 BX1.out))
   all_goals first | (exfalso; omega) | (go_ret; exact ⟨by first | rfl | simp_all, HX.out⟩)
  ·
   have HA1 := Az e1; have HA2 := Az e2; have HA3 := Az e3; rw [e1, e2, e3] at h; have h : false = r := h; subst h; clear e1 e2 e3
   go_enter Try.func17, Try.ntmps17
   go_wp2_with (first | ((with_reducible refine gate_dst (N := 1) rfl ?_); refine box_event ?hg (N := 1) ?hd (cs := #[.int .i64 a0_0, .slice A0_1 l0_1.length c0_1, .slice A0_2 l0_2.length c0_2, .slice A0_3 l0_3.length c0_3]) (t := 41) ?hr ?_; (case hd => rfl); (case hg => rfl); (case hr => first | (go_simp; done) | (go_simp; rfl)); intro g1 hg1 w1 hbox1 hb1; have HB1 := Az hb1; have BK1 := Az hbox1; have HG1 := Az (show w.heap.size ≤ g1 by rw [hg1]; exact Nat.le_refl _); clear hb1 hbox1 hg1) | ((with_reducible refine gate_dst (N := 3) rfl ?_); refine box_event ?hg (N := 3) ?hd (cs := #[.nilFunc]) (t := 72) ?hr ?_; (case hd => rfl); (case hg => rfl); (case hr => first | (go_simp; done) | (go_simp; rfl)); intro g3 hg3 w3 hbox3 hb3; have HB3 := Az (below_step HB1.out hb3); have BK13 := Az (blk_below BK1.out hb3); have BK3 := Az hbox3; have HG3 := Az (show w.heap.size ≤ g3 by rw [hg3]; exact HB1.out.size); have HNE := Az (show g1 ≠ g3 by rw [hg3]; exact Nat.ne_of_lt (blk_lt BK1.out)); have hcz : w3.cell? ⟨g3, 0, none⟩ = some Value.nilFunc := (blk_cell hbox3 0).trans rfl; have hfz : w3.frozen? ⟨g3, 0, none⟩ = false := blk_frozen hbox3 0; have hcy : w3.cell? ⟨g1, 0, none⟩ = some (.int .i64 a0_0) := (blk_cell BK13.out 0).trans rfl; have hny := HNE.out; clear hb3 hbox3 hg3 HB1 BK1) | (go_at_call 36; (with_reducible refine (impl_in.calls a0_0 1 8 true _ ?hi).mono ?_); (case hi => exact impl_NetOk.in_r g0); rintro e w' ⟨rfl, nd, rfl⟩; have HX := Az (pw_below_drewN (below_set (j := 0) (v := (Value.func (.func 44) #[] #[.pointer (some ⟨g1, 0, none⟩)])) HB3.out HG3.out) nd); have BX3 := Az (blk_drewN (blk_put (cs := #[.nilFunc]) BK3.out 0 (Value.func (.func 44) #[] #[.pointer (some ⟨g1, 0, none⟩)]) rfl) nd); have BX1 := Az (blk_drewN (blk_far (p := ⟨g3, 0, none⟩) BK13.out HNE.out (Value.func (.func 44) #[] #[.pointer (some ⟨g1, 0, none⟩)])) nd); clear hcz hfz hcy hny; generalize hX : (w3.setCell ⟨g3, 0, none⟩ (Value.func (.func 44) #[] #[.pointer (some ⟨g1, 0, none⟩)])).drewN nd = X at *; clear hX; obtain ⟨c0, c1, c2, c3⟩ := bc4 BX1.out) | (go_at_call 45; (with_reducible refine (impl_NetOk.contains1 A0_1 c0_1 l0_1 (impl_NetOk.p1 a0_0) g3 false _ ?ha ?hb ?hc).mono ?_); (case ha => exact Kd.C_below HR1.out HX.out); (case hb => exact fun x W hb => impl_NetOk.cl1 a0_0 x g3 g1 _ (blk_lt BX3.out) (blk_lt BX1.out) ((blk_cell BX3.out 0).trans rfl) ((blk_cell BX1.out 0).trans rfl) W hb); (case hc => exact HA1.out); rintro e X2 ⟨rfl, hb'⟩; have n0 := Az (below_step HX.out hb'); have n1 := Az (blk_below BX1.out hb'); have n3 := Az (blk_below BX3.out hb'); clear HX BX1 BX3 c0 c1 c2 c3 hb'; have HX := n0; have BX1 := n1; have BX3 := n3; clear n0 n1 n3; obtain ⟨c0, c1, c2, c3⟩ := bc4 BX1.out) | (go_at_call 47; (with_reducible refine (impl_NetOk.contains2 A0_2 c0_2 l0_2 (impl_NetOk.p2 a0_0) g3 true _ ?ha ?hb ?hc).mono ?_); (case ha => exact Kd.C_below HR2.out HX.out); (case hb => exact fun x W hb => impl_NetOk.cl2 a0_0 x g3 g1 _ (blk_lt BX3.out) (blk_lt BX1.out) ((blk_cell BX3.out 0).trans rfl) ((blk_cell BX1.out 0).trans rfl) W hb); (case hc => exact HA2.out); rintro e X2 ⟨rfl, hb'⟩; have n0 := Az (below_step HX.out hb'); have n1 := Az (blk_below BX1.out hb'); have n3 := Az (blk_below BX3.out hb'); clear HX BX1 BX3 c0 c1 c2 c3 hb'; have HX := n0; have BX1 := n1; have BX3 := n3; clear n0 n1 n3; obtain ⟨c0, c1, c2, c3⟩ := bc4 BX1.out) | (go_at_call 49; (with_reducible refine (impl_NetOk.contains3 A0_3 c0_3 l0_3 (impl_NetOk.p3 a0_0) g3 true _ ?ha ?hb ?hc).mono ?_); (case ha => exact Kd.C_below HR3.out HX.out); (case hb => exact fun x W hb => impl_NetOk.cl3 a0_0 x g3 g1 _ (blk_lt BX3.out) (blk_lt BX1.out) ((blk_cell BX3.out 0).trans rfl) ((blk_cell BX1.out 0).trans rfl) W hb); (case hc => exact HA3.out); rintro e X2 ⟨rfl, hb'⟩; have n0 := Az (below_step HX.out hb'); have n1 := Az (blk_below BX1.out hb'); have n3 := Az (blk_below BX3.out hb'); clear HX BX1 BX3 c0 c1 c2 c3 hb'; have HX := n0; have BX1 := n1; have BX3 := n3; clear n0 n1 n3; obtain ⟨c0, c1, c2, c3⟩ := bc4 BX1.out))
   all_goals first | (exfalso; omega) | (go_ret; exact ⟨by first | rfl | simp_all, HX.out⟩)
  ·
   have HA1 := Az e1; have HA2 := Az e2; have HA3 := Az e3; rw [e1, e2, e3] at h; have h : false = r := h; subst h; clear e1 e2 e3
   go_enter Try.func17, Try.ntmps17
   go_wp2_with (first | ((with_reducible refine gate_dst (N := 1) rfl ?_); refine box_event ?hg (N := 1) ?hd (cs := #[.int .i64 a0_0, .slice A0_1 l0_1.length c0_1, .slice A0_2 l0_2.length c0_2, .slice A0_3 l0_3.length c0_3]) (t := 41) ?hr ?_; (case hd => rfl); (case hg => rfl); (case hr => first | (go_simp; done) | (go_simp; rfl)); intro g1 hg1 w1 hbox1 hb1; have HB1 := Az hb1; have BK1 := Az hbox1; have HG1 := Az (show w.heap.size ≤ g1 by rw [hg1]; exact Nat.le_refl _); clear hb1 hbox1 hg1) | ((with_reducible refine gate_dst (N := 3) rfl ?_); refine box_event ?hg (N := 3) ?hd (cs := #[.nilFunc]) (t := 72) ?hr ?_; (case hd => rfl); (case hg => rfl); (case hr => first | (go_simp; done) | (go_simp; rfl)); intro g3 hg3 w3 hbox3 hb3; have HB3 := Az (below_step HB1.out hb3); have BK13 := Az (blk_below BK1.out hb3); have BK3 := Az hbox3; have HG3 := Az (show w.heap.size ≤ g3 by rw [hg3]; exact HB1.out.size); have HNE := Az (show g1 ≠ g3 by rw [hg3]; exact Nat.ne_of_lt (blk_lt BK1.out)); have hcz : w3.cell? ⟨g3, 0, none⟩ = some Value.nilFunc := (blk_cell hbox3 0).trans rfl; have hfz : w3.frozen? ⟨g3, 0, none⟩ = false := blk_frozen hbox3 0; have hcy : w3.cell? ⟨g1, 0, none⟩ = some (.int .i64 a0_0) := (blk_cell BK13.out 0).trans rfl; have hny := HNE.out; clear hb3 hbox3 hg3 HB1 BK1) | (go_at_call 36; (with_reducible refine (impl_in.calls a0_0 1 8 true _ ?hi).mono ?_); (case hi => exact impl_NetOk.in_r g0); rintro e w' ⟨rfl, nd, rfl⟩; have HX := Az (pw_below_drewN (below_set (j := 0) (v := (Value.func (.func 44) #[] #[.pointer (some ⟨g1, 0, none⟩)])) HB3.out HG3.out) nd); have BX3 := Az (blk_drewN (blk_put (cs := #[.nilFunc]) BK3.out 0 (Value.func (.func 44) #[] #[.pointer (some ⟨g1, 0, none⟩)]) rfl) nd); have BX1 := Az (blk_drewN (blk_far (p := ⟨g3, 0, none⟩) BK13.out HNE.out (Value.func (.func 44) #[] #[.pointer (some ⟨g1, 0, none⟩)])) nd); clear hcz hfz hcy hny; generalize hX : (w3.setCell ⟨g3, 0, none⟩ (Value.func (.func 44) #[] #[.pointer (some ⟨g1, 0, none⟩)])).drewN nd = X at *; clear hX; obtain ⟨c0, c1, c2, c3⟩ := bc4 BX1.out) | (go_at_call 45; (with_reducible refine (impl_NetOk.contains1 A0_1 c0_1 l0_1 (impl_NetOk.p1 a0_0) g3 true _ ?ha ?hb ?hc).mono ?_); (case ha => exact Kd.C_below HR1.out HX.out); (case hb => exact fun x W hb => impl_NetOk.cl1 a0_0 x g3 g1 _ (blk_lt BX3.out) (blk_lt BX1.out) ((blk_cell BX3.out 0).trans rfl) ((blk_cell BX1.out 0).trans rfl) W hb); (case hc => exact HA1.out); rintro e X2 ⟨rfl, hb'⟩; have n0 := Az (below_step HX.out hb'); have n1 := Az (blk_below BX1.out hb'); have n3 := Az (blk_below BX3.out hb'); clear HX BX1 BX3 c0 c1 c2 c3 hb'; have HX := n0; have BX1 := n1; have BX3 := n3; clear n0 n1 n3; obtain ⟨c0, c1, c2, c3⟩ := bc4 BX1.out) | (go_at_call 47; (with_reducible refine (impl_NetOk.contains2 A0_2 c0_2 l0_2 (impl_NetOk.p2 a0_0) g3 false _ ?ha ?hb ?hc).mono ?_); (case ha => exact Kd.C_below HR2.out HX.out); (case hb => exact fun x W hb => impl_NetOk.cl2 a0_0 x g3 g1 _ (blk_lt BX3.out) (blk_lt BX1.out) ((blk_cell BX3.out 0).trans rfl) ((blk_cell BX1.out 0).trans rfl) W hb); (case hc => exact HA2.out); rintro e X2 ⟨rfl, hb'⟩; have n0 := Az (below_step HX.out hb'); have n1 := Az (blk_below BX1.out hb'); have n3 := Az (blk_below BX3.out hb'); clear HX BX1 BX3 c0 c1 c2 c3 hb'; have HX := n0; have BX1 := n1; have BX3 := n3; clear n0 n1 n3; obtain ⟨c0, c1, c2, c3⟩ := bc4 BX1.out) | (go_at_call 49; (with_reducible refine (impl_NetOk.contains3 A0_3 c0_3 l0_3 (impl_NetOk.p3 a0_0) g3 false _ ?ha ?hb ?hc).mono ?_); (case ha => exact Kd.C_below HR3.out HX.out); (case hb => exact fun x W hb => impl_NetOk.cl3 a0_0 x g3 g1 _ (blk_lt BX3.out) (blk_lt BX1.out) ((blk_cell BX3.out 0).trans rfl) ((blk_cell BX1.out 0).trans rfl) W hb); (case hc => exact HA3.out); rintro e X2 ⟨rfl, hb'⟩; have n0 := Az (below_step HX.out hb'); have n1 := Az (blk_below BX1.out hb'); have n3 := Az (blk_below BX3.out hb'); clear HX BX1 BX3 c0 c1 c2 c3 hb'; have HX := n0; have BX1 := n1; have BX3 := n3; clear n0 n1 n3; obtain ⟨c0, c1, c2, c3⟩ := bc4 BX1.out))
   all_goals first | (exfalso; omega) | (go_ret; exact ⟨by first | rfl | simp_all, HX.out⟩)
  ·
   have HA1 := Az e1; have HA2 := Az e2; have HA3 := Az e3; rw [e1, e2, e3] at h; have h : false = r := h; subst h; clear e1 e2 e3
   go_enter Try.func17, Try.ntmps17
   go_wp2_with (first | ((with_reducible refine gate_dst (N := 1) rfl ?_); refine box_event ?hg (N := 1) ?hd (cs := #[.int .i64 a0_0, .slice A0_1 l0_1.length c0_1, .slice A0_2 l0_2.length c0_2, .slice A0_3 l0_3.length c0_3]) (t := 41) ?hr ?_; (case hd => rfl); (case hg => rfl); (case hr => first | (go_simp; done) | (go_simp; rfl)); intro g1 hg1 w1 hbox1 hb1; have HB1 := Az hb1; have BK1 := Az hbox1; have HG1 := Az (show w.heap.size ≤ g1 by rw [hg1]; exact Nat.le_refl _); clear hb1 hbox1 hg1) | ((with_reducible refine gate_dst (N := 3) rfl ?_); refine box_event ?hg (N := 3) ?hd (cs := #[.nilFunc]) (t := 72) ?hr ?_; (case hd => rfl); (case hg => rfl); (case hr => first | (go_simp; done) | (go_simp; rfl)); intro g3 hg3 w3 hbox3 hb3; have HB3 := Az (below_step HB1.out hb3); have BK13 := Az (blk_below BK1.out hb3); have BK3 := Az hbox3; have HG3 := Az (show w.heap.size ≤ g3 by rw [hg3]; exact HB1.out.size); have HNE := Az (show g1 ≠ g3 by rw [hg3]; exact Nat.ne_of_lt (blk_lt BK1.out)); have hcz : w3.cell? ⟨g3, 0, none⟩ = some Value.nilFunc := (blk_cell hbox3 0).trans rfl; have hfz : w3.frozen? ⟨g3, 0, none⟩ = false := blk_frozen hbox3 0; have hcy : w3.cell? ⟨g1, 0, none⟩ = some (.int .i64 a0_0) := (blk_cell BK13.out 0).trans rfl; have hny := HNE.out; clear hb3 hbox3 hg3 HB1 BK1) | (go_at_call 36; (with_reducible refine (impl_in.calls a0_0 1 8 true _ ?hi).mono ?_); (case hi => exact impl_NetOk.in_r g0); rintro e w' ⟨rfl, nd, rfl⟩; have HX := Az (pw_below_drewN (below_set (j := 0) (v := (Value.func (.func 44) #[] #[.pointer (some ⟨g1, 0, none⟩)])) HB3.out HG3.out) nd); have BX3 := Az (blk_drewN (blk_put (cs := #[.nilFunc]) BK3.out 0 (Value.func (.func 44) #[] #[.pointer (some ⟨g1, 0, none⟩)]) rfl) nd); have BX1 := Az (blk_drewN (blk_far (p := ⟨g3, 0, none⟩) BK13.out HNE.out (Value.func (.func 44) #[] #[.pointer (some ⟨g1, 0, none⟩)])) nd); clear hcz hfz hcy hny; generalize hX : (w3.setCell ⟨g3, 0, none⟩ (Value.func (.func 44) #[] #[.pointer (some ⟨g1, 0, none⟩)])).drewN nd = X at *; clear hX; obtain ⟨c0, c1, c2, c3⟩ := bc4 BX1.out) | (go_at_call 45; (with_reducible refine (impl_NetOk.contains1 A0_1 c0_1 l0_1 (impl_NetOk.p1 a0_0) g3 true _ ?ha ?hb ?hc).mono ?_); (case ha => exact Kd.C_below HR1.out HX.out); (case hb => exact fun x W hb => impl_NetOk.cl1 a0_0 x g3 g1 _ (blk_lt BX3.out) (blk_lt BX1.out) ((blk_cell BX3.out 0).trans rfl) ((blk_cell BX1.out 0).trans rfl) W hb); (case hc => exact HA1.out); rintro e X2 ⟨rfl, hb'⟩; have n0 := Az (below_step HX.out hb'); have n1 := Az (blk_below BX1.out hb'); have n3 := Az (blk_below BX3.out hb'); clear HX BX1 BX3 c0 c1 c2 c3 hb'; have HX := n0; have BX1 := n1; have BX3 := n3; clear n0 n1 n3; obtain ⟨c0, c1, c2, c3⟩ := bc4 BX1.out) | (go_at_call 47; (with_reducible refine (impl_NetOk.contains2 A0_2 c0_2 l0_2 (impl_NetOk.p2 a0_0) g3 false _ ?ha ?hb ?hc).mono ?_); (case ha => exact Kd.C_below HR2.out HX.out); (case hb => exact fun x W hb => impl_NetOk.cl2 a0_0 x g3 g1 _ (blk_lt BX3.out) (blk_lt BX1.out) ((blk_cell BX3.out 0).trans rfl) ((blk_cell BX1.out 0).trans rfl) W hb); (case hc => exact HA2.out); rintro e X2 ⟨rfl, hb'⟩; have n0 := Az (below_step HX.out hb'); have n1 := Az (blk_below BX1.out hb'); have n3 := Az (blk_below BX3.out hb'); clear HX BX1 BX3 c0 c1 c2 c3 hb'; have HX := n0; have BX1 := n1; have BX3 := n3; clear n0 n1 n3; obtain ⟨c0, c1, c2, c3⟩ := bc4 BX1.out) | (go_at_call 49; (with_reducible refine (impl_NetOk.contains3 A0_3 c0_3 l0_3 (impl_NetOk.p3 a0_0) g3 true _ ?ha ?hb ?hc).mono ?_); (case ha => exact Kd.C_below HR3.out HX.out); (case hb => exact fun x W hb => impl_NetOk.cl3 a0_0 x g3 g1 _ (blk_lt BX3.out) (blk_lt BX1.out) ((blk_cell BX3.out 0).trans rfl) ((blk_cell BX1.out 0).trans rfl) W hb); (case hc => exact HA3.out); rintro e X2 ⟨rfl, hb'⟩; have n0 := Az (below_step HX.out hb'); have n1 := Az (blk_below BX1.out hb'); have n3 := Az (blk_below BX3.out hb'); clear HX BX1 BX3 c0 c1 c2 c3 hb'; have HX := n0; have BX1 := n1; have BX3 := n3; clear n0 n1 n3; obtain ⟨c0, c1, c2, c3⟩ := bc4 BX1.out))
   all_goals first | (exfalso; omega) | (go_ret; exact ⟨by first | rfl | simp_all, HX.out⟩)
  ·
   have HA1 := Az e1; have HA2 := Az e2; have HA3 := Az e3; rw [e1, e2, e3] at h; have h : false = r := h; subst h; clear e1 e2 e3
   go_enter Try.func17, Try.ntmps17
   go_wp2_with (first | ((with_reducible refine gate_dst (N := 1) rfl ?_); refine box_event ?hg (N := 1) ?hd (cs := #[.int .i64 a0_0, .slice A0_1 l0_1.length c0_1, .slice A0_2 l0_2.length c0_2, .slice A0_3 l0_3.length c0_3]) (t := 41) ?hr ?_; (case hd => rfl); (case hg => rfl); (case hr => first | (go_simp; done) | (go_simp; rfl)); intro g1 hg1 w1 hbox1 hb1; have HB1 := Az hb1; have BK1 := Az hbox1; have HG1 := Az (show w.heap.size ≤ g1 by rw [hg1]; exact Nat.le_refl _); clear hb1 hbox1 hg1) | ((with_reducible refine gate_dst (N := 3) rfl ?_); refine box_event ?hg (N := 3) ?hd (cs := #[.nilFunc]) (t := 72) ?hr ?_; (case hd => rfl); (case hg => rfl); (case hr => first | (go_simp; done) | (go_simp; rfl)); intro g3 hg3 w3 hbox3 hb3; have HB3 := Az (below_step HB1.out hb3); have BK13 := Az (blk_below BK1.out hb3); have BK3 := Az hbox3; have HG3 := Az (show w.heap.size ≤ g3 by rw [hg3]; exact HB1.out.size); have HNE := Az (show g1 ≠ g3 by rw [hg3]; exact Nat.ne_of_lt (blk_lt BK1.out)); have hcz : w3.cell? ⟨g3, 0, none⟩ = some Value.nilFunc := (blk_cell hbox3 0).trans rfl; have hfz : w3.frozen? ⟨g3, 0, none⟩ = false := blk_frozen hbox3 0; have hcy : w3.cell? ⟨g1, 0, none⟩ = some (.int .i64 a0_0) := (blk_cell BK13.out 0).trans rfl; have hny := HNE.out; clear hb3 hbox3 hg3 HB1 BK1) | (go_at_call 36; (with_reducible refine (impl_in.calls a0_0 1 8 true _ ?hi).mono ?_); (case hi => exact impl_NetOk.in_r g0); rintro e w' ⟨rfl, nd, rfl⟩; have HX := Az (pw_below_drewN (below_set (j := 0) (v := (Value.func (.func 44) #[] #[.pointer (some ⟨g1, 0, none⟩)])) HB3.out HG3.out) nd); have BX3 := Az (blk_drewN (blk_put (cs := #[.nilFunc]) BK3.out 0 (Value.func (.func 44) #[] #[.pointer (some ⟨g1, 0, none⟩)]) rfl) nd); have BX1 := Az (blk_drewN (blk_far (p := ⟨g3, 0, none⟩) BK13.out HNE.out (Value.func (.func 44) #[] #[.pointer (some ⟨g1, 0, none⟩)])) nd); clear hcz hfz hcy hny; generalize hX : (w3.setCell ⟨g3, 0, none⟩ (Value.func (.func 44) #[] #[.pointer (some ⟨g1, 0, none⟩)])).drewN nd = X at *; clear hX; obtain ⟨c0, c1, c2, c3⟩ := bc4 BX1.out) | (go_at_call 45; (with_reducible refine (impl_NetOk.contains1 A0_1 c0_1 l0_1 (impl_NetOk.p1 a0_0) g3 true _ ?ha ?hb ?hc).mono ?_); (case ha => exact Kd.C_below HR1.out HX.out); (case hb => exact fun x W hb => impl_NetOk.cl1 a0_0 x g3 g1 _ (blk_lt BX3.out) (blk_lt BX1.out) ((blk_cell BX3.out 0).trans rfl) ((blk_cell BX1.out 0).trans rfl) W hb); (case hc => exact HA1.out); rintro e X2 ⟨rfl, hb'⟩; have n0 := Az (below_step HX.out hb'); have n1 := Az (blk_below BX1.out hb'); have n3 := Az (blk_below BX3.out hb'); clear HX BX1 BX3 c0 c1 c2 c3 hb'; have HX := n0; have BX1 := n1; have BX3 := n3; clear n0 n1 n3; obtain ⟨c0, c1, c2, c3⟩ := bc4 BX1.out) | (go_at_call 47; (with_reducible refine (impl_NetOk.contains2 A0_2 c0_2 l0_2 (impl_NetOk.p2 a0_0) g3 true _ ?ha ?hb ?hc).mono ?_); (case ha => exact Kd.C_below HR2.out HX.out); (case hb => exact fun x W hb => impl_NetOk.cl2 a0_0 x g3 g1 _ (blk_lt BX3.out) (blk_lt BX1.out) ((blk_cell BX3.out 0).trans rfl) ((blk_cell BX1.out 0).trans rfl) W hb); (case hc => exact HA2.out); rintro e X2 ⟨rfl, hb'⟩; have n0 := Az (below_step HX.out hb'); have n1 := Az (blk_below BX1.out hb'); have n3 := Az (blk_below BX3.out hb'); clear HX BX1 BX3 c0 c1 c2 c3 hb'; have HX := n0; have BX1 := n1; have BX3 := n3; clear n0 n1 n3; obtain ⟨c0, c1, c2, c3⟩ := bc4 BX1.out) | (go_at_call 49; (with_reducible refine (impl_NetOk.contains3 A0_3 c0_3 l0_3 (impl_NetOk.p3 a0_0) g3 false _ ?ha ?hb ?hc).mono ?_); (case ha => exact Kd.C_below HR3.out HX.out); (case hb => exact fun x W hb => impl_NetOk.cl3 a0_0 x g3 g1 _ (blk_lt BX3.out) (blk_lt BX1.out) ((blk_cell BX3.out 0).trans rfl) ((blk_cell BX1.out 0).trans rfl) W hb); (case hc => exact HA3.out); rintro e X2 ⟨rfl, hb'⟩; have n0 := Az (below_step HX.out hb'); have n1 := Az (blk_below BX1.out hb'); have n3 := Az (blk_below BX3.out hb'); clear HX BX1 BX3 c0 c1 c2 c3 hb'; have HX := n0; have BX1 := n1; have BX3 := n3; clear n0 n1 n3; obtain ⟨c0, c1, c2, c3⟩ := bc4 BX1.out))
   all_goals first | (exfalso; omega) | (go_ret; exact ⟨by first | rfl | simp_all, HX.out⟩)
  ·
   have HA1 := Az e1; have HA2 := Az e2; have HA3 := Az e3; rw [e1, e2, e3] at h; have h : false = r := h; subst h; clear e1 e2 e3
   go_enter Try.func17, Try.ntmps17
   go_wp2_with (first | ((with_reducible refine gate_dst (N := 1) rfl ?_); refine box_event ?hg (N := 1) ?hd (cs := #[.int .i64 a0_0, .slice A0_1 l0_1.length c0_1, .slice A0_2 l0_2.length c0_2, .slice A0_3 l0_3.length c0_3]) (t := 41) ?hr ?_; (case hd => rfl); (case hg => rfl); (case hr => first | (go_simp; done) | (go_simp; rfl)); intro g1 hg1 w1 hbox1 hb1; have HB1 := Az hb1; have BK1 := Az hbox1; have HG1 := Az (show w.heap.size ≤ g1 by rw [hg1]; exact Nat.le_refl _); clear hb1 hbox1 hg1) | ((with_reducible refine gate_dst (N := 3) rfl ?_); refine box_event ?hg (N := 3) ?hd (cs := #[.nilFunc]) (t := 72) ?hr ?_; (case hd => rfl); (case hg => rfl); (case hr => first | (go_simp; done) | (go_simp; rfl)); intro g3 hg3 w3 hbox3 hb3; have HB3 := Az (below_step HB1.out hb3); have BK13 := Az (blk_below BK1.out hb3); have BK3 := Az hbox3; have HG3 := Az (show w.heap.size ≤ g3 by rw [hg3]; exact HB1.out.size); have HNE := Az (show g1 ≠ g3 by rw [hg3]; exact Nat.ne_of_lt (blk_lt BK1.out)); have hcz : w3.cell? ⟨g3, 0, none⟩ = some Value.nilFunc := (blk_cell hbox3 0).trans rfl; have hfz : w3.frozen? ⟨g3, 0, none⟩ = false := blk_frozen hbox3 0; have hcy : w3.cell? ⟨g1, 0, none⟩ = some (.int .i64 a0_0) := (blk_cell BK13.out 0).trans rfl; have hny := HNE.out; clear hb3 hbox3 hg3 HB1 BK1) | (go_at_call 36; (with_reducible refine (impl_in.calls a0_0 1 8 true _ ?hi).mono ?_); (case hi => exact impl_NetOk.in_r g0); rintro e w' ⟨rfl, nd, rfl⟩; have HX := Az (pw_below_drewN (below_set (j := 0) (v := (Value.func (.func 44) #[] #[.pointer (some ⟨g1, 0, none⟩)])) HB3.out HG3.out) nd); have BX3 := Az (blk_drewN (blk_put (cs := #[.nilFunc]) BK3.out 0 (Value.func (.func 44) #[] #[.pointer (some ⟨g1, 0, none⟩)]) rfl) nd); have BX1 := Az (blk_drewN (blk_far (p := ⟨g3, 0, none⟩) BK13.out HNE.out (Value.func (.func 44) #[] #[.pointer (some ⟨g1, 0, none⟩)])) nd); clear hcz hfz hcy hny; generalize hX : (w3.setCell ⟨g3, 0, none⟩ (Value.func (.func 44) #[] #[.pointer (some ⟨g1, 0, none⟩)])).drewN nd = X at *; clear hX; obtain ⟨c0, c1, c2, c3⟩ := bc4 BX1.out) | (go_at_call 45; (with_reducible refine (impl_NetOk.contains1 A0_1 c0_1 l0_1 (impl_NetOk.p1 a0_0) g3 true _ ?ha ?hb ?hc).mono ?_); (case ha => exact Kd.C_below HR1.out HX.out); (case hb => exact fun x W hb => impl_NetOk.cl1 a0_0 x g3 g1 _ (blk_lt BX3.out) (blk_lt BX1.out) ((blk_cell BX3.out 0).trans rfl) ((blk_cell BX1.out 0).trans rfl) W hb); (case hc => exact HA1.out); rintro e X2 ⟨rfl, hb'⟩; have n0 := Az (below_step HX.out hb'); have n1 := Az (blk_below BX1.out hb'); have n3 := Az (blk_below BX3.out hb'); clear HX BX1 BX3 c0 c1 c2 c3 hb'; have HX := n0; have BX1 := n1; have BX3 := n3; clear n0 n1 n3; obtain ⟨c0, c1, c2, c3⟩ := bc4 BX1.out) | (go_at_call 47; (with_reducible refine (impl_NetOk.contains2 A0_2 c0_2 l0_2 (impl_NetOk.p2 a0_0) g3 true _ ?ha ?hb ?hc).mono ?_); (case ha => exact Kd.C_below HR2.out HX.out); (case hb => exact fun x W hb => impl_NetOk.cl2 a0_0 x g3 g1 _ (blk_lt BX3.out) (blk_lt BX1.out) ((blk_cell BX3.out 0).trans rfl) ((blk_cell BX1.out 0).trans rfl) W hb); (case hc => exact HA2.out); rintro e X2 ⟨rfl, hb'⟩; have n0 := Az (below_step HX.out hb'); have n1 := Az (blk_below BX1.out hb'); have n3 := Az (blk_below BX3.out hb'); clear HX BX1 BX3 c0 c1 c2 c3 hb'; have HX := n0; have BX1 := n1; have BX3 := n3; clear n0 n1 n3; obtain ⟨c0, c1, c2, c3⟩ := bc4 BX1.out) | (go_at_call 49; (with_reducible refine (impl_NetOk.contains3 A0_3 c0_3 l0_3 (impl_NetOk.p3 a0_0) g3 true _ ?ha ?hb ?hc).mono ?_); (case ha => exact Kd.C_below HR3.out HX.out); (case hb => exact fun x W hb => impl_NetOk.cl3 a0_0 x g3 g1 _ (blk_lt BX3.out) (blk_lt BX1.out) ((blk_cell BX3.out 0).trans rfl) ((blk_cell BX1.out 0).trans rfl) W hb); (case hc => exact HA3.out); rintro e X2 ⟨rfl, hb'⟩; have n0 := Az (below_step HX.out hb'); have n1 := Az (blk_below BX1.out hb'); have n3 := Az (blk_below BX3.out hb'); clear HX BX1 BX3 c0 c1 c2 c3 hb'; have HX := n0; have BX1 := n1; have BX3 := n3; clear n0 n1 n3; obtain ⟨c0, c1, c2, c3⟩ := bc4 BX1.out))
   all_goals first | (exfalso; omega) | (go_ret; exact ⟨by first | rfl | simp_all, HX.out⟩)

end Go.Proofs.Ytbbfibokedlkkaa.PFnExactCloseFor
