/- Walks of the functions named below, by a program of the session over the kit's printer. -/
import Derived.Test.YtjndpoofjidamaaPFnExactTake14x0
namespace Go.Proofs.Ytjndpoofjidamaa.PFnExactTake14
open Go.RowKit Go.Proofs.YtjndpoofjidamaaW.PrintWords Go.Proofs.YtjndpoofjidamaaW.PrintLast Go.Proofs.YtjndpoofjidamaaW.PrintMore
attribute [local go_sem] max2_int min2_int max_two min_two max_three min_three max_four min_four   -- for this text's walks alone
set_option linter.unusedVariables false
set_option linter.unusedSimpArgs false

/-! ### impl_in: function 44 -/
def impl_in.f (a0 : Int) (a1 : Int) (a2 : Int) : Option (Bool) := if a0 ≥ a1 then (some (decide (a0 ≤ a2))) else (some false)
set_option maxHeartbeats 8000000 in
set_option maxRecDepth 100000 in
theorem impl_in.calls (a0 : Int) (a1 : Int) (a2 : Int) (r : Bool) (w : World) (h : impl_in.f a0 a1 a2 = some r) :
  Calls Try.prog 44 #[.int .i64 a0, .int .i64 a1, .int .i64 a2] w fun e w' => e = .returned (.bool r) ∧ Drawn0 w w' := by
 have H : (if a0 ≥ a1 then (some (decide (a0 ≤ a2))) else (some false)) = some r := h; clear h
 by_cases c4 : a0 ≥ a1
 ·
  rw [if_pos c4] at H; have c4b0 : decide (a1 ≤ a0) = true := decide_eq_true c4; clear c4; obtain rfl := Option.some.inj H
  go_enter Try.func44, Try.ntmps44
  go_wp2
  go_ret
  exact ⟨by first | rfl | (simp; done) | (simp [*]; done), by repeat (first | exact Drawn0.refl _ | apply Drawn0.step)⟩
 ·
  rw [if_neg c4] at H; have c4b0 : decide (a1 ≤ a0) = false := decide_eq_false c4; clear c4; obtain rfl := Option.some.inj H
  go_enter Try.func44, Try.ntmps44
  go_wp2
  go_ret
  exact ⟨by first | rfl | (simp; done) | (simp [*]; done), by repeat (first | exact Drawn0.refl _ | apply Drawn0.step)⟩

/-! ### impl_isName: function 43 -/
def impl_isName.l0 : Nat → ByteArray → Int → Int → Option (Bool)
 | 0, _, _, _ => none
 | k + 1, x0, x6, x7 => if x7 < x6 then (if 0 ≤ x7 then (if x7 < (x0.size : Int) then (if (bt x0 x7) ≥ 97 then (if (bt x0 x7) ≤ 122 then (impl_isName.l0 k x0 x6 (wrap64 (x7 + 1))) else (if (bt x0 x7) ≥ 65 then (if (bt x0 x7) ≤ 90 then (impl_isName.l0 k x0 x6 (wrap64 (x7 + 1))) else (if (bt x0 x7) ≥ 48 then (if (bt x0 x7) ≤ 57 then (impl_isName.l0 k x0 x6 (wrap64 (x7 + 1))) else (if ((bt x0 x7) = 45) then (impl_isName.l0 k x0 x6 (wrap64 (x7 + 1))) else (some false))) else (if ((bt x0 x7) = 45) then (impl_isName.l0 k x0 x6 (wrap64 (x7 + 1))) else (some false)))) else (if (bt x0 x7) ≥ 48 then (if (bt x0 x7) ≤ 57 then (impl_isName.l0 k x0 x6 (wrap64 (x7 + 1))) else (if ((bt x0 x7) = 45) then (impl_isName.l0 k x0 x6 (wrap64 (x7 + 1))) else (some false))) else (if ((bt x0 x7) = 45) then (impl_isName.l0 k x0 x6 (wrap64 (x7 + 1))) else (some false))))) else (if (bt x0 x7) ≥ 65 then (if (bt x0 x7) ≤ 90 then (impl_isName.l0 k x0 x6 (wrap64 (x7 + 1))) else (if (bt x0 x7) ≥ 48 then (if (bt x0 x7) ≤ 57 then (impl_isName.l0 k x0 x6 (wrap64 (x7 + 1))) else (if ((bt x0 x7) = 45) then (impl_isName.l0 k x0 x6 (wrap64 (x7 + 1))) else (some false))) else (if ((bt x0 x7) = 45) then (impl_isName.l0 k x0 x6 (wrap64 (x7 + 1))) else (some false)))) else (if (bt x0 x7) ≥ 48 then (if (bt x0 x7) ≤ 57 then (impl_isName.l0 k x0 x6 (wrap64 (x7 + 1))) else (if ((bt x0 x7) = 45) then (impl_isName.l0 k x0 x6 (wrap64 (x7 + 1))) else (some false))) else (if ((bt x0 x7) = 45) then (impl_isName.l0 k x0 x6 (wrap64 (x7 + 1))) else (some false))))) else (none)) else (none)) else ((impl_in.f (x0.size : Int) 1 20).bind fun t142 => (some t142))
def impl_isName.f (k : Nat) (a0 : ByteArray) : Option (Bool) := impl_isName.l0 k a0 (a0.size : Int) 0
set_option maxHeartbeats 8000000 in
set_option maxRecDepth 100000 in
theorem impl_isName.calls (k : Nat) (a0 : ByteArray) (r : Bool) (w : World) (h : impl_isName.f k a0 = some r) :
  Calls Try.prog 43 #[.string a0] w fun e w' => e = .returned (.bool r) ∧ Drawn0 w w' := by
 have H : (impl_isName.l0 k a0 (a0.size : Int) 0) = some r := h; clear h; have H' := Az H; clear H
 go_enter Try.func43, Try.ntmps43
 go_wp2
 go_loopg [7] k (fun kq v7 w' => ∃ (x7_1 : Int), v7 = .int .i64 x7_1 ∧ Aside0 (impl_isName.l0 kq a0 (a0.size : Int) x7_1 = some r) ∧ Aside0 (kq ≤ k) ∧ Drawn0 w w')
 case atStart => exact ⟨(0), (by first | rfl | (simp; done) | (simp [*]; done)), H', ⟨Nat.le_refl _⟩, by repeat (first | exact Drawn0.refl _ | apply Drawn0.step)⟩
 case round =>
  clear H'; obtain ⟨x7_1, rfl, HA, HK1, ⟨m1, rfl⟩⟩ := hrel
  cases gk with
  | zero => exact absurd HA.out (by simp [impl_isName.l0])
  | succ k1 =>
   have H := HA.out; clear HA; simp only [impl_isName.l0] at H
   by_cases c2 : x7_1 < (a0.size : Int)
   ·
    rw [if_pos c2] at H; have c2b0 : decide (x7_1 < (a0.size : Int)) = true := decide_eq_true c2; clear c2
    by_cases c3 : 0 ≤ x7_1
    ·
     rw [if_pos c3] at H; have c3b0 : decide (0 ≤ x7_1) = true := decide_eq_true c3; clear c3
     by_cases c4 : x7_1 < (a0.size : Int)
     ·
      rw [if_pos c4] at H; have c4b0 : decide (x7_1 < (a0.size : Int)) = true := decide_eq_true c4; clear c4
      by_cases c6 : (bt a0 x7_1) ≥ 97
      ·
       rw [if_pos c6] at H; have c6b0 : decide (97 ≤ (bt a0 x7_1)) = true := decide_eq_true c6; clear c6
       by_cases c7 : (bt a0 x7_1) ≤ 122
       ·
        rw [if_pos c7] at H; have c7b0 : decide ((bt a0 x7_1) ≤ 122) = true := decide_eq_true c7; clear c7; have H' := Az H; clear H; have p5 : 0 ≤ (x7_1 : Int) := oz; have q5 : x7_1 < (a0.size : Int) := oz; have hx5 := bt_at a0 x7_1; replace p5 := eq_true p5; replace q5 := eq_true q5
        go_wp2
        go_roundg k1
        case measure => have := HK1.out; omega
        case rel => exact ⟨(wrap64 (x7_1 + 1)), (by first | rfl | (simp; done) | (simp [*]; done)), H', ⟨by have := HK1.out; omega⟩, by repeat (first | exact Drawn0.refl _ | apply Drawn0.step)⟩
       ·
        rw [if_neg c7] at H; have c7b0 : decide ((bt a0 x7_1) ≤ 122) = false := decide_eq_false c7; clear c7
        by_cases c8 : (bt a0 x7_1) ≥ 65
        ·
         rw [if_pos c8] at H; have c8b0 : decide (65 ≤ (bt a0 x7_1)) = true := decide_eq_true c8; clear c8
         by_cases c9 : (bt a0 x7_1) ≤ 90
         ·
          rw [if_pos c9] at H; have c9b0 : decide ((bt a0 x7_1) ≤ 90) = true := decide_eq_true c9; clear c9; have H' := Az H; clear H; have p5 : 0 ≤ (x7_1 : Int) := oz; have q5 : x7_1 < (a0.size : Int) := oz; have hx5 := bt_at a0 x7_1; replace p5 := eq_true p5; replace q5 := eq_true q5
          go_wp2
          go_roundg k1
          case measure => have := HK1.out; omega
          case rel => exact ⟨(wrap64 (x7_1 + 1)), (by first | rfl | (simp; done) | (simp [*]; done)), H', ⟨by have := HK1.out; omega⟩, by repeat (first | exact Drawn0.refl _ | apply Drawn0.step)⟩
         ·
          rw [if_neg c9] at H; have c9b0 : decide ((bt a0 x7_1) ≤ 90) = false := decide_eq_false c9; clear c9
          by_cases c10 : (bt a0 x7_1) ≥ 48
          ·
           rw [if_pos c10] at H; have c10b0 : decide (48 ≤ (bt a0 x7_1)) = true := decide_eq_true c10; clear c10
           by_cases c11 : (bt a0 x7_1) ≤ 57
           ·
            rw [if_pos c11] at H; have c11b0 : decide ((bt a0 x7_1) ≤ 57) = true := decide_eq_true c11; clear c11; have H' := Az H; clear H; have p5 : 0 ≤ (x7_1 : Int) := oz; have q5 : x7_1 < (a0.size : Int) := oz; have hx5 := bt_at a0 x7_1; replace p5 := eq_true p5; replace q5 := eq_true q5
            go_wp2
            go_roundg k1
            case measure => have := HK1.out; omega
            case rel => exact ⟨(wrap64 (x7_1 + 1)), (by first | rfl | (simp; done) | (simp [*]; done)), H', ⟨by have := HK1.out; omega⟩, by repeat (first | exact Drawn0.refl _ | apply Drawn0.step)⟩
           ·
            rw [if_neg c11] at H; have c11b0 : decide ((bt a0 x7_1) ≤ 57) = false := decide_eq_false c11; clear c11
            by_cases c12 : ((bt a0 x7_1) = 45)
            ·
             rw [if_pos c12] at H; have c12b0 : ((bt a0 x7_1) == 45) = true := beq_iff_eq.mpr c12; have c12b1 : ((bt a0 x7_1) != 45) = false := bne_eq_false_iff_eq.mpr c12; clear c12; have H' := Az H; clear H; have p5 : 0 ≤ (x7_1 : Int) := oz; have q5 : x7_1 < (a0.size : Int) := oz; have hx5 := bt_at a0 x7_1; replace p5 := eq_true p5; replace q5 := eq_true q5
             go_wp2
             go_roundg k1
             case measure => have := HK1.out; omega
             case rel => exact ⟨(wrap64 (x7_1 + 1)), (by first | rfl | (simp; done) | (simp [*]; done)), H', ⟨by have := HK1.out; omega⟩, by repeat (first | exact Drawn0.refl _ | apply Drawn0.step)⟩
            ·
             rw [if_neg c12] at H; have c12b0 : ((bt a0 x7_1) == 45) = false := beq_eq_false_iff_ne.mpr c12; have c12b1 : ((bt a0 x7_1) != 45) = true := bne_iff_ne.mpr c12; obtain rfl := Option.some.inj H; have p5 : 0 ≤ (x7_1 : Int) := oz; have q5 : x7_1 < (a0.size : Int) := oz; have hx5 := bt_at a0 x7_1; replace p5 := eq_true p5; replace q5 := eq_true q5
             go_wp2
             go_ret
             exact ⟨by first | rfl | (simp; done) | (simp [*]; done), by repeat (first | exact Drawn0.refl _ | apply Drawn0.step)⟩
          ·
           rw [if_neg c10] at H; have c10b0 : decide (48 ≤ (bt a0 x7_1)) = false := decide_eq_false c10; clear c10
           by_cases c13 : ((bt a0 x7_1) = 45)
           ·
            rw [if_pos c13] at H; have c13b0 : ((bt a0 x7_1) == 45) = true := beq_iff_eq.mpr c13; have c13b1 : ((bt a0 x7_1) != 45) = false := bne_eq_false_iff_eq.mpr c13; clear c13; have H' := Az H; clear H; have p5 : 0 ≤ (x7_1 : Int) := oz; have q5 : x7_1 < (a0.size : Int) := oz; have hx5 := bt_at a0 x7_1; replace p5 := eq_true p5; replace q5 := eq_true q5
            go_wp2
            go_roundg k1
            case measure => have := HK1.out; omega
            case rel => exact ⟨(wrap64 (x7_1 + 1)), (by first | rfl | (simp; done) | (simp [*]; done)), H', ⟨by have := HK1.out; omega⟩, by repeat (first | exact Drawn0.refl _ | apply Drawn0.step)⟩
           ·
            rw [if_neg c13] at H; have c13b0 : ((bt a0 x7_1) == 45) = false := beq_eq_false_iff_ne.mpr c13; have c13b1 : ((bt a0 x7_1) != 45) = true := bne_iff_ne.mpr c13; obtain rfl := Option.some.inj H; have p5 : 0 ≤ (x7_1 : Int) := oz; have q5 : x7_1 < (a0.size : Int) := oz; have hx5 := bt_at a0 x7_1; replace p5 := eq_true p5; replace q5 := eq_true q5
            go_wp2
            go_ret
            exact ⟨by first | rfl | (simp; done) | (simp [*]; done), by repeat (first | exact Drawn0.refl _ | apply Drawn0.step)⟩
        ·
         rw [if_neg c8] at H; have c8b0 : decide (65 ≤ (bt a0 x7_1)) = false := decide_eq_false c8; clear c8
         by_cases c14 : (bt a0 x7_1) ≥ 48
         ·
          rw [if_pos c14] at H; have c14b0 : decide (48 ≤ (bt a0 x7_1)) = true := decide_eq_true c14; clear c14
          by_cases c15 : (bt a0 x7_1) ≤ 57
          ·
           rw [if_pos c15] at H; have c15b0 : decide ((bt a0 x7_1) ≤ 57) = true := decide_eq_true c15; clear c15; have H' := Az H; clear H; have p5 : 0 ≤ (x7_1 : Int) := oz; have q5 : x7_1 < (a0.size : Int) := oz; have hx5 := bt_at a0 x7_1; replace p5 := eq_true p5; replace q5 := eq_true q5
           go_wp2
           go_roundg k1
           case measure => have := HK1.out; omega
           case rel => exact ⟨(wrap64 (x7_1 + 1)), (by first | rfl | (simp; done) | (simp [*]; done)), H', ⟨by have := HK1.out; omega⟩, by repeat (first | exact Drawn0.refl _ | apply Drawn0.step)⟩
          ·
           rw [if_neg c15] at H; have c15b0 : decide ((bt a0 x7_1) ≤ 57) = false := decide_eq_false c15; clear c15
           by_cases c16 : ((bt a0 x7_1) = 45)
           ·
            rw [if_pos c16] at H; have c16b0 : ((bt a0 x7_1) == 45) = true := beq_iff_eq.mpr c16; have c16b1 : ((bt a0 x7_1) != 45) = false := bne_eq_false_iff_eq.mpr c16; clear c16; have H' := Az H; clear H; have p5 : 0 ≤ (x7_1 : Int) := oz; have q5 : x7_1 < (a0.size : Int) := oz; have hx5 := bt_at a0 x7_1; replace p5 := eq_true p5; replace q5 := eq_true q5
            go_wp2
            go_roundg k1
            case measure => have := HK1.out; omega
            case rel => exact ⟨(wrap64 (x7_1 + 1)), (by first | rfl | (simp; done) | (simp [*]; done)), H', ⟨by have := HK1.out; omega⟩, by repeat (first | exact Drawn0.refl _ | apply Drawn0.step)⟩
           ·
            rw [if_neg c16] at H; have c16b0 : ((bt a0 x7_1) == 45) = false := beq_eq_false_iff_ne.mpr c16; have c16b1 : ((bt a0 x7_1) != 45) = true := bne_iff_ne.mpr c16; obtain rfl := Option.some.inj H; have p5 : 0 ≤ (x7_1 : Int) := oz; have q5 : x7_1 < (a0.size : Int) := oz; have hx5 := bt_at a0 x7_1; replace p5 := eq_true p5; replace q5 := eq_true q5
            go_wp2
            go_ret
            exact ⟨by first | rfl | (simp; done) | (simp [*]; done), by repeat (first | exact Drawn0.refl _ | apply Drawn0.step)⟩
         ·
          rw [if_neg c14] at H; have c14b0 : decide (48 ≤ (bt a0 x7_1)) = false := decide_eq_false c14; clear c14
          by_cases c17 : ((bt a0 x7_1) = 45)
          ·
           rw [if_pos c17] at H; have c17b0 : ((bt a0 x7_1) == 45) = true := beq_iff_eq.mpr c17; have c17b1 : ((bt a0 x7_1) != 45) = false := bne_eq_false_iff_eq.mpr c17; clear c17; have H' := Az H; clear H; have p5 : 0 ≤ (x7_1 : Int) := oz; have q5 : x7_1 < (a0.size : Int) := oz; have hx5 := bt_at a0 x7_1; replace p5 := eq_true p5; replace q5 := eq_true q5
           go_wp2
           go_roundg k1
           case measure => have := HK1.out; omega
           case rel => exact ⟨(wrap64 (x7_1 + 1)), (by first | rfl | (simp; done) | (simp [*]; done)), H', ⟨by have := HK1.out; omega⟩, by repeat (first | exact Drawn0.refl _ | apply Drawn0.step)⟩
          ·
           rw [if_neg c17] at H; have c17b0 : ((bt a0 x7_1) == 45) = false := beq_eq_false_iff_ne.mpr c17; have c17b1 : ((bt a0 x7_1) != 45) = true := bne_iff_ne.mpr c17; obtain rfl := Option.some.inj H; have p5 : 0 ≤ (x7_1 : Int) := oz; have q5 : x7_1 < (a0.size : Int) := oz; have hx5 := bt_at a0 x7_1; replace p5 := eq_true p5; replace q5 := eq_true q5
           go_wp2
           go_ret
           exact ⟨by first | rfl | (simp; done) | (simp [*]; done), by repeat (first | exact Drawn0.refl _ | apply Drawn0.step)⟩
      ·
       rw [if_neg c6] at H; have c6b0 : decide (97 ≤ (bt a0 x7_1)) = false := decide_eq_false c6; clear c6
       by_cases c18 : (bt a0 x7_1) ≥ 65
       ·
        rw [if_pos c18] at H; have c18b0 : decide (65 ≤ (bt a0 x7_1)) = true := decide_eq_true c18; clear c18
        by_cases c19 : (bt a0 x7_1) ≤ 90
        ·
         rw [if_pos c19] at H; have c19b0 : decide ((bt a0 x7_1) ≤ 90) = true := decide_eq_true c19; clear c19; have H' := Az H; clear H; have p5 : 0 ≤ (x7_1 : Int) := oz; have q5 : x7_1 < (a0.size : Int) := oz; have hx5 := bt_at a0 x7_1; replace p5 := eq_true p5; replace q5 := eq_true q5
         go_wp2
         go_roundg k1
         case measure => have := HK1.out; omega
         case rel => exact ⟨(wrap64 (x7_1 + 1)), (by first | rfl | (simp; done) | (simp [*]; done)), H', ⟨by have := HK1.out; omega⟩, by repeat (first | exact Drawn0.refl _ | apply Drawn0.step)⟩
        ·
         rw [if_neg c19] at H; have c19b0 : decide ((bt a0 x7_1) ≤ 90) = false := decide_eq_false c19; clear c19
         by_cases c20 : (bt a0 x7_1) ≥ 48
         ·
          rw [if_pos c20] at H; have c20b0 : decide (48 ≤ (bt a0 x7_1)) = true := decide_eq_true c20; clear c20
          by_cases c21 : (bt a0 x7_1) ≤ 57
          ·
           rw [if_pos c21] at H; have c21b0 : decide ((bt a0 x7_1) ≤ 57) = true := decide_eq_true c21; clear c21; have H' := Az H; clear H; have p5 : 0 ≤ (x7_1 : Int) := oz; have q5 : x7_1 < (a0.size : Int) := oz; have hx5 := bt_at a0 x7_1; replace p5 := eq_true p5; replace q5 := eq_true q5
           go_wp2
           go_roundg k1
           case measure => have := HK1.out; omega
           case rel => exact ⟨(wrap64 (x7_1 + 1)), (by first | rfl | (simp; done) | (simp [*]; done)), H', ⟨by have := HK1.out; omega⟩, by repeat (first | exact Drawn0.refl _ | apply Drawn0.step)⟩
          ·
           rw [if_neg c21] at H; have c21b0 : decide ((bt a0 x7_1) ≤ 57) = false := decide_eq_false c21; clear c21
           by_cases c22 : ((bt a0 x7_1) = 45)
           ·
            rw [if_pos c22] at H; have c22b0 : ((bt a0 x7_1) == 45) = true := beq_iff_eq.mpr c22; have c22b1 : ((bt a0 x7_1) != 45) = false := bne_eq_false_iff_eq.mpr c22; clear c22; have H' := Az H; clear H; have p5 : 0 ≤ (x7_1 : Int) := oz; have q5 : x7_1 < (a0.size : Int) := oz; have hx5 := bt_at a0 x7_1; replace p5 := eq_true p5; replace q5 := eq_true q5
            go_wp2
            go_roundg k1
            case measure => have := HK1.out; omega
            case rel => exact ⟨(wrap64 (x7_1 + 1)), (by first | rfl | (simp; done) | (simp [*]; done)), H', ⟨by have := HK1.out; omega⟩, by repeat (first | exact Drawn0.refl _ | apply Drawn0.step)⟩
           ·
            rw [if_neg c22] at H; have c22b0 : ((bt a0 x7_1) == 45) = false := beq_eq_false_iff_ne.mpr c22; have c22b1 : ((bt a0 x7_1) != 45) = true := bne_iff_ne.mpr c22; obtain rfl := Option.some.inj H; have p5 : 0 ≤ (x7_1 : Int) := oz; have q5 : x7_1 < (a0.size : Int) := oz; have hx5 := bt_at a0 x7_1; replace p5 := eq_true p5; replace q5 := eq_true q5
            go_wp2
            go_ret
            exact ⟨by first | rfl | (simp; done) | (simp [*]; done), by repeat (first | exact Drawn0.refl _ | apply Drawn0.step)⟩
         ·
          rw [if_neg c20] at H; have c20b0 : decide (48 ≤ (bt a0 x7_1)) = false := decide_eq_false c20; clear c20
          by_cases c23 : ((bt a0 x7_1) = 45)
          ·
           rw [if_pos c23] at H; have c23b0 : ((bt a0 x7_1) == 45) = true := beq_iff_eq.mpr c23; have c23b1 : ((bt a0 x7_1) != 45) = false := bne_eq_false_iff_eq.mpr c23; clear c23; have H' := Az H; clear H; have p5 : 0 ≤ (x7_1 : Int) := oz; have q5 : x7_1 < (a0.size : Int) := oz; have hx5 := bt_at a0 x7_1; replace p5 := eq_true p5; replace q5 := eq_true q5
           go_wp2
           go_roundg k1
           case measure => have := HK1.out; omega
           case rel => exact ⟨(wrap64 (x7_1 + 1)), (by first | rfl | (simp; done) | (simp [*]; done)), H', ⟨by have := HK1.out; omega⟩, by repeat (first | exact Drawn0.refl _ | apply Drawn0.step)⟩
          ·
           rw [if_neg c23] at H; have c23b0 : ((bt a0 x7_1) == 45) = false := beq_eq_false_iff_ne.mpr c23; have c23b1 : ((bt a0 x7_1) != 45) = true := bne_iff_ne.mpr c23; obtain rfl := Option.some.inj H; have p5 : 0 ≤ (x7_1 : Int) := oz; have q5 : x7_1 < (a0.size : Int) := oz; have hx5 := bt_at a0 x7_1; replace p5 := eq_true p5; replace q5 := eq_true q5
           go_wp2
           go_ret
           exact ⟨by first | rfl | (simp; done) | (simp [*]; done), by repeat (first | exact Drawn0.refl _ | apply Drawn0.step)⟩
       ·
        rw [if_neg c18] at H; have c18b0 : decide (65 ≤ (bt a0 x7_1)) = false := decide_eq_false c18; clear c18
        by_cases c24 : (bt a0 x7_1) ≥ 48
        ·
         rw [if_pos c24] at H; have c24b0 : decide (48 ≤ (bt a0 x7_1)) = true := decide_eq_true c24; clear c24
         by_cases c25 : (bt a0 x7_1) ≤ 57
         ·
          rw [if_pos c25] at H; have c25b0 : decide ((bt a0 x7_1) ≤ 57) = true := decide_eq_true c25; clear c25; have H' := Az H; clear H; have p5 : 0 ≤ (x7_1 : Int) := oz; have q5 : x7_1 < (a0.size : Int) := oz; have hx5 := bt_at a0 x7_1; replace p5 := eq_true p5; replace q5 := eq_true q5
          go_wp2
          go_roundg k1
          case measure => have := HK1.out; omega
          case rel => exact ⟨(wrap64 (x7_1 + 1)), (by first | rfl | (simp; done) | (simp [*]; done)), H', ⟨by have := HK1.out; omega⟩, by repeat (first | exact Drawn0.refl _ | apply Drawn0.step)⟩
         ·
          rw [if_neg c25] at H; have c25b0 : decide ((bt a0 x7_1) ≤ 57) = false := decide_eq_false c25; clear c25
          by_cases c26 : ((bt a0 x7_1) = 45)
          ·
           rw [if_pos c26] at H; have c26b0 : ((bt a0 x7_1) == 45) = true := beq_iff_eq.mpr c26; have c26b1 : ((bt a0 x7_1) != 45) = false := bne_eq_false_iff_eq.mpr c26; clear c26; have H' := Az H; clear H; have p5 : 0 ≤ (x7_1 : Int) := oz; have q5 : x7_1 < (a0.size : Int) := oz; have hx5 := bt_at a0 x7_1; replace p5 := eq_true p5; replace q5 := eq_true q5
           go_wp2
           go_roundg k1
           case measure => have := HK1.out; omega
           case rel => exact ⟨(wrap64 (x7_1 + 1)), (by first | rfl | (simp; done) | (simp [*]; done)), H', ⟨by have := HK1.out; omega⟩, by repeat (first | exact Drawn0.refl _ | apply Drawn0.step)⟩
          ·
           rw [if_neg c26] at H; have c26b0 : ((bt a0 x7_1) == 45) = false := beq_eq_false_iff_ne.mpr c26; have c26b1 : ((bt a0 x7_1) != 45) = true := bne_iff_ne.mpr c26; obtain rfl := Option.some.inj H; have p5 : 0 ≤ (x7_1 : Int) := oz; have q5 : x7_1 < (a0.size : Int) := oz; have hx5 := bt_at a0 x7_1; replace p5 := eq_true p5; replace q5 := eq_true q5
           go_wp2
           go_ret
           exact ⟨by first | rfl | (simp; done) | (simp [*]; done), by repeat (first | exact Drawn0.refl _ | apply Drawn0.step)⟩
        ·
         rw [if_neg c24] at H; have c24b0 : decide (48 ≤ (bt a0 x7_1)) = false := decide_eq_false c24; clear c24
         by_cases c27 : ((bt a0 x7_1) = 45)
         ·
          rw [if_pos c27] at H; have c27b0 : ((bt a0 x7_1) == 45) = true := beq_iff_eq.mpr c27; have c27b1 : ((bt a0 x7_1) != 45) = false := bne_eq_false_iff_eq.mpr c27; clear c27; have H' := Az H; clear H; have p5 : 0 ≤ (x7_1 : Int) := oz; have q5 : x7_1 < (a0.size : Int) := oz; have hx5 := bt_at a0 x7_1; replace p5 := eq_true p5; replace q5 := eq_true q5
          go_wp2
          go_roundg k1
          case measure => have := HK1.out; omega
          case rel => exact ⟨(wrap64 (x7_1 + 1)), (by first | rfl | (simp; done) | (simp [*]; done)), H', ⟨by have := HK1.out; omega⟩, by repeat (first | exact Drawn0.refl _ | apply Drawn0.step)⟩
         ·
          rw [if_neg c27] at H; have c27b0 : ((bt a0 x7_1) == 45) = false := beq_eq_false_iff_ne.mpr c27; have c27b1 : ((bt a0 x7_1) != 45) = true := bne_iff_ne.mpr c27; obtain rfl := Option.some.inj H; have p5 : 0 ≤ (x7_1 : Int) := oz; have q5 : x7_1 < (a0.size : Int) := oz; have hx5 := bt_at a0 x7_1; replace p5 := eq_true p5; replace q5 := eq_true q5
          go_wp2
          go_ret
          exact ⟨by first | rfl | (simp; done) | (simp [*]; done), by repeat (first | exact Drawn0.refl _ | apply Drawn0.step)⟩
     ·
      rw [if_neg c4] at H; exact absurd H (by simp)
    ·
     rw [if_neg c3] at H; exact absurd H (by simp)
   ·
    rw [if_neg c2] at H; have c2b0 : decide (x7_1 < (a0.size : Int)) = false := decide_eq_false c2; clear c2; replace H := Option.bind_eq_some_iff.mp H; obtain ⟨t142, A280, H⟩ := H; replace H : (some t142) = some r := H; have A28 := Az A280; clear A280; obtain rfl := Option.some.inj H
    go_wp2_with (first | ((with_reducible refine gate_callee (f := 44) rfl ?_); refine goesL_ (some 43) rfl rfl Try.func44 (by kernel_rfl) rfl #[.int .i64 (a0.size : Int), .int .i64 1, .int .i64 20] rfl (by (try simp only [List.map_toArray, List.map_cons, List.map_nil]); first | done | rfl) ?_; (with_reducible refine (impl_in.calls (a0.size : Int) 1 20 t142 _ A28.out).mono ?_); rintro e w' ⟨rfl, ⟨nd, rfl⟩⟩; refine ⟨_, rfl, ?_⟩))
    go_ret
    exact ⟨by first | rfl | (simp; done) | (simp [*]; done), by repeat (first | exact Drawn0.refl _ | apply Drawn0.step)⟩

/-! ### impl_ascends: function 45 -/
def impl_ascends.l0 : Nat → List Int → Int → Int → List Int → Int → Int → Option (Bool)
 | 0, _, _, _, _, _, _ => none
 | k + 1, x0, x1, x2, x9, x10, x11 => if x11 < x10 then (if 0 ≤ x11 then (if x11 < (x9.length : Int) then ((impl_in.f (rd x9 x11) x1 x2).bind fun t144 => (if t144 = true then (if x11 > 0 then (if 0 ≤ (wrap64 (x11 - 1)) then (if (wrap64 (x11 - 1)) < (x0.length : Int) then (if (rd x0 (wrap64 (x11 - 1))) ≥ (rd x9 x11) then (some false) else (impl_ascends.l0 k x0 x1 x2 x9 x10 (wrap64 (x11 + 1)))) else (none)) else (none)) else (impl_ascends.l0 k x0 x1 x2 x9 x10 (wrap64 (x11 + 1)))) else (some false))) else (none)) else (none)) else (some true)
def impl_ascends.f (k : Nat) (l0 : List Int) (a1 : Int) (a2 : Int) : Option (Bool) := impl_ascends.l0 k l0 a1 a2 l0 (l0.length : Int) 0
set_option maxHeartbeats 8000000 in
set_option maxRecDepth 100000 in
theorem impl_ascends.calls (k : Nat) (A0 : Option Addr) (c0 : Nat) (l0 : List Int) (a1 : Int) (a2 : Int) (r : Bool) (w : World) (hr0 : Kd.C (Kd.int .i64) w A0 l0.length l0) (hc0 : l0.length ≤ c0) (h : impl_ascends.f k l0 a1 a2 = some r) :
  Calls Try.prog 45 #[.slice A0 l0.length c0, .int .i64 a1, .int .i64 a2] w fun e w' => e = .returned (.bool r) ∧ Drawn0 w w' := by
 have HR0 := Az hr0; have HC0 := Az hc0; clear hr0 hc0; have H : (impl_ascends.l0 k l0 a1 a2 l0 (l0.length : Int) 0) = some r := h; clear h; have H' := Az H; clear H
 go_enter Try.func45, Try.ntmps45
 go_wp2
 go_loopg [11] k (fun kq v11 w' => ∃ (x11_1 : Int), v11 = .int .i64 x11_1 ∧ Aside0 (impl_ascends.l0 kq l0 a1 a2 l0 (l0.length : Int) x11_1 = some r) ∧ Aside0 (kq ≤ k) ∧ Drawn0 w w')
 case atStart => exact ⟨(0), (by first | rfl | (simp; done) | (simp [*]; done)), H', ⟨Nat.le_refl _⟩, by repeat (first | exact Drawn0.refl _ | apply Drawn0.step)⟩
 case round =>
  clear H'; (try clear p2); obtain ⟨x11_1, rfl, HA, HK1, ⟨m1, rfl⟩⟩ := hrel
  cases gk with
  | zero => exact absurd HA.out (by simp [impl_ascends.l0])
  | succ k1 =>
   have H := HA.out; clear HA; simp only [impl_ascends.l0] at H
   by_cases c4 : x11_1 < (l0.length : Int)
   ·
    rw [if_pos c4] at H; have c4b0 : decide (x11_1 < (l0.length : Int)) = true := decide_eq_true c4; clear c4
    by_cases c5 : 0 ≤ x11_1
    ·
     rw [if_pos c5] at H; have c5b0 : decide (0 ≤ x11_1) = true := decide_eq_true c5; clear c5
     by_cases c6 : x11_1 < (l0.length : Int)
     ·
      rw [if_pos c6] at H; have c6b0 : decide (x11_1 < (l0.length : Int)) = true := decide_eq_true c6; clear c6; replace H := Option.bind_eq_some_iff.mp H; obtain ⟨t144, A70, H⟩ := H; replace H : (if t144 = true then (if x11_1 > 0 then (if 0 ≤ (wrap64 (x11_1 - 1)) then (if (wrap64 (x11_1 - 1)) < (l0.length : Int) then (if (rd l0 (wrap64 (x11_1 - 1))) ≥ (rd l0 x11_1) then (some false) else (impl_ascends.l0 k1 l0 a1 a2 l0 (l0.length : Int) (wrap64 (x11_1 + 1)))) else (none)) else (none)) else (impl_ascends.l0 k1 l0 a1 a2 l0 (l0.length : Int) (wrap64 (x11_1 + 1)))) else (some false)) = some r := H; have A7 := Az A70; clear A70
      by_cases c8 : t144 = true
      ·
       subst c8
       have H1 : (if x11_1 > 0 then (if 0 ≤ (wrap64 (x11_1 - 1)) then (if (wrap64 (x11_1 - 1)) < (l0.length : Int) then (if (rd l0 (wrap64 (x11_1 - 1))) ≥ (rd l0 x11_1) then (some false) else (impl_ascends.l0 k1 l0 a1 a2 l0 (l0.length : Int) (wrap64 (x11_1 + 1)))) else (none)) else (none)) else (impl_ascends.l0 k1 l0 a1 a2 l0 (l0.length : Int) (wrap64 (x11_1 + 1)))) = some r := by rw [if_pos rfl] at H; exact H
       clear H; have H := H1; clear H1
       by_cases c9 : x11_1 > 0
       ·
        rw [if_pos c9] at H; have c9b0 : decide (0 < x11_1) = true := decide_eq_true c9; clear c9; obtain ⟨ji10, hji10⟩ : ∃ j_ : Int, (wrap64 (x11_1 - 1)) = j_ := ⟨_, rfl⟩
        replace H : (if 0 ≤ (ji10) then (if (ji10) < (l0.length : Int) then (if (rd l0 (ji10)) ≥ (rd l0 x11_1) then (some false) else (impl_ascends.l0 k1 l0 a1 a2 l0 (l0.length : Int) (wrap64 (x11_1 + 1)))) else (none)) else (none)) = some r := by first | (rw [hji10] at H; exact H) | (simp only [hji10] at H ⊢; exact H)
        (try rw [hji10] at A7)
        have hji10w : (IntKind.i64.wrap (x11_1 - 1)) = ji10 := (i64_w _).trans hji10
        by_cases c11 : 0 ≤ (ji10)
        ·
         rw [if_pos c11] at H; have c11b0 : decide (0 ≤ (ji10)) = true := decide_eq_true c11; clear c11
         by_cases c12 : (ji10) < (l0.length : Int)
         ·
          rw [if_pos c12] at H; have c12b0 : decide ((ji10) < (l0.length : Int)) = true := decide_eq_true c12; clear c12
          by_cases c13 : (rd l0 (ji10)) ≥ (rd l0 x11_1)
          ·
           rw [if_pos c13] at H; have c13b0 : decide ((rd l0 x11_1) ≤ (rd l0 (ji10))) = true := decide_eq_true c13; clear c13; obtain rfl := Option.some.inj H; have p143 : 0 ≤ (x11_1 : Int) := oz; have q143 : x11_1 < (l0.length : Int) := oz; obtain ⟨ad143, e143, hx143_0⟩ := Kd.at_int HR0.out x11_1 p143 q143
           cases e143
           replace p143 := eq_true p143; replace q143 := eq_true q143
           go_wp2_with (first | ((with_reducible refine gate_callee (f := 44) rfl ?_); refine goesL_ (some 19) rfl rfl Try.func44 (by kernel_rfl) rfl #[.int .i64 (rd l0 x11_1), .int .i64 a1, .int .i64 a2] rfl (by (try simp only [List.map_toArray, List.map_cons, List.map_nil]); first | done | rfl) ?_; (with_reducible refine (impl_in.calls (rd l0 x11_1) a1 a2 true _ A7.out).mono ?_); rintro e w' ⟨rfl, ⟨nd, rfl⟩⟩; refine ⟨_, rfl, ?_⟩; have p145 : 0 ≤ ((ji10) : Int) := oz; have q145 : (ji10) < (l0.length : Int) := oz; obtain ⟨ad145, e145, hx145_0⟩ := Kd.at_int HR0.out (ji10) p145 q145; obtain rfl : ad143 = ad145 := (by injection e145); replace p145 := eq_true p145; replace q145 := eq_true q145))
           go_ret
           exact ⟨by first | rfl | (simp; done) | (simp only [← hji10] <;> (first | rfl | simp)) | (simp [*]; done), by repeat (first | exact Drawn0.refl _ | apply Drawn0.step)⟩
          ·
           rw [if_neg c13] at H; have c13b0 : decide ((rd l0 x11_1) ≤ (rd l0 (ji10))) = false := decide_eq_false c13; clear c13; have H' := Az H; clear H; have p143 : 0 ≤ (x11_1 : Int) := oz; have q143 : x11_1 < (l0.length : Int) := oz; obtain ⟨ad143, e143, hx143_0⟩ := Kd.at_int HR0.out x11_1 p143 q143
           cases e143
           replace p143 := eq_true p143; replace q143 := eq_true q143
           go_wp2_with (first | ((with_reducible refine gate_callee (f := 44) rfl ?_); refine goesL_ (some 19) rfl rfl Try.func44 (by kernel_rfl) rfl #[.int .i64 (rd l0 x11_1), .int .i64 a1, .int .i64 a2] rfl (by (try simp only [List.map_toArray, List.map_cons, List.map_nil]); first | done | rfl) ?_; (with_reducible refine (impl_in.calls (rd l0 x11_1) a1 a2 true _ A7.out).mono ?_); rintro e w' ⟨rfl, ⟨nd, rfl⟩⟩; refine ⟨_, rfl, ?_⟩; have p145 : 0 ≤ ((ji10) : Int) := oz; have q145 : (ji10) < (l0.length : Int) := oz; obtain ⟨ad145, e145, hx145_0⟩ := Kd.at_int HR0.out (ji10) p145 q145; obtain rfl : ad143 = ad145 := (by injection e145); replace p145 := eq_true p145; replace q145 := eq_true q145))
           go_roundg k1
           case measure => have := HK1.out; omega
           case rel => exact ⟨(wrap64 (x11_1 + 1)), (by first | rfl | (simp; done) | (simp [*]; done)), H', ⟨by have := HK1.out; omega⟩, by repeat (first | exact Drawn0.refl _ | apply Drawn0.step)⟩
         ·
          rw [if_neg c12] at H; exact absurd H (by simp)
        ·
         rw [if_neg c11] at H; exact absurd H (by simp)
       ·
        rw [if_neg c9] at H; have c9b0 : decide (0 < x11_1) = false := decide_eq_false c9; clear c9; have H' := Az H; clear H; have p143 : 0 ≤ (x11_1 : Int) := oz; have q143 : x11_1 < (l0.length : Int) := oz; obtain ⟨ad143, e143, hx143_0⟩ := Kd.at_int HR0.out x11_1 p143 q143
        cases e143
        replace p143 := eq_true p143; replace q143 := eq_true q143
        go_wp2_with (first | ((with_reducible refine gate_callee (f := 44) rfl ?_); refine goesL_ (some 19) rfl rfl Try.func44 (by kernel_rfl) rfl #[.int .i64 (rd l0 x11_1), .int .i64 a1, .int .i64 a2] rfl (by (try simp only [List.map_toArray, List.map_cons, List.map_nil]); first | done | rfl) ?_; (with_reducible refine (impl_in.calls (rd l0 x11_1) a1 a2 true _ A7.out).mono ?_); rintro e w' ⟨rfl, ⟨nd, rfl⟩⟩; refine ⟨_, rfl, ?_⟩))
        go_roundg k1
        case measure => have := HK1.out; omega
        case rel => exact ⟨(wrap64 (x11_1 + 1)), (by first | rfl | (simp; done) | (simp [*]; done)), H', ⟨by have := HK1.out; omega⟩, by repeat (first | exact Drawn0.refl _ | apply Drawn0.step)⟩
      ·
       replace c8 := Bool.eq_false_iff.mpr c8; subst c8
       have H1 : (some false) = some r := by rw [if_neg (show ¬ (false = true) by decide)] at H; exact H
       clear H; have H := H1; clear H1; obtain rfl := Option.some.inj H; have p143 : 0 ≤ (x11_1 : Int) := oz; have q143 : x11_1 < (l0.length : Int) := oz; obtain ⟨ad143, e143, hx143_0⟩ := Kd.at_int HR0.out x11_1 p143 q143
       cases e143
       replace p143 := eq_true p143; replace q143 := eq_true q143
       go_wp2_with (first | ((with_reducible refine gate_callee (f := 44) rfl ?_); refine goesL_ (some 19) rfl rfl Try.func44 (by kernel_rfl) rfl #[.int .i64 (rd l0 x11_1), .int .i64 a1, .int .i64 a2] rfl (by (try simp only [List.map_toArray, List.map_cons, List.map_nil]); first | done | rfl) ?_; (with_reducible refine (impl_in.calls (rd l0 x11_1) a1 a2 false _ A7.out).mono ?_); rintro e w' ⟨rfl, ⟨nd, rfl⟩⟩; refine ⟨_, rfl, ?_⟩))
       go_ret
       exact ⟨by first | rfl | (simp; done) | (simp [*]; done), by repeat (first | exact Drawn0.refl _ | apply Drawn0.step)⟩
     ·
      rw [if_neg c6] at H; exact absurd H (by simp)
    ·
     rw [if_neg c5] at H; exact absurd H (by simp)
   ·
    rw [if_neg c4] at H; have c4b0 : decide (x11_1 < (l0.length : Int)) = false := decide_eq_false c4; clear c4; obtain rfl := Option.some.inj H
    go_wp2
    go_ret
    exact ⟨by first | rfl | (simp; done) | (simp [*]; done), by repeat (first | exact Drawn0.refl _ | apply Drawn0.step)⟩

/-! ### impl_ruleAt: function 46, by hand -/
/-- The place of the first rule with a name; -1 without one. -/
def impl_ruleAt.find (a : ByteArray) : List S63 → Int → Int
 | [], _ => -1
 | x :: xs, i => if x.f0.toList = a.toList then i else impl_ruleAt.find a xs (i + 1)
def impl_ruleAt.f (l0 : List S63) (a1 : ByteArray) : Option Int := some (impl_ruleAt.find a1 l0 0)
theorem impl_ruleAt.find_drop (a : ByteArray) (l : List S63) (i : Nat) (h : i < l.length) : impl_ruleAt.find a (l.drop i) (i : Int) = if (l[i]).f0.toList = a.toList then (i : Int) else impl_ruleAt.find a (l.drop (i + 1)) ((i : Int) + 1) := by
 rw [List.drop_eq_getElem_cons h]; rfl
theorem impl_ruleAt.rd_at (l : List S63) (i : Nat) (h : i < l.length) : rd_T63 l (i : Int) = l[i] := by
 show l.getD (i : Int).toNat z63 = _
 rw [Int.toNat_natCast, List.getD_eq_getElem?_getD, List.getElem?_eq_getElem h]; rfl
set_option maxHeartbeats 2000000 in
set_option maxRecDepth 100000 in
theorem impl_ruleAt.one (a s t : ByteArray) (n : Int) (v : Value) (b : Bool) (B : Nat) (w0 W : World) (hb : Below w0.heap.size w0 W) (hB : B < w0.heap.size) (hcell : w0.cell? ⟨B, 0, none⟩ = some (.string a)) :
  Calls Try.prog 81 #[.agg #[.string s, .int .i64 n, v, .bool b, .string t], .pointer (some ⟨B, 0, none⟩)] W fun e w' => e = .returned (.bool (decide (s.toList = a.toList))) ∧ Below w0.heap.size w0 w' := by
 have hc : W.cell? ⟨B, 0, none⟩ = some (.string a) := (hb.cell (p := ⟨B, 0, none⟩) hB).trans hcell; have hBW : B < W.heap.size := Nat.lt_of_lt_of_le hB hb.size
 have hne : B ≠ W.heap.size := by omega
 go_enter Try.func81, Try.ntmps81
 go_wp2
 all_goals (go_ret; exact ⟨by simp_all; exact Bool.eq_iff_iff.2 (by simp), hb.alloc hb.size _⟩)
set_option maxHeartbeats 2000000 in
set_option maxRecDepth 100000 in
theorem impl_ruleAt.index (A0 : Option Addr) (c0 : Nat) (l0 : List S63) (a : ByteArray) (B : Nat) (r : Int) (w : World) (hr0 : Kd.C k63 w A0 l0.length l0) (hB : B < w.heap.size) (hcell : w.cell? ⟨B, 0, none⟩ = some (.string a)) (h : impl_ruleAt.find a l0 0 = r) :
  Calls Try.prog 80 #[.slice A0 l0.length c0, .func (.func 81) #[] #[.pointer (some ⟨B, 0, none⟩)]] w fun e w' => e = .returned (.int .i64 r) ∧ Below w.heap.size w w' := by
 have hu := Try.underlying63; have HR := Az hr0; have HL := Az h; have HCe := Az hcell; have hlen := hr0.2.1; have HN := Az hlen; clear hr0 h hlen hcell; have HB := Az (Below.refl w.heap.size w); have hlen : l0.length ≤ 9223372036854775807 := HN.out
 go_enter Try.func80, Try.ntmps80
 go_wp2
 go_loopg [5, 8] l0.length (fun gg _ s8 wr => ∃ kk : Nat, kk ≤ l0.length ∧ l0.length - kk ≤ gg ∧ s8 = .int .i64 kk ∧ Aside0 (Below w.heap.size w wr) ∧ Aside0 (impl_ruleAt.find a (l0.drop kk) (kk : Int) = r))
 case atStart => exact ⟨0, Nat.zero_le _, by omega, rfl, HB, HL⟩
 case round =>
  obtain ⟨kk, hkk, hg, rfl, BW, A⟩ := hrel; clear HB
  by_cases hlt : kk < l0.length
  ·
   have hltz : (kk : Int) < (l0.length : Int) := by omega
   have hA := A.out; rw [impl_ruleAt.find_drop _ _ _ hlt, ← impl_ruleAt.rd_at _ _ hlt] at hA; clear A; obtain ⟨ad, A2, c2, e, hx0, hx1, hx2, hx3, hx4, hl2, hC2⟩ := at_T63 HR.out (kk : Int) (by omega) hltz; clear hl2 hC2
   cases e
   simp only [Int.toNat_natCast] at hx0 hx1 hx2 hx3 hx4; replace hx0 := (BW.out.cell (World.block_lt_of_cell? w _ hx0)).trans hx0; replace hx1 := (BW.out.cell (World.block_lt_of_cell? w _ hx1)).trans hx1; replace hx2 := (BW.out.cell (World.block_lt_of_cell? w _ hx2)).trans hx2; replace hx3 := (BW.out.cell (World.block_lt_of_cell? w _ hx3)).trans hx3; replace hx4 := (BW.out.cell (World.block_lt_of_cell? w _ hx4)).trans hx4; have hone := impl_ruleAt.one a (rd_T63 l0 (kk : Int)).f0 (rd_T63 l0 (kk : Int)).f4 (rd_T63 l0 (kk : Int)).f1 (.slice A2 (rd_T63 l0 (kk : Int)).f2.length c2) (rd_T63 l0 (kk : Int)).f3 B w wr BW.out hB HCe.out
   by_cases hq : (rd_T63 l0 (kk : Int)).f0.toList = a.toList
   ·
    rw [if_pos hq] at hA; rw [decide_eq_true hq] at hone; clear hq; have HO := Az hone; have HA := Az hA; clear hone hA
    go_wp2_with (go_at_call 81; refine HO.out.mono ?_; rintro e w' ⟨rfl, hb'⟩)
    go_ret
    exact ⟨by rw [← HA.out]; rfl, hb'⟩
   ·
    rw [if_neg hq] at hA; rw [decide_eq_false hq] at hone; clear hq; have HO := Az hone; have HA := Az hA; clear hone hA
    go_wp2_with (go_at_call 81; refine HO.out.mono ?_; rintro e w' ⟨rfl, hb'⟩)
    go_roundg (l0.length - (kk + 1))
    case measure => omega
    case rel => exact ⟨kk + 1, by omega, by omega, by go_num, ⟨hb'⟩, ⟨by have := HA.out; rwa [show ((kk + 1 : Nat) : Int) = (kk : Int) + 1 by omega]⟩⟩
  ·
   have hltz : ¬ (kk : Int) < (l0.length : Int) := by omega
   have : kk = l0.length := by omega
   subst this; have hr := A.out; rw [List.drop_length] at hr; have HR' := Az hr; clear hr A
   go_wp2
   go_ret
   exact ⟨by rw [← HR'.out]; rfl, BW.out⟩
set_option maxHeartbeats 2000000 in
set_option maxRecDepth 100000 in
theorem impl_ruleAt.calls (A0 : Option Addr) (c0 : Nat) (l0 : List (S63)) (a1 : ByteArray) (r : Int) (w : World) (hr0 : Kd.C k63 w A0 l0.length l0) (hc0 : l0.length ≤ c0) (h : impl_ruleAt.f l0 a1 = some r) :
  Calls Try.prog 46 #[.slice A0 l0.length c0, .string a1] w fun e w' => e = .returned (.int .i64 r) ∧ Below w.heap.size w w' := by
 have hf : impl_ruleAt.find a1 l0 0 = r := Option.some.inj h; clear h; have hcon := impl_ruleAt.index A0 c0 l0 a1 w.heap.size r (w.alloc (.cells #[.string a1] 9)) (Kd.C_alloc hr0 _) (by simp) (by simp) hf; have HC := Az hcon; clear hcon hr0 hf
 go_enter Try.func46, Try.ntmps46
 go_wp2_with (go_at_call 80; refine HC.out.mono ?_; rintro e w' ⟨rfl, hb'⟩)
 go_ret
 exact ⟨rfl, ((Below.refl _ w).alloc (Nat.le_refl _) _).trans (hb'.mono (by simp))⟩

end Go.Proofs.Ytjndpoofjidamaa.PFnExactTake14
