/- Plain laws of numbers and lists, without Go: no wrap where a number fits, quotients down, bounds of products; no condition. -/
import Derived.RowKit
import Derived.WalkArith
import Derived.Test.YtjndpoofjidamaaWMore
namespace Go.Proofs.Ytjndpoofjidamaa.Num
open Go.RowKit Go.Proofs.YtjndpoofjidamaaW.PrintWords Go.Proofs.YtjndpoofjidamaaW.PrintMore

theorem w64 {a : Int} (h1 : -9223372036854775808 ≤ a) (h2 : a < 9223372036854775808) : wrap64 a = a := by
  unfold wrap64; omega
theorem wf64 {a : Int} (h : (Lit.int .i64 a).wf = true) : -9223372036854775808 ≤ a ∧ a < 9223372036854775808 := by
  simp [Lit.wf, IntKind.min, IntKind.max, IntKind.signed, IntKind.bits] at h
  omega
theorem wfu8 {a : Int} (h : (Lit.int .u8 a).wf = true) : 0 ≤ a ∧ a ≤ 255 := by
  simp [Lit.wf, IntKind.min, IntKind.max, IntKind.signed, IntKind.bits] at h
  omega
theorem ites (b x : Bool) : (if b = true then some x else some false) = some (b && x) := by cases b <;> rfl
theorem ites' (b x : Bool) : (if b = true then some x else some true) = some (!b || x) := by cases b <;> rfl
theorem mul_le_mul_nonneg {a b c d : Int} (h1 : a ≤ c) (h2 : b ≤ d) (h3 : 0 ≤ b) (h4 : 0 ≤ c) : a * b ≤ c * d :=
  Int.mul_le_mul h1 h2 h3 h4
theorem abs_mul {x y A B : Int} (h1 : -A ≤ x) (h2 : x ≤ A) (h3 : -B ≤ y) (h4 : y ≤ B) : -(A * B) ≤ x * y ∧ x * y ≤ A * B := by
  have hA : 0 ≤ A := by omega
  have hB : 0 ≤ B := by omega
  rcases Int.le_total 0 x with hx | hx
  · rcases Int.le_total 0 y with hy | hy
    · have := Int.mul_le_mul h2 h4 hy hA
      have := Int.mul_nonneg hx hy
      have := Int.mul_nonneg hA hB
      omega
    · have h := Int.mul_le_mul h2 (show -y ≤ B by omega) (by omega) hA
      rw [Int.mul_neg] at h
      have h' := Int.mul_nonneg hx (show 0 ≤ -y by omega)
      rw [Int.mul_neg] at h'
      have := Int.mul_nonneg hA hB
      omega
  · rcases Int.le_total 0 y with hy | hy
    · have h := Int.mul_le_mul (show -x ≤ A by omega) h4 hy hA
      rw [Int.neg_mul] at h
      have h' := Int.mul_nonneg (show 0 ≤ -x by omega) hy
      rw [Int.neg_mul] at h'
      have := Int.mul_nonneg hA hB
      omega
    · have h := Int.mul_le_mul (show -x ≤ A by omega) (show -y ≤ B by omega) (by omega) hA
      rw [Int.neg_mul_neg] at h
      have h' := Int.mul_nonneg (show 0 ≤ -x by omega) (show 0 ≤ -y by omega)
      rw [Int.neg_mul_neg] at h'
      have := Int.mul_nonneg hA hB
      omega
theorem sq_nonneg (x : Int) : 0 ≤ x * x := by
  rcases Int.le_total 0 x with h | h
  · exact Int.mul_nonneg h h
  · have := Int.mul_nonneg (show 0 ≤ -x by omega) (show 0 ≤ -x by omega)
    rwa [Int.neg_mul_neg] at this
theorem sq_pos {x : Int} (h : x ≠ 0) : 1 ≤ x * x := by
  have h1 := sq_nonneg x
  have h2 : x * x ≠ 0 := fun e => h (by rcases Int.mul_eq_zero.1 e with e | e <;> exact e)
  omega
theorem sq_le {x A : Int} (h1 : -A ≤ x) (h2 : x ≤ A) : x * x ≤ A * A := (abs_mul h1 h2 h1 h2).2
theorem tdiv_bounds {a b : Int} (hb : 1 ≤ b) : (0 ≤ a → 0 ≤ a.tdiv b ∧ a.tdiv b ≤ a) ∧ (a ≤ 0 → a ≤ a.tdiv b ∧ a.tdiv b ≤ 0) := by
  constructor
  · intro h
    rw [Int.tdiv_eq_ediv_of_nonneg h]
    exact ⟨Int.ediv_nonneg h (by omega), Int.ediv_le_self b h⟩
  · intro h
    have e : a.tdiv b = -((-a).tdiv b) := by rw [Int.neg_tdiv, Int.neg_neg]
    rw [e, Int.tdiv_eq_ediv_of_nonneg (show 0 ≤ -a by omega)]
    have h1 := Int.ediv_nonneg (show 0 ≤ -a by omega) (show 0 ≤ b by omega)
    have h2 := Int.ediv_le_self b (show 0 ≤ -a by omega)
    omega
theorem tdiv_in {a b M : Int} (hb : 1 ≤ b) (h1 : -M ≤ a) (h2 : a ≤ M) : -M ≤ a.tdiv b ∧ a.tdiv b ≤ M := by
  have := tdiv_bounds (a := a) hb
  rcases Int.le_total 0 a with h | h
  · have := this.1 h; omega
  · have := this.2 h; omega
theorem ediv_in {a b M : Int} (hb : 1 ≤ b) (h1 : -M ≤ a) (h2 : a ≤ M) : -M ≤ a / b ∧ a / b ≤ M := by
  constructor
  · apply Int.le_ediv_of_mul_le (by omega)
    have := Int.mul_le_mul_of_nonneg_left hb (show 0 ≤ M by omega)
    rw [Int.neg_mul]
    omega
  · rcases Int.le_total 0 a with h | h
    · have := Int.ediv_le_self b h; omega
    · have : a / b ≤ 0 := by
        have := Int.ediv_le_ediv (show 0 < b by omega) h
        rwa [Int.zero_ediv] at this
      omega
/-- The quotient down, as both texts reckon it. -/
theorem floor_tdiv {a b : Int} (hb : 1 ≤ b) : (a.tmod b = 0 → a.tdiv b = a / b) ∧ (a.tmod b ≠ 0 → 0 ≤ a → a.tdiv b = a / b) ∧ (a.tmod b ≠ 0 → a < 0 → a.tdiv b - 1 = a / b) ∧ (a.tmod b < 0 ↔ a.tmod b ≠ 0 ∧ a < 0) := by
  have hm : a.tmod b = a - b * a.tdiv b := by rw [Int.tmod_def]
  rcases Int.le_total 0 a with h | h
  · have e := Int.tdiv_eq_ediv_of_nonneg (b := b) h
    have hm0 : 0 ≤ a.tmod b := Int.tmod_nonneg b h
    exact ⟨fun _ => e, fun _ _ => e, fun _ hc => by omega, ⟨fun hc => by omega, fun hc => by omega⟩⟩
  · have e : a.tdiv b = -((-a).tdiv b) := by rw [Int.neg_tdiv, Int.neg_neg]
    have e2 := Int.tdiv_eq_ediv_of_nonneg (b := b) (show 0 ≤ -a by omega)
    have hq := Int.mul_ediv_add_emod (-a) b
    have hr0 := Int.emod_nonneg (-a) (show b ≠ 0 by omega)
    have hr1 := Int.emod_lt_of_pos (-a) (show 0 < b by omega)
    have hm2 : a.tmod b = -((-a) % b) := by
      rw [hm, e, e2, Int.mul_neg]
      omega
    have key : ∀ q r : Int, 0 ≤ r → r < b → a = b * q + r → a / b = q := by
      intro q r h0 h1 h2
      exact ((Int.ediv_emod_unique (show 0 < b by omega)).2 ⟨by omega, h0, h1⟩).1
    have k1 : a.tmod b = 0 → a.tdiv b = a / b := by
      intro hz
      exact (key _ 0 (by omega) (by omega) (by omega)).symm
    have k2 : a.tmod b ≠ 0 → a.tdiv b - 1 = a / b := by
      intro hz
      refine (key (a.tdiv b - 1) (b + a.tmod b) (by omega) (by omega) ?_).symm
      rw [Int.mul_sub, Int.mul_one]
      omega
    refine ⟨k1, fun hz ha => ?_, fun hz _ => k2 hz, ⟨fun hc => ⟨by omega, ?_⟩, fun hc => by omega⟩⟩
    · have : a = 0 := by omega
      subst this
      simp
    · have : a ≠ 0 := by
        rintro rfl
        simp at hc
      omega
theorem ceil_ediv {a b : Int} (hb : 1 ≤ b) : -((-a) / b) = (a + b - 1) / b := by
  have hq := Int.mul_ediv_add_emod (a + b - 1) b
  have hr0 := Int.emod_nonneg (a + b - 1) (show b ≠ 0 by omega)
  have hr1 := Int.emod_lt_of_pos (a + b - 1) (show 0 < b by omega)
  have : (-a) / b = -((a + b - 1) / b) := by
    refine ((Int.ediv_emod_unique (show 0 < b by omega) (a := -a) (r := b * ((a + b - 1) / b) - a) (q := -((a + b - 1) / b))).2 ⟨?_, by omega, by omega⟩).1
    rw [Int.mul_neg]
    omega
  omega
end Go.Proofs.Ytjndpoofjidamaa.Num
