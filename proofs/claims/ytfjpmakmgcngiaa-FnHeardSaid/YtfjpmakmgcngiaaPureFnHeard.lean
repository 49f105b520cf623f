/- For every code the law FnHeard returns true: a place heard rightly by drawn stations is found with no misfit, and with one that lies far it is found without it, or without one ahead of it. No condition. -/
import Derived.Test.YtfjpmakmgcngiaaPFnHeardx4
import Derived.Test.YtfjpmakmgcngiaaNum
namespace Go.Proofs.Ytfjpmakmgcngiaa.Pure.FnHeard
open Go.RowKit Go.Proofs.Ytfjpmakmgcngiaa.PFnHeard Go.Proofs.YtfjpmakmgcngiaaW.PrintWords Go.Proofs.YtfjpmakmgcngiaaW.PrintLast Go.Proofs.YtfjpmakmgcngiaaW.PrintMore Go.Proofs.Ytfjpmakmgcngiaa.Num
set_option linter.unusedVariables false
set_option linter.unusedSimpArgs false
theorem in_s (a b c : Int) : spec_l1In.f a b c = some (decide (b ≤ a) && decide (a ≤ c)) := by
  unfold spec_l1In.f
  by_cases h : a ≥ b
  · rw [if_pos h, decide_eq_true (show b ≤ a from h)]; rfl
  · rw [if_neg h, decide_eq_false (show ¬ b ≤ a from h)]; rfl
theorem in_i (a b c : Int) : impl_in.f a b c = some (decide (b ≤ a) && decide (a ≤ c)) := by
  unfold impl_in.f
  by_cases h : a ≥ b
  · rw [if_pos h, decide_eq_true (show b ≤ a from h)]; rfl
  · rw [if_neg h, decide_eq_false (show ¬ b ≤ a from h)]; rfl
/-- From some count of rounds on it answers r. -/
def Ev {α : Type} (F : Nat → Option α) (r : α) : Prop := ∃ K, ∀ k, K ≤ k → F k = some r
theorem ev_step {α : Type} {F G : Nat → Option α} {r : α} (h : Ev G r) (e : ∀ k, F (k + 1) = G k) : Ev F r := by
  obtain ⟨K, h⟩ := h
  refine ⟨K + 1, fun k hk => ?_⟩
  obtain ⟨m, rfl⟩ : ∃ m, k = m + 1 := ⟨k - 1, by omega⟩
  rw [e m]; exact h m (by omega)
theorem ev_now {α : Type} {F : Nat → Option α} {r : α} (e : ∀ k, F (k + 1) = some r) : Ev F r :=
  ⟨1, fun k hk => by obtain ⟨m, rfl⟩ : ∃ m, k = m + 1 := ⟨k - 1, by omega⟩; exact e m⟩
theorem ev_const {α : Type} {o : Option α} {r : α} (e : o = some r) : Ev (fun _ => o) r := ⟨0, fun _ _ => e⟩
theorem ev_bind {α β : Type} {F : Nat → Option α} {G : Nat → α → Option β} {a : α} {r : β} (h : Ev F a) (g : Ev (fun k => G k a) r) : Ev (fun k => (F k).bind (G k)) r := by
  obtain ⟨K, h⟩ := h
  obtain ⟨L, g⟩ := g
  exact ⟨max K L, fun k hk => by show (F k).bind (G k) = _; rw [h k (by omega), Option.bind_some]; exact g k (by omega)⟩
theorem ev_cong {α : Type} {F G : Nat → Option α} {r : α} (h : Ev G r) (e : ∀ k, F k = G k) : Ev F r := by
  obtain ⟨K, h⟩ := h
  exact ⟨K, fun k hk => (e k).trans (h k hk)⟩
theorem at_in (l : List Int) (hl : l.length ≤ 1048576) (hu : ∀ x ∈ l, (Lit.int .u8 x).wf = true) (i : Int) (h0 : 0 ≤ i) (h1 : i ≤ 1000000) : ∃ v, laws_at.f l i = some v ∧ 0 ≤ v ∧ v ≤ 255 := by
  unfold laws_at.f
  by_cases h : i < (l.length : Int)
  · rw [if_pos h, if_pos h0]
    have hi : i.toNat < l.length := by omega
    have hr : rd l i = l[i.toNat] := by
      show l.getD i.toNat 0 = _
      rw [List.getD_eq_getElem?_getD, List.getElem?_eq_getElem hi]; rfl
    have hb := wfu8 (hu _ (List.getElem_mem hi))
    rw [hr, w64 (by omega) (by omega)]
    exact ⟨_, rfl, hb.1, hb.2⟩
  · rw [if_neg h]
    refine ⟨_, rfl, ?_⟩
    rw [w64 (a := i * 7) (by omega) (by omega), w64 (by omega) (by omega), Int.tmod_eq_emod_of_nonneg (by omega)]
    omega
theorem big_f (l : List Int) (h : l.length ≤ 1048576) : laws_big.f l = some false := by
  unfold laws_big.f
  rw [decide_eq_false (by omega)]
theorem big_t (l : List Int) (h : ¬ l.length ≤ 1048576) : laws_big.f l = some true := by
  unfold laws_big.f
  rw [decide_eq_true (by omega)]
theorem and255 (n : Int) : 0 ≤ Go.bits .and .i64 n 255 ∧ Go.bits .and .i64 n 255 ≤ 255 := by
  have e : Go.bits .and .i64 n 255 = n % 256 := by
    have h : (((BitVec.ofInt 64 n) &&& (BitVec.ofInt 64 255)).toNat : Int) = n % 256 := by
      rw [BitVec.toNat_and]
      have h1 : (BitVec.ofInt 64 255).toNat = 2 ^ 8 - 1 := by decide
      rw [h1, Nat.and_two_pow_sub_one_eq_mod, BitVec.toNat_ofInt]
      omega
    show IntKind.i64.wrap (((BitVec.ofInt 64 n) &&& (BitVec.ofInt 64 255)).toNat : Int) = _
    rw [h, IntKind.wrap_i64]
    omega
  rw [e]; omega
/-- A cursor over l: its place is within. -/
def Cur (l : List Int) (i : Int) : Prop := 0 ≤ i ∧ i ≤ (l.length : Int)
theorem new_s (l : List Int) (hl : l.length ≤ 4611686018427387904) : ∃ h, Ev (fun k => spec_l1New.f k l) (l, 0, h) := by
  have go : ∀ (d i : Nat) (h : Int), l.length - i = d → i ≤ l.length → ∃ h', Ev (fun k => spec_l1New.l0 k l h (i : Int)) (l, 0, h') := by
    intro d
    induction d with
    | zero =>
      intro i h hd hi
      refine ⟨h, ev_now fun k => ?_⟩
      simp only [spec_l1New.l0]
      rw [if_neg (by omega)]
    | succ d ih =>
      intro i h hd hi
      by_cases c : (i : Int) < 4000
      · obtain ⟨h', e⟩ := ih (i + 1) (Go.bits .and .i64 (wrap64 ((wrap64 ((wrap64 (h * 131)) + (wrap64 (rd l (i : Int))))) + 7)) 1073741823) (by omega) (by omega)
        refine ⟨h', ev_step e fun k => ?_⟩
        simp only [spec_l1New.l0]
        rw [if_pos (by omega), if_pos c, if_pos (by omega), w64 (a := (i : Int) + 1) (by omega) (by omega)]; rfl
      · refine ⟨h, ev_now fun k => ?_⟩
        simp only [spec_l1New.l0]
        rw [if_pos (by omega), if_neg c]
  exact go l.length 0 _ (by omega) (by omega)
theorem byte_s (l : List Int) (i h : Int) (hl : l.length ≤ 4611686018427387904) (hc : Cur l i) : ∃ v i' h', spec_l1Byte.f l i h = some (v, i', h') ∧ 0 ≤ v ∧ v ≤ 255 ∧ Cur l i' := by
  obtain ⟨h0, h1⟩ := hc
  unfold spec_l1Byte.f
  by_cases c : i < (l.length : Int)
  · rw [if_pos c, if_pos h0, w64 (a := i + 1) (by omega) (by omega)]
    exact ⟨_, _, _, rfl, (and255 _).1, (and255 _).2, by omega, by omega⟩
  · rw [if_neg c]
    exact ⟨_, _, _, rfl, (and255 _).1, (and255 _).2, h0, h1⟩
/-- What is drawn below n lies below n, wherever the cursor stands. -/
theorem below_s (l : List Int) (i h n : Int) (hl : l.length ≤ 4611686018427387904) (hc : Cur l i) (hn : n ≤ 4294967296) : ∃ v i' h', spec_l1Below.f l i h n = some (v, i', h') ∧ 0 ≤ v ∧ (0 < n → v < n) ∧ (n ≤ 0 → v = 0) ∧ Cur l i' := by
  unfold spec_l1Below.f
  by_cases c : n ≤ 0
  · rw [if_pos c]; exact ⟨_, _, _, rfl, by omega, fun g => by omega, fun _ => rfl, hc⟩
  · rw [if_neg c]
    by_cases c2 : n ≤ 256
    · rw [if_pos c2]
      obtain ⟨v, i', h', e, v0, v1, hc'⟩ := byte_s l i h hl hc
      rw [e, Option.bind_some, if_neg (by omega)]
      have m := Int.tmod_eq_emod_of_nonneg (b := n) v0
      have m0 := Int.emod_nonneg v (show n ≠ 0 by omega)
      have m1 := Int.emod_lt_of_pos v (show 0 < n by omega)
      exact ⟨_, _, _, rfl, by simp only; omega, fun _ => by simp only; omega, fun g => by omega, hc'⟩
    · rw [if_neg c2]
      obtain ⟨a, i1, h1, e1, a0, a1, c1⟩ := byte_s l i h hl hc
      rw [e1, Option.bind_some]
      obtain ⟨b, i2, h2, e2, b0, b1, c2⟩ := byte_s l i1 h1 hl c1
      simp only [e2, Option.bind_some]
      obtain ⟨p, i3, h3, e3, p0, p1, c3⟩ := byte_s l i2 h2 hl c2
      simp only [e3, Option.bind_some]
      obtain ⟨q, i4, h4, e4, q0, q1, c4⟩ := byte_s l i3 h3 hl c3
      simp only [e4, Option.bind_some]
      have e : wrap64 (wrap64 (wrap64 (wrap64 (a * 16777216) + wrap64 (b * 65536)) + wrap64 (p * 256)) + q) = a * 16777216 + b * 65536 + p * 256 + q := by
        rw [w64 (a := a * 16777216) (by omega) (by omega), w64 (a := b * 65536) (by omega) (by omega), w64 (a := p * 256) (by omega) (by omega), w64 (a := a * 16777216 + b * 65536) (by omega) (by omega), w64 (a := a * 16777216 + b * 65536 + p * 256) (by omega) (by omega), w64 (by omega) (by omega)]
      rw [e, if_neg (by omega)]
      have v0 : 0 ≤ a * 16777216 + b * 65536 + p * 256 + q := by omega
      generalize a * 16777216 + b * 65536 + p * 256 + q = v at v0
      have m := Int.tmod_eq_emod_of_nonneg (b := n) v0
      have m0 := Int.emod_nonneg v (show n ≠ 0 by omega)
      have m1 := Int.emod_lt_of_pos v (show 0 < n by omega)
      exact ⟨_, _, _, rfl, by rw [m]; exact m0, fun _ => by rw [m]; exact m1, fun g => by omega, c4⟩
theorem anyO_some (p : S32 → Option Bool) (q : S32 → Bool) (hp : ∀ x, p x = some (q x)) : ∀ l : List S32, impl_Fix_62.anyO p l = some (l.any q)
  | [] => rfl
  | x :: xs => by
    unfold impl_Fix_62.anyO
    rw [hp x, Option.bind_some, anyO_some p q hp xs, List.any_cons]
    cases q x <;> rfl
theorem rdf (l : List S32) (i : Nat) (h : i < l.length) : rd_T32 l (i : Int) = l[i] := by
  show l.getD (i : Int).toNat z32 = _
  rw [Int.toNat_natCast, List.getD_eq_getElem?_getD, List.getElem?_eq_getElem h]; rfl
def fixB (f : S32) : Bool := (decide (-1000 ≤ f.f0) && decide (f.f0 ≤ 1000)) && ((decide (-1000 ≤ f.f1) && decide (f.f1 ≤ 1000)) && (decide (0 ≤ f.f2) && decide (f.f2 ≤ 10000000)))
theorem fix_s (f : S32) : spec_l11Fix.f f.f0 f.f1 f.f2 = some (fixB f) := by
  simp only [spec_l11Fix.f, in_s, Option.bind_some, ites]; rfl
theorem fix_i (f : S32) : impl_fixOk.f f.f0 f.f1 f.f2 = some (fixB f) := by
  simp only [impl_fixOk.f, in_i, Option.bind_some, ites]; rfl
theorem fixB_iff (f : S32) : fixB f = true ↔ (-1000 ≤ f.f0 ∧ f.f0 ≤ 1000) ∧ (-1000 ≤ f.f1 ∧ f.f1 ≤ 1000) ∧ 0 ≤ f.f2 ∧ f.f2 ≤ 10000000 := by
  unfold fixB; simp only [Bool.and_eq_true, decide_eq_true_eq]
/-- All fixes are right, and there are from n to 12. -/
def fixesB (l : List S32) (n : Int) : Bool := l.all fixB && (decide (n ≤ (l.length : Int)) && decide ((l.length : Int) ≤ 12))
theorem fixes_i (l : List S32) (n : Int) : impl_fixesOk.f l n = some (fixesB l n) := by
  unfold impl_fixesOk.f
  have ha : impl_Fix_62.f l (Value.func (.func 63) #[] #[]) = some (l.any fun f => !fixB f) := by
    unfold impl_Fix_62.f
    rw [if_pos (by rfl), anyO_some (q := fun f => !fixB f)]
    intro x
    unfold impl_fixesOk_1.f
    rw [fix_i, Option.bind_some]
  have hv : (!(l.any fun f => !fixB f)) = l.all fixB := by
    induction l with
    | nil => rfl
    | cons x xs ih =>
      rw [List.any_cons, List.all_cons, Bool.not_or, Bool.not_not]
      congr 1
      exact ih (by
        unfold impl_Fix_62.f
        rw [if_pos (by rfl), anyO_some (q := fun f => !fixB f)]
        intro x
        unfold impl_fixesOk_1.f
        rw [fix_i, Option.bind_some])
  rw [in_i, Option.bind_some, ha, Option.bind_some, hv]
  unfold fixesB
  cases (decide (n ≤ (l.length : Int)) && decide ((l.length : Int) ≤ 12)) <;> cases l.all fixB <;> rfl
/-- How far a fix is missed at a place. -/
def msOf (x y : Int) (f : S32) : Int := if (x - f.f0) * (x - f.f0) + (y - f.f1) * (y - f.f1) - f.f2 < 0 then -((x - f.f0) * (x - f.f0) + (y - f.f1) * (y - f.f1) - f.f2) else (x - f.f0) * (x - f.f0) + (y - f.f1) * (y - f.f1) - f.f2
theorem ms_i (x y : Int) (f : S32) (hx : -60 ≤ x ∧ x ≤ 60) (hy : -60 ≤ y ∧ y ≤ 60) (hf : fixB f = true) : (0 ≤ msOf x y f ∧ msOf x y f ≤ 100000000) ∧ (impl_misfit.f x y f.f0 f.f1 f.f2).bind impl_size.f = some (msOf x y f) ∧ impl_misfit.f x y f.f0 f.f1 f.f2 = some ((x - f.f0) * (x - f.f0) + (y - f.f1) * (y - f.f1) - f.f2) := by
  obtain ⟨h0, h1, h2⟩ := (fixB_iff f).1 hf
  have s1 := sq_le (x := x - f.f0) (A := 1060) (by omega) (by omega)
  have s2 := sq_le (x := y - f.f1) (A := 1060) (by omega) (by omega)
  have n1 := sq_nonneg (x - f.f0)
  have n2 := sq_nonneg (y - f.f1)
  have m : wrap64 (wrap64 (wrap64 (wrap64 (x - f.f0) * wrap64 (x - f.f0)) + wrap64 (wrap64 (y - f.f1) * wrap64 (y - f.f1))) - f.f2) = (x - f.f0) * (x - f.f0) + (y - f.f1) * (y - f.f1) - f.f2 := by
    rw [w64 (a := x - f.f0) (by omega) (by omega), w64 (a := y - f.f1) (by omega) (by omega), w64 (a := (x - f.f0) * (x - f.f0)) (by omega) (by omega), w64 (a := (y - f.f1) * (y - f.f1)) (by omega) (by omega), w64 (a := (x - f.f0) * (x - f.f0) + (y - f.f1) * (y - f.f1)) (by omega) (by omega), w64 (by omega) (by omega)]
  refine ⟨?_, ?_, ?_⟩
  · unfold msOf
    generalize (x - f.f0) * (x - f.f0) = p at s1 n1
    generalize (y - f.f1) * (y - f.f1) = q at s2 n2
    split <;> omega
  · unfold impl_misfit.f
    rw [m, Option.bind_some]
    unfold impl_size.f msOf mx
    generalize (x - f.f0) * (x - f.f0) = p at s1 n1
    generalize (y - f.f1) * (y - f.f1) = q at s2 n2
    rw [w64 (a := -(p + q - f.f2)) (by omega) (by omega)]
    by_cases c : p + q - f.f2 < 0
    · rw [if_pos c, if_pos (by omega)]
    · rw [if_neg c, if_neg (by omega)]
  · unfold impl_misfit.f
    rw [m]
def totOf (x y : Int) : List S32 → Int
  | [] => 0
  | f :: fs => msOf x y f + totOf x y fs
theorem tot_in (x y : Int) (hx : -60 ≤ x ∧ x ≤ 60) (hy : -60 ≤ y ∧ y ≤ 60) : ∀ l : List S32, l.all fixB = true → 0 ≤ totOf x y l ∧ totOf x y l ≤ 100000000 * l.length
  | [], _ => by unfold totOf; simp
  | f :: fs, h => by
    rw [List.all_cons, Bool.and_eq_true] at h
    have a := (ms_i x y f hx hy h.1).1
    have b := tot_in x y hx hy fs h.2
    unfold totOf
    rw [List.length_cons]
    omega
theorem drop_all {l : List S32} {i : Nat} (h : l.all fixB = true) : (l.drop i).all fixB = true := by
  rw [List.all_eq_true] at h ⊢
  exact fun x hx => h x (List.mem_of_mem_drop hx)
theorem sum_i (l : List S32) (x y least bx by_ : Int) (hx : -60 ≤ x ∧ x ≤ 60) (hy : -60 ≤ y ∧ y ≤ 60) (ha : l.all fixB = true) (hl : l.length ≤ 12) (r : Int × Int × Int) (h1 : least < 0 ∨ totOf x y l < least → Ev (fun k => impl_locate.l1 k l (totOf x y l) x (wrap64 (y + 1)) x y) r) (h2 : ¬ (least < 0 ∨ totOf x y l < least) → Ev (fun k => impl_locate.l1 k l least x (wrap64 (y + 1)) bx by_) r) : ∀ (d i : Nat) (s : Int), l.length - i = d → i ≤ l.length → 0 ≤ s → s ≤ 100000000 * i → s + totOf x y (l.drop i) = totOf x y l → Ev (fun k => impl_locate.l2 k l least x y s l (l.length : Int) (i : Int) bx by_) r := by
  intro d
  induction d with
  | zero =>
    intro i s hd hi h0 hb ht
    obtain rfl : i = l.length := by omega
    have hz : totOf x y ([] : List S32) = 0 := rfl
    have hs : s = totOf x y l := by rw [List.drop_length, hz] at ht; omega
    subst hs
    by_cases hc : least < 0 ∨ totOf x y l < least
    · refine ev_step (h1 hc) fun k => ?_
      simp only [impl_locate.l2]
      rw [if_neg (by omega)]
      by_cases h : least < 0
      · rw [if_pos h]
      · rw [if_neg h, if_pos (by omega)]
    · refine ev_step (h2 hc) fun k => ?_
      simp only [impl_locate.l2]
      rw [if_neg (by omega), if_neg (by omega), if_neg (by omega)]
  | succ d ih =>
    intro i s hd hi h0 hb ht
    have hlt : i < l.length := by omega
    have hf : fixB l[i] = true := (List.all_eq_true.1 ha) _ (List.getElem_mem hlt)
    obtain ⟨hm, hs, _⟩ := ms_i x y l[i] hx hy hf
    have hd' : totOf x y (l.drop i) = msOf x y l[i] + totOf x y (l.drop (i + 1)) := by
      rw [List.drop_eq_getElem_cons hlt]; rfl
    refine ev_step (ih (i + 1) (s + msOf x y l[i]) (by omega) (by omega) (by omega) (by omega) (by omega)) fun k => ?_
    obtain ⟨u, hu1, hu2⟩ := Option.bind_eq_some_iff.1 hs
    simp only [impl_locate.l2]
    rw [if_pos (by omega), if_pos (by omega), if_pos (by omega), rdf l i hlt, hu1, Option.bind_some, hu2, Option.bind_some, w64 (a := s + msOf x y l[i]) (by omega) (by omega), w64 (a := (i : Int) + 1) (by omega) (by omega)]; rfl
/-- The best of the places that were seen. -/
def Seen (l : List S32) (S : Int → Int → Prop) (least bx by_ : Int) : Prop := (least = -1 ∧ ∀ p q, ¬ S p q) ∨ (least = totOf bx by_ l ∧ (-60 ≤ bx ∧ bx ≤ 60) ∧ (-60 ≤ by_ ∧ by_ ≤ 60) ∧ ∀ p q, S p q → least ≤ totOf p q l)
theorem grid_i (l : List S32) (ha : l.all fixB = true) (hl : l.length ≤ 12) : ∀ (d : Nat) (x : Int), -60 ≤ x → x ≤ 61 → (61 - x).toNat = d → ∀ least bx by_ : Int, Seen l (fun p q => (-60 ≤ p ∧ p < x) ∧ (-60 ≤ q ∧ q ≤ 60)) least bx by_ → ∃ r : Int × Int × Int, Ev (fun k => impl_locate.l0 k l least x bx by_) r ∧ Seen l (fun p q => (-60 ≤ p ∧ p < 61) ∧ (-60 ≤ q ∧ q ≤ 60)) r.2.2 r.1 r.2.1 := by
  intro d
  induction d with
  | zero =>
    intro x h0 h1 hd least bx by_ hs
    obtain rfl : x = 61 := by omega
    refine ⟨(bx, by_, least), ev_now fun k => ?_, hs⟩
    simp only [impl_locate.l0]; rw [if_neg (by omega)]
  | succ d ih =>
    intro x h0 h1 hd least bx by_ hs
    have next : ∀ least bx by_ : Int, Seen l (fun p q => (-60 ≤ p ∧ p < x + 1) ∧ (-60 ≤ q ∧ q ≤ 60)) least bx by_ → ∃ r : Int × Int × Int, Ev (fun k => impl_locate.l0 k l least (wrap64 (x + 1)) bx by_) r ∧ Seen l (fun p q => (-60 ≤ p ∧ p < 61) ∧ (-60 ≤ q ∧ q ≤ 60)) r.2.2 r.1 r.2.1 := by
      rw [w64 (a := x + 1) (by omega) (by omega)]
      exact ih (x + 1) (by omega) (by omega) (by omega)
    have row : ∀ (e : Nat) (y : Int), -60 ≤ y → y ≤ 61 → (61 - y).toNat = e → ∀ least bx by_ : Int, Seen l (fun p q => ((-60 ≤ p ∧ p < x) ∧ (-60 ≤ q ∧ q ≤ 60)) ∨ (p = x ∧ -60 ≤ q ∧ q < y)) least bx by_ → ∃ r : Int × Int × Int, Ev (fun k => impl_locate.l1 k l least x y bx by_) r ∧ Seen l (fun p q => (-60 ≤ p ∧ p < 61) ∧ (-60 ≤ q ∧ q ≤ 60)) r.2.2 r.1 r.2.1 := by
      intro e
      induction e with
      | zero =>
        intro y g0 g1 ge least bx by_ hs
        obtain rfl : y = 61 := by omega
        obtain ⟨r, r1, r2⟩ := next least bx by_ (by
          rcases hs with ⟨a, b⟩ | ⟨a, b, c, d⟩
          · exact .inl ⟨a, fun p q h => b p q (by omega)⟩
          · exact .inr ⟨a, b, c, fun p q h => d p q (by omega)⟩)
        refine ⟨r, ev_step r1 fun k => ?_, r2⟩
        simp only [impl_locate.l1]; rw [if_neg (by omega)]
      | succ e ihe =>
        intro y g0 g1 ge least bx by_ hs
        have nexty : ∀ least bx by_ : Int, Seen l (fun p q => ((-60 ≤ p ∧ p < x) ∧ (-60 ≤ q ∧ q ≤ 60)) ∨ (p = x ∧ -60 ≤ q ∧ q < y + 1)) least bx by_ → ∃ r : Int × Int × Int, Ev (fun k => impl_locate.l1 k l least x (wrap64 (y + 1)) bx by_) r ∧ Seen l (fun p q => (-60 ≤ p ∧ p < 61) ∧ (-60 ≤ q ∧ q ≤ 60)) r.2.2 r.1 r.2.1 := by
          rw [w64 (a := y + 1) (by omega) (by omega)]
          exact ihe (y + 1) (by omega) (by omega) (by omega)
        have tb := (tot_in x y ⟨h0, by omega⟩ ⟨g0, by omega⟩ l ha).1
        by_cases hc : least < 0 ∨ totOf x y l < least
        · obtain ⟨r, r1, r2⟩ := nexty (totOf x y l) x y (.inr ⟨rfl, by omega, by omega, fun p q h => by
            by_cases e : p = x ∧ q = y
            · rw [e.1, e.2]; exact Int.le_refl _
            · rcases hs with ⟨a, b⟩ | ⟨a, _, _, c⟩
              · exact absurd (show ((-60 ≤ p ∧ p < x) ∧ (-60 ≤ q ∧ q ≤ 60)) ∨ (p = x ∧ -60 ≤ q ∧ q < y) by omega) (b p q)
              · have := c p q (by omega)
                have hle : 0 ≤ least ∨ least < 0 := by omega
                rcases hle with hle | hle
                · omega
                · have t0 := (tot_in bx by_ (by omega) (by omega) l ha).1
                  omega⟩)
          refine ⟨r, ev_step (sum_i l x y least bx by_ ⟨h0, by omega⟩ ⟨g0, by omega⟩ ha hl r (fun _ => r1) (fun h => absurd hc h) l.length 0 0 (by omega) (by omega) (by omega) (by omega) (by rw [List.drop_zero]; omega)) fun k => ?_, r2⟩
          simp only [impl_locate.l1]; rw [if_pos (by omega)]; rfl
        · obtain ⟨r, r1, r2⟩ := nexty least bx by_ (by
            rcases hs with ⟨a, b⟩ | ⟨a, b, c, d⟩
            · exact absurd (.inl (by omega)) hc
            · refine .inr ⟨a, b, c, fun p q h => ?_⟩
              by_cases e : p = x ∧ q = y
              · rw [e.1, e.2]; omega
              · exact d p q (by omega))
          refine ⟨r, ev_step (sum_i l x y least bx by_ ⟨h0, by omega⟩ ⟨g0, by omega⟩ ha hl r (fun h => absurd h hc) (fun _ => r1) l.length 0 0 (by omega) (by omega) (by omega) (by omega) (by rw [List.drop_zero]; omega)) fun k => ?_, r2⟩
          simp only [impl_locate.l1]; rw [if_pos (by omega)]; rfl
    obtain ⟨r, r1, r2⟩ := row 121 (-60) (by omega) (by omega) (by omega) least bx by_ (by
      rcases hs with ⟨a, b⟩ | ⟨a, b, c, d⟩
      · exact .inl ⟨a, fun p q h => b p q (by omega)⟩
      · exact .inr ⟨a, b, c, fun p q h => d p q (by omega)⟩)
    refine ⟨r, ev_step r1 fun k => ?_, r2⟩
    simp only [impl_locate.l0]; rw [if_pos (by omega)]
/-- The best place of the field. -/
def Best (l : List S32) (r : Int × Int × Int) : Prop := r.2.2 = totOf r.1 r.2.1 l ∧ (-60 ≤ r.1 ∧ r.1 ≤ 60) ∧ (-60 ≤ r.2.1 ∧ r.2.1 ≤ 60) ∧ ∀ p q : Int, (-60 ≤ p ∧ p ≤ 60) → (-60 ≤ q ∧ q ≤ 60) → r.2.2 ≤ totOf p q l
theorem best_at (l : List S32) (ha : l.all fixB = true) (hl : l.length ≤ 12) : ∃ r : Int × Int × Int, Best l r ∧ Ev (fun k => impl_locate.f k l) r := by
  obtain ⟨r, r1, r2⟩ := grid_i l ha hl 121 (-60) (by omega) (by omega) (by omega) (-1) 0 0 (.inl ⟨rfl, fun p q h => by omega⟩)
  refine ⟨r, ?_, r1⟩
  rcases r2 with ⟨_, b⟩ | ⟨a, b, c, d⟩
  · exact absurd (by omega) (b 0 0)
  · exact ⟨a, b, c, fun p q h1 h2 => d p q (by omega)⟩
theorem concat (a b : List S32) (h : a.length + b.length ≤ 100) : Ev (fun k => impl_Fix_58.f k [a, b]) (a ++ b) := by
  refine ⟨10, fun k hk => ?_⟩
  obtain ⟨k, rfl⟩ : ∃ m, k = m + 6 := ⟨k - 6, by omega⟩
  have r0 : rd_L3 [a, b] 0 = a := rfl
  have r1 : rd_L3 [a, b] 1 = b := rfl
  have w0 : wrap64 (0 + (a.length : Int)) = (a.length : Int) := by rw [w64 (by omega) (by omega), Int.zero_add]
  have w1 : wrap64 ((a.length : Int) + (b.length : Int)) = (a.length : Int) + (b.length : Int) := w64 (by omega) (by omega)
  have u1 : wrap64 ((0 : Int) + 1) = 1 := w64 (by omega) (by omega)
  have u2 : wrap64 ((1 : Int) + 1) = 2 := w64 (by omega) (by omega)
  have hl : (([a, b] : List (List S32)).length : Int) = 2 := rfl
  have hg : impl_Fix_66.f ([] : List S32) ((a.length : Int) + (b.length : Int)) = some [] := by
    unfold impl_Fix_66.f
    rw [if_pos (show ([] : List S32).length = 0 from rfl), if_pos (by omega), if_pos (by omega)]
  have c0 : ¬ ((a.length : Int) < 0) := by omega
  have c1 : ¬ ((a.length : Int) + (b.length : Int) < 0) := by omega
  have d0 : ([] : List S32).length + a.length < 5864062014805 := by rw [List.length_nil]; omega
  have d1 : a.length + b.length < 5864062014805 := by omega
  show impl_Fix_58.f (k + 6) [a, b] = _
  unfold impl_Fix_58.f
  rw [hl]
  simp only [impl_Fix_58.l0, hl, r0, w0, u1, if_neg c0]
  rw [if_pos (by omega), if_pos (by omega), if_pos (by omega), if_pos (by omega), if_pos (by omega), if_pos (by omega)]
  simp only [r1, w1, u2, if_neg c1, hg, Option.bind_some]
  rw [if_neg (by omega)]
  simp only [impl_Fix_58.l1, hl, r0, u1, List.nil_append]
  rw [if_pos (by omega), if_pos (by omega), if_pos (by omega), if_pos d0, if_pos (by omega), if_pos (by omega), if_pos (by omega), r1, if_pos d1, u2, if_neg (by omega)]
theorem rest_good (l : List S32) (i : Nat) (hi : i < l.length) (ha : l.all fixB = true) : (l.take i ++ l.drop (i + 1)).all fixB = true ∧ (l.take i ++ l.drop (i + 1)).length = l.length - 1 := by
  refine ⟨?_, by rw [List.length_append, List.length_take, List.length_drop]; omega⟩
  rw [List.all_eq_true] at *
  intro x hx
  rcases List.mem_append.1 hx with h | h
  · exact ha x (List.mem_of_mem_take h)
  · exact ha x (List.mem_of_mem_drop h)
/-- A fix that hears a place rightly. -/
def Hrd (px py : Int) (f : S32) : Prop := (-1000 ≤ f.f0 ∧ f.f0 ≤ 1000) ∧ (-1000 ≤ f.f1 ∧ f.f1 ≤ 1000) ∧ (0 ≤ f.f2 ∧ f.f2 ≤ 9000000) ∧ f.f2 = (px - f.f0) * (px - f.f0) + (py - f.f1) * (py - f.f1)
theorem hrd_fix {px py : Int} {f : S32} (h : Hrd px py f) : fixB f = true := by
  obtain ⟨a, b, c, _⟩ := h
  exact (fixB_iff f).2 ⟨a, b, by omega, by omega⟩
theorem hrd_all {px py : Int} {c : List S32} (h : ∀ f ∈ c, Hrd px py f) : c.all fixB = true := by
  rw [List.all_eq_true]
  exact fun f hf => hrd_fix (h f hf)
theorem tot_zero {px py : Int} : ∀ {c : List S32}, (∀ f ∈ c, Hrd px py f) → totOf px py c = 0
  | [], _ => rfl
  | f :: fs, h => by
    have hf := (h f (List.mem_cons_self ..)).2.2.2
    have ht := tot_zero (c := fs) (fun g hg => h g (List.mem_cons_of_mem _ hg))
    unfold totOf msOf
    rw [ht, ← hf, Int.sub_self, if_neg (by omega)]; rfl
theorem zero_all {x y : Int} (hx : -60 ≤ x ∧ x ≤ 60) (hy : -60 ≤ y ∧ y ≤ 60) : ∀ {c : List S32}, c.all fixB = true → totOf x y c = 0 → ∀ f ∈ c, msOf x y f = 0
  | [], _, _, f, hf => by cases hf
  | g :: gs, ha, h0, f, hf => by
    rw [List.all_cons, Bool.and_eq_true] at ha
    have a := (ms_i x y g hx hy ha.1).1
    have b := tot_in x y hx hy gs ha.2
    unfold totOf at h0
    rcases List.mem_cons.1 hf with rfl | hf
    · omega
    · exact zero_all hx hy ha.2 (by omega) f hf
theorem misfit_0 {x y : Int} (hx : -60 ≤ x ∧ x ≤ 60) (hy : -60 ≤ y ∧ y ≤ 60) {f : S32} (hf : fixB f = true) (h : msOf x y f = 0) : impl_Misfit.f x y f.f0 f.f1 f.f2 = some 0 := by
  have pl : impl_placeOk.f x y = some true := by
    simp only [impl_placeOk.f, in_i, Option.bind_some, ites]
    rw [decide_eq_true (show -2000 ≤ x by omega), decide_eq_true (show x ≤ 2000 by omega), decide_eq_true (show -2000 ≤ y by omega), decide_eq_true (show y ≤ 2000 by omega)]; rfl
  have ms := (ms_i x y f hx hy hf).2.2
  unfold impl_Misfit.f
  rw [pl, Option.bind_some, if_pos rfl, fix_i, hf, Option.bind_some, if_pos rfl, ms, Option.bind_some]
  unfold msOf at h
  congr 1
  generalize (x - f.f0) * (x - f.f0) + (y - f.f1) * (y - f.f1) - f.f2 = m at h
  split at h <;> omega
theorem draw_l (l : List Int) (hl : l.length ≤ 4611686018427387904) (px py : Int) (hx : -60 ≤ px ∧ px ≤ 60) (hy : -60 ≤ py ∧ py ≤ 60) : ∀ (d n : Nat) (c : List S32) (i h : Int), 7 - n = d → n ≤ 6 → Cur l i → c.length = n → (∀ f ∈ c, Hrd px py f) → ∃ x : List S32, (4 ≤ x.length ∧ x.length ≤ 6 ∧ ∀ f ∈ x, Hrd px py f) ∧ Ev (fun k => spec_DrawHeard.l0 k c (n : Int) l i h px py) (px, py, x) := by
  intro d
  induction d with
  | zero => intro n c i h hd hn; omega
  | succ d ih =>
    intro n c i h hd hn hc hcl hall
    obtain ⟨t, i1, g1, e1, t0, t1, _, c1⟩ := below_s l i h 3 hl hc (by omega)
    have t1 := t1 (by omega)
    have w4 : wrap64 (4 + t) = 4 + t := w64 (by omega) (by omega)
    by_cases hlt : (n : Int) < 4 + t
    · obtain ⟨a, i2, g2, e2, a0, a1, _, c2⟩ := below_s l i1 g1 30 hl c1 (by omega)
      obtain ⟨b, i3, g3, e3, b0, b1, _, c3⟩ := below_s l i2 g2 401 hl c2 (by omega)
      have a1 := a1 (by omega)
      have b1 := b1 (by omega)
      obtain ⟨S, hS, S0, S1⟩ : ∃ S, 20 * (n : Int) * n = S ∧ 0 ≤ S ∧ S ≤ 500 := by
        have : n = 0 ∨ n = 1 ∨ n = 2 ∨ n = 3 ∨ n = 4 ∨ n = 5 := by omega
        rcases this with rfl | rfl | rfl | rfl | rfl | rfl <;> exact ⟨_, rfl, by decide, by decide⟩
      obtain ⟨X, wx, hXb⟩ : ∃ X, wrap64 (wrap64 (wrap64 (90 * (n : Int)) - 150) + a) = X ∧ (-150 ≤ X ∧ X ≤ 330) := by
        refine ⟨90 * (n : Int) - 150 + a, ?_, ?_⟩
        · rw [w64 (a := 90 * (n : Int)) (by omega) (by omega), w64 (a := 90 * (n : Int) - 150) (by omega) (by omega), w64 (by omega) (by omega)]
        · clear w4 hS; omega
      obtain ⟨Y, wy, hYb⟩ : ∃ Y, wrap64 (wrap64 (b - 200) + wrap64 (wrap64 (20 * (n : Int)) * (n : Int))) = Y ∧ (-200 ≤ Y ∧ Y ≤ 700) := by
        refine ⟨b - 200 + S, ?_, ?_⟩
        · clear w4 wx
          rw [w64 (a := b - 200) (by omega) (by omega), w64 (a := 20 * (n : Int)) (by omega) (by omega), hS, w64 (a := S) (by omega) (by omega), w64 (by omega) (by omega)]
        · clear w4 hS wx; omega
      clear hS S0 S1 S
      have s1 := sq_le (x := px - X) (A := 400) (by omega) (by omega)
      have s2 := sq_le (x := py - Y) (A := 800) (by omega) (by omega)
      have n1 := sq_nonneg (px - X)
      have n2 := sq_nonneg (py - Y)
      have ms : spec_Misfit.f px py X Y 0 = some ((px - X) * (px - X) + (py - Y) * (py - Y)) := by
        have m : wrap64 (wrap64 (wrap64 (wrap64 (px - X) * wrap64 (px - X)) + wrap64 (wrap64 (py - Y) * wrap64 (py - Y))) - 0) = (px - X) * (px - X) + (py - Y) * (py - Y) := by
          rw [w64 (a := px - X) (by omega) (by omega), w64 (a := py - Y) (by omega) (by omega), w64 (a := (px - X) * (px - X)) (by omega) (by omega), w64 (a := (py - Y) * (py - Y)) (by omega) (by omega), w64 (a := (px - X) * (px - X) + (py - Y) * (py - Y)) (by omega) (by omega), Int.sub_zero, w64 (by omega) (by omega)]
        have pl : spec_l11Place.f px py = some true := by
          simp only [spec_l11Place.f, in_s, Option.bind_some, ites]
          rw [decide_eq_true (show -2000 ≤ px by omega), decide_eq_true (show px ≤ 2000 by omega), decide_eq_true (show -2000 ≤ py by omega), decide_eq_true (show py ≤ 2000 by omega)]; rfl
        have fx := fix_s (⟨X, Y, 0⟩ : S32)
        have fb : fixB (⟨X, Y, 0⟩ : S32) = true := (fixB_iff _).2 ⟨by simp only; omega, by simp only; omega, by simp only; omega, by simp only; omega⟩
        rw [fb] at fx
        have fx : spec_l11Fix.f X Y 0 = some true := fx
        unfold spec_Misfit.f
        rw [pl, Option.bind_some, if_pos rfl, fx, Option.bind_some, if_pos rfl, m]
      have hh : Hrd px py (⟨X, Y, (px - X) * (px - X) + (py - Y) * (py - Y)⟩ : S32) := ⟨by simp only; omega, by simp only; omega, by simp only; omega, rfl⟩
      obtain ⟨x, hx', he⟩ := ih (n + 1) (c ++ [(⟨X, Y, (px - X) * (px - X) + (py - Y) * (py - Y)⟩ : S32)]) i3 g3 (by omega) (by omega) c3 (by rw [List.length_append, List.length_singleton]; omega) (fun f hf => by
        rcases List.mem_append.1 hf with hf | hf
        · exact hall f hf
        · rw [List.mem_singleton.1 hf]; exact hh)
      refine ⟨x, hx', ev_step he fun k => ?_⟩
      simp only [spec_DrawHeard.l0, e1, e2, e3, Option.bind_some, w4, wx, wy, ms]
      rw [if_pos hlt, if_pos (by omega), w64 (a := (n : Int) + 1) (by omega) (by omega), show (n : Int) + 1 = ((n + 1 : Nat) : Int) by omega]
    · refine ⟨c, ⟨by omega, by omega, hall⟩, ev_now fun k => ?_⟩
      simp only [spec_DrawHeard.l0, e1, Option.bind_some, w4]
      rw [if_neg hlt]
theorem draw_heard (l : List Int) (hl : l.length ≤ 4611686018427387904) : ∃ (px py : Int) (c : List S32), (-60 ≤ px ∧ px ≤ 60) ∧ (-60 ≤ py ∧ py ≤ 60) ∧ (4 ≤ c.length ∧ c.length ≤ 6 ∧ ∀ f ∈ c, Hrd px py f) ∧ Ev (fun k => spec_DrawHeard.f k l) (px, py, c) := by
  obtain ⟨h0, en⟩ := new_s l hl
  obtain ⟨a, i1, g1, e1, a0, a1, _, c1⟩ := below_s l 0 h0 121 hl ⟨by omega, by omega⟩ (by omega)
  obtain ⟨b, i2, g2, e2, b0, b1, _, c2⟩ := below_s l i1 g1 121 hl c1 (by omega)
  have a1 := a1 (by omega)
  have b1 := b1 (by omega)
  obtain ⟨x, hx, he⟩ := draw_l l hl (a - 60) (b - 60) (by omega) (by omega) 7 0 [] i2 g2 (by omega) (by omega) c2 rfl (fun f hf => by cases hf)
  refine ⟨a - 60, b - 60, x, by omega, by omega, hx, ?_⟩
  unfold spec_DrawHeard.f
  refine ev_bind (F := fun k => spec_l1New.f k l) (G := fun k bt163 => ((spec_l1Below.f bt163.1 bt163.2.1 bt163.2.2 121).bind fun bt167 => ((spec_l1Below.f bt163.1 bt167.2.1 bt167.2.2 121).bind fun bt170 => (spec_DrawHeard.l0 k (([] : List (S32))) 0 bt163.1 bt170.2.1 bt170.2.2 (wrap64 (bt167.1 - 60)) (wrap64 (bt170.1 - 60)))))) en ?_
  simp only [e1, e2, Option.bind_some]
  rw [w64 (a := a - 60) (by omega) (by omega), w64 (a := b - 60) (by omega) (by omega)]
  exact he
theorem fixesB_t {c : List S32} {n : Int} (ha : c.all fixB = true) (h1 : n ≤ (c.length : Int)) (h2 : c.length ≤ 12) : fixesB c n = true := by
  unfold fixesB
  rw [ha, decide_eq_true h1, decide_eq_true (by omega)]; rfl
/-- What is asked of the best place's misfit. -/
theorem locate_at {c : List S32} (ha : c.all fixB = true) (h1 : 3 ≤ c.length) (h2 : c.length ≤ 12) {r : Int × Int × Int} (hr : Ev (fun k => impl_locate.f k c) r) (a : Int) : Ev (fun k => impl_Locate.f k c a) (if r.2.2 > a then (0, 0, 0, false) else (r.1, r.2.1, r.2.2, true)) := by
  unfold impl_Locate.f
  rw [fixes_i, fixesB_t ha (by omega) h2]
  simp only [Option.bind_some, if_true]
  refine ev_bind (F := fun k => impl_locate.f k c) (G := fun _ bt128 => (if bt128.2.2 > a then (some (0, 0, 0, false)) else (some (bt128.1, bt128.2.1, bt128.2.2, true)))) hr (ev_const ?_)
  split <;> rfl
/-- Without the one that lies, or one ahead of it, nothing is missed. -/
theorem leave_k {px py : Int} (hx : -60 ≤ px ∧ px ≤ 60) (hy : -60 ≤ py ∧ py ≤ 60) {c : List S32} (hall : ∀ f ∈ c, Hrd px py f) (c4 : 4 ≤ c.length) (c6 : c.length ≤ 6) {z : S32} {K : Nat} (hK : K < c.length) (hz : fixB z = true) (ha : (c.set K z).all fixB = true) : ∀ (d i : Nat), K - i = d → i ≤ K → ∃ o : Int, ((i : Int) ≤ o ∧ o ≤ (K : Int)) ∧ Ev (fun k => impl_LeaveOut.l0 k (c.set K z) 0 ((c.set K z).length : Int) (i : Int)) (o, true) := by
  have ls : (c.set K z).length = c.length := List.length_set
  have step : ∀ i : Nat, i ≤ K → ∃ r : Int × Int × Int, Best ((c.set K z).take i ++ (c.set K z).drop (i + 1)) r ∧ ∀ R : Int × Bool, (r.2.2 ≤ 0 → R = ((i : Int), true)) → (¬ r.2.2 ≤ 0 → Ev (fun k => impl_LeaveOut.l0 k (c.set K z) 0 ((c.set K z).length : Int) ((i + 1 : Nat) : Int)) R) → Ev (fun k => impl_LeaveOut.l0 k (c.set K z) 0 ((c.set K z).length : Int) (i : Int)) R := by
    intro i hi
    obtain ⟨g1, g2⟩ := rest_good (c.set K z) i (by omega) ha
    obtain ⟨r, br, er⟩ := best_at ((c.set K z).take i ++ (c.set K z).drop (i + 1)) g1 (by omega)
    refine ⟨r, br, fun R h1 h2 => ?_⟩
    have hc := concat ((c.set K z).take i) ((c.set K z).drop (i + 1)) (by rw [List.length_take, List.length_drop]; omega)
    have w1 : wrap64 ((i : Int) + 1) = ((i + 1 : Nat) : Int) := by rw [w64 (by omega) (by omega)]; omega
    have un : ∀ k, impl_LeaveOut.l0 (k + 1) (c.set K z) 0 ((c.set K z).length : Int) (i : Int) = (impl_Fix_58.f k [(c.set K z).take i, (c.set K z).drop (i + 1)]).bind fun t159 => ((impl_locate.f k t159).bind fun bt162 => (if bt162.2.2 ≤ 0 then (some ((i : Int), true)) else (impl_LeaveOut.l0 k (c.set K z) 0 ((c.set K z).length : Int) ((i + 1 : Nat) : Int)))) := by
      intro k
      simp only [impl_LeaveOut.l0, w1, Int.toNat_natCast]
      rw [if_pos (by omega), if_pos (by omega), if_pos (by omega), if_pos (by omega), if_pos (by omega)]
    refine ev_step (ev_bind (G := fun k t159 => ((impl_locate.f k t159).bind fun bt162 => (if bt162.2.2 ≤ 0 then (some ((i : Int), true)) else (impl_LeaveOut.l0 k (c.set K z) 0 ((c.set K z).length : Int) ((i + 1 : Nat) : Int))))) hc (ev_bind (G := fun k bt162 => (if bt162.2.2 ≤ 0 then (some ((i : Int), true)) else (impl_LeaveOut.l0 k (c.set K z) 0 ((c.set K z).length : Int) ((i + 1 : Nat) : Int)))) er ?_)) un
    by_cases h : r.2.2 ≤ 0
    · simp only [if_pos h]; rw [h1 h]; exact ev_const rfl
    · simp only [if_neg h]; exact h2 h
  intro d
  induction d with
  | zero =>
    intro i hd hi
    obtain rfl : i = K := by omega
    obtain ⟨r, br, h⟩ := step i hi
    have hrest : ∀ f ∈ (c.set i z).take i ++ (c.set i z).drop (i + 1), Hrd px py f := by
      intro f hf
      rw [List.take_set_of_le (Nat.le_refl _), List.drop_set_of_lt (Nat.lt_succ_self _)] at hf
      rcases List.mem_append.1 hf with hf | hf
      · exact hall f (List.mem_of_mem_take hf)
      · exact hall f (List.mem_of_mem_drop hf)
    have hle : r.2.2 ≤ 0 := by
      have := br.2.2.2 px py hx hy
      rwa [tot_zero hrest] at this
    exact ⟨(i : Int), ⟨Int.le_refl _, Int.le_refl _⟩, h _ (fun _ => rfl) (fun g => absurd hle g)⟩
  | succ d ih =>
    intro i hd hi
    obtain ⟨r, br, h⟩ := step i hi
    obtain ⟨o, ho, eo⟩ := ih (i + 1) (by omega) (by omega)
    by_cases hle : r.2.2 ≤ 0
    · exact ⟨(i : Int), by omega, h _ (fun _ => rfl) (fun g => absurd hle g)⟩
    · exact ⟨o, by omega, h _ (fun g => absurd g hle) (fun _ => eo)⟩
theorem FnHeard : laws_FnHeard.Pure := by
  intro l _ _ hw
  by_cases hl : l.length ≤ 1048576
  · obtain ⟨px, py, c, hx, hy, ⟨c4, c6, hall⟩, ex⟩ := draw_heard l (by omega)
    obtain ⟨t3, e3, t30, t31⟩ := at_in l hl hw 3 (by omega) (by omega)
    obtain ⟨t4, e4, t40, t41⟩ := at_in l hl hw 4 (by omega) (by omega)
    suffices H : Ev (fun k => laws_FnHeard.f k l) true by obtain ⟨K, hK⟩ := H; exact ⟨K, hK K (Nat.le_refl _)⟩
    have ha := hrd_all hall
    obtain ⟨⟨qx, qy, s⟩, ⟨b1, b2, b3, b4⟩, er⟩ := best_at c ha (by omega)
    have b1 : s = totOf qx qy c := b1
    have b2 : -60 ≤ qx ∧ qx ≤ 60 := b2
    have b3 : -60 ≤ qy ∧ qy ≤ 60 := b3
    have b4 := b4 px py hx hy
    have b4 : s ≤ totOf px py c := b4
    rw [tot_zero hall] at b4
    have s0 := (tot_in qx qy b2 b3 c ha).1
    obtain rfl : s = 0 := by omega
    have loc := locate_at ha (by omega) (by omega) er 0
    have loc : Ev (fun k => impl_Locate.f k c 0) (qx, qy, 0, true) := loc
    have zq := zero_all b2 b3 ha b1.symm
    have zp := zero_all hx hy ha (tot_zero hall)
    -- the one that lies
    obtain ⟨K, hK, hKe⟩ : ∃ K : Nat, K < c.length ∧ Int.tmod t3 (c.length : Int) = (K : Int) := by
      rw [Int.tmod_eq_emod_of_nonneg t30]
      have m0 := Int.emod_nonneg t3 (show (c.length : Int) ≠ 0 by omega)
      have m1 := Int.emod_lt_of_pos t3 (show (0 : Int) < (c.length : Int) by omega)
      exact ⟨(t3 % (c.length : Int)).toNat, by omega, by omega⟩
    have hrk : rd_T32 c (K : Int) = c[K] := rdf c K hK
    obtain ⟨h1, h2, h3, _⟩ := hall c[K] (List.getElem_mem hK)
    have wz : wrap64 (wrap64 ((c[K]).f2 + 1) + t4) = (c[K]).f2 + 1 + t4 := by
      rw [w64 (a := (c[K]).f2 + 1) (by omega) (by omega), w64 (by omega) (by omega)]
    have hz : fixB (⟨(c[K]).f0, (c[K]).f1, (c[K]).f2 + 1 + t4⟩ : S32) = true := (fixB_iff _).2 ⟨h1, h2, by simp only; omega, by simp only; omega⟩
    have ha' : (c.set K (⟨(c[K]).f0, (c[K]).f1, (c[K]).f2 + 1 + t4⟩ : S32)).all fixB = true := by
      rw [List.all_eq_true]
      intro f hf
      rcases List.mem_or_eq_of_mem_set hf with hf | rfl
      · exact hrd_fix (hall f hf)
      · exact hz
    have ls : (c.set K (⟨(c[K]).f0, (c[K]).f1, (c[K]).f2 + 1 + t4⟩ : S32)).length = c.length := List.length_set
    obtain ⟨o, ho, eo⟩ := leave_k hx hy hall c4 c6 hK hz ha' K 0 (by omega) (by omega)
    obtain ⟨⟨ux, uy, us⟩, ⟨d1, d2, d3, d4⟩, er'⟩ := best_at _ ha' (by omega)
    have us0 : 0 ≤ us := by
      have := (tot_in ux uy d2 d3 _ ha').1
      rw [← d1] at this; exact this
    have loc' := locate_at ha' (by omega) (by omega) er' (-1)
    have loc' : Ev (fun k => impl_Locate.f k (c.set K (⟨(c[K]).f0, (c[K]).f1, (c[K]).f2 + 1 + t4⟩ : S32)) (-1)) (0, 0, 0, false) := by
      have e : (if us > -1 then ((0, 0, 0, false) : Int × Int × Int × Bool) else (ux, uy, us, true)) = (0, 0, 0, false) := if_pos (by omega)
      rw [← e]; exact loc'
    obtain ⟨o', ho', lv'⟩ : ∃ o' : Int, (-1 ≤ o' ∧ o' ≤ (K : Int)) ∧ Ev (fun k => impl_LeaveOut.f k (c.set K (⟨(c[K]).f0, (c[K]).f1, (c[K]).f2 + 1 + t4⟩ : S32)) 0) (o', true) := by
      unfold impl_LeaveOut.f
      rw [fixes_i, fixesB_t ha' (by omega) (by omega)]
      simp only [Option.bind_some, if_true]
      by_cases g : us ≤ 0
      · refine ⟨-1, by omega, ev_bind (G := fun k bt200 => (if bt200.2.2 ≤ 0 then (some ((-1), true)) else (impl_LeaveOut.l0 k (c.set K (⟨(c[K]).f0, (c[K]).f1, (c[K]).f2 + 1 + t4⟩ : S32)) 0 ((c.set K (⟨(c[K]).f0, (c[K]).f1, (c[K]).f2 + 1 + t4⟩ : S32)).length : Int) 0))) er' ?_⟩
        simp only [if_pos g]; exact ev_const rfl
      · refine ⟨o, by omega, ev_bind (G := fun k bt200 => (if bt200.2.2 ≤ 0 then (some ((-1), true)) else (impl_LeaveOut.l0 k (c.set K (⟨(c[K]).f0, (c[K]).f1, (c[K]).f2 + 1 + t4⟩ : S32)) 0 ((c.set K (⟨(c[K]).f0, (c[K]).f1, (c[K]).f2 + 1 + t4⟩ : S32)).length : Int) 0))) er' ?_⟩
        simp only [if_neg g]; exact eo
    have lv : Ev (fun k => impl_LeaveOut.f k c 0) (-1, true) := by
      unfold impl_LeaveOut.f
      rw [fixes_i, fixesB_t ha (by omega) (by omega)]
      simp only [Option.bind_some, if_true]
      refine ev_bind (G := fun k bt200 => (if bt200.2.2 ≤ 0 then (some ((-1), true)) else (impl_LeaveOut.l0 k c 0 (c.length : Int) 0))) er ?_
      simp only [if_pos (Int.le_refl 0)]; exact ev_const rfl
    have j2 : Ev (fun k => laws_FnHeard.j2 k l c false) true := by
      have un : ∀ k, laws_FnHeard.j2 (k + 1) l c false = (impl_LeaveOut.f k (c.set K (⟨(c[K]).f0, (c[K]).f1, (c[K]).f2 + 1 + t4⟩ : S32)) 0).bind fun bt246 => ((impl_Locate.f k (c.set K (⟨(c[K]).f0, (c[K]).f1, (c[K]).f2 + 1 + t4⟩ : S32)) (-1)).bind fun bt248 => (if bt246.2 = true then (if bt246.1 ≥ (-1) then (if bt246.1 ≤ (K : Int) then (some (!bt248.2.2.2)) else (some false)) else (some false)) else (some false))) := by
        intro k
        simp only [laws_FnHeard.j2, Bool.false_eq_true, if_false, e3, e4, Option.bind_some, hKe, hrk, wz, Int.toNat_natCast]
        rw [if_neg (by omega), if_pos (by omega), if_pos (by omega)]
      refine ev_step (ev_bind (F := fun k => impl_LeaveOut.f k (c.set K (⟨(c[K]).f0, (c[K]).f1, (c[K]).f2 + 1 + t4⟩ : S32)) 0) lv' (ev_bind (F := fun k => impl_Locate.f k (c.set K (⟨(c[K]).f0, (c[K]).f1, (c[K]).f2 + 1 + t4⟩ : S32)) (-1)) loc' (ev_const ?_))) un
      simp only [if_true]
      rw [if_pos (by omega), if_pos (by omega)]; rfl
    have l0 : ∀ (d i : Nat), c.length - i = d → i ≤ c.length → Ev (fun k => laws_FnHeard.l0 k l c (i : Int) px py qx qy) true := by
      intro d
      induction d with
      | zero =>
        intro i hd hi
        refine ev_step (ev_bind (F := fun k => impl_LeaveOut.f k c 0) (G := fun k bt240 => (if bt240.2 = true then (laws_FnHeard.j2 k l c (bt240.1 != (-1))) else (laws_FnHeard.j2 k l c true))) lv ?_) fun k => ?_
        · simp only [if_true, bne_self_eq_false]; exact j2
        · simp only [laws_FnHeard.l0]; rw [if_neg (by omega)]
      | succ d ih =>
        intro i hd hi
        have hlt : i < c.length := by omega
        have hm := List.getElem_mem hlt
        have m1 := misfit_0 b2 b3 (hrd_fix (hall _ hm)) (zq _ hm)
        have m2 := misfit_0 hx hy (hrd_fix (hall _ hm)) (zp _ hm)
        refine ev_step (ih (i + 1) (by omega) (by omega)) fun k => ?_
        simp only [laws_FnHeard.l0, rdf c i hlt, m1, m2, Option.bind_some, if_true]
        rw [if_pos (by omega), if_pos (by omega), w64 (a := (i : Int) + 1) (by omega) (by omega), show (i : Int) + 1 = ((i + 1 : Nat) : Int) by omega]
    unfold laws_FnHeard.f
    simp only [big_f l hl, Option.bind_some, Bool.false_eq_true, if_false]
    refine ev_bind (F := fun k => spec_DrawHeard.f k l) (G := fun k bt225 => ((impl_Locate.f k bt225.2.2 0).bind fun bt231 => (if bt231.2.2.2 = true then (laws_FnHeard.j0 k l bt225.2.2 (bt231.2.2.1 != 0) bt225.1 bt225.2.1 bt231.1 bt231.2.1) else (laws_FnHeard.j0 k l bt225.2.2 true bt225.1 bt225.2.1 bt231.1 bt231.2.1)))) ex ?_
    refine ev_bind (F := fun k => impl_Locate.f k c 0) (G := fun k bt231 => (if bt231.2.2.2 = true then (laws_FnHeard.j0 k l c (bt231.2.2.1 != 0) px py bt231.1 bt231.2.1) else (laws_FnHeard.j0 k l c true px py bt231.1 bt231.2.1))) loc ?_
    simp only [if_true, bne_self_eq_false]
    refine ev_step (l0 c.length 0 (by omega) (by omega)) fun k => ?_
    simp only [laws_FnHeard.j0, Bool.false_eq_true, if_false]
    rfl
  · refine ⟨0, ?_⟩
    unfold laws_FnHeard.f
    rw [big_t l hl]; rfl
end Go.Proofs.Ytfjpmakmgcngiaa.Pure.FnHeard
namespace Go.Proofs.Ytfjpmakmgcngiaa.Pure
theorem FnHeard : Go.Proofs.Ytfjpmakmgcngiaa.PFnHeard.laws_FnHeard.Pure := FnHeard.FnHeard
end Go.Proofs.Ytfjpmakmgcngiaa.Pure
