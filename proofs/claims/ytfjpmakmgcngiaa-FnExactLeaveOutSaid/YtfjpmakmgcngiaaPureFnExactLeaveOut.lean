/- For every list of Fixes and least the program's LeaveOut answers what the reference's answers (FnExactLeaveOut returns true); no condition. -/
import Derived.Test.YtfjpmakmgcngiaaAskFnExactLeaveOut
import Derived.Test.YtfjpmakmgcngiaaNum
namespace Go.Proofs.Ytfjpmakmgcngiaa.Pure.FnExactLeaveOut
open Go.RowKit Go.Proofs.Ytfjpmakmgcngiaa.PFnExactLeaveOut Go.Proofs.YtfjpmakmgcngiaaW.PrintWords Go.Proofs.YtfjpmakmgcngiaaW.PrintLast Go.Proofs.YtfjpmakmgcngiaaW.PrintMore Go.Proofs.Ytfjpmakmgcngiaa.Num
set_option linter.unusedVariables false
set_option linter.unusedSimpArgs false
theorem in_s (a b c : Int) : spec_l1In.f a b c = some (decide (b ≤ a) && decide (a ≤ c)) := by
  unfold spec_l1In.f
  by_cases h : a ≥ b
  · rw [if_pos h, decide_eq_true (show b ≤ a from h)]; rfl
  · rw [if_neg h, decide_eq_false (show ¬ b ≤ a from h)]; rfl
theorem in_i (a b c : Int) : impl_in.f a b c = some (decide (b ≤ a) && decide (a ≤ c)) := by
  unfold impl_in.f
  by_cases h : a ≥ b
  · rw [if_pos h, decide_eq_true (show b ≤ a from h)]; rfl
  · rw [if_neg h, decide_eq_false (show ¬ b ≤ a from h)]; rfl
/-- From some count of rounds on it answers r. -/
def Ev {α : Type} (F : Nat → Option α) (r : α) : Prop := ∃ K, ∀ k, K ≤ k → F k = some r
theorem ev_step {α : Type} {F G : Nat → Option α} {r : α} (h : Ev G r) (e : ∀ k, F (k + 1) = G k) : Ev F r := by
  obtain ⟨K, h⟩ := h
  refine ⟨K + 1, fun k hk => ?_⟩
  obtain ⟨m, rfl⟩ : ∃ m, k = m + 1 := ⟨k - 1, by omega⟩
  rw [e m]; exact h m (by omega)
theorem ev_now {α : Type} {F : Nat → Option α} {r : α} (e : ∀ k, F (k + 1) = some r) : Ev F r :=
  ⟨1, fun k hk => by obtain ⟨m, rfl⟩ : ∃ m, k = m + 1 := ⟨k - 1, by omega⟩; exact e m⟩
theorem ev_const {α : Type} {o : Option α} {r : α} (e : o = some r) : Ev (fun _ => o) r := ⟨0, fun _ _ => e⟩
theorem ev_bind {α β : Type} {F : Nat → Option α} {G : Nat → α → Option β} {a : α} {r : β} (h : Ev F a) (g : Ev (fun k => G k a) r) : Ev (fun k => (F k).bind (G k)) r := by
  obtain ⟨K, h⟩ := h
  obtain ⟨L, g⟩ := g
  exact ⟨max K L, fun k hk => by show (F k).bind (G k) = _; rw [h k (by omega), Option.bind_some]; exact g k (by omega)⟩
theorem ev_cong {α : Type} {F G : Nat → Option α} {r : α} (h : Ev G r) (e : ∀ k, F k = G k) : Ev F r := by
  obtain ⟨K, h⟩ := h
  exact ⟨K, fun k hk => (e k).trans (h k hk)⟩
def conv (x : S30) : S32 := ⟨x.f0, x.f1, x.f2⟩
theorem laws_toFixS_l0 (x0 : List S30) (hn : x0.length ≤ 4611686018427387904) : ∀ (d k i : Nat) (x3 : List S32), x0.length - i = d → i ≤ x0.length → d < k → x3.length = x0.length → (∀ j, j < i → x3[j]? = (x0.map conv)[j]?) → laws_toFixS.l0 k x0 x3 (i : Int) = some (x0.map conv) := by
  intro d
  induction d with
  | zero =>
    intro k i x3 hd hi hk hl hj
    obtain ⟨k, rfl⟩ : ∃ m, k = m + 1 := ⟨k - 1, by omega⟩
    simp only [laws_toFixS.l0]
    rw [if_neg (by omega)]
    congr 1
    apply List.ext_getElem?
    intro j
    by_cases h : j < i
    · exact hj j h
    · rw [List.getElem?_eq_none (by omega), List.getElem?_eq_none (by simp; omega)]
  | succ d ih =>
    intro k i x3 hd hi hk hl hj
    obtain ⟨k, rfl⟩ : ∃ m, k = m + 1 := ⟨k - 1, by omega⟩
    have hlt : i < x0.length := by omega
    simp only [laws_toFixS.l0, laws_toFix.f, Option.bind_some]
    rw [if_pos (by omega), if_pos (by omega), if_pos (by omega), w64 (a := (i : Int) + 1) (by omega) (by omega), show (i : Int) + 1 = ((i + 1 : Nat) : Int) by omega]
    refine ih k (i + 1) _ (by omega) (by omega) (by omega) (by simpa using hl) ?_
    intro j hj'
    have hr : rd_T30 x0 (i : Int) = x0[i] := by
      show x0.getD (i : Int).toNat z30 = _
      rw [Int.toNat_natCast, List.getD_eq_getElem?_getD, List.getElem?_eq_getElem hlt]; rfl
    simp only [Int.toNat_natCast, hr]
    by_cases e : j = i
    · subst e
      rw [List.getElem?_set_self (by omega), List.getElem?_map, List.getElem?_eq_getElem hlt]; rfl
    · rw [List.getElem?_set_ne (fun h => e h.symm)]
      exact hj j (by omega)
theorem laws_toFixS_eq (x0 : List S30) (k : Nat) (hn : x0.length ≤ 11728124029610) (hk : x0.length < k) : laws_toFixS.f k x0 = some (x0.map conv) := by
  unfold laws_toFixS.f
  rw [if_pos (by omega), if_pos (by rw [Int.toNat_natCast]; omega), Int.toNat_natCast]
  exact laws_toFixS_l0 x0 (by omega) x0.length k 0 _ (by omega) (by omega) hk (by simp) (fun j hj => by omega)

theorem laws_eqFixS_l0 (x0 : List S32) (hn : x0.length ≤ 4611686018427387904) : ∀ (d k i : Nat), x0.length - i = d → i ≤ x0.length → d < k → laws_eqFixS.l0 k x0 x0 (i : Int) = some true := by
  intro d
  induction d with
  | zero =>
    intro k i hd hi hk
    obtain ⟨k, rfl⟩ : ∃ m, k = m + 1 := ⟨k - 1, by omega⟩
    simp only [laws_eqFixS.l0]
    rw [if_neg (by omega)]
  | succ d ih =>
    intro k i hd hi hk
    obtain ⟨k, rfl⟩ : ∃ m, k = m + 1 := ⟨k - 1, by omega⟩
    simp only [laws_eqFixS.l0, laws_eqFix.f, if_true, bne_self_eq_false, Bool.false_eq_true, if_false, Option.bind_some]
    rw [if_pos (by omega), if_pos (by omega), if_pos (by omega), w64 (a := (i : Int) + 1) (by omega) (by omega), show (i : Int) + 1 = ((i + 1 : Nat) : Int) by omega]
    exact ih k (i + 1) (by omega) (by omega) (by omega)
theorem laws_eqFixS_eq (x0 : List S32) (k : Nat) (hn : x0.length ≤ 4611686018427387904) (hk : x0.length < k) : laws_eqFixS.f k x0 x0 = some true := by
  unfold laws_eqFixS.f
  rw [if_pos rfl]
  exact laws_eqFixS_l0 x0 hn x0.length k 0 (by omega) (by omega) hk

theorem anyO_some (p : S32 → Option Bool) (q : S32 → Bool) (hp : ∀ x, p x = some (q x)) : ∀ l : List S32, impl_Fix_62.anyO p l = some (l.any q)
  | [] => rfl
  | x :: xs => by
    unfold impl_Fix_62.anyO
    rw [hp x, Option.bind_some, anyO_some p q hp xs, List.any_cons]
    cases q x <;> rfl
theorem rdf (l : List S32) (i : Nat) (h : i < l.length) : rd_T32 l (i : Int) = l[i] := by
  show l.getD (i : Int).toNat z32 = _
  rw [Int.toNat_natCast, List.getD_eq_getElem?_getD, List.getElem?_eq_getElem h]; rfl
def fixB (f : S32) : Bool := (decide (-1000 ≤ f.f0) && decide (f.f0 ≤ 1000)) && ((decide (-1000 ≤ f.f1) && decide (f.f1 ≤ 1000)) && (decide (0 ≤ f.f2) && decide (f.f2 ≤ 10000000)))
theorem fix_s (f : S32) : spec_l11Fix.f f.f0 f.f1 f.f2 = some (fixB f) := by
  simp only [spec_l11Fix.f, in_s, Option.bind_some, ites]; rfl
theorem fix_i (f : S32) : impl_fixOk.f f.f0 f.f1 f.f2 = some (fixB f) := by
  simp only [impl_fixOk.f, in_i, Option.bind_some, ites]; rfl
theorem fixB_iff (f : S32) : fixB f = true ↔ (-1000 ≤ f.f0 ∧ f.f0 ≤ 1000) ∧ (-1000 ≤ f.f1 ∧ f.f1 ≤ 1000) ∧ 0 ≤ f.f2 ∧ f.f2 ≤ 10000000 := by
  unfold fixB; simp only [Bool.and_eq_true, decide_eq_true_eq]
/-- All fixes are right, and there are from n to 12. -/
def fixesB (l : List S32) (n : Int) : Bool := l.all fixB && (decide (n ≤ (l.length : Int)) && decide ((l.length : Int) ≤ 12))
theorem fixes_l (l : List S32) (n : Int) (hn : l.length ≤ 4611686018427387904) : ∀ (d i : Nat), l.length - i = d → i ≤ l.length → Ev (fun k => spec_l11Fixes.l0 k l n (i : Int)) ((l.drop i).all fixB && (decide (n ≤ (l.length : Int)) && decide ((l.length : Int) ≤ 12))) := by
  intro d
  induction d with
  | zero =>
    intro i hd hi
    refine ev_now fun k => ?_
    obtain rfl : i = l.length := by omega
    simp only [spec_l11Fixes.l0]
    rw [if_neg (by omega), in_s, Option.bind_some, List.drop_length]; rfl
  | succ d ih =>
    intro i hd hi
    have hlt : i < l.length := by omega
    have e := ih (i + 1) (by omega) (by omega)
    rw [List.drop_eq_getElem_cons hlt, List.all_cons]
    cases hb : fixB l[i]
    · refine ev_now fun k => ?_
      simp only [spec_l11Fixes.l0]
      rw [if_pos (by omega), if_pos (by omega), fix_s, rdf l i hlt, hb, Option.bind_some, if_neg Bool.false_ne_true]; rfl
    · refine ev_step (by simpa using e) fun k => ?_
      simp only [spec_l11Fixes.l0]
      rw [if_pos (by omega), if_pos (by omega), fix_s, rdf l i hlt, hb, Option.bind_some, if_pos rfl, w64 (a := (i : Int) + 1) (by omega) (by omega)]
theorem fixes_s (l : List S32) (n : Int) (hn : l.length ≤ 4611686018427387904) : Ev (fun k => spec_l11Fixes.f k l n) (fixesB l n) := fixes_l l n hn l.length 0 (by omega) (by omega)
theorem fixes_i (l : List S32) (n : Int) : impl_fixesOk.f l n = some (fixesB l n) := by
  unfold impl_fixesOk.f
  have ha : impl_Fix_62.f l (Value.func (.func 63) #[] #[]) = some (l.any fun f => !fixB f) := by
    unfold impl_Fix_62.f
    rw [if_pos (by rfl), anyO_some (q := fun f => !fixB f)]
    intro x
    unfold impl_fixesOk_1.f
    rw [fix_i, Option.bind_some]
  have hv : (!(l.any fun f => !fixB f)) = l.all fixB := by
    induction l with
    | nil => rfl
    | cons x xs ih =>
      rw [List.any_cons, List.all_cons, Bool.not_or, Bool.not_not]
      congr 1
      exact ih (by
        unfold impl_Fix_62.f
        rw [if_pos (by rfl), anyO_some (q := fun f => !fixB f)]
        intro x
        unfold impl_fixesOk_1.f
        rw [fix_i, Option.bind_some])
  rw [in_i, Option.bind_some, ha, Option.bind_some, hv]
  unfold fixesB
  cases (decide (n ≤ (l.length : Int)) && decide ((l.length : Int) ≤ 12)) <;> cases l.all fixB <;> rfl
/-- How far a fix is missed at a place. -/
def msOf (x y : Int) (f : S32) : Int := if (x - f.f0) * (x - f.f0) + (y - f.f1) * (y - f.f1) - f.f2 < 0 then -((x - f.f0) * (x - f.f0) + (y - f.f1) * (y - f.f1) - f.f2) else (x - f.f0) * (x - f.f0) + (y - f.f1) * (y - f.f1) - f.f2
theorem ms_both (x y : Int) (f : S32) (hx : -60 ≤ x ∧ x ≤ 60) (hy : -60 ≤ y ∧ y ≤ 60) (hf : fixB f = true) : (0 ≤ msOf x y f ∧ msOf x y f ≤ 100000000) ∧ (spec_Misfit.f x y f.f0 f.f1 f.f2).bind spec_l1Abs.f = some (msOf x y f) ∧ (impl_misfit.f x y f.f0 f.f1 f.f2).bind impl_size.f = some (msOf x y f) := by
  obtain ⟨h0, h1, h2⟩ := (fixB_iff f).1 hf
  have s1 := sq_le (x := x - f.f0) (A := 1060) (by omega) (by omega)
  have s2 := sq_le (x := y - f.f1) (A := 1060) (by omega) (by omega)
  have n1 := sq_nonneg (x - f.f0)
  have n2 := sq_nonneg (y - f.f1)
  have m : wrap64 (wrap64 (wrap64 (wrap64 (x - f.f0) * wrap64 (x - f.f0)) + wrap64 (wrap64 (y - f.f1) * wrap64 (y - f.f1))) - f.f2) = (x - f.f0) * (x - f.f0) + (y - f.f1) * (y - f.f1) - f.f2 := by
    rw [w64 (a := x - f.f0) (by omega) (by omega), w64 (a := y - f.f1) (by omega) (by omega), w64 (a := (x - f.f0) * (x - f.f0)) (by omega) (by omega), w64 (a := (y - f.f1) * (y - f.f1)) (by omega) (by omega), w64 (a := (x - f.f0) * (x - f.f0) + (y - f.f1) * (y - f.f1)) (by omega) (by omega), w64 (by omega) (by omega)]
  have pl : spec_l11Place.f x y = some true := by
    simp only [spec_l11Place.f, in_s, Option.bind_some, ites]
    rw [decide_eq_true (show -2000 ≤ x by omega), decide_eq_true (show x ≤ 2000 by omega), decide_eq_true (show -2000 ≤ y by omega), decide_eq_true (show y ≤ 2000 by omega)]; rfl
  refine ⟨?_, ?_, ?_⟩
  · unfold msOf
    generalize (x - f.f0) * (x - f.f0) = p at s1 n1
    generalize (y - f.f1) * (y - f.f1) = q at s2 n2
    split <;> omega
  · unfold spec_Misfit.f
    rw [pl, Option.bind_some, if_pos rfl, fix_s, hf, Option.bind_some, if_pos rfl, m, Option.bind_some]
    unfold spec_l1Abs.f msOf
    generalize (x - f.f0) * (x - f.f0) = p at s1 n1
    generalize (y - f.f1) * (y - f.f1) = q at s2 n2
    rw [w64 (a := -(p + q - f.f2)) (by omega) (by omega)]
    split <;> rfl
  · unfold impl_misfit.f
    rw [m, Option.bind_some]
    unfold impl_size.f msOf mx
    generalize (x - f.f0) * (x - f.f0) = p at s1 n1
    generalize (y - f.f1) * (y - f.f1) = q at s2 n2
    rw [w64 (a := -(p + q - f.f2)) (by omega) (by omega)]
    by_cases c : p + q - f.f2 < 0
    · rw [if_pos c, if_pos (by omega)]
    · rw [if_neg c, if_neg (by omega)]
def totOf (x y : Int) : List S32 → Int
  | [] => 0
  | f :: fs => msOf x y f + totOf x y fs
theorem tot_in (x y : Int) (hx : -60 ≤ x ∧ x ≤ 60) (hy : -60 ≤ y ∧ y ≤ 60) : ∀ l : List S32, l.all fixB = true → 0 ≤ totOf x y l ∧ totOf x y l ≤ 100000000 * l.length
  | [], _ => by unfold totOf; simp
  | f :: fs, h => by
    rw [List.all_cons, Bool.and_eq_true] at h
    have a := (ms_both x y f hx hy h.1).1
    have b := tot_in x y hx hy fs h.2
    unfold totOf
    rw [List.length_cons]
    omega
theorem drop_all {l : List S32} {i : Nat} (h : l.all fixB = true) : (l.drop i).all fixB = true := by
  rw [List.all_eq_true] at h ⊢
  exact fun x hx => h x (List.mem_of_mem_drop hx)
/-- The reference stops a sum once it is no less than the least. -/
theorem sum_s (l : List S32) (x y stop : Int) (hx : -60 ≤ x ∧ x ≤ 60) (hy : -60 ≤ y ∧ y ≤ 60) (ha : l.all fixB = true) (hl : l.length ≤ 12) : ∀ (d i : Nat) (s : Int), l.length - i = d → i ≤ l.length → 0 ≤ s → s ≤ 100000000 * i → ∃ t, Ev (fun k => spec_l11Sum.l0 k l stop s (i : Int) x y) t ∧ (stop < 0 → t = s + totOf x y (l.drop i)) ∧ (0 ≤ stop → (t < stop ↔ s + totOf x y (l.drop i) < stop) ∧ (t < stop → t = s + totOf x y (l.drop i))) := by
  intro d
  induction d with
  | zero =>
    intro i s hd hi h0 h1
    obtain rfl : i = l.length := by omega
    refine ⟨s, ?_, ?_, ?_⟩
    · refine ev_step (G := fun k => spec_l11Sum.j1 k l stop s (l.length : Int) false x y) (ev_now fun k => rfl) fun k => ?_
      simp only [spec_l11Sum.l0]
      rw [if_neg (by omega)]
    · intro _; rw [List.drop_length]; unfold totOf; omega
    · intro _; rw [List.drop_length]; unfold totOf
      exact ⟨by rw [Int.add_zero], fun _ => by omega⟩
  | succ d ih =>
    intro i s hd hi h0 h1
    have hlt : i < l.length := by omega
    have hf : fixB l[i] = true := (List.all_eq_true.1 ha) _ (List.getElem_mem hlt)
    obtain ⟨hb, hs, _⟩ := ms_both x y l[i] hx hy hf
    have td := (tot_in x y hx hy (l.drop (i + 1)) (drop_all ha)).1
    have hd' : totOf x y (l.drop i) = msOf x y l[i] + totOf x y (l.drop (i + 1)) := by
      rw [List.drop_eq_getElem_cons hlt]; rfl
    by_cases hc : stop < 0 ∨ s < stop
    · obtain ⟨t, ht, t1, t2⟩ := ih (i + 1) (s + msOf x y l[i]) (by omega) (by omega) (by omega) (by omega)
      have go : Ev (fun k => spec_l11Sum.l0 k l stop s (i : Int) x y) t := by
        refine ev_step (G := fun k => spec_l11Sum.j1 k l stop s (i : Int) true x y) ?_ fun k => ?_
        · refine ev_step ht fun k => ?_
          obtain ⟨u, hu1, hu2⟩ := Option.bind_eq_some_iff.1 hs
          simp only [spec_l11Sum.j1, if_true]
          rw [if_pos (by omega), if_pos (by omega), rdf l i hlt, hu1, Option.bind_some, hu2, Option.bind_some, w64 (a := s + msOf x y l[i]) (by omega) (by omega), w64 (a := (i : Int) + 1) (by omega) (by omega)]; rfl
        · simp only [spec_l11Sum.l0]
          rw [if_pos (by omega)]
          by_cases h : stop < 0
          · rw [if_pos h]
          · rw [if_neg h, decide_eq_true (by omega)]
      refine ⟨t, go, fun h => by rw [hd', t1 h]; omega, fun h => ?_⟩
      obtain ⟨g1, g2⟩ := t2 h
      rw [hd']
      exact ⟨by rw [g1, Int.add_assoc], fun q => by rw [g2 q]; omega⟩
    · refine ⟨s, ?_, fun h => absurd (.inl h) hc, fun h => ⟨⟨fun g => absurd (.inr g) hc, fun g => by omega⟩, fun g => absurd (.inr g) hc⟩⟩
      refine ev_step (G := fun k => spec_l11Sum.j1 k l stop s (i : Int) false x y) (ev_now fun k => rfl) fun k => ?_
      simp only [spec_l11Sum.l0]
      rw [if_pos (by omega), if_neg (by omega), decide_eq_false (by omega)]
theorem sum_i (l : List S32) (x y least bx by_ : Int) (hx : -60 ≤ x ∧ x ≤ 60) (hy : -60 ≤ y ∧ y ≤ 60) (ha : l.all fixB = true) (hl : l.length ≤ 12) (r : Int × Int × Int) (h1 : least < 0 ∨ totOf x y l < least → Ev (fun k => impl_locate.l1 k l (totOf x y l) x (wrap64 (y + 1)) x y) r) (h2 : ¬ (least < 0 ∨ totOf x y l < least) → Ev (fun k => impl_locate.l1 k l least x (wrap64 (y + 1)) bx by_) r) : ∀ (d i : Nat) (s : Int), l.length - i = d → i ≤ l.length → 0 ≤ s → s ≤ 100000000 * i → s + totOf x y (l.drop i) = totOf x y l → Ev (fun k => impl_locate.l2 k l least x y s l (l.length : Int) (i : Int) bx by_) r := by
  intro d
  induction d with
  | zero =>
    intro i s hd hi h0 hb ht
    obtain rfl : i = l.length := by omega
    have hz : totOf x y ([] : List S32) = 0 := rfl
    have hs : s = totOf x y l := by rw [List.drop_length, hz] at ht; omega
    subst hs
    by_cases hc : least < 0 ∨ totOf x y l < least
    · refine ev_step (h1 hc) fun k => ?_
      simp only [impl_locate.l2]
      rw [if_neg (by omega)]
      by_cases h : least < 0
      · rw [if_pos h]
      · rw [if_neg h, if_pos (by omega)]
    · refine ev_step (h2 hc) fun k => ?_
      simp only [impl_locate.l2]
      rw [if_neg (by omega), if_neg (by omega), if_neg (by omega)]
  | succ d ih =>
    intro i s hd hi h0 hb ht
    have hlt : i < l.length := by omega
    have hf : fixB l[i] = true := (List.all_eq_true.1 ha) _ (List.getElem_mem hlt)
    obtain ⟨hm, _, hs⟩ := ms_both x y l[i] hx hy hf
    have hd' : totOf x y (l.drop i) = msOf x y l[i] + totOf x y (l.drop (i + 1)) := by
      rw [List.drop_eq_getElem_cons hlt]; rfl
    refine ev_step (ih (i + 1) (s + msOf x y l[i]) (by omega) (by omega) (by omega) (by omega) (by omega)) fun k => ?_
    obtain ⟨u, hu1, hu2⟩ := Option.bind_eq_some_iff.1 hs
    simp only [impl_locate.l2]
    rw [if_pos (by omega), if_pos (by omega), if_pos (by omega), rdf l i hlt, hu1, Option.bind_some, hu2, Option.bind_some, w64 (a := s + msOf x y l[i]) (by omega) (by omega), w64 (a := (i : Int) + 1) (by omega) (by omega)]; rfl
/-- What the reference makes of the best place. -/
def lastOf (a : Int) (r : Int × Int × Int) : Int × Int × Int × Bool := if r.2.2 > a then (0, 0, 0, false) else (r.1, r.2.1, r.2.2, true)
theorem grid (l : List S32) (a : Int) (ha : l.all fixB = true) (hl : l.length ≤ 12) : ∀ (d : Nat) (x : Int), -60 ≤ x → x ≤ 61 → (61 - x).toNat = d → ∀ least bx by_ : Int, ∃ r : Int × Int × Int, Ev (fun k => impl_locate.l0 k l least x bx by_) r ∧ Ev (fun k => spec_Locate.l0 k l a least x bx by_) (lastOf a r) := by
  intro d
  induction d with
  | zero =>
    intro x h0 h1 hd least bx by_
    obtain rfl : x = 61 := by omega
    refine ⟨(bx, by_, least), ev_now fun k => ?_, ev_now fun k => ?_⟩
    · simp only [impl_locate.l0]; rw [if_neg (by omega)]
    · simp only [spec_Locate.l0]; rw [if_neg (by omega)]
      unfold lastOf
      by_cases h : least > a
      · rw [if_pos h, if_pos h]
      · rw [if_neg h, if_neg h]
  | succ d ih =>
    intro x h0 h1 hd least bx by_
    have next : ∀ least bx by_ : Int, ∃ r : Int × Int × Int, Ev (fun k => impl_locate.l0 k l least (wrap64 (x + 1)) bx by_) r ∧ Ev (fun k => spec_Locate.l0 k l a least (wrap64 (x + 1)) bx by_) (lastOf a r) := by
      rw [w64 (a := x + 1) (by omega) (by omega)]
      exact ih (x + 1) (by omega) (by omega) (by omega)
    have row : ∀ (e : Nat) (y : Int), -60 ≤ y → y ≤ 61 → (61 - y).toNat = e → ∀ least bx by_ : Int, ∃ r : Int × Int × Int, Ev (fun k => impl_locate.l1 k l least x y bx by_) r ∧ Ev (fun k => spec_Locate.l1 k l a least x y bx by_) (lastOf a r) := by
      intro e
      induction e with
      | zero =>
        intro y g0 g1 ge least bx by_
        obtain rfl : y = 61 := by omega
        obtain ⟨r, r1, r2⟩ := next least bx by_
        refine ⟨r, ev_step r1 fun k => ?_, ev_step r2 fun k => ?_⟩
        · simp only [impl_locate.l1]; rw [if_neg (by omega)]
        · simp only [spec_Locate.l1]; rw [if_neg (by omega)]
      | succ e ihe =>
        intro y g0 g1 ge least bx by_
        have nexty : ∀ least bx by_ : Int, ∃ r : Int × Int × Int, Ev (fun k => impl_locate.l1 k l least x (wrap64 (y + 1)) bx by_) r ∧ Ev (fun k => spec_Locate.l1 k l a least x (wrap64 (y + 1)) bx by_) (lastOf a r) := by
          rw [w64 (a := y + 1) (by omega) (by omega)]
          exact ihe (y + 1) (by omega) (by omega) (by omega)
        obtain ⟨t, ht, t1, t2⟩ := sum_s l x y least ⟨h0, by omega⟩ ⟨g0, by omega⟩ ha hl l.length 0 0 (by omega) (by omega) (by omega) (by omega)
        rw [List.drop_zero, Int.zero_add] at t1 t2
        have hsum : Ev (fun k => spec_l11Sum.f k l x y least) t := ht
        by_cases hc : least < 0 ∨ totOf x y l < least
        · obtain ⟨r, r1, r2⟩ := nexty (totOf x y l) x y
          have et : t = totOf x y l := by
            by_cases h : least < 0
            · exact t1 h
            · obtain ⟨q1, q2⟩ := t2 (by omega)
              exact q2 (q1.2 (by omega))
          refine ⟨r, ?_, ?_⟩
          · refine ev_step (sum_i l x y least bx by_ ⟨h0, by omega⟩ ⟨g0, by omega⟩ ha hl r (fun _ => r1) (fun h => absurd hc h) l.length 0 0 (by omega) (by omega) (by omega) (by omega) (by rw [List.drop_zero]; omega)) fun k => ?_
            simp only [impl_locate.l1]; rw [if_pos (by omega)]; rfl
          · subst et
            refine ev_step (ev_bind hsum (G := fun k t123 => (if least < 0 then (spec_Locate.l1 k l a t123 x (wrap64 (y + 1)) x y) else (if t123 < least then (spec_Locate.l1 k l a t123 x (wrap64 (y + 1)) x y) else (spec_Locate.l1 k l a least x (wrap64 (y + 1)) bx by_)))) (ev_cong r2 fun k => ?_)) fun k => ?_
            · by_cases h : least < 0
              · rw [if_pos h]
              · rw [if_neg h, if_pos (by omega)]
            · simp only [spec_Locate.l1]; rw [if_pos (by omega)]
        · obtain ⟨r, r1, r2⟩ := nexty least bx by_
          obtain ⟨q1, q2⟩ := t2 (by omega)
          refine ⟨r, ?_, ?_⟩
          · refine ev_step (sum_i l x y least bx by_ ⟨h0, by omega⟩ ⟨g0, by omega⟩ ha hl r (fun h => absurd h hc) (fun _ => r1) l.length 0 0 (by omega) (by omega) (by omega) (by omega) (by rw [List.drop_zero]; omega)) fun k => ?_
            simp only [impl_locate.l1]; rw [if_pos (by omega)]; rfl
          · refine ev_step (ev_bind hsum (G := fun k t123 => (if least < 0 then (spec_Locate.l1 k l a t123 x (wrap64 (y + 1)) x y) else (if t123 < least then (spec_Locate.l1 k l a t123 x (wrap64 (y + 1)) x y) else (spec_Locate.l1 k l a least x (wrap64 (y + 1)) bx by_)))) (ev_cong r2 fun k => ?_)) fun k => ?_
            · rw [if_neg (by omega), if_neg (fun g => by have := q1.1 g; omega)]
            · simp only [spec_Locate.l1]; rw [if_pos (by omega)]
    obtain ⟨r, r1, r2⟩ := row 121 (-60) (by omega) (by omega) (by omega) least bx by_
    refine ⟨r, ev_step r1 fun k => ?_, ev_step r2 fun k => ?_⟩
    · simp only [impl_locate.l0]; rw [if_pos (by omega)]
    · simp only [spec_Locate.l0]; rw [if_pos (by omega)]
theorem concat (a b : List S32) (h : a.length + b.length ≤ 100) : Ev (fun k => impl_Fix_58.f k [a, b]) (a ++ b) := by
  refine ⟨10, fun k hk => ?_⟩
  obtain ⟨k, rfl⟩ : ∃ m, k = m + 6 := ⟨k - 6, by omega⟩
  have r0 : rd_L3 [a, b] 0 = a := rfl
  have r1 : rd_L3 [a, b] 1 = b := rfl
  have w0 : wrap64 (0 + (a.length : Int)) = (a.length : Int) := by rw [w64 (by omega) (by omega), Int.zero_add]
  have w1 : wrap64 ((a.length : Int) + (b.length : Int)) = (a.length : Int) + (b.length : Int) := w64 (by omega) (by omega)
  have u1 : wrap64 ((0 : Int) + 1) = 1 := w64 (by omega) (by omega)
  have u2 : wrap64 ((1 : Int) + 1) = 2 := w64 (by omega) (by omega)
  have hl : (([a, b] : List (List S32)).length : Int) = 2 := rfl
  have hg : impl_Fix_66.f ([] : List S32) ((a.length : Int) + (b.length : Int)) = some [] := by
    unfold impl_Fix_66.f
    rw [if_pos (show ([] : List S32).length = 0 from rfl), if_pos (by omega), if_pos (by omega)]
  have c0 : ¬ ((a.length : Int) < 0) := by omega
  have c1 : ¬ ((a.length : Int) + (b.length : Int) < 0) := by omega
  have d0 : ([] : List S32).length + a.length < 5864062014805 := by rw [List.length_nil]; omega
  have d1 : a.length + b.length < 5864062014805 := by omega
  show impl_Fix_58.f (k + 6) [a, b] = _
  unfold impl_Fix_58.f
  rw [hl]
  simp only [impl_Fix_58.l0, hl, r0, w0, u1, if_neg c0]
  rw [if_pos (by omega), if_pos (by omega), if_pos (by omega), if_pos (by omega), if_pos (by omega), if_pos (by omega)]
  simp only [r1, w1, u2, if_neg c1, hg, Option.bind_some]
  rw [if_neg (by omega)]
  simp only [impl_Fix_58.l1, hl, r0, u1, List.nil_append]
  rw [if_pos (by omega), if_pos (by omega), if_pos (by omega), if_pos d0, if_pos (by omega), if_pos (by omega), if_pos (by omega), r1, if_pos d1, u2, if_neg (by omega)]
theorem rest_good (l : List S32) (i : Nat) (hi : i < l.length) (ha : l.all fixB = true) : (l.take i ++ l.drop (i + 1)).all fixB = true ∧ (l.take i ++ l.drop (i + 1)).length = l.length - 1 := by
  refine ⟨?_, by rw [List.length_append, List.length_take, List.length_drop]; omega⟩
  rw [List.all_eq_true] at *
  intro x hx
  rcases List.mem_append.1 hx with h | h
  · exact ha x (List.mem_of_mem_take h)
  · exact ha x (List.mem_of_mem_drop h)
theorem locate_good (l : List S32) (a : Int) (ha : l.all fixB = true) (h3 : 3 ≤ l.length) (h12 : l.length ≤ 12) : ∃ r : Int × Int × Int, Ev (fun k => impl_locate.f k l) r ∧ Ev (fun k => spec_Locate.f k l a) (lastOf a r) := by
  obtain ⟨r, r1, r2⟩ := grid l a ha h12 121 (-60) (by omega) (by omega) (by omega) (-1) 0 0
  refine ⟨r, r1, ?_⟩
  have hs := fixes_s l 3 (by omega)
  have hb : fixesB l 3 = true := by
    unfold fixesB
    rw [ha, decide_eq_true (by omega), decide_eq_true (by omega)]; rfl
  rw [hb] at hs
  unfold spec_Locate.f
  exact ev_bind (F := fun k => spec_l11Fixes.f k l 3) (G := fun k t => if t = true then (spec_Locate.l0 k l a (-1) (-60) 0 0) else (some (0, 0, 0, false))) hs r2
theorem leave_l (l : List S32) (a : Int) (ha : l.all fixB = true) (h4 : 4 ≤ l.length) (h12 : l.length ≤ 12) : ∀ (d i : Nat), l.length - i = d → i ≤ l.length → ∃ r : Int × Bool, Ev (fun k => spec_LeaveOut.l0 k l a (i : Int)) r ∧ Ev (fun k => impl_LeaveOut.l0 k l a (l.length : Int) (i : Int)) r := by
  intro d
  induction d with
  | zero =>
    intro i hd hi
    refine ⟨(-2, false), ev_now fun k => ?_, ev_now fun k => ?_⟩
    · simp only [spec_LeaveOut.l0]; rw [if_neg (by omega)]
    · simp only [impl_LeaveOut.l0]; rw [if_neg (by omega)]
  | succ d ih =>
    intro i hd hi
    have hlt : i < l.length := by omega
    obtain ⟨g1, g2⟩ := rest_good l i hlt ha
    obtain ⟨p, p1, p2⟩ := locate_good (l.take i ++ l.drop (i + 1)) a g1 (by omega) (by omega)
    have hc := concat (l.take i) (l.drop (i + 1)) (by rw [List.length_take, List.length_drop]; omega)
    have w1 : wrap64 ((i : Int) + 1) = ((i + 1 : Nat) : Int) := by rw [w64 (by omega) (by omega)]; omega
    have lt : (l.take i).length = i := by rw [List.length_take]; omega
    have ld : (l.drop (i + 1)).length = l.length - (i + 1) := List.length_drop
    obtain ⟨q, q1, q2⟩ := ih (i + 1) (by omega) (by omega)
    have unS : ∀ k, spec_LeaveOut.l0 (k + 1) l a (i : Int) = (spec_Locate.f k (l.take i ++ l.drop (i + 1)) a).bind fun bt212 => (if bt212.2.2.2 = true then (some ((i : Int), true)) else (spec_LeaveOut.l0 k l a ((i + 1 : Nat) : Int))) := by
      intro k
      simp only [spec_LeaveOut.l0, Option.bind_some, List.nil_append, List.length_nil, w1, Int.toNat_natCast, lt, ld]
      rw [if_pos (by omega), if_pos (by omega), if_pos (by omega), if_pos (by omega), if_pos (by omega), if_pos (by omega), if_pos (by omega)]
    have unI : ∀ k, impl_LeaveOut.l0 (k + 1) l a (l.length : Int) (i : Int) = (impl_Fix_58.f k [l.take i, l.drop (i + 1)]).bind fun t159 => ((impl_locate.f k t159).bind fun bt162 => (if bt162.2.2 ≤ a then (some ((i : Int), true)) else (impl_LeaveOut.l0 k l a (l.length : Int) ((i + 1 : Nat) : Int)))) := by
      intro k
      simp only [impl_LeaveOut.l0, w1, Int.toNat_natCast]
      rw [if_pos (by omega), if_pos (by omega), if_pos (by omega), if_pos (by omega), if_pos (by omega)]
    by_cases h : p.2.2 ≤ a
    · have hl : lastOf a p = (p.1, p.2.1, p.2.2, true) := by unfold lastOf; rw [if_neg (by omega)]
      rw [hl] at p2
      refine ⟨((i : Int), true), ev_step (ev_bind (G := fun k bt212 => (if bt212.2.2.2 = true then (some ((i : Int), true)) else (spec_LeaveOut.l0 k l a ((i + 1 : Nat) : Int)))) p2 (by simp only [if_true]; exact ev_const rfl)) unS, ev_step (ev_bind (G := fun k t159 => ((impl_locate.f k t159).bind fun bt162 => (if bt162.2.2 ≤ a then (some ((i : Int), true)) else (impl_LeaveOut.l0 k l a (l.length : Int) ((i + 1 : Nat) : Int))))) hc (ev_bind (G := fun k bt162 => (if bt162.2.2 ≤ a then (some ((i : Int), true)) else (impl_LeaveOut.l0 k l a (l.length : Int) ((i + 1 : Nat) : Int)))) p1 ?_)) unI⟩
      simp only [if_pos h]; exact ev_const rfl
    · have hl : lastOf a p = (0, 0, 0, false) := by unfold lastOf; rw [if_pos (by omega)]
      rw [hl] at p2
      refine ⟨q, ev_step (ev_bind (G := fun k bt212 => (if bt212.2.2.2 = true then (some ((i : Int), true)) else (spec_LeaveOut.l0 k l a ((i + 1 : Nat) : Int)))) p2 ?_) unS, ev_step (ev_bind (G := fun k t159 => ((impl_locate.f k t159).bind fun bt162 => (if bt162.2.2 ≤ a then (some ((i : Int), true)) else (impl_LeaveOut.l0 k l a (l.length : Int) ((i + 1 : Nat) : Int))))) hc (ev_bind (G := fun k bt162 => (if bt162.2.2 ≤ a then (some ((i : Int), true)) else (impl_LeaveOut.l0 k l a (l.length : Int) ((i + 1 : Nat) : Int)))) p1 ?_)) unI⟩
      · simp only [Bool.false_eq_true, if_false]; exact q1
      · simp only [if_neg h]; exact q2
theorem leaveOut (l : List S32) (a : Int) (hn : l.length ≤ 4611686018427387904) : ∃ r, Ev (fun k => spec_LeaveOut.f k l a) r ∧ Ev (fun k => impl_LeaveOut.f k l a) r := by
  have hs := fixes_s l 4 hn
  have hi := fixes_i l 4
  unfold spec_LeaveOut.f impl_LeaveOut.f
  cases hb : fixesB l 4
  · rw [hb] at hs hi
    refine ⟨(-2, false), ev_bind (F := fun k => spec_l11Fixes.f k l 4) hs ?_, ?_⟩
    · simp only [Bool.false_eq_true, if_false]; exact ev_const rfl
    · rw [hi]; exact ev_const rfl
  · rw [hb] at hs hi
    have hg : l.all fixB = true ∧ 4 ≤ l.length ∧ l.length ≤ 12 := by
      unfold fixesB at hb
      rw [Bool.and_eq_true, Bool.and_eq_true, decide_eq_true_eq, decide_eq_true_eq] at hb
      exact ⟨hb.1, by omega, by omega⟩
    obtain ⟨p, p1, p2⟩ := locate_good l a hg.1 (by omega) hg.2.2
    obtain ⟨q, q1, q2⟩ := leave_l l a hg.1 hg.2.1 hg.2.2 l.length 0 (by omega) (by omega)
    rw [hi]
    simp only [Option.bind_some, if_true]
    by_cases h : p.2.2 ≤ a
    · have hl : lastOf a p = (p.1, p.2.1, p.2.2, true) := by unfold lastOf; rw [if_neg (by omega)]
      rw [hl] at p2
      refine ⟨(-1, true), ev_bind (F := fun k => spec_l11Fixes.f k l 4) hs ?_, ev_bind (G := fun k bt142 => (if bt142.2.2 ≤ a then (some ((-1), true)) else (impl_LeaveOut.l0 k l a (l.length : Int) 0))) p1 ?_⟩
      · simp only [if_true]
        exact ev_bind (G := fun k bt190 => (if bt190.2.2.2 = true then (some ((-1), true)) else (spec_LeaveOut.l0 k l a 0))) p2 (by simp only [if_true]; exact ev_const rfl)
      · simp only [if_pos h]; exact ev_const rfl
    · have hl : lastOf a p = (0, 0, 0, false) := by unfold lastOf; rw [if_pos (by omega)]
      rw [hl] at p2
      refine ⟨q, ev_bind (F := fun k => spec_l11Fixes.f k l 4) hs ?_, ev_bind (G := fun k bt142 => (if bt142.2.2 ≤ a then (some ((-1), true)) else (impl_LeaveOut.l0 k l a (l.length : Int) 0))) p1 ?_⟩
      · simp only [if_true]
        refine ev_bind (G := fun k bt190 => (if bt190.2.2.2 = true then (some ((-1), true)) else (spec_LeaveOut.l0 k l a 0))) p2 ?_
        simp only [Bool.false_eq_true, if_false]; exact q1
      · simp only [if_neg h]; exact q2
theorem FnExactLeaveOut : laws_FnExactLeaveOut.Pure := by
  intro l a ⟨hl, _⟩ _
  have hl' : l.length ≤ 9223372036854775807 := hl
  by_cases h : (1048576 : Int) - (l.length : Int) < 0
  · refine ⟨0, ?_⟩
    unfold laws_FnExactLeaveOut.f laws_szFixS.f
    rw [w64 (by omega) (by omega), if_pos h]; rfl
  · have lm : (l.map conv).length = l.length := List.length_map _
    obtain ⟨r, ⟨K1, hs⟩, K2, hi⟩ := leaveOut (l.map conv) a (by omega)
    refine ⟨K1 + K2 + l.length + 10, ?_⟩
    have ht := fun k hk => laws_toFixS_eq l k (by omega) hk
    have he := fun k hk => laws_eqFixS_eq (l.map conv) k (by omega) hk
    have j0 : laws_FnExactLeaveOut.j0 (K1 + K2 + l.length + 10) l (l.map conv) false = some true := by
      simp only [laws_FnExactLeaveOut.j0, Bool.false_eq_true, if_false, ht _ (show l.length < K1 + K2 + l.length + 9 by omega), Option.bind_some, he _ (show (l.map conv).length < K1 + K2 + l.length + 9 by omega), if_true]
    unfold laws_FnExactLeaveOut.f laws_szFixS.f
    rw [w64 (by omega) (by omega), if_neg h, Option.bind_some, if_neg h]
    simp only [ht _ (show l.length < K1 + K2 + l.length + 10 by omega), Option.bind_some, hs _ (show K1 ≤ K1 + K2 + l.length + 10 by omega), hi _ (show K2 ≤ K1 + K2 + l.length + 10 by omega), if_true, bne_self_eq_false, j0]
end Go.Proofs.Ytfjpmakmgcngiaa.Pure.FnExactLeaveOut
namespace Go.Proofs.Ytfjpmakmgcngiaa.Pure
theorem FnExactLeaveOut : Go.Proofs.Ytfjpmakmgcngiaa.PFnExactLeaveOut.laws_FnExactLeaveOut.Pure := FnExactLeaveOut.FnExactLeaveOut
end Go.Proofs.Ytfjpmakmgcngiaa.Pure
