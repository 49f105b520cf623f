/- Of three drawn lanes the value is never outside what two of them say, a lane far from the others is Out after Hold rounds, and leaves the value to them (FnVoted returns true for every code); no condition. -/
import Derived.Test.YtmhddkjiaiifmaaPFnVotedx8
import Derived.Test.YtmhddkjiaiifmaaNum
namespace Go.Proofs.Ytmhddkjiaiifmaa.Pure.FnVoted
open Go.RowKit Go.Proofs.Ytmhddkjiaiifmaa.PFnVoted Go.Proofs.YtmhddkjiaiifmaaW.PrintWords Go.Proofs.YtmhddkjiaiifmaaW.PrintLast Go.Proofs.YtmhddkjiaiifmaaW.PrintMore Go.Proofs.Ytmhddkjiaiifmaa.Num
set_option linter.unusedVariables false
set_option linter.unusedSimpArgs false
theorem in_i (a b c : Int) : impl_in.f a b c = some (decide (b ≤ a) && decide (a ≤ c)) := by
  unfold impl_in.f
  by_cases h : a ≥ b
  · rw [if_pos h, decide_eq_true (show b ≤ a from h)]; rfl
  · rw [if_neg h, decide_eq_false (show ¬ b ≤ a from h)]; rfl
/-- All numbers are in bounds. -/
def All (xs : List Int) (lo hi : Int) : Prop := ∀ j : Nat, j < xs.length → lo ≤ rd xs (j : Int) ∧ rd xs (j : Int) ≤ hi
/-- Each number is above the one ahead. -/
def Rise (xs : List Int) : Prop := ∀ j : Nat, 1 ≤ j → j < xs.length → rd xs ((j - 1 : Nat) : Int) < rd xs (j : Int)
theorem allIn_l0 (xs : List Int) (lo hi : Int) (hn : xs.length ≤ 4611686018427387904) : ∀ (d k i : Nat), xs.length - i = d → i ≤ xs.length → d < k → ∃ b, impl_allIn.l0 k lo hi xs (xs.length : Int) (i : Int) = some b ∧ (b = true ↔ ∀ j : Nat, i ≤ j → j < xs.length → lo ≤ rd xs (j : Int) ∧ rd xs (j : Int) ≤ hi) := by
  intro d
  induction d with
  | zero =>
    intro k i hd hi' hk
    obtain ⟨k, rfl⟩ : ∃ m, k = m + 1 := ⟨k - 1, by omega⟩
    simp only [impl_allIn.l0]
    rw [if_neg (by omega)]
    exact ⟨true, rfl, by simp; intro j h1 h2; omega⟩
  | succ d ih =>
    intro k i hd hi' hk
    obtain ⟨k, rfl⟩ : ∃ m, k = m + 1 := ⟨k - 1, by omega⟩
    simp only [impl_allIn.l0, in_i, Option.bind_some]
    rw [if_pos (by omega), if_pos (by omega), if_pos (by omega), w64 (a := (i : Int) + 1) (by omega) (by omega), show (i : Int) + 1 = ((i + 1 : Nat) : Int) by omega, ← Bool.decide_and]
    by_cases h : lo ≤ rd xs (i : Int) ∧ rd xs (i : Int) ≤ hi
    · rw [decide_eq_true h, if_pos rfl]
      obtain ⟨b, h1, h2⟩ := ih k (i + 1) (by omega) (by omega) (by omega)
      refine ⟨b, h1, h2.trans ⟨fun g j hj hl => ?_, fun g j hj hl => g j (by omega) hl⟩⟩
      by_cases e : j = i
      · subst e; exact h
      · exact g j (by omega) hl
    · rw [decide_eq_false h, if_neg (by decide)]
      exact ⟨false, rfl, ⟨fun g => absurd g Bool.false_ne_true, fun g => absurd (g i (by omega) (by omega)) h⟩⟩
theorem allIn_i (xs : List Int) (lo hi : Int) (k : Nat) (hn : xs.length ≤ 4611686018427387904) (hk : xs.length < k) : ∃ b, impl_allIn.f k xs lo hi = some b ∧ (b = true ↔ All xs lo hi) := by
  obtain ⟨b, h1, h2⟩ := allIn_l0 xs lo hi hn xs.length k 0 (by omega) (by omega) hk
  exact ⟨b, h1, h2.trans ⟨fun g j hl => g j (by omega) hl, fun g j _ hl => g j hl⟩⟩
/-- From some count of rounds on it answers r. -/
def Ev {α : Type} (F : Nat → Option α) (r : α) : Prop := ∃ K, ∀ k, K ≤ k → F k = some r
theorem ev_step {α : Type} {F G : Nat → Option α} {r : α} (h : Ev G r) (e : ∀ k, F (k + 1) = G k) : Ev F r := by
  obtain ⟨K, h⟩ := h
  refine ⟨K + 1, fun k hk => ?_⟩
  obtain ⟨m, rfl⟩ : ∃ m, k = m + 1 := ⟨k - 1, by omega⟩
  rw [e m]; exact h m (by omega)
theorem ev_now {α : Type} {F : Nat → Option α} {r : α} (e : ∀ k, F (k + 1) = some r) : Ev F r :=
  ⟨1, fun k hk => by obtain ⟨m, rfl⟩ : ∃ m, k = m + 1 := ⟨k - 1, by omega⟩; exact e m⟩
theorem ev_const {α : Type} {o : Option α} {r : α} (e : o = some r) : Ev (fun _ => o) r := ⟨0, fun _ _ => e⟩
theorem ev_bind {α β : Type} {F : Nat → Option α} {G : Nat → α → Option β} {a : α} {r : β} (h : Ev F a) (g : Ev (fun k => G k a) r) : Ev (fun k => (F k).bind (G k)) r := by
  obtain ⟨K, h⟩ := h
  obtain ⟨L, g⟩ := g
  exact ⟨max K L, fun k hk => by show (F k).bind (G k) = _; rw [h k (by omega), Option.bind_some]; exact g k (by omega)⟩
theorem ev_cong {α : Type} {F G : Nat → Option α} {r : α} (h : Ev G r) (e : ∀ k, F k = G k) : Ev F r := by
  obtain ⟨K, h⟩ := h
  exact ⟨K, fun k hk => (e k).trans (h k hk)⟩
/-- What is heard from a lane on, in the lanes' order. -/
def raw (o : List Bool) (l : List Int) : Nat → Nat → List Int
  | 0, _ => []
  | d + 1, i => if rdOf false o (i : Int) = true then raw o l d (i + 1) else rd l (i : Int) :: raw o l d (i + 1)
theorem raw_len (o : List Bool) (l : List Int) : ∀ (d i : Nat), (raw o l d i).length ≤ d
  | 0, _ => Nat.le_refl _
  | d + 1, i => by
    have := raw_len o l d (i + 1)
    simp only [raw]
    split
    · omega
    · simp only [List.length_cons]; omega
def srt (x : List Int) : List Int := x.mergeSort fun a b => decide (a ≤ b)
theorem srt_len (x : List Int) : (srt x).length = x.length := List.length_mergeSort x
theorem srt_sorted (x : List Int) : (srt x).Pairwise (· ≤ ·) := by
  have := List.pairwise_mergeSort (le := fun a b : Int => decide (a ≤ b)) (fun a b c h1 h2 => by
    rw [decide_eq_true_eq] at *; omega) (fun a b => by
    rw [Bool.or_eq_true, decide_eq_true_eq, decide_eq_true_eq]; omega) x
  exact this.imp (fun h => of_decide_eq_true h)
theorem srt_uniq {x y : List Int} (h : y.Pairwise (· ≤ ·)) (hp : y.Perm x) : y = srt x :=
  List.Perm.eq_of_pairwise (le := fun a b : Int => a ≤ b) (fun a b _ _ h1 h2 => by omega) h (srt_sorted x) (hp.trans (List.mergeSort_perm x _).symm)
theorem heard_i (o : List Bool) (l : List Int) (hl : l.length = o.length) (hn : o.length ≤ 5) : ∀ (d i : Nat) (x : List Int), o.length - i = d → i ≤ o.length → x.length ≤ i → Ev (fun k => impl_heard.l0 k l x o (o.length : Int) (i : Int)) (srt (x ++ raw o l d i)) := by
  intro d
  induction d with
  | zero =>
    intro i x hd hi hx
    refine ev_now fun k => ?_
    simp only [impl_heard.l0, raw, List.append_nil, slices_Sort_int_int.f]
    rw [if_neg (by omega), if_pos (by omega)]
    rfl
  | succ d ih =>
    intro i x hd hi hx
    have w1 : wrap64 ((i : Int) + 1) = ((i + 1 : Nat) : Int) := by rw [w64 (by omega) (by omega)]; omega
    simp only [raw]
    by_cases h : rdOf false o (i : Int) = true
    · rw [if_pos h]
      refine ev_step (ih (i + 1) x (by omega) (by omega) (by omega)) fun k => ?_
      simp only [impl_heard.l0, w1]
      rw [if_pos (by omega), if_pos (by omega), if_pos (by omega), if_pos h]
    · rw [if_neg h]
      have := ih (i + 1) (x ++ [rd l (i : Int)]) (by omega) (by omega) (by simp; omega)
      rw [List.append_assoc, List.singleton_append] at this
      refine ev_step this fun k => ?_
      simp only [impl_heard.l0, w1]
      rw [if_pos (by omega), if_pos (by omega), if_pos (by omega), if_neg h, if_pos (by omega), if_pos (by omega)]
theorem floor_i {a b : Int} (hb : 1 ≤ b) (h1 : -4611686018427387904 ≤ a) (h2 : a ≤ 4611686018427387904) : impl_floorOver.f a b = some (a / b) := by
  have hf := floor_tdiv (a := a) hb
  have ht := tdiv_in (M := 4611686018427387904) hb h1 h2
  have w : wrap64 (a.tdiv b) = a.tdiv b := w64 (by omega) (by omega)
  have w' : wrap64 (a.tdiv b - 1) = a.tdiv b - 1 := w64 (by omega) (by omega)
  have hbn : decide (b < 0) = false := decide_eq_false (by omega)
  unfold impl_floorOver.f
  rw [if_neg (show ¬ b = 0 by omega), w, w', hbn]
  by_cases hm : a.tmod b = 0
  · rw [if_pos hm, hf.1 hm]
  · rw [if_neg hm]
    by_cases ha : a < 0
    · rw [decide_eq_true ha, if_pos (by decide), hf.2.2.1 hm ha]
    · rw [decide_eq_false ha, if_neg (by decide), hf.2.1 hm (by omega)]
theorem at_in (l : List Int) (hl : l.length ≤ 1048576) (hu : ∀ x ∈ l, (Lit.int .u8 x).wf = true) (i : Int) (h0 : 0 ≤ i) (h1 : i ≤ 1000000) : ∃ v, laws_at.f l i = some v ∧ 0 ≤ v ∧ v ≤ 255 := by
  unfold laws_at.f
  by_cases h : i < (l.length : Int)
  · rw [if_pos h, if_pos h0]
    have hi : i.toNat < l.length := by omega
    have hr : rd l i = l[i.toNat] := by
      show l.getD i.toNat 0 = _
      rw [List.getD_eq_getElem?_getD, List.getElem?_eq_getElem hi]; rfl
    have hb := wfu8 (hu _ (List.getElem_mem hi))
    rw [hr, w64 (by omega) (by omega)]
    exact ⟨_, rfl, hb.1, hb.2⟩
  · rw [if_neg h]
    refine ⟨_, rfl, ?_⟩
    rw [w64 (a := i * 7) (by omega) (by omega), w64 (by omega) (by omega), Int.tmod_eq_emod_of_nonneg (by omega)]
    omega
theorem big_f (l : List Int) (h : l.length ≤ 1048576) : laws_big.f l = some false := by
  unfold laws_big.f
  rw [decide_eq_false (by omega)]
theorem big_t (l : List Int) (h : ¬ l.length ≤ 1048576) : laws_big.f l = some true := by
  unfold laws_big.f
  rw [decide_eq_true (by omega)]
/-- Three lanes: the liar's, the next one's, the last one's. -/
def p3 {α : Type} (L : Nat) (a b c : α) : List α := match L with | 0 => [a, b, c] | 1 => [c, a, b] | _ => [b, c, a]
section
variable {α : Type} (L : Nat) (hL : L < 3) (a b c v z : α)
include hL
theorem p3_len : (p3 L a b c).length = 3 := by match L, hL with | 0, _ => rfl | 1, _ => rfl | 2, _ => rfl
theorem p3_same : [a, a, a] = p3 L a a a := by match L, hL with | 0, _ => rfl | 1, _ => rfl | 2, _ => rfl
theorem p3_set0 : (p3 L a b c).set (L : Int).toNat v = p3 L v b c := by match L, hL with | 0, _ => rfl | 1, _ => rfl | 2, _ => rfl
theorem p3_set1 : (p3 L a b c).set (((L + 1) % 3 : Nat) : Int).toNat v = p3 L a v c := by match L, hL with | 0, _ => rfl | 1, _ => rfl | 2, _ => rfl
theorem p3_get0 : (p3 L a b c).getD (L : Int).toNat z = a := by match L, hL with | 0, _ => rfl | 1, _ => rfl | 2, _ => rfl
theorem p3_get1 : (p3 L a b c).getD (((L + 1) % 3 : Nat) : Int).toNat z = b := by match L, hL with | 0, _ => rfl | 1, _ => rfl | 2, _ => rfl
theorem p3_get2 : (p3 L a b c).getD (((L + 2) % 3 : Nat) : Int).toNat z = c := by match L, hL with | 0, _ => rfl | 1, _ => rfl | 2, _ => rfl
omit hL in
theorem idx (L n : Nat) (hL : L < 3) (hn : n ≤ 2) : Int.tmod (wrap64 ((L : Int) + (n : Int))) 3 = (((L + n) % 3 : Nat) : Int) := by
  rw [w64 (by omega) (by omega), Int.tmod_eq_emod_of_nonneg (by omega)]; omega
end
theorem p3_perm (L : Nat) (hL : L < 3) (a b c : Int) : (p3 L a b c).Perm [a, b, c] := by
  match L, hL with
  | 0, _ => exact List.Perm.refl _
  | 1, _ => exact (List.Perm.swap a c [b]).trans ((List.Perm.swap b c []).cons a)
  | 2, _ => exact ((List.Perm.swap a c []).cons b).trans (List.Perm.swap a b [c])
theorem srt_p3 (L : Nat) (hL : L < 3) (a b c : Int) {x y z : Int} (hp : [x, y, z].Perm [a, b, c]) (h1 : x ≤ y) (h2 : y ≤ z) : srt (p3 L a b c) = [x, y, z] := by
  symm
  refine srt_uniq ?_ (hp.trans (p3_perm L hL a b c).symm)
  simp only [List.pairwise_cons, List.mem_cons, List.not_mem_nil, or_false, false_imp_iff, implies_true, List.Pairwise.nil, and_true, forall_eq_or_imp, forall_eq]
  omega
/-- The lanes that are heard where the liar is out. -/
theorem raw_out (L : Nat) (hL : L < 3) (a b c : Int) : (raw (p3 L true false false) (p3 L a b c) 3 0).Perm [b, c] := by
  match L, hL with
  | 0, _ => exact List.Perm.refl _
  | 1, _ => exact List.Perm.swap b c []
  | 2, _ => exact List.Perm.refl _
theorem raw_in3 (L : Nat) (hL : L < 3) (a b c : Int) : raw (p3 L false false false) (p3 L a b c) 3 0 = p3 L a b c := by
  match L, hL with
  | 0, _ => rfl
  | 1, _ => rfl
  | 2, _ => rfl
theorem all_p3 (L : Nat) (hL : L < 3) (a b c lo hi : Int) (ha : lo ≤ a ∧ a ≤ hi) (hb : lo ≤ b ∧ b ≤ hi) (hc : lo ≤ c ∧ c ≤ hi) : All (p3 L a b c) lo hi := by
  intro j hj
  rw [p3_len L hL] at hj
  match L, hL, j, hj with
  | 0, _, 0, _ => exact ha
  | 0, _, 1, _ => exact hb
  | 0, _, 2, _ => exact hc
  | 1, _, 0, _ => exact hc
  | 1, _, 1, _ => exact ha
  | 1, _, 2, _ => exact hb
  | 2, _, 0, _ => exact hb
  | 2, _, 1, _ => exact hc
  | 2, _, 2, _ => exact ha
theorem allIn_ev (xs : List Int) (lo hi : Int) (hn : xs.length ≤ 1000) (h : All xs lo hi) : Ev (fun k => impl_allIn.f k xs lo hi) true := by
  refine ⟨xs.length + 1, fun k hk => ?_⟩
  obtain ⟨b, e, g⟩ := allIn_i xs lo hi k (by omega) (by omega)
  show impl_allIn.f k xs lo hi = _
  rw [e, g.2 h]
section
variable (L : Nat) (hL : L < 3) (hold : Int) (h1 : 1 ≤ hold) (h5 : hold ≤ 5)
include hL h1 h5
theorem ok3 (p : List Bool) (hp : p.length = 3) (a b c : Int) (ha : 0 ≤ a ∧ a ≤ hold) (hb : 0 ≤ b ∧ b ≤ hold) (hc : 0 ≤ c ∧ c ≤ hold) : Ev (fun k => impl_VoterOk.f k 10 hold p (p3 L a b c)) true := by
  unfold impl_VoterOk.f
  simp only [in_i, Option.bind_some, p3_len L hL, hp]
  rw [decide_eq_true (by omega : (0 : Int) ≤ 10), decide_eq_true (by omega : (10 : Int) ≤ 1000), decide_eq_true (by omega : (1 : Int) ≤ hold), decide_eq_true (by omega : hold ≤ 20), decide_eq_true (by omega : (1 : Int) ≤ ((3 : Nat) : Int)), decide_eq_true (by omega : ((3 : Nat) : Int) ≤ 5)]
  simp only [Bool.and_self, if_true]
  exact ev_bind (F := fun k => impl_allIn.f k (p3 L a b c) 0 hold) (allIn_ev _ 0 hold (by rw [p3_len L hL]; omega) (all_p3 L hL a b c 0 hold ha hb hc)) (ev_const rfl)
theorem seen3 (p : List Bool) (hp : p.length = 3) (a b c : Int) (ha : 0 ≤ a ∧ a ≤ hold) (hb : 0 ≤ b ∧ b ≤ hold) (hc : 0 ≤ c ∧ c ≤ hold) (x y z : Int) (hx : -10000 ≤ x ∧ x ≤ 10000) (hy : -10000 ≤ y ∧ y ≤ 10000) (hz : -10000 ≤ z ∧ z ≤ 10000) : Ev (fun k => impl_seenOk.f k 10 hold p (p3 L a b c) (p3 L x y z)) true := by
  unfold impl_seenOk.f
  refine ev_bind (F := fun k => impl_VoterOk.f k 10 hold p (p3 L a b c)) (ok3 L hL hold h1 h5 p hp a b c ha hb hc) ?_
  simp only [if_true, p3_len L hL, hp]
  exact ev_bind (F := fun k => impl_allIn.f k (p3 L x y z) (-1000000) 1000000) (allIn_ev _ (-1000000) 1000000 (by rw [p3_len L hL]; omega) (all_p3 L hL x y z _ _ (by omega) (by omega) (by omega))) (ev_const rfl)
omit h1 h5 in
theorem heard3 (p : List Bool) (hp : p.length = 3) (od : List Int) (x y z : Int) : Ev (fun k => impl_heard.f k 10 hold p od (p3 L x y z)) (srt (raw p (p3 L x y z) 3 0)) := by
  have := heard_i p (p3 L x y z) (by rw [p3_len L hL, hp]) (by omega) 3 0 [] (by omega) (by omega) (by simp)
  exact this
omit hL h1 h5 in
theorem clone3 (o : List Bool) (od : List Int) (ho : o.length = 3) (hd : od.length = 3) : impl_cloneVoter.f 10 hold o od = some (10, hold, o, od) := by
  unfold impl_cloneVoter.f slices_Clone_bool_bool.f slices_Clone_int_int.f
  simp only [Option.bind_some, List.length_nil, List.nil_append]
  rw [if_pos (by omega), Option.bind_some, if_pos (by omega), Option.bind_some]
/-- How often a lane was odd, one round on. -/
def nx (hold a v m : Int) : Int := if mx (v - m) (-(v - m)) > 10 then mn (a + 1) hold else 0
omit hL in
theorem vstep (o : List Bool) (odd l : List Int) (m : Int) (hm : -10000 ≤ m ∧ m ≤ 10000) (i : Nat) (hi : i < 3) (oo : List Bool) (od : List Int) (hoo : oo.length = 3) (hod : od.length = 3) (hl : l.length = 3) (hf : rdOf false oo (i : Int) = false) (hv : -10000 ≤ rd l (i : Int) ∧ rd l (i : Int) ≤ 10000) (ha : 0 ≤ rd od (i : Int) ∧ rd od (i : Int) ≤ hold) (r : Int × Int × List Bool × List Int × Int × Int)
    (h : Ev (fun k => impl_Vote.l0 k l m 3 3 ((i + 1 : Nat) : Int) 10 hold o odd 10 hold (oo.set i (nx hold (rd od (i : Int)) (rd l (i : Int)) m == hold)) (od.set i (nx hold (rd od (i : Int)) (rd l (i : Int)) m))) r) : Ev (fun k => impl_Vote.l0 k l m 3 3 (i : Int) 10 hold o odd 10 hold oo od) r := by
  have w1 : wrap64 ((i : Int) + 1) = ((i + 1 : Nat) : Int) := by rw [w64 (by omega) (by omega)]; omega
  have w2 : wrap64 (rd l (i : Int) - m) = rd l (i : Int) - m := w64 (by omega) (by omega)
  have w3 : wrap64 (rd od (i : Int) + 1) = rd od (i : Int) + 1 := w64 (by omega) (by omega)
  have w4 : wrap64 (-(rd l (i : Int) - m)) = -(rd l (i : Int) - m) := w64 (by omega) (by omega)
  have hs : ∀ v, rd (od.set i v) (i : Int) = v := by
    intro v
    show (od.set i v).getD (i : Int).toNat 0 = v
    rw [Int.toNat_natCast, List.getD_eq_getElem?_getD, List.getElem?_set_self (by omega)]; rfl
  refine ev_step h fun k => ?_
  simp only [impl_Vote.l0, impl_size.f, w1, w2, w3, w4, Option.bind_some, Int.toNat_natCast, hf, hs]
  clear w1 w2 w3 w4 h hs
  rw [if_pos (by omega), if_pos (by omega), if_pos (by omega), if_neg (by decide), if_pos (by omega)]
  unfold nx
  by_cases c : mx (rd l (i : Int) - m) (-(rd l (i : Int) - m)) > 10
  · rw [if_pos c, if_pos (by omega)]; simp only [if_pos c]
  · rw [if_neg c, if_pos (by omega)]; simp only [if_neg c]
omit hL in
/-- A round of three lanes none of which is out. -/
theorem vote3 (a b c x y z m : Int) (ha : 0 ≤ a ∧ a ≤ hold) (hb : 0 ≤ b ∧ b ≤ hold) (hc : 0 ≤ c ∧ c ≤ hold) (hx : -10000 ≤ x ∧ x ≤ 10000) (hy : -10000 ≤ y ∧ y ≤ 10000) (hz : -10000 ≤ z ∧ z ≤ 10000) (hm : -10000 ≤ m ∧ m ≤ 10000) (lo hi : Int) (hs : srt [x, y, z] = [lo, m, hi]) :
    Ev (fun k => impl_Vote.f k 10 hold [false, false, false] [a, b, c] [x, y, z]) (10, hold, [nx hold a x m == hold, nx hold b y m == hold, nx hold c z m == hold], [nx hold a x m, nx hold b y m, nx hold c z m], m, 3) := by
  unfold impl_Vote.f
  rw [clone3 hold _ _ rfl rfl]
  simp only [Option.bind_some]
  refine ev_bind (F := fun k => impl_seenOk.f k 10 hold [false, false, false] [a, b, c] [x, y, z]) (seen3 0 (by omega) hold h1 h5 [false, false, false] rfl a b c ha hb hc x y z hx hy hz) ?_
  simp only [if_true]
  refine ev_bind (F := fun k => impl_heard.f k 10 hold [false, false, false] [a, b, c] [x, y, z]) (heard3 0 (by omega) hold [false, false, false] rfl [a, b, c] x y z) ?_
  have hr : raw [false, false, false] (p3 0 x y z) 3 0 = [x, y, z] := rfl
  have hv : impl_value.f [lo, m, hi] = some (m, 3) := by
    have a1 : wrap64 ((3 : Int) / 2) = 1 := by unfold wrap64; omega
    unfold impl_value.f
    rw [show (([lo, m, hi] : List Int).length : Int) = 3 from rfl, a1, if_neg (by decide), if_neg (by decide), if_neg (by decide), if_pos (by decide), if_pos (by decide), if_pos (by decide)]
    rfl
  simp only [hr, hs, hv, Option.bind_some, if_true]
  have k0 := vstep hold h1 h5 [false, false, false] [a, b, c] [x, y, z] m hm 0 (by omega) [false, false, false] [a, b, c] rfl rfl rfl rfl hx ha
  refine k0 _ ?_
  refine vstep hold h1 h5 [false, false, false] [a, b, c] [x, y, z] m hm 1 (by omega) [nx hold a x m == hold, false, false] [nx hold a x m, b, c] rfl rfl rfl rfl hy hb _ ?_
  refine vstep hold h1 h5 [false, false, false] [a, b, c] [x, y, z] m hm 2 (by omega) [nx hold a x m == hold, nx hold b y m == hold, false] [nx hold a x m, nx hold b y m, c] rfl rfl rfl rfl hz hc _ ?_
  refine ev_now fun k => ?_
  simp only [impl_Vote.l0]
  rw [if_neg (by omega)]
  rfl
/-- The same, told by the liar. -/
theorem voteL (a b c x y z m : Int) (ha : 0 ≤ a ∧ a ≤ hold) (hb : 0 ≤ b ∧ b ≤ hold) (hc : 0 ≤ c ∧ c ≤ hold) (hx : -10000 ≤ x ∧ x ≤ 10000) (hy : -10000 ≤ y ∧ y ≤ 10000) (hz : -10000 ≤ z ∧ z ≤ 10000) (hm : -10000 ≤ m ∧ m ≤ 10000) (lo hi : Int) (hp : [lo, m, hi].Perm [x, y, z]) (g1 : lo ≤ m) (g2 : m ≤ hi) :
    Ev (fun k => impl_Vote.f k 10 hold (p3 L false false false) (p3 L a b c) (p3 L x y z)) (10, hold, p3 L (nx hold a x m == hold) (nx hold b y m == hold) (nx hold c z m == hold), p3 L (nx hold a x m) (nx hold b y m) (nx hold c z m), m, 3) := by
  have hs := srt_p3 L hL x y z hp g1 g2
  match L, hL with
  | 0, _ => exact vote3 hold h1 h5 a b c x y z m ha hb hc hx hy hz hm lo hi hs
  | 1, _ => exact vote3 hold h1 h5 c a b z x y m hc ha hb hz hx hy hm lo hi hs
  | 2, _ => exact vote3 hold h1 h5 b c a y z x m hb hc ha hy hz hx hm lo hi hs
omit h1 h5 in
/-- The liar out: two lanes are heard. -/
theorem heardL (a b c x y z lo hi : Int) (hp : [lo, hi].Perm [y, z]) (g : lo ≤ hi) : Ev (fun k => impl_heard.f k 10 hold (p3 L true false false) (p3 L a b c) (p3 L x y z)) [lo, hi] := by
  have h := heard3 L hL hold (p3 L true false false) (p3_len L hL _ _ _) (p3 L a b c) x y z
  have e : srt (raw (p3 L true false false) (p3 L x y z) 3 0) = [lo, hi] := by
    symm
    refine srt_uniq ?_ (hp.trans (raw_out L hL x y z).symm)
    simp only [List.pairwise_cons, List.mem_cons, List.not_mem_nil, or_false, false_imp_iff, implies_true, List.Pairwise.nil, and_true, forall_eq]
    omega
  rwa [e] at h
theorem voteO (a x v : Int) (ha : 0 ≤ a ∧ a ≤ hold) (hx : -5000 ≤ x ∧ x ≤ 5000) (hv : -10000 ≤ v ∧ v ≤ 10000) :
    Ev (fun k => impl_Vote.f k 10 hold (p3 L true false false) (p3 L a 0 0) (p3 L v x x)) (10, hold, p3 L true false false, p3 L a 0 0, x, 2) := by
  unfold impl_Vote.f
  rw [clone3 hold _ _ (p3_len L hL _ _ _) (p3_len L hL _ _ _)]
  simp only [Option.bind_some]
  refine ev_bind (F := fun k => impl_seenOk.f k 10 hold (p3 L true false false) (p3 L a 0 0) (p3 L v x x)) (seen3 L hL hold h1 h5 _ (p3_len L hL _ _ _) a 0 0 ha (by omega) (by omega) v x x hv (by omega) (by omega)) ?_
  simp only [if_true]
  refine ev_bind (F := fun k => impl_heard.f k 10 hold (p3 L true false false) (p3 L a 0 0) (p3 L v x x)) (heardL L hL hold a 0 0 v x x x x (List.Perm.refl _) (Int.le_refl _)) ?_
  have hv : impl_value.f [x, x] = some (x, 2) := by
    unfold impl_value.f
    rw [show (([x, x] : List Int).length : Int) = 2 from rfl, if_neg (by decide), if_neg (by decide), if_pos rfl, if_pos (by decide), if_pos (by decide), show rd [x, x] 0 = x from rfl, show rd [x, x] 1 = x from rfl, w64 (a := x + x) (by omega) (by omega), floor_i (by omega) (by omega) (by omega), Option.bind_some]
    congr 2; omega
  simp only [hv, Option.bind_some, if_neg (show ¬ (2 : Int) = 3 by decide)]
  exact ev_const rfl
theorem votesO (a x : Int) (ha : 0 ≤ a ∧ a ≤ hold) (hx : -5000 ≤ x ∧ x ≤ 5000) : Ev (fun k => impl_Votes.f k 10 hold (p3 L true false false) (p3 L a 0 0) [[x, x, x]]) (10, hold, p3 L true false false, p3 L a 0 0, [x]) := by
  unfold impl_Votes.f
  rw [clone3 hold _ _ (p3_len L hL _ _ _) (p3_len L hL _ _ _)]
  simp only [Option.bind_some]
  rw [show (([[x, x, x]] : List (List Int)).length : Int) = 1 from rfl]
  simp only [if_neg (show ¬ (1 : Int) > 200 by decide)]
  have hv := voteO L hL hold h1 h5 a x x ha hx (by omega)
  rw [← p3_same L hL x] at hv
  have w1 : wrap64 ((0 : Int) + 1) = 1 := by unfold wrap64; omega
  have un : ∀ k, impl_Votes.l0 (k + 1) [] [[x, x, x]] 1 0 10 hold (p3 L true false false) (p3 L a 0 0) = ((impl_Vote.f k 10 hold (p3 L true false false) (p3 L a 0 0) [x, x, x]).bind fun bt193 => (impl_Votes.l0 k ([] ++ [bt193.2.2.2.2.1]) [[x, x, x]] 1 1 bt193.1 bt193.2.1 bt193.2.2.1 bt193.2.2.2.1)) := by
    intro k
    simp only [impl_Votes.l0, w1, show rd_L3 [[x, x, x]] 0 = [x, x, x] from rfl, show (([[x, x, x]] : List (List Int)).length : Int) = 1 from rfl, List.length_nil]
    rw [if_pos (by decide), if_pos (by decide), if_pos (by decide)]
    simp only [if_pos (show 0 < 17592186044416 by decide)]
  refine ev_step (ev_bind (F := fun k => impl_Vote.f k 10 hold (p3 L true false false) (p3 L a 0 0) [x, x, x]) hv ?_) un
  refine ev_now fun k => ?_
  simp only [impl_Votes.l0]
  rw [if_neg (by decide)]
  rfl
theorem alikeO (a x : Int) (ha : 0 ≤ a ∧ a ≤ hold) (hx : -5000 ≤ x ∧ x ≤ 5000) : Ev (fun k => impl_TwoAlike.f k 10 hold (p3 L true false false) (p3 L a 0 0) (p3 L (x + 1000) (x + 11) x)) true := by
  unfold impl_TwoAlike.f
  refine ev_bind (F := fun k => impl_seenOk.f k 10 hold (p3 L true false false) (p3 L a 0 0) (p3 L (x + 1000) (x + 11) x)) (seen3 L hL hold h1 h5 _ (p3_len L hL _ _ _) a 0 0 ha (by omega) (by omega) _ _ _ (by omega) (by omega) (by omega)) ?_
  simp only [if_true]
  refine ev_bind (F := fun k => impl_heard.f k 10 hold (p3 L true false false) (p3 L a 0 0) (p3 L (x + 1000) (x + 11) x)) (heardL L hL hold a 0 0 (x + 1000) (x + 11) x x (x + 11) (List.Perm.swap (x + 11) x []) (by omega)) ?_
  rw [show (([x, x + 11] : List Int).length : Int) = 2 from rfl]
  simp only [if_true, if_pos (show (1 : Int) < 2 by decide), if_pos (show (0 : Int) < 2 by decide)]
  refine ev_const ?_
  rw [show rd [x, x + 11] 1 = x + 11 from rfl, show rd [x, x + 11] 0 = x from rfl, w64 (by omega) (by omega)]
  congr 1
  exact decide_eq_true (by omega)
end
theorem wr {a : Int} (h : -5000 ≤ a ∧ a ≤ 5000) : wrap64 a = a := w64 (by omega) (by omega)
theorem nx_far {hold a v m : Int} (h : v - m > 10 ∨ m - v > 10) (ha : a + 1 ≤ hold) : nx hold a v m = a + 1 := by
  unfold nx mx mn
  rw [if_pos (by split <;> omega), if_neg (by omega)]
theorem nx_near {hold a v m : Int} (h1 : v - m ≤ 10) (h2 : m - v ≤ 10) : nx hold a v m = 0 := by
  unfold nx mx
  rw [if_neg (by split <;> omega)]
section
variable (l : List Int) (hl : l.length ≤ 1048576) (hu : ∀ x ∈ l, (Lit.int .u8 x).wf = true) (L : Nat) (hL : L < 3) (hold : Int) (h1 : 1 ≤ hold) (h5 : hold ≤ 5) (x : Int) (x0 : -128 ≤ x) (x1 : x ≤ 127)
include hl hu hL h1 h5 x0 x1
omit hl hu x0 x1 in
/-- Behind a round: what is asked of the voter, and the next round. -/
theorem after (r : Nat) (hr : (r : Int) < hold) (hn : Ev (fun k => laws_FnVoted.l0 k l hold x (L : Int) ((r + 1 : Nat) : Int) 10 hold (p3 L (decide (((r + 1 : Nat) : Int) = hold)) false false) (p3 L ((r + 1 : Nat) : Int) 0 0)) true) :
    Ev (fun k => laws_FnVoted.j3 k l hold x (L : Int) (r : Int) false 10 hold (p3 L (decide (((r + 1 : Nat) : Int) = hold)) false false) (p3 L ((r + 1 : Nat) : Int) 0 0)) true := by
  have w1 : wrap64 ((r : Int) + 1) = ((r + 1 : Nat) : Int) := by rw [w64 (by omega) (by omega)]; omega
  have w2 : wrap64 (hold - 1) = hold - 1 := w64 (by omega) (by omega)
  have i1 := idx L 1 hL (by omega)
  have i2 := idx L 2 hL (by omega)
  have g0 : rdOf false (p3 L (decide (((r + 1 : Nat) : Int) = hold)) false false) (L : Int) = decide (((r + 1 : Nat) : Int) = hold) := p3_get0 L hL _ _ _ _
  have g1 : rdOf false (p3 L (decide (((r + 1 : Nat) : Int) = hold)) false false) (((L + 1) % 3 : Nat) : Int) = false := p3_get1 L hL _ _ _ _
  have g2 : rdOf false (p3 L (decide (((r + 1 : Nat) : Int) = hold)) false false) (((L + 2) % 3 : Nat) : Int) = false := p3_get2 L hL _ _ _ _
  have hq : (decide (((r + 1 : Nat) : Int) = hold) != ((r : Int) == hold - 1)) = false := by
    have : ((r : Int) == hold - 1) = decide (((r + 1 : Nat) : Int) = hold) := by
      rw [Bool.eq_iff_iff, beq_iff_eq, decide_eq_true_eq]; omega
    rw [this, bne_self_eq_false]
  refine ev_step hn fun k => ?_
  simp only [laws_FnVoted.j3, Bool.false_eq_true, if_false, p3_len L hL, g0, w1, w2, hq]
  rw [show wrap64 ((L : Int) + 1) = wrap64 ((L : Int) + ((1 : Nat) : Int)) from rfl, i1, show wrap64 ((L : Int) + 2) = wrap64 ((L : Int) + ((2 : Nat) : Int)) from rfl, i2]
  simp only [g1, g2, Bool.false_eq_true, if_false]
  rw [if_pos (by omega), if_pos (by omega), if_pos (by omega), if_pos (by omega), if_pos (by omega), if_pos (by omega)]
omit hl hu in
/-- A round. -/
theorem round (r : Nat) (hr : (r : Int) < hold) (hn : Ev (fun k => laws_FnVoted.l0 k l hold x (L : Int) ((r + 1 : Nat) : Int) 10 hold (p3 L (decide (((r + 1 : Nat) : Int) = hold)) false false) (p3 L ((r + 1 : Nat) : Int) 0 0)) true) :
    ∀ (v y m lo hi : Int), -1000 ≤ v → v ≤ 1000 → (m = x ∨ m = y) → x ≤ y → y ≤ x + 5 → [lo, m, hi].Perm [v, y, x] → lo ≤ m → m ≤ hi → (v - m > 10 ∨ m - v > 10) →
    Ev (fun k => laws_FnVoted.j2 k l hold x (L : Int) (r : Int) (p3 L v y x) 10 hold (p3 L false false false) (p3 L (r : Int) 0 0)) true := by
  intro v y m lo hi v0 v1 hm y0 y1 hp g1 g2 hf
  have e := voteL L hL hold h1 h5 (r : Int) 0 0 v y x m (by omega) (by omega) (by omega) (by omega) (by omega) (by omega) (by omega) lo hi hp g1 g2
  rw [nx_far hf (by omega), nx_near (a := 0) (v := y) (by omega) (by omega), nx_near (a := 0) (v := x) (by omega) (by omega)] at e
  have q1 : ((r : Int) + 1 == hold) = decide (((r + 1 : Nat) : Int) = hold) := by rw [Bool.eq_iff_iff, beq_iff_eq, decide_eq_true_eq]; omega
  have q2 : ((0 : Int) == hold) = false := by rw [Bool.eq_false_iff]; intro c; rw [beq_iff_eq] at c; omega
  rw [q1, q2, show (r : Int) + 1 = ((r + 1 : Nat) : Int) by omega] at e
  have w6 : wrap64 (x + 6) = x + 6 := w64 (by omega) (by omega)
  have ho := ok3 L hL hold h1 h5 (p3 L (decide (((r + 1 : Nat) : Int) = hold)) false false) (p3_len L hL _ _ _) ((r + 1 : Nat) : Int) 0 0 (by omega) (by omega) (by omega)
  have aft := after l L hL hold h1 h5 x r hr hn
  refine ev_step (ev_bind (F := fun k => impl_Vote.f k 10 hold (p3 L false false false) (p3 L (r : Int) 0 0) (p3 L v y x)) e ?_) fun k => by simp only [laws_FnVoted.j2]; rfl
  simp only [if_true, w6]
  rw [show (fun k => if m < x then laws_FnVoted.j3 k l hold x (L : Int) (r : Int) true 10 hold (p3 L (decide (((r + 1 : Nat) : Int) = hold)) false false) (p3 L ((r + 1 : Nat) : Int) 0 0) else if m > x + 6 then laws_FnVoted.j3 k l hold x (L : Int) (r : Int) true 10 hold (p3 L (decide (((r + 1 : Nat) : Int) = hold)) false false) (p3 L ((r + 1 : Nat) : Int) 0 0) else (impl_VoterOk.f k 10 hold (p3 L (decide (((r + 1 : Nat) : Int) = hold)) false false) (p3 L ((r + 1 : Nat) : Int) 0 0)).bind fun t296 => laws_FnVoted.j3 k l hold x (L : Int) (r : Int) (!t296) 10 hold (p3 L (decide (((r + 1 : Nat) : Int) = hold)) false false) (p3 L ((r + 1 : Nat) : Int) 0 0)) = (fun k => (impl_VoterOk.f k 10 hold (p3 L (decide (((r + 1 : Nat) : Int) = hold)) false false) (p3 L ((r + 1 : Nat) : Int) 0 0)).bind fun t296 => laws_FnVoted.j3 k l hold x (L : Int) (r : Int) (!t296) 10 hold (p3 L (decide (((r + 1 : Nat) : Int) = hold)) false false) (p3 L ((r + 1 : Nat) : Int) 0 0)) from by
    funext k
    rw [if_neg (by omega), if_neg (by omega)]]
  exact ev_bind (F := fun k => impl_VoterOk.f k 10 hold (p3 L (decide (((r + 1 : Nat) : Int) = hold)) false false) (p3 L ((r + 1 : Nat) : Int) 0 0)) ho aft
omit hl hu in
/-- The liar is out: what is asked at the end. -/
theorem last : Ev (fun k => laws_FnVoted.l0 k l hold x (L : Int) hold 10 hold (p3 L true false false) (p3 L hold 0 0)) true := by
  have i1 := idx L 1 hL (by omega)
  have w1 : wrap64 (x + 1000) = x + 1000 := w64 (by omega) (by omega)
  have w2 : wrap64 (x + 11) = x + 11 := w64 (by omega) (by omega)
  have a1 := voteO L hL hold h1 h5 hold x (x + 1000) (by omega) (by omega) (by omega)
  have a2 := votesO L hL hold h1 h5 hold x (by omega) (by omega)
  have a3 := alikeO L hL hold h1 h5 hold x (by omega) (by omega)
  have g0 : rdOf false (p3 L true false false) (L : Int) = true := p3_get0 L hL _ _ _ _
  have un : ∀ k, laws_FnVoted.l0 (k + 1) l hold x (L : Int) hold 10 hold (p3 L true false false) (p3 L hold 0 0) = ((impl_Vote.f k 10 hold (p3 L true false false) (p3 L hold 0 0) (p3 L (x + 1000) x x)).bind fun bt242 => ((impl_Votes.f k 10 hold (p3 L true false false) (p3 L hold 0 0) [[x, x, x]]).bind fun bt260 => (if bt242.2.2.2.2.2 = 2 then (if bt242.2.2.2.2.1 = x then (if (L : Int) < (bt242.2.2.1.length : Int) then (if rdOf false bt242.2.2.1 (L : Int) = true then ((impl_TwoAlike.f k 10 hold (p3 L true false false) (p3 L hold 0 0) (p3 L (x + 1000) (x + 11) x)).bind fun t273 => (if t273 = true then (if (bt260.2.2.2.2.length : Int) = 1 then (if 0 < (bt260.2.2.2.2.length : Int) then (if (rd bt260.2.2.2.2 0) = x then (some (bt260.2.1 == hold)) else (some false)) else (none)) else (some false)) else (some false))) else (some false)) else (none)) else (some false)) else (some false)))) := by
    intro k
    simp only [laws_FnVoted.l0, Option.bind_some, w1, w2]
    rw [show wrap64 ((L : Int) + 1) = wrap64 ((L : Int) + ((1 : Nat) : Int)) from rfl, i1]
    simp only [p3_same L hL x, p3_len L hL, p3_set0 L hL, p3_set1 L hL]
    rw [if_neg (by omega), if_pos (by omega), if_pos (by omega)]
    simp only [if_pos (show (0 : Int) ≤ (((L + 1) % 3 : Nat) : Int) by omega), if_pos (show (((L + 1) % 3 : Nat) : Int) < ((3 : Nat) : Int) by omega)]
  refine ev_step (ev_bind (F := fun k => impl_Vote.f k 10 hold (p3 L true false false) (p3 L hold 0 0) (p3 L (x + 1000) x x)) a1 (ev_bind (F := fun k => impl_Votes.f k 10 hold (p3 L true false false) (p3 L hold 0 0) [[x, x, x]]) a2 ?_)) un
  simp only [if_true, p3_len L hL, g0, if_pos (show (L : Int) < ((3 : Nat) : Int) by omega)]
  refine ev_bind (F := fun k => impl_TwoAlike.f k 10 hold (p3 L true false false) (p3 L hold 0 0) (p3 L (x + 1000) (x + 11) x)) a3 ?_
  rw [show (([x] : List Int).length : Int) = 1 from rfl, show rd [x] 0 = x from rfl]
  simp only [if_true, beq_self_eq_true]
  exact ev_const rfl
omit hl hu h1 in
/-- A round's own steps. -/
theorem steps (r : Nat) (hr : (r : Int) < hold) (t u b : Int) (ht : laws_at.f l ((r : Int) + 4) = some t) (hv : laws_at.f l ((r : Int) + 10) = some u) (hb : laws_at.f l 3 = some b) (t0 : 0 ≤ t) (u0 : 0 ≤ u) (u1 : u ≤ 255) (k : Nat) :
    laws_FnVoted.l0 (k + 1) l hold x (L : Int) (r : Int) 10 hold (p3 L false false false) (p3 L (r : Int) 0 0) = if Int.tmod b 2 = 0 then laws_FnVoted.j2 k l hold x (L : Int) (r : Int) (p3 L (x - 100 - u) (x + t % 6) x) 10 hold (p3 L false false false) (p3 L (r : Int) 0 0) else laws_FnVoted.j2 k l hold x (L : Int) (r : Int) (p3 L (x + 100 + u) (x + t % 6) x) 10 hold (p3 L false false false) (p3 L (r : Int) 0 0) := by
  have i1 := idx L 1 hL (by omega)
  have c0 : 0 ≤ (((L + 1) % 3 : Nat) : Int) := by omega
  have c1 : (((L + 1) % 3 : Nat) : Int) < ((3 : Nat) : Int) := by omega
  have c2 : 0 ≤ (L : Int) := by omega
  have c3 : (L : Int) < ((3 : Nat) : Int) := by omega
  have d4 : -5000 ≤ (r : Int) + 4 ∧ (r : Int) + 4 ≤ 5000 := by omega
  have d10 : -5000 ≤ (r : Int) + 10 ∧ (r : Int) + 10 ≤ 5000 := by omega
  have dy : -5000 ≤ x + t % 6 ∧ x + t % 6 ≤ 5000 := by omega
  have da : -5000 ≤ x + 100 ∧ x + 100 ≤ 5000 := by omega
  have db : -5000 ≤ x - 100 ∧ x - 100 ≤ 5000 := by omega
  have dau : -5000 ≤ x + 100 + u ∧ x + 100 + u ≤ 5000 := by omega
  have dbu : -5000 ≤ x - 100 - u ∧ x - 100 - u ≤ 5000 := by omega
  have wt : Int.tmod t 6 = t % 6 := Int.tmod_eq_emod_of_nonneg t0
  have e3 : ([x, x, x] : List Int) = p3 L x x x := p3_same L hL x
  have s1 := p3_set1 L hL x x x (x + t % 6)
  have s2 := p3_set0 L hL x (x + t % 6) x (x + 100 + u)
  have s3 := p3_set0 L hL (x + 100 + u) (x + t % 6) x (x - 100 - u)
  have n0 := p3_len L hL x x x
  generalize p3 L false false false = F
  generalize p3 L (r : Int) 0 0 = G
  generalize hP : p3 L (x - 100 - u) (x + t % 6) x = P at *
  generalize hQ : p3 L (x + 100 + u) (x + t % 6) x = Q at *
  rw [laws_FnVoted.l0, if_pos hr, Option.bind_some, wr d4, ht, Option.bind_some, show wrap64 ((L : Int) + 1) = wrap64 ((L : Int) + ((1 : Nat) : Int)) from rfl, i1, if_pos c0, e3, n0, if_pos c1, wr d10, hv, Option.bind_some, if_pos c2, if_pos c3, Option.bind_some, wt, wr dy, wr da, wr dau, s1, s2, hb, Option.bind_some, wr db, Option.bind_some, wr dbu, s3]
theorem one (r : Nat) (hr : (r : Int) < hold) (hn : Ev (fun k => laws_FnVoted.l0 k l hold x (L : Int) ((r + 1 : Nat) : Int) 10 hold (p3 L (decide (((r + 1 : Nat) : Int) = hold)) false false) (p3 L ((r + 1 : Nat) : Int) 0 0)) true) : Ev (fun k => laws_FnVoted.l0 k l hold x (L : Int) (r : Int) 10 hold (p3 L false false false) (p3 L (r : Int) 0 0)) true := by
  have rnd := round l L hL hold h1 h5 x x0 x1 r hr hn
  obtain ⟨t, ht, t0, t1⟩ := at_in l hl hu ((r : Int) + 4) (by omega) (by omega)
  obtain ⟨u, hu', u0, u1⟩ := at_in l hl hu ((r : Int) + 10) (by omega) (by omega)
  obtain ⟨b, hb, b0, b1⟩ := at_in l hl hu 3 (by omega) (by omega)
  have y0 : x ≤ x + t % 6 := by omega
  have y1 : x + t % 6 ≤ x + 5 := by omega
  have R1 := rnd (x - 100 - u) (x + t % 6) x (x - 100 - u) (x + t % 6) (by omega) (by omega) (.inl rfl) y0 y1 ((List.Perm.swap (x + t % 6) x []).cons _) (by omega) y0 (.inr (by omega))
  have R2 := rnd (x + 100 + u) (x + t % 6) (x + t % 6) x (x + 100 + u) (by omega) (by omega) (.inr rfl) y0 y1 ((List.Perm.swap (x + t % 6) x [x + 100 + u]).trans (((List.Perm.swap (x + 100 + u) x []).cons (x + t % 6)).trans (List.Perm.swap (x + 100 + u) (x + t % 6) [x]))) y0 (by omega) (.inl (by omega))
  have un := steps l L hL hold h5 x x0 x1 r hr t u b ht hu' hb t0 u0 u1
  by_cases c : Int.tmod b 2 = 0
  · exact ev_step R1 fun k => by rw [un k, if_pos c]
  · exact ev_step R2 fun k => by rw [un k, if_neg c]
theorem rounds : ∀ (d r : Nat), (hold : Int) - (r : Int) = (d : Int) → Ev (fun k => laws_FnVoted.l0 k l hold x (L : Int) (r : Int) 10 hold (p3 L (decide ((r : Int) = hold)) false false) (p3 L (r : Int) 0 0)) true
  | 0, r, hd => by
    have e : (r : Int) = hold := by omega
    rw [decide_eq_true e, e]
    exact last l L hL hold h1 h5 x x0 x1
  | d + 1, r, hd => by
    rw [decide_eq_false (show ¬ (r : Int) = hold by omega)]
    exact one l hl hu L hL hold h1 h5 x x0 x1 r (by omega) (rounds d (r + 1) (by omega))
end
theorem FnVoted : laws_FnVoted.Pure := by
  intro l _ _ hu
  suffices H : Ev (fun k => laws_FnVoted.f k l) true by obtain ⟨K, hK⟩ := H; exact ⟨K, hK K (Nat.le_refl _)⟩
  unfold laws_FnVoted.f
  by_cases hl : l.length ≤ 1048576
  · rw [big_f l hl]
    obtain ⟨t, ht, t0, t1⟩ := at_in l hl hu 0 (by omega) (by omega)
    obtain ⟨u, hu', u0, u1⟩ := at_in l hl hu 1 (by omega) (by omega)
    obtain ⟨b, hb, b0, b1⟩ := at_in l hl hu 2 (by omega) (by omega)
    have wt : Int.tmod t 5 = t % 5 := Int.tmod_eq_emod_of_nonneg t0
    have wh : wrap64 (1 + t % 5) = 1 + t % 5 := w64 (by omega) (by omega)
    have wx : wrap64 (u - 128) = u - 128 := w64 (by omega) (by omega)
    simp only [Option.bind_some, Bool.false_eq_true, if_false, ht, wt, wh]
    obtain ⟨hold, eh⟩ : ∃ h, h = 1 + t % 5 := ⟨_, rfl⟩
    rw [← eh]
    have h1 : 1 ≤ hold := by omega
    have h5 : hold ≤ 5 := by omega
    clear eh wh wt
    have vo := ok3 0 (by omega) hold h1 h5 [false, false, false] rfl 0 0 0 (by omega) (by omega) (by omega)
    have fr : Ev (fun k => impl_Fresh.f k 3 10 hold) (10, hold, [false, false, false], [0, 0, 0], true) := by
      unfold impl_Fresh.f
      rw [in_i]
      simp only [Option.bind_some, show (decide ((1 : Int) ≤ 3) && decide ((3 : Int) ≤ 5)) = true by decide, if_true, show ((3 : Int)).toNat = 3 from rfl, if_pos (show (0 : Int) ≤ 3 by decide), if_pos (show 3 ≤ 281474976710656 by decide), if_pos (show 3 ≤ 35184372088832 by decide)]
      refine ev_bind (F := fun k => impl_VoterOk.f k 10 hold [false, false, false] [0, 0, 0]) vo ?_
      simp only [if_true]; exact ev_const rfl
    refine ev_bind (F := fun k => impl_Fresh.f k 3 10 hold) fr ?_
    simp only [if_true]
    refine ev_bind (F := fun k => impl_VoterOk.f k 10 hold [false, false, false] [0, 0, 0]) vo ?_
    simp only [if_true]
    rw [show ((([false, false, false] : List Bool).length : Int) != 3) = false from rfl]
    obtain ⟨L, hL, eL⟩ : ∃ L : Nat, L < 3 ∧ Int.tmod b 3 = (L : Int) := ⟨(b % 3).toNat, by omega, by rw [Int.tmod_eq_emod_of_nonneg b0]; omega⟩
    have rs := rounds l hl hu L hL hold h1 h5 (u - 128) (by omega) (by omega) hold.toNat 0 (by omega)
    rw [decide_eq_false (show ¬ ((0 : Nat) : Int) = hold by omega)] at rs
    have p1 : p3 L false false false = [false, false, false] := (p3_same L hL false).symm
    have p2 : p3 L ((0 : Nat) : Int) 0 0 = [0, 0, 0] := (p3_same L hL (0 : Int)).symm
    rw [p1, p2] at rs
    refine ev_step rs fun k => ?_
    simp only [laws_FnVoted.j0, Bool.false_eq_true, if_false, hu', hb, Option.bind_some, eL, wx]
    rfl
  · rw [big_t l hl]
    simp only [Option.bind_some, if_true]
    exact ev_const rfl
end Go.Proofs.Ytmhddkjiaiifmaa.Pure.FnVoted
namespace Go.Proofs.Ytmhddkjiaiifmaa.Pure
theorem FnVoted : Go.Proofs.Ytmhddkjiaiifmaa.PFnVoted.laws_FnVoted.Pure := FnVoted.FnVoted
end Go.Proofs.Ytmhddkjiaiifmaa.Pure
