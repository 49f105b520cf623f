/- For every Net7 the program's NetOk answers what the reference's answers, and writes into nothing (FnExactNetOk returns true); no condition. -/
import Derived.Test.YtbbfibokedlkkaaAskFnExactNetOk
import Derived.Test.YtbbfibokedlkkaaNum
namespace Go.Proofs.Ytbbfibokedlkkaa.Pure.FnExactNetOk
open Go.RowKit Go.Proofs.Ytbbfibokedlkkaa.PFnExactNetOk Go.Proofs.YtbbfibokedlkkaaW.PrintWords Go.Proofs.YtbbfibokedlkkaaW.PrintLast Go.Proofs.YtbbfibokedlkkaaW.PrintMore Go.Proofs.Ytbbfibokedlkkaa.Num
set_option linter.unusedVariables false
set_option linter.unusedSimpArgs false
/-- From some count of rounds on it answers r. -/
def Ev {α : Type} (F : Nat → Option α) (r : α) : Prop := ∃ K, ∀ k, K ≤ k → F k = some r
theorem ev_step {α : Type} {F G : Nat → Option α} {r : α} (h : Ev G r) (e : ∀ k, F (k + 1) = G k) : Ev F r := by
  obtain ⟨K, h⟩ := h
  refine ⟨K + 1, fun k hk => ?_⟩
  obtain ⟨m, rfl⟩ : ∃ m, k = m + 1 := ⟨k - 1, by omega⟩
  rw [e m]; exact h m (by omega)
theorem ev_now {α : Type} {F : Nat → Option α} {r : α} (e : ∀ k, F (k + 1) = some r) : Ev F r :=
  ⟨1, fun k hk => by obtain ⟨m, rfl⟩ : ∃ m, k = m + 1 := ⟨k - 1, by omega⟩; exact e m⟩
theorem ev_const {α : Type} {o : Option α} {r : α} (e : o = some r) : Ev (fun _ => o) r := ⟨0, fun _ _ => e⟩
theorem ev_bind {α β : Type} {F : Nat → Option α} {G : Nat → α → Option β} {a : α} {r : β} (h : Ev F a) (g : Ev (fun k => G k a) r) : Ev (fun k => (F k).bind (G k)) r := by
  obtain ⟨K, h⟩ := h
  obtain ⟨L, g⟩ := g
  exact ⟨max K L, fun k hk => by show (F k).bind (G k) = _; rw [h k (by omega), Option.bind_some]; exact g k (by omega)⟩
theorem ev_cong {α : Type} {F G : Nat → Option α} {r : α} (h : Ev G r) (e : ∀ k, F k = G k) : Ev F r := by
  obtain ⟨K, h⟩ := h
  exact ⟨K, fun k hk => (e k).trans (h k hk)⟩
def convS (x : S96) : S57 := ⟨x.f0, x.f1, x.f2⟩
theorem laws_toSourceS_l0 (x0 : List S96) (hn : x0.length ≤ 4611686018427387904) : ∀ (d k i : Nat) (x3 : List S57), x0.length - i = d → i ≤ x0.length → d < k → x3.length = x0.length → (∀ j, j < i → x3[j]? = (x0.map convS)[j]?) → laws_toSourceS.l0 k x0 x3 (i : Int) = some (x0.map convS) := by
  intro d
  induction d with
  | zero =>
    intro k i x3 hd hi hk hl hj
    obtain ⟨k, rfl⟩ : ∃ m, k = m + 1 := ⟨k - 1, by omega⟩
    simp only [laws_toSourceS.l0]
    rw [if_neg (by omega)]
    congr 1
    apply List.ext_getElem?
    intro j
    by_cases h : j < i
    · exact hj j h
    · rw [List.getElem?_eq_none (by omega), List.getElem?_eq_none (by simp; omega)]
  | succ d ih =>
    intro k i x3 hd hi hk hl hj
    obtain ⟨k, rfl⟩ : ∃ m, k = m + 1 := ⟨k - 1, by omega⟩
    have hlt : i < x0.length := by omega
    simp only [laws_toSourceS.l0, laws_toSource.f, Option.bind_some]
    rw [if_pos (by omega), if_pos (by omega), if_pos (by omega), w64 (a := (i : Int) + 1) (by omega) (by omega), show (i : Int) + 1 = ((i + 1 : Nat) : Int) by omega]
    refine ih k (i + 1) _ (by omega) (by omega) (by omega) (by simpa using hl) ?_
    intro j hj'
    have hr : rd_T96 x0 (i : Int) = x0[i] := by
      show x0.getD (i : Int).toNat z96 = _
      rw [Int.toNat_natCast, List.getD_eq_getElem?_getD, List.getElem?_eq_getElem hlt]; rfl
    simp only [Int.toNat_natCast, hr]
    by_cases e : j = i
    · subst e
      rw [List.getElem?_set_self (by omega), List.getElem?_map, List.getElem?_eq_getElem hlt]; rfl
    · rw [List.getElem?_set_ne (fun h => e h.symm)]
      exact hj j (by omega)
theorem laws_toSourceS_eq (x0 : List S96) (k : Nat) (hn : x0.length ≤ 11728124029610) (hk : x0.length < k) : laws_toSourceS.f k x0 = some (x0.map convS) := by
  unfold laws_toSourceS.f
  rw [if_pos (by omega), if_pos (by rw [Int.toNat_natCast]; omega), Int.toNat_natCast]
  exact laws_toSourceS_l0 x0 (by omega) x0.length k 0 _ (by omega) (by omega) hk (by simp) (fun j hj => by omega)

def convT (x : S98) : S55 := ⟨x.f0, x.f1, x.f2⟩
theorem laws_toTieS_l0 (x0 : List S98) (hn : x0.length ≤ 4611686018427387904) : ∀ (d k i : Nat) (x3 : List S55), x0.length - i = d → i ≤ x0.length → d < k → x3.length = x0.length → (∀ j, j < i → x3[j]? = (x0.map convT)[j]?) → laws_toTieS.l0 k x0 x3 (i : Int) = some (x0.map convT) := by
  intro d
  induction d with
  | zero =>
    intro k i x3 hd hi hk hl hj
    obtain ⟨k, rfl⟩ : ∃ m, k = m + 1 := ⟨k - 1, by omega⟩
    simp only [laws_toTieS.l0]
    rw [if_neg (by omega)]
    congr 1
    apply List.ext_getElem?
    intro j
    by_cases h : j < i
    · exact hj j h
    · rw [List.getElem?_eq_none (by omega), List.getElem?_eq_none (by simp; omega)]
  | succ d ih =>
    intro k i x3 hd hi hk hl hj
    obtain ⟨k, rfl⟩ : ∃ m, k = m + 1 := ⟨k - 1, by omega⟩
    have hlt : i < x0.length := by omega
    simp only [laws_toTieS.l0, laws_toTie.f, Option.bind_some]
    rw [if_pos (by omega), if_pos (by omega), if_pos (by omega), w64 (a := (i : Int) + 1) (by omega) (by omega), show (i : Int) + 1 = ((i + 1 : Nat) : Int) by omega]
    refine ih k (i + 1) _ (by omega) (by omega) (by omega) (by simpa using hl) ?_
    intro j hj'
    have hr : rd_T98 x0 (i : Int) = x0[i] := by
      show x0.getD (i : Int).toNat z98 = _
      rw [Int.toNat_natCast, List.getD_eq_getElem?_getD, List.getElem?_eq_getElem hlt]; rfl
    simp only [Int.toNat_natCast, hr]
    by_cases e : j = i
    · subst e
      rw [List.getElem?_set_self (by omega), List.getElem?_map, List.getElem?_eq_getElem hlt]; rfl
    · rw [List.getElem?_set_ne (fun h => e h.symm)]
      exact hj j (by omega)
theorem laws_toTieS_eq (x0 : List S98) (k : Nat) (hn : x0.length ≤ 11728124029610) (hk : x0.length < k) : laws_toTieS.f k x0 = some (x0.map convT) := by
  unfold laws_toTieS.f
  rw [if_pos (by omega), if_pos (by rw [Int.toNat_natCast]; omega), Int.toNat_natCast]
  exact laws_toTieS_l0 x0 (by omega) x0.length k 0 _ (by omega) (by omega) hk (by simp) (fun j hj => by omega)

def convU (x : S100) : S59 := ⟨x.f0, x.f1, x.f2⟩
theorem laws_toUseS_l0 (x0 : List S100) (hn : x0.length ≤ 4611686018427387904) : ∀ (d k i : Nat) (x3 : List S59), x0.length - i = d → i ≤ x0.length → d < k → x3.length = x0.length → (∀ j, j < i → x3[j]? = (x0.map convU)[j]?) → laws_toUseS.l0 k x0 x3 (i : Int) = some (x0.map convU) := by
  intro d
  induction d with
  | zero =>
    intro k i x3 hd hi hk hl hj
    obtain ⟨k, rfl⟩ : ∃ m, k = m + 1 := ⟨k - 1, by omega⟩
    simp only [laws_toUseS.l0]
    rw [if_neg (by omega)]
    congr 1
    apply List.ext_getElem?
    intro j
    by_cases h : j < i
    · exact hj j h
    · rw [List.getElem?_eq_none (by omega), List.getElem?_eq_none (by simp; omega)]
  | succ d ih =>
    intro k i x3 hd hi hk hl hj
    obtain ⟨k, rfl⟩ : ∃ m, k = m + 1 := ⟨k - 1, by omega⟩
    have hlt : i < x0.length := by omega
    simp only [laws_toUseS.l0, laws_toUse.f, Option.bind_some]
    rw [if_pos (by omega), if_pos (by omega), if_pos (by omega), w64 (a := (i : Int) + 1) (by omega) (by omega), show (i : Int) + 1 = ((i + 1 : Nat) : Int) by omega]
    refine ih k (i + 1) _ (by omega) (by omega) (by omega) (by simpa using hl) ?_
    intro j hj'
    have hr : rd_T100 x0 (i : Int) = x0[i] := by
      show x0.getD (i : Int).toNat z100 = _
      rw [Int.toNat_natCast, List.getD_eq_getElem?_getD, List.getElem?_eq_getElem hlt]; rfl
    simp only [Int.toNat_natCast, hr]
    by_cases e : j = i
    · subst e
      rw [List.getElem?_set_self (by omega), List.getElem?_map, List.getElem?_eq_getElem hlt]; rfl
    · rw [List.getElem?_set_ne (fun h => e h.symm)]
      exact hj j (by omega)
theorem laws_toUseS_eq (x0 : List S100) (k : Nat) (hn : x0.length ≤ 11728124029610) (hk : x0.length < k) : laws_toUseS.f k x0 = some (x0.map convU) := by
  unfold laws_toUseS.f
  rw [if_pos (by omega), if_pos (by rw [Int.toNat_natCast]; omega), Int.toNat_natCast]
  exact laws_toUseS_l0 x0 (by omega) x0.length k 0 _ (by omega) (by omega) hk (by simp) (fun j hj => by omega)

theorem laws_eqSourceS_l0 (x0 : List S57) (hn : x0.length ≤ 4611686018427387904) : ∀ (d k i : Nat), x0.length - i = d → i ≤ x0.length → d < k → laws_eqSourceS.l0 k x0 x0 (i : Int) = some true := by
  intro d
  induction d with
  | zero =>
    intro k i hd hi hk
    obtain ⟨k, rfl⟩ : ∃ m, k = m + 1 := ⟨k - 1, by omega⟩
    simp only [laws_eqSourceS.l0]
    rw [if_neg (by omega)]
  | succ d ih =>
    intro k i hd hi hk
    obtain ⟨k, rfl⟩ : ∃ m, k = m + 1 := ⟨k - 1, by omega⟩
    simp only [laws_eqSourceS.l0, laws_eqSource.f, if_true, bne_self_eq_false, Bool.false_eq_true, if_false, Option.bind_some]
    rw [if_pos (by omega), if_pos (by omega), if_pos (by omega), w64 (a := (i : Int) + 1) (by omega) (by omega), show (i : Int) + 1 = ((i + 1 : Nat) : Int) by omega]
    exact ih k (i + 1) (by omega) (by omega) (by omega)
theorem laws_eqSourceS_eq (x0 : List S57) (k : Nat) (hn : x0.length ≤ 4611686018427387904) (hk : x0.length < k) : laws_eqSourceS.f k x0 x0 = some true := by
  unfold laws_eqSourceS.f
  rw [if_pos rfl]
  exact laws_eqSourceS_l0 x0 hn x0.length k 0 (by omega) (by omega) hk

theorem laws_eqTieS_l0 (x0 : List S55) (hn : x0.length ≤ 4611686018427387904) : ∀ (d k i : Nat), x0.length - i = d → i ≤ x0.length → d < k → laws_eqTieS.l0 k x0 x0 (i : Int) = some true := by
  intro d
  induction d with
  | zero =>
    intro k i hd hi hk
    obtain ⟨k, rfl⟩ : ∃ m, k = m + 1 := ⟨k - 1, by omega⟩
    simp only [laws_eqTieS.l0]
    rw [if_neg (by omega)]
  | succ d ih =>
    intro k i hd hi hk
    obtain ⟨k, rfl⟩ : ∃ m, k = m + 1 := ⟨k - 1, by omega⟩
    simp only [laws_eqTieS.l0, laws_eqTie.f, if_true, bne_self_eq_false, Bool.false_eq_true, if_false, Option.bind_some]
    rw [if_pos (by omega), if_pos (by omega), if_pos (by omega), w64 (a := (i : Int) + 1) (by omega) (by omega), show (i : Int) + 1 = ((i + 1 : Nat) : Int) by omega]
    exact ih k (i + 1) (by omega) (by omega) (by omega)
theorem laws_eqTieS_eq (x0 : List S55) (k : Nat) (hn : x0.length ≤ 4611686018427387904) (hk : x0.length < k) : laws_eqTieS.f k x0 x0 = some true := by
  unfold laws_eqTieS.f
  rw [if_pos rfl]
  exact laws_eqTieS_l0 x0 hn x0.length k 0 (by omega) (by omega) hk

theorem laws_eqUseS_l0 (x0 : List S59) (hn : x0.length ≤ 4611686018427387904) : ∀ (d k i : Nat), x0.length - i = d → i ≤ x0.length → d < k → laws_eqUseS.l0 k x0 x0 (i : Int) = some true := by
  intro d
  induction d with
  | zero =>
    intro k i hd hi hk
    obtain ⟨k, rfl⟩ : ∃ m, k = m + 1 := ⟨k - 1, by omega⟩
    simp only [laws_eqUseS.l0]
    rw [if_neg (by omega)]
  | succ d ih =>
    intro k i hd hi hk
    obtain ⟨k, rfl⟩ : ∃ m, k = m + 1 := ⟨k - 1, by omega⟩
    simp only [laws_eqUseS.l0, laws_eqUse.f, if_true, bne_self_eq_false, Bool.false_eq_true, if_false, Option.bind_some]
    rw [if_pos (by omega), if_pos (by omega), if_pos (by omega), w64 (a := (i : Int) + 1) (by omega) (by omega), show (i : Int) + 1 = ((i + 1 : Nat) : Int) by omega]
    exact ih k (i + 1) (by omega) (by omega) (by omega)
theorem laws_eqUseS_eq (x0 : List S59) (k : Nat) (hn : x0.length ≤ 4611686018427387904) (hk : x0.length < k) : laws_eqUseS.f k x0 x0 = some true := by
  unfold laws_eqUseS.f
  rw [if_pos rfl]
  exact laws_eqUseS_l0 x0 hn x0.length k 0 (by omega) (by omega) hk

theorem wsucc {i n : Nat} (h : i < n) (hn : n ≤ 4611686018427387904) : wrap64 ((i : Int) + 1) = ((i + 1 : Nat) : Int) := by rw [w64 (by omega) (by omega)]; omega
theorem rdS (l : List S57) (i : Nat) (h : i < l.length) : rd_T57 l (i : Int) = l[i] := impl_NetOk.rd1 l i h
theorem rdT (l : List S55) (i : Nat) (h : i < l.length) : rd_T55 l (i : Int) = l[i] := impl_NetOk.rd2 l i h
theorem rdU (l : List S59) (i : Nat) (h : i < l.length) : rd_T59 l (i : Int) = l[i] := impl_NetOk.rd3 l i h
theorem in_sB (a b c : Int) : spec_l1In.f a b c = some (impl_NetOk.inB a b c) := by
  unfold spec_l1In.f impl_NetOk.inB
  by_cases h : a ≥ b
  · rw [if_pos h, decide_eq_true (show b ≤ a from h)]; rfl
  · rw [if_neg h, decide_eq_false (show ¬ b ≤ a from h)]; rfl
section
variable (b : Int) (s : List S57) (t : List S55) (u : List S59) (hs : s.length ≤ 4611686018427387904) (ht : t.length ≤ 4611686018427387904) (hu : u.length ≤ 4611686018427387904)
include hu
omit hu in
theorem any_cons_drop {α : Type} (l : List α) (p : α → Bool) (i : Nat) (h : i < l.length) : (l.drop i).any p = (p l[i] || (l.drop (i + 1)).any p) := by
  rw [List.drop_eq_getElem_cons h, List.any_cons]
theorem net_l2 : ∀ (d i : Nat), u.length - i = d → i ≤ u.length → Ev (fun k => spec_NetOk.l2 k (wrap64 (b - 1)) (i : Int) b s t u) (!((u.drop i).any (impl_NetOk.p3 b))) := by
  intro d
  induction d with
  | zero =>
    intro i hd hi
    refine ev_now fun k => ?_
    simp only [spec_NetOk.l2]
    rw [if_neg (by omega), List.drop_eq_nil_of_le (by omega)]; rfl
  | succ d ih =>
    intro i hd hi
    have hlt : i < u.length := by omega
    have e := ih (i + 1) (by omega) (by omega)
    rw [any_cons_drop u _ i hlt]
    have un : ∀ k, spec_NetOk.l2 (k + 1) (wrap64 (b - 1)) (i : Int) b s t u = if impl_NetOk.p3 b u[i] = true then some false else spec_NetOk.l2 k (wrap64 (b - 1)) ((i + 1 : Nat) : Int) b s t u := by
      intro k
      simp only [spec_NetOk.l2, in_sB, Option.bind_some, rdU u i hlt, wsucc hlt hu]
      rw [if_pos (by omega), if_pos (by omega)]
      unfold impl_NetOk.p3
      cases impl_NetOk.inB (u[i]).f0 0 (wrap64 (b - 1)) <;> cases impl_NetOk.inB (u[i]).f1 1 100000 <;> cases impl_NetOk.inB (u[i]).f2 0 9 <;> rfl
    cases hp : impl_NetOk.p3 b u[i]
    · exact ev_step (by rw [Bool.false_or]; exact e) fun k => by rw [un, hp, if_neg Bool.false_ne_true]
    · exact ev_now fun k => by rw [un, hp, if_pos rfl]; rfl
include ht
theorem net_l1 : ∀ (d i : Nat), t.length - i = d → i ≤ t.length → Ev (fun k => spec_NetOk.l1 k (wrap64 (b - 1)) (i : Int) b s t u) (!((t.drop i).any (impl_NetOk.p2 b)) && !(u.any (impl_NetOk.p3 b))) := by
  intro d
  induction d with
  | zero =>
    intro i hd hi
    have e := net_l2 b s t u hu u.length 0 (by omega) (by omega)
    rw [List.drop_zero] at e
    rw [List.drop_eq_nil_of_le (by omega)]
    refine ev_step e fun k => ?_
    simp only [spec_NetOk.l1]
    rw [if_neg (by omega)]; rfl
  | succ d ih =>
    intro i hd hi
    have hlt : i < t.length := by omega
    have e := ih (i + 1) (by omega) (by omega)
    rw [any_cons_drop t _ i hlt]
    have un : ∀ k, spec_NetOk.l1 (k + 1) (wrap64 (b - 1)) (i : Int) b s t u = if impl_NetOk.p2 b t[i] = true then some false else spec_NetOk.l1 k (wrap64 (b - 1)) ((i + 1 : Nat) : Int) b s t u := by
      intro k
      simp only [spec_NetOk.l1, in_sB, Option.bind_some, rdT t i hlt, wsucc hlt ht]
      rw [if_pos (by omega), if_pos (by omega)]
      unfold impl_NetOk.p2
      by_cases h : (t[i]).f0 = (t[i]).f1
      · rw [if_pos h, decide_eq_true h]
        cases impl_NetOk.inB (t[i]).f0 0 (wrap64 (b - 1)) <;> cases impl_NetOk.inB (t[i]).f1 0 (wrap64 (b - 1)) <;> rfl
      · rw [if_neg h, decide_eq_false h]
        cases impl_NetOk.inB (t[i]).f0 0 (wrap64 (b - 1)) <;> cases impl_NetOk.inB (t[i]).f1 0 (wrap64 (b - 1)) <;> rfl
    cases hp : impl_NetOk.p2 b t[i]
    · exact ev_step (by rw [Bool.false_or]; exact e) fun k => by rw [un, hp, if_neg Bool.false_ne_true]
    · exact ev_now fun k => by rw [un, hp, if_pos rfl]; rfl
include hs
theorem net_l0 : ∀ (d i : Nat), s.length - i = d → i ≤ s.length → Ev (fun k => spec_NetOk.l0 k (wrap64 (b - 1)) (i : Int) b s t u) (!((s.drop i).any (impl_NetOk.p1 b)) && (!(t.any (impl_NetOk.p2 b)) && !(u.any (impl_NetOk.p3 b)))) := by
  intro d
  induction d with
  | zero =>
    intro i hd hi
    have e := net_l1 b s t u ht hu t.length 0 (by omega) (by omega)
    rw [List.drop_zero] at e
    rw [List.drop_eq_nil_of_le (by omega)]
    refine ev_step e fun k => ?_
    simp only [spec_NetOk.l0]
    rw [if_neg (by omega)]; rfl
  | succ d ih =>
    intro i hd hi
    have hlt : i < s.length := by omega
    have e := ih (i + 1) (by omega) (by omega)
    rw [any_cons_drop s _ i hlt]
    have un : ∀ k, spec_NetOk.l0 (k + 1) (wrap64 (b - 1)) (i : Int) b s t u = if impl_NetOk.p1 b s[i] = true then some false else spec_NetOk.l0 k (wrap64 (b - 1)) ((i + 1 : Nat) : Int) b s t u := by
      intro k
      simp only [spec_NetOk.l0, in_sB, Option.bind_some, rdS s i hlt, wsucc hlt hs]
      rw [if_pos (by omega), if_pos (by omega)]
      unfold impl_NetOk.p1
      cases impl_NetOk.inB (s[i]).f0 0 (wrap64 (b - 1)) <;> cases impl_NetOk.inB (s[i]).f1 0 100000 <;> rfl
    cases hp : impl_NetOk.p1 b s[i]
    · exact ev_step (by rw [Bool.false_or]; exact e) fun k => by rw [un, hp, if_neg Bool.false_ne_true]
    · exact ev_now fun k => by rw [un, hp, if_pos rfl]; rfl
/-- Is a net right? -/
def netB : Bool := if impl_NetOk.inB b 1 8 = true then (if s.length ≤ 6 then (if t.length ≤ 16 then (if u.length ≤ 40 then (!(s.any (impl_NetOk.p1 b)) && (!(t.any (impl_NetOk.p2 b)) && !(u.any (impl_NetOk.p3 b)))) else false) else false) else false) else false
omit hs ht hu in
theorem net_i : impl_NetOk.f b s t u = some (netB b s t u) := rfl
theorem net_s : Ev (fun k => spec_NetOk.f k b s t u) (netB b s t u) := by
  have bad : Ev (fun k => spec_NetOk.j0 k true b s t u) false := ev_now fun k => by simp only [spec_NetOk.j0, if_true]
  unfold spec_NetOk.f netB
  simp only [in_sB, Option.bind_some]
  cases impl_NetOk.inB b 1 8
  · simp only [Bool.false_eq_true, if_false]; exact bad
  · simp only [if_true]
    by_cases h1 : s.length ≤ 6
    · rw [if_pos h1]
      simp only [if_neg (show ¬ (s.length : Int) > 6 by omega)]
      by_cases h2 : t.length ≤ 16
      · rw [if_pos h2]
        simp only [if_neg (show ¬ (t.length : Int) > 16 by omega)]
        by_cases h3 : u.length ≤ 40
        · rw [if_pos h3]
          simp only [decide_eq_false (show ¬ (u.length : Int) > 40 by omega)]
          have e := net_l0 b s t u hs ht hu s.length 0 (by omega) (by omega)
          rw [List.drop_zero] at e
          refine ev_step e fun k => ?_
          simp only [spec_NetOk.j0, Bool.false_eq_true, if_false]
          rfl
        · rw [if_neg h3]
          simp only [decide_eq_true (show (u.length : Int) > 40 by omega)]
          exact bad
      · rw [if_neg h2]
        simp only [if_pos (show (t.length : Int) > 16 by omega)]
        exact bad
    · rw [if_neg h1]
      simp only [if_pos (show (s.length : Int) > 6 by omega)]
      exact bad
end
theorem sz_net (b : Int) (s : List S96) (t : List S98) (u : List S100) (hs : s.length ≤ maxLen) (ht : t.length ≤ maxLen) (hu : u.length ≤ maxLen) : ∃ v, laws_szNet7.f b s t u 1048576 = some v ∧ (v < 0 ∨ (s.length ≤ 1048576 ∧ t.length ≤ 1048576 ∧ u.length ≤ 1048576)) := by
  have hs : s.length ≤ 9223372036854775807 := hs
  have ht : t.length ≤ 9223372036854775807 := ht
  have hu : u.length ≤ 9223372036854775807 := hu
  unfold laws_szNet7.f laws_szSourceS.f laws_szTieS.f laws_szUseS.f
  rw [w64 (a := 1048576 - (s.length : Int)) (by omega) (by omega)]
  by_cases c1 : 1048576 - (s.length : Int) < 0
  · rw [if_pos c1, Option.bind_some, if_pos (by omega)]; exact ⟨-1, rfl, .inl (by omega)⟩
  · rw [if_neg c1, Option.bind_some, if_neg c1, w64 (a := 1048576 - (s.length : Int) - (t.length : Int)) (by omega) (by omega)]
    by_cases c2 : 1048576 - (s.length : Int) - (t.length : Int) < 0
    · rw [if_pos c2, Option.bind_some, if_pos (by omega)]; exact ⟨-1, rfl, .inl (by omega)⟩
    · rw [if_neg c2, Option.bind_some, if_neg c2, w64 (a := 1048576 - (s.length : Int) - (t.length : Int) - (u.length : Int)) (by omega) (by omega)]
      by_cases c3 : 1048576 - (s.length : Int) - (t.length : Int) - (u.length : Int) < 0
      · rw [if_pos c3, Option.bind_some, if_pos (by omega)]; exact ⟨-1, rfl, .inl (by omega)⟩
      · rw [if_neg c3, Option.bind_some, if_neg c3]; exact ⟨_, rfl, .inr ⟨by omega, by omega, by omega⟩⟩
section
variable (b : Int) (s : List S96) (t : List S98) (u : List S100) (hs : s.length ≤ 1048576) (ht : t.length ≤ 1048576) (hu : u.length ≤ 1048576)
include hs ht hu
theorem to_net : Ev (fun k => laws_toNet7.f k b s t u) (b, s.map convS, t.map convT, u.map convU) := by
  unfold laws_toNet7.f
  refine ev_bind (F := fun k => laws_toSourceS.f k s) ⟨s.length + 1, fun k hk => laws_toSourceS_eq s k (by omega) (by omega)⟩ ?_
  refine ev_bind (F := fun k => laws_toTieS.f k t) ⟨t.length + 1, fun k hk => laws_toTieS_eq t k (by omega) (by omega)⟩ ?_
  exact ev_bind (F := fun k => laws_toUseS.f k u) ⟨u.length + 1, fun k hk => laws_toUseS_eq u k (by omega) (by omega)⟩ (ev_const rfl)
end
theorem eq_net (b : Int) (s : List S57) (t : List S55) (u : List S59) (hs : s.length ≤ 1048576) (ht : t.length ≤ 1048576) (hu : u.length ≤ 1048576) : Ev (fun k => laws_eqNet7.f k b s t u b s t u) true := by
  unfold laws_eqNet7.f
  simp only [if_true]
  refine ev_bind (F := fun k => laws_eqSourceS.f k s s) ⟨s.length + 1, fun k hk => laws_eqSourceS_eq s k (by omega) (by omega)⟩ ?_
  simp only [if_true]
  refine ev_bind (F := fun k => laws_eqTieS.f k t t) ⟨t.length + 1, fun k hk => laws_eqTieS_eq t k (by omega) (by omega)⟩ ?_
  simp only [if_true]
  refine ev_bind (F := fun k => laws_eqUseS.f k u u) ⟨u.length + 1, fun k hk => laws_eqUseS_eq u k (by omega) (by omega)⟩ ?_
  simp only [if_true]
  exact ev_const rfl
theorem FnExactNetOk : laws_FnExactNetOk.Pure := by
  intro b s t u _ ⟨hs, _⟩ ⟨ht, _⟩ ⟨hu, _⟩
  suffices H : Ev (fun k => laws_FnExactNetOk.f k b s t u) true by obtain ⟨K, hK⟩ := H; exact ⟨K, hK K (Nat.le_refl _)⟩
  obtain ⟨v, hv, o⟩ := sz_net b s t u hs ht hu
  unfold laws_FnExactNetOk.f
  simp only [hv, Option.bind_some]
  by_cases c : v < 0
  · simp only [if_pos c]; exact ev_const rfl
  · simp only [if_neg c]
    rcases o with o | ⟨h1, h2, h3⟩
    · exact absurd o c
    · have et := to_net b s t u h1 h2 h3
      have l1 : (s.map convS).length ≤ 1048576 := by rw [List.length_map]; exact h1
      have l2 : (t.map convT).length ≤ 1048576 := by rw [List.length_map]; exact h2
      have l3 : (u.map convU).length ≤ 1048576 := by rw [List.length_map]; exact h3
      have es := net_s b (s.map convS) (t.map convT) (u.map convU) (by omega) (by omega) (by omega)
      have ei := net_i b (s.map convS) (t.map convT) (u.map convU)
      have ee := eq_net b (s.map convS) (t.map convT) (u.map convU) l1 l2 l3
      refine ev_bind (F := fun k => laws_toNet7.f k b s t u) et ?_
      refine ev_bind (F := fun k => spec_NetOk.f k b (s.map convS) (t.map convT) (u.map convU)) es ?_
      refine ev_bind (F := fun k => laws_toNet7.f k b s t u) et ?_
      simp only [ei, Option.bind_some, bne_self_eq_false, Bool.false_eq_true, if_false]
      refine ev_bind (F := fun k => laws_toNet7.f k b s t u) et ?_
      refine ev_bind (F := fun k => laws_eqNet7.f k b (s.map convS) (t.map convT) (u.map convU) b (s.map convS) (t.map convT) (u.map convU)) ee ?_
      simp only [if_true]
      exact ev_const rfl
end Go.Proofs.Ytbbfibokedlkkaa.Pure.FnExactNetOk
namespace Go.Proofs.Ytbbfibokedlkkaa.Pure
theorem FnExactNetOk : Go.Proofs.Ytbbfibokedlkkaa.PFnExactNetOk.laws_FnExactNetOk.Pure := FnExactNetOk.FnExactNetOk
end Go.Proofs.Ytbbfibokedlkkaa.Pure
