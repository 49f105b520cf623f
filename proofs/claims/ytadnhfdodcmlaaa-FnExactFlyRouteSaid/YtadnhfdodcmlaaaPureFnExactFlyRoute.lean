/- For every Craft and list of Legs the program's FlyRoute answers what the reference's answers, keeps nothing and writes nothing (FnExactFlyRoute returns true); no condition. -/
import Derived.Test.YtadnhfdodcmlaaaAskFnExactFlyRoute
import Derived.Test.YtadnhfdodcmlaaaNum
namespace Go.Proofs.Ytadnhfdodcmlaaa.Pure.FnExactFlyRoute
open Go.RowKit Go.Proofs.Ytadnhfdodcmlaaa.PFnExactFlyRoute Go.Proofs.YtadnhfdodcmlaaaW.PrintWords Go.Proofs.YtadnhfdodcmlaaaW.PrintLast Go.Proofs.YtadnhfdodcmlaaaW.PrintMore Go.Proofs.Ytadnhfdodcmlaaa.Num
set_option linter.unusedVariables false
set_option linter.unusedSimpArgs false
theorem in_s (a b c : Int) : spec_l1In.f a b c = some (decide (b ≤ a) && decide (a ≤ c)) := by
 unfold spec_l1In.f
 by_cases h : a ≥ b
 ·
  rw [if_pos h, decide_eq_true (show b ≤ a from h)]; rfl
 ·
  rw [if_neg h, decide_eq_false (show ¬ b ≤ a from h)]; rfl
/-- From some count of rounds on it answers r. -/
def Ev {α : Type} (F : Nat → Option α) (r : α) : Prop := ∃ K, ∀ k, K ≤ k → F k = some r
theorem ev_step {α : Type} {F G : Nat → Option α} {r : α} (h : Ev G r) (e : ∀ k, F (k + 1) = G k) : Ev F r := by
 obtain ⟨K, h⟩ := h; refine ⟨K + 1, fun k hk => ?_⟩; obtain ⟨m, rfl⟩ : ∃ m, k = m + 1 := ⟨k - 1, by omega⟩; rw [e m]; exact h m (by omega)
theorem ev_now {α : Type} {F : Nat → Option α} {r : α} (e : ∀ k, F (k + 1) = some r) : Ev F r :=
 ⟨1, fun k hk => by obtain ⟨m, rfl⟩ : ∃ m, k = m + 1 := ⟨k - 1, by omega⟩; exact e m⟩
theorem ev_const {α : Type} {o : Option α} {r : α} (e : o = some r) : Ev (fun _ => o) r := ⟨0, fun _ _ => e⟩
theorem ev_bind {α β : Type} {F : Nat → Option α} {G : Nat → α → Option β} {a : α} {r : β} (h : Ev F a) (g : Ev (fun k => G k a) r) : Ev (fun k => (F k).bind (G k)) r := by
 obtain ⟨K, h⟩ := h; obtain ⟨L, g⟩ := g; exact ⟨max K L, fun k hk => by show (F k).bind (G k) = _; rw [h k (by omega), Option.bind_some]; exact g k (by omega)⟩
theorem ev_cong {α : Type} {F G : Nat → Option α} {r : α} (h : Ev G r) (e : ∀ k, F k = G k) : Ev F r := by
 obtain ⟨K, h⟩ := h; exact ⟨K, fun k hk => (e k).trans (h k hk)⟩
def conv (x : S29) : S31 := ⟨x.f0, x.f1, x.f2, x.f3⟩
theorem laws_toLegS_l0 (x0 : List S29) (hn : x0.length ≤ 4611686018427387904) : ∀ (d k i : Nat) (x3 : List S31), x0.length - i = d → i ≤ x0.length → d < k → x3.length = x0.length → (∀ j, j < i → x3[j]? = (x0.map conv)[j]?) → laws_toLegS.l0 k x0 x3 (i : Int) = some (x0.map conv) := by
 intro d
 induction d with
 | zero =>
  intro k i x3 hd hi hk hl hj; obtain ⟨k, rfl⟩ : ∃ m, k = m + 1 := ⟨k - 1, by omega⟩; simp only [laws_toLegS.l0]; rw [if_neg (by omega)]
  congr 1
  apply List.ext_getElem?
  intro j
  by_cases h : j < i
  ·
   exact hj j h
  ·
   rw [List.getElem?_eq_none (by omega), List.getElem?_eq_none (by simp; omega)]
 | succ d ih =>
  intro k i x3 hd hi hk hl hj; obtain ⟨k, rfl⟩ : ∃ m, k = m + 1 := ⟨k - 1, by omega⟩
  have hlt : i < x0.length := by omega
  simp only [laws_toLegS.l0, laws_toLeg.f, Option.bind_some]; rw [if_pos (by omega), if_pos (by omega), if_pos (by omega), w64 (a := (i : Int) + 1) (by omega) (by omega), show (i : Int) + 1 = ((i + 1 : Nat) : Int) by omega]; refine ih k (i + 1) _ (by omega) (by omega) (by omega) (by simpa using hl) ?_; intro j hj'
  have hr : rd_T29 x0 (i : Int) = x0[i] := by
   show x0.getD (i : Int).toNat z29 = _
   rw [Int.toNat_natCast, List.getD_eq_getElem?_getD, List.getElem?_eq_getElem hlt]; rfl
  simp only [Int.toNat_natCast, hr]
  by_cases e : j = i
  ·
   subst e; rw [List.getElem?_set_self (by omega), List.getElem?_map, List.getElem?_eq_getElem hlt]; rfl
  ·
   rw [List.getElem?_set_ne (fun h => e h.symm)]; exact hj j (by omega)
theorem laws_toLegS_eq (x0 : List S29) (k : Nat) (hn : x0.length ≤ 8796093022208) (hk : x0.length < k) : laws_toLegS.f k x0 = some (x0.map conv) := by
 unfold laws_toLegS.f
 rw [if_pos (by omega), if_pos (by rw [Int.toNat_natCast]; omega), Int.toNat_natCast]; exact laws_toLegS_l0 x0 (by omega) x0.length k 0 _ (by omega) (by omega) hk (by simp) (fun j hj => by omega)

theorem laws_eqLegS_l0 (x0 : List S31) (hn : x0.length ≤ 4611686018427387904) : ∀ (d k i : Nat), x0.length - i = d → i ≤ x0.length → d < k → laws_eqLegS.l0 k x0 x0 (i : Int) = some true := by
 intro d
 induction d with
 | zero =>
  intro k i hd hi hk; obtain ⟨k, rfl⟩ : ∃ m, k = m + 1 := ⟨k - 1, by omega⟩; simp only [laws_eqLegS.l0]; rw [if_neg (by omega)]
 | succ d ih =>
  intro k i hd hi hk; obtain ⟨k, rfl⟩ : ∃ m, k = m + 1 := ⟨k - 1, by omega⟩; simp only [laws_eqLegS.l0, laws_eqLeg.f, if_true, bne_self_eq_false, Bool.false_eq_true, if_false, Option.bind_some]; rw [if_pos (by omega), if_pos (by omega), if_pos (by omega), w64 (a := (i : Int) + 1) (by omega) (by omega), show (i : Int) + 1 = ((i + 1 : Nat) : Int) by omega]; exact ih k (i + 1) (by omega) (by omega) (by omega)
theorem laws_eqLegS_eq (x0 : List S31) (k : Nat) (hn : x0.length ≤ 4611686018427387904) (hk : x0.length < k) : laws_eqLegS.f k x0 x0 = some true := by
 unfold laws_eqLegS.f
 rw [if_pos rfl]; exact laws_eqLegS_l0 x0 hn x0.length k 0 (by omega) (by omega) hk

theorem laws_markLegS_rs (x : List S31) (i : Nat) (v : S31) (h : i < x.length) : rd_T31 (x.set (i : Int).toNat v) (i : Int) = v := by
 show (x.set (i : Int).toNat v).getD (i : Int).toNat z31 = _
 rw [Int.toNat_natCast, List.getD_eq_getElem?_getD, List.getElem?_set_self h]; rfl
theorem laws_markLegS_l0 (m : Int) (n : Nat) (hm : 0 ≤ m) (hn : m + 4 * n ≤ 4611686018427387904) : ∀ (d k i : Nat) (x0 : List S31), x0.length = n → n - i = d → i ≤ n → d < k → (∀ j : Nat, j < i → x0[j]? = some (⟨m + 4 * (j : Int), m + 4 * (j : Int) + 1, m + 4 * (j : Int) + 1 + 1, m + 4 * (j : Int) + 1 + 1 + 1⟩ : S31)) → ∃ x, laws_markLegS.l0 k x0 (m + 4 * (i : Int)) (i : Int) = some (m + 4 * n, x) ∧ x.length = n ∧ ∀ j : Nat, j < n → x[j]? = some (⟨m + 4 * (j : Int), m + 4 * (j : Int) + 1, m + 4 * (j : Int) + 1 + 1, m + 4 * (j : Int) + 1 + 1 + 1⟩ : S31) := by
 intro d
 induction d with
 | zero =>
  intro k i x0 hl hd hi hk hj; obtain ⟨k, rfl⟩ : ∃ m, k = m + 1 := ⟨k - 1, by omega⟩
  obtain rfl : i = n := by omega
  simp only [laws_markLegS.l0]; rw [if_neg (by omega)]; exact ⟨x0, rfl, hl, hj⟩
 | succ d ih =>
  intro k i x0 hl hd hi hk hj; obtain ⟨k, rfl⟩ : ∃ m, k = m + 1 := ⟨k - 1, by omega⟩
  have hlt : i < x0.length := by omega
  have rs : ∀ v, rd_T31 (x0.set (i : Int).toNat v) (i : Int) = v := fun v => laws_markLegS_rs x0 i v hlt
  simp only [laws_markLegS.l0, Option.bind_some, rs, List.set_set]; rw [if_pos (by omega), if_pos (by omega), w64 (a := (i : Int) + 1) (by omega) (by omega), w64 (a := m + 4 * (i : Int) + 1) (by omega) (by omega), w64 (a := m + 4 * (i : Int) + 1 + 1) (by omega) (by omega), w64 (a := m + 4 * (i : Int) + 1 + 1 + 1) (by omega) (by omega), w64 (a := m + 4 * (i : Int) + 1 + 1 + 1 + 1) (by omega) (by omega), show (i : Int) + 1 = ((i + 1 : Nat) : Int) by omega, show m + 4 * (i : Int) + 1 + 1 + 1 + 1 = m + 4 * ((i + 1 : Nat) : Int) by omega]; refine ih k (i + 1) _ (by simpa using hl) (by omega) (by omega) (by omega) ?_; intro j hj'; rw [Int.toNat_natCast]
  by_cases e : j = i
  ·
   subst e; rw [List.getElem?_set_self (by omega)]
  ·
   rw [List.getElem?_set_ne (fun h => e h.symm)]; exact hj j (by omega)
theorem markedL (l : List S31) (m : Int) (hm : 0 ≤ m) (hn : m + 4 * l.length ≤ 4611686018427387904) : ∃ x, (∀ k, l.length < k → laws_markLegS.f k l m = some (m + 4 * l.length, x)) ∧ x.length = l.length := by
 have hz : m + 4 * ((0 : Nat) : Int) = m := by omega
 obtain ⟨x, h1, h2, h3⟩ := laws_markLegS_l0 m l.length hm hn l.length (l.length + 1) 0 l rfl (by omega) (by omega) (by omega) (fun j hj => by omega); refine ⟨x, fun k hk => ?_, h2⟩
 ·
  obtain ⟨y, g1, g2, g3⟩ := laws_markLegS_l0 m l.length hm hn l.length k 0 l rfl (by omega) (by omega) hk (fun j hj => by omega)
  have e : y = x := by
   apply List.ext_getElem?
   intro j
   by_cases h : j < l.length
   ·
    rw [g3 j h, h3 j h]
   ·
    rw [List.getElem?_eq_none (by omega), List.getElem?_eq_none (by omega)]
  unfold laws_markLegS.f
  rw [hz] at g1; rw [← e]; exact g1

theorem laws_eqIntS_l0 (x0 : List Int) (hn : x0.length ≤ 4611686018427387904) : ∀ (d k i : Nat), x0.length - i = d → i ≤ x0.length → d < k → laws_eqIntS.l0 k x0 x0 (i : Int) = some true := by
 intro d
 induction d with
 | zero =>
  intro k i hd hi hk; obtain ⟨k, rfl⟩ : ∃ m, k = m + 1 := ⟨k - 1, by omega⟩; simp only [laws_eqIntS.l0]; rw [if_neg (by omega)]
 | succ d ih =>
  intro k i hd hi hk; obtain ⟨k, rfl⟩ : ∃ m, k = m + 1 := ⟨k - 1, by omega⟩; simp only [laws_eqIntS.l0]; rw [if_pos (by omega), if_pos (by omega), if_pos (by omega), w64 (a := (i : Int) + 1) (by omega) (by omega), show (i : Int) + 1 = ((i + 1 : Nat) : Int) by omega]; rw [if_pos trivial]; exact ih k (i + 1) (by omega) (by omega) (by omega)
theorem laws_eqIntS_eq (x0 : List Int) (k : Nat) (hn : x0.length ≤ 4611686018427387904) (hk : x0.length < k) : laws_eqIntS.f k x0 x0 = some true := by
 unfold laws_eqIntS.f
 rw [if_pos rfl]; exact laws_eqIntS_l0 x0 hn x0.length k 0 (by omega) (by omega) hk

theorem laws_markIntS_l0 (m : Int) (n : Nat) (hm : 0 ≤ m) (hn : m + n ≤ 4611686018427387904) : ∀ (d k i : Nat) (x0 : List Int), x0.length = n → n - i = d → i ≤ n → d < k → (∀ j, j < i → x0[j]? = some (m + (j : Int))) → ∃ x, laws_markIntS.l0 k x0 (m + i) (i : Int) = some (m + n, x) ∧ x.length = n ∧ ∀ j, j < n → x[j]? = some (m + (j : Int)) := by
 intro d
 induction d with
 | zero =>
  intro k i x0 hl hd hi hk hj; obtain ⟨k, rfl⟩ : ∃ m, k = m + 1 := ⟨k - 1, by omega⟩
  obtain rfl : i = n := by omega
  simp only [laws_markIntS.l0]; rw [if_neg (by omega)]; exact ⟨x0, rfl, hl, hj⟩
 | succ d ih =>
  intro k i x0 hl hd hi hk hj; obtain ⟨k, rfl⟩ : ∃ m, k = m + 1 := ⟨k - 1, by omega⟩; simp only [laws_markIntS.l0]; rw [if_pos (by omega), if_pos (by omega), w64 (a := (i : Int) + 1) (by omega) (by omega), w64 (a := m + (i : Int) + 1) (by omega) (by omega), show (i : Int) + 1 = ((i + 1 : Nat) : Int) by omega, show m + (i : Int) + 1 = m + ((i + 1 : Nat) : Int) by omega]; refine ih k (i + 1) _ (by simpa using hl) (by omega) (by omega) (by omega) ?_; intro j hj'; rw [Int.toNat_natCast]
  by_cases e : j = i
  ·
   subst e; rw [List.getElem?_set_self (by omega)]
  ·
   rw [List.getElem?_set_ne (fun h => e h.symm)]; exact hj j (by omega)
theorem laws_heldIntS_l0 (m : Int) (n : Nat) (hm : 0 ≤ m) (hn : m + n ≤ 4611686018427387904) (x : List Int) (hl : x.length = n) (hx : ∀ j, j < n → x[j]? = some (m + (j : Int))) : ∀ (d k i : Nat), n - i = d → i ≤ n → d < k → laws_heldIntS.l0 k x (m + i) (i : Int) = some (m + n) := by
 intro d
 induction d with
 | zero =>
  intro k i hd hi hk; obtain ⟨k, rfl⟩ : ∃ m, k = m + 1 := ⟨k - 1, by omega⟩
  obtain rfl : i = n := by omega
  simp only [laws_heldIntS.l0]; rw [if_neg (by omega)]
 | succ d ih =>
  intro k i hd hi hk; obtain ⟨k, rfl⟩ : ∃ m, k = m + 1 := ⟨k - 1, by omega⟩; simp only [laws_heldIntS.l0]
  have hr : rd x (i : Int) = (m + (i : Int)) := by
   show x.getD (i : Int).toNat 0 = _
   rw [Int.toNat_natCast, List.getD_eq_getElem?_getD, hx i (by omega)]; rfl
  rw [if_pos (by omega), if_pos (by omega), if_pos hr, w64 (a := (i : Int) + 1) (by omega) (by omega), w64 (a := m + (i : Int) + 1) (by omega) (by omega), show (i : Int) + 1 = ((i + 1 : Nat) : Int) by omega, show m + (i : Int) + 1 = m + ((i + 1 : Nat) : Int) by omega]; exact ih k (i + 1) (by omega) (by omega) (by omega)
theorem mark_int (l : List Int) (m : Int) (hm : 0 ≤ m) (hn : m + l.length ≤ 4611686018427387904) (k : Nat) (hk : l.length < k) : ∃ x, laws_markIntS.f k l m = some (m + l.length, x) ∧ x.length = l.length ∧ ∀ k', l.length < k' → laws_heldIntS.f k' x m = some (m + l.length) := by
 obtain ⟨x, h1, h2, h3⟩ := laws_markIntS_l0 m l.length hm hn l.length k 0 l rfl (by omega) (by omega) hk (fun j hj => by omega); refine ⟨x, ?_, h2, fun k' hk' => ?_⟩
 ·
  unfold laws_markIntS.f
  have := h1
  rwa [show m + ((0 : Nat) : Int) = m by omega] at this
 ·
  unfold laws_heldIntS.f
  have := laws_heldIntS_l0 m l.length hm hn x h2 h3 l.length k' 0 (by omega) (by omega) hk'
  rwa [show m + ((0 : Nat) : Int) = m by omega] at this

def DX (d : Int) : Int := ((impl_way.f d).getD (0, 0)).1
def DY (d : Int) : Int := ((impl_way.f d).getD (0, 0)).2
def HH (h c : Int) : Int := max 0 (min (h + c) 2000)
def inn (x y : Int) : Bool := decide ((-1000 ≤ x ∧ x ≤ 1000) ∧ (-1000 ≤ y ∧ y ≤ 1000))
theorem dirs {d : Int} (h0 : 0 ≤ d) (h1 : d ≤ 7) : d = 0 ∨ d = 1 ∨ d = 2 ∨ d = 3 ∨ d = 4 ∨ d = 5 ∨ d = 6 ∨ d = 7 := by omega
theorem way_i {d : Int} (h0 : 0 ≤ d) (h1 : d ≤ 7) : impl_way.f d = some (DX d, DY d) := by
 rcases dirs h0 h1 with h | h | h | h | h | h | h | h <;> subst h <;> rfl
theorem way_b {d : Int} (h0 : 0 ≤ d) (h1 : d ≤ 7) : (-1 ≤ DX d ∧ DX d ≤ 1) ∧ (-1 ≤ DY d ∧ DY d ≤ 1) := by
 rcases dirs h0 h1 with h | h | h | h | h | h | h | h <;> subst h <;> decide
theorem hh_b (h c : Int) : 0 ≤ HH h c ∧ HH h c ≤ 2000 := by unfold HH; omega
theorem step_s {x y d h c : Int} (h0 : 0 ≤ d) (h1 : d ≤ 7) (hx : -100000 ≤ x ∧ x ≤ 100000) (hy : -100000 ≤ y ∧ y ≤ 100000) (hh : 0 ≤ h ∧ h ≤ 2000) (hc : -20 ≤ c ∧ c ≤ 20) :
  spec_l12Step.f x y d h c = some (x + DX d, y + DY d, d, HH h c, c) := by
 have hb := way_b h0 h1; have e1 : wrap64 (x + DX d) = x + DX d := w64 (by omega) (by omega); have e2 : wrap64 (y + DY d) = y + DY d := w64 (by omega) (by omega); have e3 : wrap64 (h + c) = h + c := w64 (by omega) (by omega)
 have em : spec_l1Min.f 2000 (h + c) = some (min (h + c) 2000) := by
  unfold spec_l1Min.f; split <;> congr 1 <;> omega
 have eM : spec_l1Max.f 0 (min (h + c) 2000) = some (HH h c) := by
  unfold spec_l1Max.f HH; split <;> congr 1 <;> omega
 have r1 : rd ([0, 1, 1, 1, 0, (-1), (-1), (-1)] : List Int) d = DX d := by
  rcases dirs h0 h1 with h | h | h | h | h | h | h | h <;> subst h <;> rfl
 have r2 : rd ([1, 1, 0, (-1), (-1), (-1), 0, 1] : List Int) d = DY d := by
  rcases dirs h0 h1 with h | h | h | h | h | h | h | h <;> subst h <;> rfl
 unfold spec_l12Step.f
 rw [Option.bind_some, Option.bind_some, if_pos h0, if_pos (by simp; omega), if_pos (by simp; omega), e3, em, Option.bind_some, eM, Option.bind_some, r1, r2, e1, e2]
theorem step_i {x y d h c n : Int} (fl : Bool) (h0 : 0 ≤ d) (h1 : d ≤ 7) (hx : -100000 ≤ x ∧ x ≤ 100000) (hy : -100000 ≤ y ∧ y ≤ 100000) (hh : 0 ≤ h ∧ h ≤ 2000) (hc : -20 ≤ c ∧ c ≤ 20) (hn : 0 ≤ n ∧ n ≤ 100000) :
  impl_flight_step.f x y d h c n fl = some (x + DX d, y + DY d, d, HH h c, c, n + 1, fl || !inn (x + DX d) (y + DY d)) := by
 have hb := way_b h0 h1; have e1 : wrap64 (x + DX d) = x + DX d := w64 (by omega) (by omega); have e2 : wrap64 (y + DY d) = y + DY d := w64 (by omega) (by omega); have e3 : wrap64 (h + c) = h + c := w64 (by omega) (by omega); have e4 : wrap64 (n + 1) = n + 1 := w64 (by omega) (by omega)
 have eh : mx (mn (h + c) 2000) 0 = HH h c := by
  unfold HH mx mn; split <;> split <;> omega
 have ei : ∀ z : Int, impl_in.f z (-1000) 1000 = some (decide (-1000 ≤ z) && decide (z ≤ 1000)) := fun z => in_s z (-1000) 1000
 unfold impl_flight_step.f impl_held.f
 rw [way_i h0 h1, Option.bind_some, Option.bind_some]; simp only [e1, e2, e3, e4, eh, ei, Option.bind_some]; generalize hX : x + DX d = X; generalize hY : y + DY d = Y
 cases fl
 ·
  unfold inn
  by_cases a1 : -1000 ≤ X <;> by_cases a2 : X ≤ 1000 <;> by_cases a3 : -1000 ≤ Y <;> by_cases a4 : Y ≤ 1000 <;> simp [a1, a2, a3, a4]
 ·
  rfl
theorem craft_s {x y d h c : Int} (h0 : 0 ≤ d) (h1 : d ≤ 7) (hh : 0 ≤ h ∧ h ≤ 2000) (hc : -20 ≤ c ∧ c ≤ 20) : spec_CraftOk.f x y d h c = some (inn x y) := by
 simp only [spec_CraftOk.f, in_s, Option.bind_some, ites]
 congr 1
 unfold inn
 simp only [h0, h1, hh.1, hh.2, hc.1, hc.2, decide_true, Bool.and_true, Bool.decide_and]
/-- What impl's flight and the reference's loop answer together from one state. -/
def Same (F : Nat → Option (Bool × Int × Int × Int × Int × Int × Int × Bool)) (S : Nat → Option (Int × Int × Int × Int × Int × Int × Int)) (fl : Bool) (w : Int × Int × Int × Int × Int) : Prop :=
 ∃ x y d h c n g, Ev F (true, x, y, d, h, c, n, g) ∧ (fl = true → g = true) ∧ (fl = false → Ev S (if g = true then (w.1, w.2.1, w.2.2.1, w.2.2.2.1, w.2.2.2.2, 0, 2) else (x, y, d, h, c, n, 0)))
/-- The end of a leg. -/
theorem same_end {F S} {fl : Bool} {w} {x y d h c n : Int} (hF : Ev F (true, x, y, d, h, c, n, fl)) (hS : Ev S (x, y, d, h, c, n, 0)) : Same F S fl w :=
 ⟨x, y, d, h, c, n, fl, hF, id, fun e => by rw [e]; exact hS⟩
/-- One step of both. -/
theorem same_step {F F' S S'} {fl : Bool} {w : Int × Int × Int × Int × Int} {ok : Bool} (hI : Same F' S' (fl || !ok) w) (hF : ∀ r, Ev F' r → Ev F r)
  (hS : ok = true → ∀ r, Ev S' r → Ev S r) (hN : ok = false → Ev S (w.1, w.2.1, w.2.2.1, w.2.2.2.1, w.2.2.2.2, 0, 2)) : Same F S fl w := by
 obtain ⟨x, y, d, h, c, n, g, eF, e1, e2⟩ := hI; refine ⟨x, y, d, h, c, n, g, hF _ eF, fun e => e1 (by rw [e]; rfl), fun e => ?_⟩
 cases ok
 ·
  have : g = true := e1 (by rw [e]; rfl); rw [if_pos this]; exact hN rfl
 ·
  exact hS rfl _ (e2 (by rw [e]; rfl))
/-- A step of the reference's loop, when the leg's next craft is known. -/
theorem next_in {x y d h c x' y' d' h' c' n p q r s w0 w1 w2 w3 w4 : Int} (hn : ∀ k, spec_l12Next.f (k + 2) x y d h c p q r s n = some (x', y', d', h', c', false)) (h0 : 0 ≤ d') (h1 : d' ≤ 7) (hh : 0 ≤ h' ∧ h' ≤ 2000) (hc : -20 ≤ c' ∧ c' ≤ 20) (hm : 0 ≤ n ∧ n ≤ 100000)
  (hi : inn x' y' = true) (v) (hv : Ev (fun k => spec_FlyLeg.l0 k (n + 1) x' y' d' h' c' p q r s w0 w1 w2 w3 w4) v) : Ev (fun k => spec_FlyLeg.l0 k n x y d h c p q r s w0 w1 w2 w3 w4) v := by
 obtain ⟨K, hv⟩ := hv; refine ⟨K + 3, fun k hk => ?_⟩; obtain ⟨m, rfl⟩ : ∃ m, k = m + 3 := ⟨k - 3, by omega⟩; simp only [spec_FlyLeg.l0]; rw [hn m, Option.bind_some, if_neg Bool.false_ne_true, craft_s h0 h1 hh hc, hi, Option.bind_some, if_pos rfl, w64 (a := n + 1) (by omega) (by omega)]; exact hv (m + 2) (by omega)
theorem next_out {x y d h c x' y' d' h' c' n p q r s w0 w1 w2 w3 w4 : Int} (hn : ∀ k, spec_l12Next.f (k + 2) x y d h c p q r s n = some (x', y', d', h', c', false)) (h0 : 0 ≤ d') (h1 : d' ≤ 7) (hh : 0 ≤ h' ∧ h' ≤ 2000) (hc : -20 ≤ c' ∧ c' ≤ 20)
  (hi : inn x' y' = false) : Ev (fun k => spec_FlyLeg.l0 k n x y d h c p q r s w0 w1 w2 w3 w4) (w0, w1, w2, w3, w4, 0, 2) := by
 refine ⟨3, fun k hk => ?_⟩; obtain ⟨m, rfl⟩ : ∃ m, k = m + 3 := ⟨k - 3, by omega⟩; simp only [spec_FlyLeg.l0]; rw [hn m, Option.bind_some, if_neg Bool.false_ne_true, craft_s h0 h1 hh hc, hi, Option.bind_some, if_neg Bool.false_ne_true]
theorem next_end {x y d h c x' y' d' h' c' n p q r s w0 w1 w2 w3 w4 : Int} (hn : ∀ k, spec_l12Next.f (k + 2) x y d h c p q r s n = some (x', y', d', h', c', true)) : Ev (fun k => spec_FlyLeg.l0 k n x y d h c p q r s w0 w1 w2 w3 w4) (x', y', d', h', c', n, 0) := by
 refine ⟨3, fun k hk => ?_⟩; obtain ⟨m, rfl⟩ : ∃ m, k = m + 3 := ⟨k - 3, by omega⟩; simp only [spec_FlyLeg.l0]; rw [hn m, Option.bind_some, if_pos rfl]
section
variable (w0 w1 w2 w3 w4 : Int)
/-- To a place. -/
theorem way_inj {i d : Int} (h0 : 0 ≤ i) (h1 : i < d) (h2 : d ≤ 7) : ¬ (DX i = DX d ∧ DY i = DY d) := by
 rcases dirs h0 (by omega) with h | h | h | h | h | h | h | h <;> subst h <;>
  rcases dirs (d := d) (by omega) h2 with h | h | h | h | h | h | h | h <;> subst h <;> first | omega | decide
theorem dirOf_l {d : Int} (h0 : 0 ≤ d) (h2 : d ≤ 7) : ∀ (m : Nat) (i : Int), 0 ≤ i → i + m = d → Ev (fun k => impl_dirOf.l0 k (DX d) (DY d) i) d := by
 intro m
 induction m with
 | zero =>
  intro i hi hm
  obtain rfl : i = d := by omega
  refine ev_now fun k => ?_
  simp only [impl_dirOf.l0]; rw [way_i h0 h2, Option.bind_some, if_pos rfl, if_pos rfl]
 | succ m ih =>
  intro i hi hm; have hn := way_inj hi (by omega) h2
  refine ev_step (ih (i + 1) (by omega) (by omega)) fun k => ?_
  simp only [impl_dirOf.l0]; rw [way_i hi (by omega), Option.bind_some, w64 (a := i + 1) (by omega) (by omega)]
  show (if DX i = DX d then (if DY i = DY d then some i else impl_dirOf.l0 k (DX d) (DY d) (i + 1)) else impl_dirOf.l0 k (DX d) (DY d) (i + 1)) = impl_dirOf.l0 k (DX d) (DY d) (i + 1)
  by_cases hx : DX i = DX d
  ·
   rw [if_pos hx, if_neg (fun e => hn ⟨hx, e⟩)]
  ·
   rw [if_neg hx]
theorem dirS {a b : Int} (ha : -1 ≤ a ∧ a ≤ 1) (hb : -1 ≤ b ∧ b ≤ 1) : spec_l12Dir.f a b = some (rd ([5, 6, 7, 4, 0, 0, 3, 2, 1] : List Int) ((a + 1) * 3 + b + 1)) := by
 have e : wrap64 (wrap64 (wrap64 (wrap64 (a + 1) * 3) + b) + 1) = (a + 1) * 3 + b + 1 := by
  rw [w64 (a := a + 1) (by omega) (by omega), w64 (a := (a + 1) * 3) (by omega) (by omega), w64 (a := (a + 1) * 3 + b) (by omega) (by omega)]; exact w64 (by omega) (by omega)
 unfold spec_l12Dir.f
 rw [Option.bind_some, e, if_pos (by omega), if_pos (by simp; omega)]
theorem dirOf_i {a b : Int} (ha : -1 ≤ a ∧ a ≤ 1) (hb : -1 ≤ b ∧ b ≤ 1) (hn : ¬ (a = 0 ∧ b = 0)) : ∃ d, Ev (fun k => impl_dirOf.f k a b) d ∧ spec_l12Dir.f a b = some d ∧ 0 ≤ d ∧ d ≤ 7 ∧ DX d = a ∧ DY d = b := by
 have key : ∃ d, 0 ≤ d ∧ d ≤ 7 ∧ DX d = a ∧ DY d = b ∧ rd ([5, 6, 7, 4, 0, 0, 3, 2, 1] : List Int) ((a + 1) * 3 + b + 1) = d := by
  have h : (a = -1 ∨ a = 0 ∨ a = 1) ∧ (b = -1 ∨ b = 0 ∨ b = 1) := by omega
  obtain ⟨h1 | h1 | h1, h2 | h2 | h2⟩ := h <;> subst h1 <;> subst h2
  ·
   exact ⟨5, by decide, by decide, rfl, rfl, rfl⟩
  ·
   exact ⟨6, by decide, by decide, rfl, rfl, rfl⟩
  ·
   exact ⟨7, by decide, by decide, rfl, rfl, rfl⟩
  ·
   exact ⟨4, by decide, by decide, rfl, rfl, rfl⟩
  ·
   exact absurd ⟨rfl, rfl⟩ hn
  ·
   exact ⟨0, by decide, by decide, rfl, rfl, rfl⟩
  ·
   exact ⟨3, by decide, by decide, rfl, rfl, rfl⟩
  ·
   exact ⟨2, by decide, by decide, rfl, rfl, rfl⟩
  ·
   exact ⟨1, by decide, by decide, rfl, rfl, rfl⟩
 obtain ⟨d, h0, h1, rfl, rfl, hr⟩ := key; exact ⟨d, dirOf_l h0 h1 d.toNat 0 (by omega) (by omega), by rw [dirS ha hb, hr], h0, h1, rfl, rfl⟩
def sg (z : Int) : Int := max (min z 1) (-1)
theorem sg_i (z : Int) : impl_signOf.f z = some (sg z) := by
 unfold impl_signOf.f impl_held.f
 rw [Option.bind_some]
 congr 1
 unfold sg mx mn; split <;> split <;> omega
theorem sg_s (z : Int) : spec_l12Sign.f z = some (sg z) := by
 unfold spec_l12Sign.f sg
 split
 ·
  congr 1; omega
 ·
  split <;> congr 1 <;> omega
theorem leg_to (q r s : Int) (hq : -500 ≤ q ∧ q ≤ 500) (hr : -500 ≤ r ∧ r ≤ 500) : ∀ (m : Nat) (x y d h c n : Int) (fl : Bool), (-1000 ≤ x ∧ x ≤ 1000) → (-1000 ≤ y ∧ y ≤ 1000) → (0 ≤ h ∧ h ≤ 2000) → (-20 ≤ c ∧ c ≤ 20) → 0 ≤ n → n + m ≤ 2000 → q - x ≤ m → x - q ≤ m → r - y ≤ m → y - r ≤ m →
  Same (fun k => impl_flight_fly.l0 k x y d h c n fl 1 q r s) (fun k => spec_FlyLeg.l0 k n x y d h c 1 q r s w0 w1 w2 w3 w4) fl (w0, w1, w2, w3, w4) := by
 intro m
 induction m with
 | zero =>
  intro x y d h c n fl hx hy hh hc hn hm h1 h2 h3 h4
  obtain rfl : x = q := by omega
  obtain rfl : y = r := by omega
  refine same_end (x := x) (y := y) (d := d) (h := h) (c := c) (n := n) ⟨2, fun k hk => ?_⟩ (next_end fun k => ?_)
  ·
   obtain ⟨m, rfl⟩ : ∃ m, k = m + 2 := ⟨k - 2, by omega⟩; simp only [impl_flight_fly.l0, impl_flight_fly.j1, bne_self_eq_false, if_true, Bool.false_eq_true, if_false]
  ·
   simp only [spec_l12Next.f, spec_l12Next.j0, beq_self_eq_true, if_true]
 | succ m ih =>
  intro x y d h c n fl hx hy hh hc hn hm h1 h2 h3 h4
  by_cases he : x = q ∧ y = r
  ·
   obtain ⟨rfl, rfl⟩ := he; refine same_end (x := x) (y := y) (d := d) (h := h) (c := c) (n := n) ⟨2, fun k hk => ?_⟩ (next_end fun k => ?_)
   ·
    obtain ⟨m, rfl⟩ : ∃ m, k = m + 2 := ⟨k - 2, by omega⟩; simp only [impl_flight_fly.l0, impl_flight_fly.j1, bne_self_eq_false, if_true, Bool.false_eq_true, if_false]
   ·
    simp only [spec_l12Next.f, spec_l12Next.j0, beq_self_eq_true, if_true]
  ·
   have e1 : wrap64 (q - x) = q - x := w64 (by omega) (by omega); have e2 : wrap64 (r - y) = r - y := w64 (by omega) (by omega); obtain ⟨d', hd, hd', g0, g1, gx, gy⟩ := dirOf_i (a := sg (q - x)) (b := sg (r - y)) (by unfold sg; omega) (by unfold sg; omega) (by unfold sg; omega)
   have hb : inn (x + DX d') (y + DY d') = true := by
    rw [gx, gy]; unfold inn sg; apply decide_eq_true; omega
   have hI := ih (x + DX d') (y + DY d') d' (HH h c) c (n + 1) (fl || !inn (x + DX d') (y + DY d')) (by rw [gx]; unfold sg; omega) (by rw [gy]; unfold sg; omega) (hh_b h c) hc (by omega) (by omega)
    (by rw [gx]; unfold sg; omega) (by rw [gx]; unfold sg; omega) (by rw [gy]; unfold sg; omega) (by rw [gy]; unfold sg; omega)
   have hnx : ∀ k, spec_l12Next.f (k + 2) x y d h c 1 q r s n = some (x + DX d', y + DY d', d', HH h c, c, false) := by
    intro k
    have hj : ∀ k, spec_l12Next.j0 (k + 1) false x y d h c 1 q r s = some (x + DX d', y + DY d', d', HH h c, c, false) := by
     intro k; simp only [spec_l12Next.j0, Bool.false_eq_true, if_false, e1, e2, sg_s, Option.bind_some, hd', step_s g0 g1 (by omega : -100000 ≤ x ∧ x ≤ 100000) (by omega : -100000 ≤ y ∧ y ≤ 100000) hh hc]
    by_cases hxq : x = q
    ·
     have : y ≠ r := fun e => he ⟨hxq, e⟩
     unfold spec_l12Next.f
     rw [if_pos rfl, if_pos hxq, beq_eq_false_iff_ne.mpr this]; exact hj (k + 1)
    ·
     unfold spec_l12Next.f
     rw [if_pos rfl, if_neg hxq]; exact hj (k + 1)
   refine same_step hI (fun v hv => ?_) (fun ok v hv => next_in hnx g0 g1 (hh_b h c) hc (by omega) ok v hv) (fun ok => next_out hnx g0 g1 (hh_b h c) hc ok)
   have hj : Ev (fun k => impl_flight_fly.j1 k true x y d h c n fl 1 q r s) v := by
    obtain ⟨K, hd⟩ := hd; obtain ⟨L, hv⟩ := hv; refine ⟨K + L + 1, fun k hk => ?_⟩; obtain ⟨m, rfl⟩ : ∃ m, k = m + 1 := ⟨k - 1, by omega⟩; simp only [impl_flight_fly.j1, if_true, e1, e2, sg_i, Option.bind_some, hd m (by omega), step_i fl g0 g1 (by omega : -100000 ≤ x ∧ x ≤ 100000) (by omega : -100000 ≤ y ∧ y ≤ 100000) hh hc (by omega : 0 ≤ n ∧ n ≤ 100000)]; exact hv m (by omega)
   refine ev_step hj fun k => ?_
   simp only [impl_flight_fly.l0]
   by_cases hxq : x = q
   ·
    have : y ≠ r := fun e => he ⟨hxq, e⟩
    rw [if_pos hxq, show (y != r) = true from bne_iff_ne.mpr this]
   ·
    rw [if_neg hxq]
/-- A course. -/
theorem leg_course (q r s : Int) (hq : 0 ≤ q ∧ q ≤ 7) : ∀ (m : Nat) (x y d h c n : Int) (fl : Bool), (-1000 - n ≤ x ∧ x ≤ 1000 + n) → (-1000 - n ≤ y ∧ y ≤ 1000 + n) → (0 ≤ h ∧ h ≤ 2000) → (-20 ≤ c ∧ c ≤ 20) → 0 ≤ n → n + m = s → s ≤ 500 →
  Same (fun k => impl_flight_fly.l1 k s n x y q h c n fl) (fun k => spec_FlyLeg.l0 k n x y d h c 2 q r s w0 w1 w2 w3 w4) fl (w0, w1, w2, w3, w4) := by
 intro m
 induction m with
 | zero =>
  intro x y d h c n fl hx hy hh hc hn hm hs; refine same_end (x := x) (y := y) (d := q) (h := h) (c := c) (n := n) (ev_now fun k => ?_) (next_end fun k => ?_)
  ·
   simp only [impl_flight_fly.l1]; rw [if_neg (by omega)]
  ·
   unfold spec_l12Next.f
   rw [if_neg (by decide), if_pos rfl, if_pos (by omega)]
 | succ m ih =>
  intro x y d h c n fl hx hy hh hc hn hm hs; have hb := way_b hq.1 hq.2; have hI := ih (x + DX q) (y + DY q) q (HH h c) c (n + 1) (fl || !inn (x + DX q) (y + DY q)) (by omega) (by omega) (hh_b h c) hc (by omega) (by omega) hs
  have hnx : ∀ k, spec_l12Next.f (k + 2) x y d h c 2 q r s n = some (x + DX q, y + DY q, q, HH h c, c, false) := by
   intro k
   unfold spec_l12Next.f
   rw [if_neg (by decide), if_pos rfl, if_neg (by omega), step_s hq.1 hq.2 (by omega : -100000 ≤ x ∧ x ≤ 100000) (by omega : -100000 ≤ y ∧ y ≤ 100000) hh hc, Option.bind_some]
  refine same_step hI (fun v hv => ev_step hv fun k => ?_) (fun ok v hv => next_in hnx hq.1 hq.2 (hh_b h c) hc (by omega) ok v hv) (fun ok => next_out hnx hq.1 hq.2 (hh_b h c) hc ok); simp only [impl_flight_fly.l1]; rw [if_pos (by omega), step_i fl hq.1 hq.2 (by omega : -100000 ≤ x ∧ x ≤ 100000) (by omega : -100000 ≤ y ∧ y ≤ 100000) hh hc (by omega : 0 ≤ n ∧ n ≤ 100000), Option.bind_some, w64 (a := n + 1) (by omega) (by omega)]
/-- A climb. -/
theorem leg_climb (q r s : Int) : ∀ (m : Nat) (x y d h c n : Int) (fl : Bool), (0 ≤ d ∧ d ≤ 7) → (-1000 - n ≤ x ∧ x ≤ 1000 + n) → (-1000 - n ≤ y ∧ y ≤ 1000 + n) → (0 ≤ h ∧ h ≤ 2000) → (-20 ≤ c ∧ c ≤ 20) → 0 ≤ n → n + m ≤ 2000 → s - h ≤ m → s ≤ 1000 → (h < s → 0 < c) →
  Same (fun k => impl_flight_fly.l2 k x y d h c n fl 3 q r s) (fun k => spec_FlyLeg.l0 k n x y d h c 3 q r s w0 w1 w2 w3 w4) fl (w0, w1, w2, w3, w4) := by
 intro m
 induction m with
 | zero =>
  intro x y d h c n fl hd hx hy hh hc hn hm hs hS hp; refine same_end (x := x) (y := y) (d := d) (h := h) (c := c) (n := n) (ev_now fun k => ?_) (next_end fun k => ?_)
  ·
   simp only [impl_flight_fly.l2]; rw [if_neg (by omega)]
  ·
   unfold spec_l12Next.f
   rw [if_neg (by decide), if_neg (by decide), if_pos rfl, if_pos (by omega)]
 | succ m ih =>
  intro x y d h c n fl hd hx hy hh hc hn hm hs hS hp
  by_cases hhs : h < s
  ·
   have hc0 := hp hhs; have hb := way_b hd.1 hd.2; have hI := ih (x + DX d) (y + DY d) d (HH h c) c (n + 1) (fl || !inn (x + DX d) (y + DY d)) hd (by omega) (by omega) (hh_b h c) hc (by omega) (by omega) (by unfold HH; omega) hS (fun _ => hc0)
   have hnx : ∀ k, spec_l12Next.f (k + 2) x y d h c 3 q r s n = some (x + DX d, y + DY d, d, HH h c, c, false) := by
    intro k
    unfold spec_l12Next.f
    rw [if_neg (by decide), if_neg (by decide), if_pos rfl, if_neg (by omega), step_s hd.1 hd.2 (by omega : -100000 ≤ x ∧ x ≤ 100000) (by omega : -100000 ≤ y ∧ y ≤ 100000) hh hc, Option.bind_some]
   refine same_step hI (fun v hv => ev_step hv fun k => ?_) (fun ok v hv => next_in hnx hd.1 hd.2 (hh_b h c) hc (by omega) ok v hv) (fun ok => next_out hnx hd.1 hd.2 (hh_b h c) hc ok); simp only [impl_flight_fly.l2]; rw [if_pos hhs, if_neg (by omega), step_i fl hd.1 hd.2 (by omega : -100000 ≤ x ∧ x ≤ 100000) (by omega : -100000 ≤ y ∧ y ≤ 100000) hh hc (by omega : 0 ≤ n ∧ n ≤ 100000), Option.bind_some]
  ·
   refine same_end (x := x) (y := y) (d := d) (h := h) (c := c) (n := n) (ev_now fun k => ?_) (next_end fun k => ?_)
   ·
    simp only [impl_flight_fly.l2]; rw [if_neg (by omega)]
   ·
    unfold spec_l12Next.f
    rw [if_neg (by decide), if_neg (by decide), if_pos rfl, if_pos (by omega)]
theorem tm8 {a : Int} (h : 0 ≤ a) : Int.tmod a 8 = a % 8 := Int.tmod_eq_emod_of_nonneg h
/-- The direction that the reference's hold turns to ahead of step n. -/
theorem hold_next (q r s x y d d' h c n : Int) (hn : 0 ≤ n ∧ n ≤ 100000) (hd : 0 ≤ d ∧ d ≤ 7) (hs : 1 ≤ s ∧ s ≤ 9) (hd' : d' = if n > 0 ∧ n % 2 = 0 then (d + 1) % 8 else d) (hx : -100000 ≤ x ∧ x ≤ 100000) (hy : -100000 ≤ y ∧ y ≤ 100000) (hh : 0 ≤ h ∧ h ≤ 2000) (hc : -20 ≤ c ∧ c ≤ 20) :
  ∀ k, spec_l12Next.f (k + 2) x y d h c 4 q r s n = some (if n = 16 * s then (x, y, d', h, c, true) else (x + DX d', y + DY d', d', HH h c, c, false)) := by
 intro k; have e1 : wrap64 (16 * s) = 16 * s := w64 (by omega) (by omega); have e2 : wrap64 (d + 1) = d + 1 := w64 (by omega) (by omega); have e3 : Int.tmod (d + 1) 8 = (d + 1) % 8 := tm8 (by omega); have e4 : Int.tmod n 2 = n % 2 := Int.tmod_eq_emod_of_nonneg hn.1
 have b8 : 0 ≤ (d + 1) % 8 ∧ (d + 1) % 8 ≤ 7 := by omega
 have j1 : spec_l12Next.j1 (k + 2) n true x y d h c 4 q r s = some (if n = 16 * s then (x, y, (d + 1) % 8, h, c, true) else (x + DX ((d + 1) % 8), y + DY ((d + 1) % 8), (d + 1) % 8, HH h c, c, false)) := by
  simp only [spec_l12Next.j1, if_true, e1, e2, e3]
  by_cases hE : n = 16 * s
  ·
   rw [if_pos hE, if_pos hE]
  ·
   rw [if_neg hE, if_neg hE, step_s b8.1 b8.2 hx hy hh hc, Option.bind_some]
 have j2 : spec_l12Next.j1 (k + 2) n false x y d h c 4 q r s = some (if n = 16 * s then (x, y, d, h, c, true) else (x + DX d, y + DY d, d, HH h c, c, false)) := by
  simp only [spec_l12Next.j1, Bool.false_eq_true, if_false, e1]
  by_cases hE : n = 16 * s
  ·
   rw [if_pos hE, if_pos hE]
  ·
   rw [if_neg hE, if_neg hE, step_s hd.1 hd.2 hx hy hh hc, Option.bind_some]
 unfold spec_l12Next.f
 rw [if_neg (by decide), if_neg (by decide), if_neg (by decide), if_pos rfl, e4]
 by_cases h0 : n > 0
 ·
  rw [if_pos h0]
  by_cases h2 : n % 2 = 0
  ·
   rw [if_pos ⟨h0, h2⟩] at hd'; subst hd'; rw [h2]; exact j1
  ·
   rw [if_neg (fun e => h2 e.2)] at hd'; subst hd'; rw [beq_eq_false_iff_ne.mpr h2]; exact j2
 ·
  rw [if_neg h0]; rw [if_neg (fun e => h0 e.1)] at hd'; subst hd'; exact j2
theorem leg_hold (q r s : Int) (hs : 1 ≤ s ∧ s ≤ 9) : ∀ (m : Nat) (i x y d d0 h c : Int) (fl : Bool), (0 ≤ d0 ∧ d0 ≤ 7) → (0 ≤ d ∧ d ≤ 7) → (d = if i > 0 then (d0 + 1) % 8 else d0) → (-1000 - 2 * i ≤ x ∧ x ≤ 1000 + 2 * i) → (-1000 - 2 * i ≤ y ∧ y ≤ 1000 + 2 * i) → (0 ≤ h ∧ h ≤ 2000) → (-20 ≤ c ∧ c ≤ 20) → 0 ≤ i → i + m = s * 8 →
  Same (fun k => impl_flight_fly.l3 k (s * 8) i x y d h c (2 * i) fl) (fun k => spec_FlyLeg.l0 k (2 * i) x y d0 h c 4 q r s w0 w1 w2 w3 w4) fl (w0, w1, w2, w3, w4) := by
 intro m
 induction m with
 | zero =>
  intro i x y d d0 h c fl hd0 hd hdd hx hy hh hc hi hm; refine same_end (x := x) (y := y) (d := d) (h := h) (c := c) (n := 2 * i) (ev_now fun k => ?_) (next_end fun k => ?_)
  ·
   simp only [impl_flight_fly.l3]; rw [if_neg (by omega)]
  ·
   rw [hold_next q r s x y d0 d h c (2 * i) (by omega) hd0 hs (by split <;> split at hdd <;> omega) (by omega) (by omega) hh hc k, if_pos (by omega)]
 | succ m ih =>
  intro i x y d d0 h c fl hd0 hd hdd hx hy hh hc hi hm; have hb := way_b hd.1 hd.2; have hI := ih (i + 1) (x + DX d + DX d) (y + DY d + DY d) ((d + 1) % 8) d (HH (HH h c) c) c (fl || !inn (x + DX d) (y + DY d) || !inn (x + DX d + DX d) (y + DY d + DY d)) hd (by omega) (by rw [if_pos (by omega)]) (by omega) (by omega) (hh_b _ c) hc (by omega) (by omega)
  have n1 : ∀ k, spec_l12Next.f (k + 2) x y d0 h c 4 q r s (2 * i) = some (x + DX d, y + DY d, d, HH h c, c, false) := fun k => by
   rw [hold_next q r s x y d0 d h c (2 * i) (by omega) hd0 hs (by split <;> split at hdd <;> omega) (by omega) (by omega) hh hc k, if_neg (by omega)]
  have n2 : ∀ k, spec_l12Next.f (k + 2) (x + DX d) (y + DY d) d (HH h c) c 4 q r s (2 * i + 1) = some (x + DX d + DX d, y + DY d + DY d, d, HH (HH h c) c, c, false) := fun k => by
   rw [hold_next q r s (x + DX d) (y + DY d) d d (HH h c) c (2 * i + 1) (by omega) hd hs (by rw [if_neg (by omega)]) (by omega) (by omega) (hh_b _ c) hc k, if_neg (by omega)]
  have e2 : (2 : Int) * (i + 1) = 2 * i + 1 + 1 := by omega
  rw [e2] at hI
  have h2 : Same (fun k => (impl_flight_step.f (x + DX d) (y + DY d) d (HH h c) c (2 * i + 1) (fl || !inn (x + DX d) (y + DY d))).bind fun bt247 => (impl_flight_turn.f bt247.1 bt247.2.1 bt247.2.2.1 bt247.2.2.2.1 bt247.2.2.2.2.1 bt247.2.2.2.2.2.1 bt247.2.2.2.2.2.2 1).bind fun bt254 => (impl_flight_fly.l3 k (s * 8) (i + 1) bt254.1 bt254.2.1 bt254.2.2.1 bt254.2.2.2.1 bt254.2.2.2.2.1 bt254.2.2.2.2.2.1 bt254.2.2.2.2.2.2))
    (fun k => spec_FlyLeg.l0 k (2 * i + 1) (x + DX d) (y + DY d) d (HH h c) c 4 q r s w0 w1 w2 w3 w4) (fl || !inn (x + DX d) (y + DY d)) (w0, w1, w2, w3, w4) := by
   refine same_step hI (fun v hv => ev_cong hv fun k => ?_) (fun ok v hv => next_in n2 hd.1 hd.2 (hh_b _ c) hc (by omega) ok v hv) (fun ok => next_out n2 hd.1 hd.2 (hh_b _ c) hc ok)
   have t1 : wrap64 (wrap64 (d + 1) + 8) = d + 1 + 8 := by rw [w64 (a := d + 1) (by omega) (by omega)]; exact w64 (by omega) (by omega)
   have t2 : Int.tmod (d + 1 + 8) 8 = (d + 1) % 8 := by rw [tm8 (by omega)]; omega
   rw [step_i _ hd.1 hd.2 (by omega) (by omega) (hh_b _ c) hc (by omega), Option.bind_some]; simp only [impl_flight_turn.f, Option.bind_some, t1, t2]
  refine same_step h2 (fun v hv => ev_step hv fun k => ?_) (fun ok v hv => next_in n1 hd.1 hd.2 (hh_b _ c) hc (by omega) ok v hv) (fun ok => next_out n1 hd.1 hd.2 (hh_b _ c) hc ok); simp only [impl_flight_fly.l3]; rw [if_pos (by omega), step_i fl hd.1 hd.2 (by omega) (by omega) hh hc (by omega), Option.bind_some, w64 (a := i + 1) (by omega) (by omega)]
/-- A turn. -/
theorem leg_turn (q r s : Int) (hq : 0 ≤ q ∧ q ≤ 7) (hr : r = -1 ∨ r = 1) : ∀ (m : Nat) (x y d h c n : Int) (fl : Bool), (0 ≤ d ∧ d ≤ 7) → (-1000 - n ≤ x ∧ x ≤ 1000 + n) → (-1000 - n ≤ y ∧ y ≤ 1000 + n) → (0 ≤ h ∧ h ≤ 2000) → (-20 ≤ c ∧ c ≤ 20) → 0 ≤ n → n + m ≤ 2000 → (d + r * m) % 8 = q →
  Same (fun k => impl_flight_fly.l4 k x y d h c n fl 5 q r s) (fun k => spec_FlyLeg.l0 k n x y d h c 5 q r s w0 w1 w2 w3 w4) fl (w0, w1, w2, w3, w4) := by
 have hend : ∀ (x y h c n : Int) (fl : Bool), Same (fun k => impl_flight_fly.l4 k x y q h c n fl 5 q r s) (fun k => spec_FlyLeg.l0 k n x y q h c 5 q r s w0 w1 w2 w3 w4) fl (w0, w1, w2, w3, w4) := by
  intro x y h c n fl; refine same_end (x := x) (y := y) (d := q) (h := h) (c := c) (n := n) (ev_now fun k => ?_) (next_end fun k => ?_)
  ·
   simp only [impl_flight_fly.l4, if_true]
  ·
   unfold spec_l12Next.f
   rw [if_neg (by decide), if_neg (by decide), if_neg (by decide), if_neg (by decide), if_pos rfl, if_pos rfl]
 intro m
 induction m with
 | zero =>
  intro x y d h c n fl hd hx hy hh hc hn hm hq'
  obtain rfl : d = q := by
   rw [show r * ((0 : Nat) : Int) = 0 by simp] at hq'
   omega
  exact hend x y h c n fl
 | succ m ih =>
  intro x y d h c n fl hd hx hy hh hc hn hm hq'
  by_cases hdq : d = q
  ·
   subst hdq; exact hend x y h c n fl
  ·
   have t1 : wrap64 (wrap64 (d + r) + 8) = d + r + 8 := by rw [w64 (a := d + r) (by omega) (by omega)]; exact w64 (by omega) (by omega)
   have t2 : Int.tmod (d + r + 8) 8 = (d + r + 8) % 8 := tm8 (by omega)
   have g0 : 0 ≤ (d + r + 8) % 8 := by omega
   have g1 : (d + r + 8) % 8 ≤ 7 := by omega
   have hm' : ((d + r + 8) % 8 + r * m) % 8 = q := by
    rw [← hq']
    rcases hr with e | e <;> subst e <;> push_cast <;> omega
   generalize hD : (d + r + 8) % 8 = D at *; have hb := way_b g0 g1; have hI := ih (x + DX D) (y + DY D) D (HH h c) c (n + 1) (fl || !inn (x + DX D) (y + DY D)) ⟨g0, g1⟩ (by omega) (by omega) (hh_b h c) hc (by omega) (by omega) hm'
   have hnx : ∀ k, spec_l12Next.f (k + 2) x y d h c 5 q r s n = some (x + DX D, y + DY D, D, HH h c, c, false) := by
    intro k
    unfold spec_l12Next.f
    rw [if_neg (by decide), if_neg (by decide), if_neg (by decide), if_neg (by decide), if_pos rfl, if_neg hdq, t1, t2, step_s g0 g1 (by omega : -100000 ≤ x ∧ x ≤ 100000) (by omega : -100000 ≤ y ∧ y ≤ 100000) hh hc, Option.bind_some]
   refine same_step hI (fun v hv => ev_step hv fun k => ?_) (fun ok v hv => next_in hnx g0 g1 (hh_b h c) hc (by omega) ok v hv) (fun ok => next_out hnx g0 g1 (hh_b h c) hc ok); simp only [impl_flight_fly.l4]; rw [if_neg hdq]; simp only [impl_flight_turn.f, Option.bind_some, t1, t2]; rw [step_i fl g0 g1 (by omega : -100000 ≤ x ∧ x ≤ 100000) (by omega : -100000 ≤ y ∧ y ≤ 100000) hh hc (by omega : 0 ≤ n ∧ n ≤ 100000), Option.bind_some]
end
/-- What both legs answer, out of one Same. -/
theorem same_out {a b c d e p q r s : Int} (h : Same (fun k => impl_flight_fly.f k a b c d e 0 false p q r s) (fun k => spec_FlyLeg.l0 k 0 a b c d e p q r s a b c d e) false (a, b, c, d, e)) :
  ∃ v, Ev (fun k => spec_FlyLeg.l0 k 0 a b c d e p q r s a b c d e) v ∧ Ev (fun k => impl_FlyLeg.j0 k false a b c d e p q r s) v := by
 obtain ⟨x', y', d', h', c', n', g, ⟨K, eF⟩, -, eS⟩ := h; refine ⟨_, eS rfl, K + 1, fun k hk => ?_⟩; obtain ⟨m, rfl⟩ : ∃ m, k = m + 1 := ⟨k - 1, by omega⟩; simp only [impl_FlyLeg.j0, Bool.false_eq_true, if_false]; have e := eF m (by omega); simp only [] at e; rw [e, Option.bind_some, if_pos rfl]
 cases g <;> rfl
theorem isDir_s (x : Int) : impl_isDir.f x = spec_l1In.f x 0 7 := by
 have h : impl_in.f x 0 7 = spec_l1In.f x 0 7 := rfl
 unfold impl_isDir.f
 rw [h, in_s]; rfl
theorem legOk_i (p q r s : Int) : impl_LegOk.f p q r s = spec_LegOk.f p q r s := by
 have h : impl_in.f = spec_l1In.f := rfl
 unfold impl_LegOk.f spec_LegOk.f
 rw [isDir_s, h]
theorem craftOk_i (a b c d e : Int) : impl_CraftOk.f a b c d e = spec_CraftOk.f a b c d e := by
 have h : impl_in.f = spec_l1In.f := rfl
 unfold impl_CraftOk.f spec_CraftOk.f
 rw [isDir_s, h]
def LegB (p q r s : Int) : Bool := decide (if p = 1 then (-500 ≤ q ∧ q ≤ 500) ∧ (-500 ≤ r ∧ r ≤ 500) else if p = 2 then (0 ≤ q ∧ q ≤ 7) ∧ (1 ≤ s ∧ s ≤ 500) else if p = 3 then 0 ≤ s ∧ s ≤ 1000 else if p = 4 then 1 ≤ s ∧ s ≤ 9 else if p = 5 then (0 ≤ q ∧ q ≤ 7) ∧ (r = -1 ∨ r = 1) else False)
theorem leg_s (p q r s : Int) : spec_LegOk.f p q r s = some (LegB p q r s) := by
 unfold spec_LegOk.f LegB
 simp only [in_s, Option.bind_some, ites]
 split
 ·
  simp
 ·
  split
  ·
   simp
  ·
   split
   ·
    simp
   ·
    split
    ·
     simp
    ·
     split
     ·
      by_cases h : r = -1
      ·
       subst h; by_cases h0 : 0 ≤ q <;> by_cases h7 : q ≤ 7 <;> simp [h0, h7]
      ·
       by_cases h1 : r = 1
       ·
        subst h1; by_cases h0 : 0 ≤ q <;> by_cases h7 : q ≤ 7 <;> simp [h0, h7]
       ·
        by_cases h0 : 0 ≤ q <;> by_cases h7 : q ≤ 7 <;> simp [h0, h7, h, h1]
     ·
      simp
def CraftB (a b c d e : Int) : Bool := decide ((-1000 ≤ a ∧ a ≤ 1000) ∧ (-1000 ≤ b ∧ b ≤ 1000) ∧ (0 ≤ c ∧ c ≤ 7) ∧ (0 ≤ d ∧ d ≤ 2000) ∧ (-20 ≤ e ∧ e ≤ 20))
theorem craftB_s (a b c d e : Int) : spec_CraftOk.f a b c d e = some (CraftB a b c d e) := by
 simp only [spec_CraftOk.f, in_s, Option.bind_some, ites]
 congr 1
 unfold CraftB
 simp only [Bool.decide_and]
/-- FlyLeg of both answers the same. -/
theorem flyLeg (a b c d e p q r s : Int) : ∃ v, Ev (fun k => spec_FlyLeg.f k a b c d e p q r s) v ∧ Ev (fun k => impl_FlyLeg.f k a b c d e p q r s) v := by
 simp only [spec_FlyLeg.f, impl_FlyLeg.f, craftOk_i, craftB_s, legOk_i, leg_s, Option.bind_some]
 cases hC : CraftB a b c d e
 ·
  simp only [Bool.false_eq_true, if_false]; exact ⟨(a, b, c, d, e, 0, 1), ev_now fun k => by simp only [spec_FlyLeg.j0, if_true], ev_now fun k => by simp only [impl_FlyLeg.j0, if_true]⟩
 cases hL : LegB p q r s
 ·
  simp only [if_true, Bool.not_false]; exact ⟨(a, b, c, d, e, 0, 1), ev_now fun k => by simp only [spec_FlyLeg.j0, if_true], ev_now fun k => by simp only [impl_FlyLeg.j0, if_true]⟩
 simp only [if_true, Bool.not_true]; obtain ⟨ha, hb, hc, hd, he⟩ := of_decide_eq_true hC; have hl := of_decide_eq_true hL
 have fin : ¬ (p = 3 ∧ d < s ∧ e ≤ 0) → Same (fun k => impl_flight_fly.f k a b c d e 0 false p q r s) (fun k => spec_FlyLeg.l0 k 0 a b c d e p q r s a b c d e) false (a, b, c, d, e) →
   ∃ v, Ev (fun k => spec_FlyLeg.j0 k false a b c d e p q r s) v ∧ Ev (fun k => impl_FlyLeg.j0 k false a b c d e p q r s) v := by
  intro hn h; obtain ⟨v, h1, h2⟩ := same_out h; refine ⟨v, ?_, h2⟩
  have hj : Ev (fun k => spec_FlyLeg.j1 k false a b c d e p q r s) v := ev_step h1 fun k => by simp only [spec_FlyLeg.j1, Bool.false_eq_true, if_false]
  refine ev_step hj fun k => ?_
  simp only [spec_FlyLeg.j0, Bool.false_eq_true, if_false]
  by_cases h3 : p = 3
  ·
   rw [if_pos h3]
   by_cases h4 : d < s
   ·
    rw [if_pos h4, decide_eq_false (fun e' => hn ⟨h3, h4, e'⟩)]
   ·
    rw [if_neg h4]
  ·
   rw [if_neg h3]
 by_cases p1 : p = 1
 ·
  subst p1; rw [if_pos rfl] at hl; refine fin (by omega) ?_; simp only [impl_flight_fly.f, if_true]; exact leg_to a b c d e q r s hl.1 hl.2 1500 a b c d e 0 false ha hb hd he (by omega) (by omega) (by omega) (by omega) (by omega) (by omega)
 rw [if_neg p1] at hl
 by_cases p2 : p = 2
 ·
  subst p2; rw [if_pos rfl] at hl; refine fin (by omega) ?_; simp only [impl_flight_fly.f, if_neg p1, if_true]; exact leg_course a b c d e q r s hl.1 s.toNat a b c d e 0 false (by omega) (by omega) hd he (by omega) (by omega) (by omega)
 rw [if_neg p2] at hl
 by_cases p3 : p = 3
 ·
  subst p3; rw [if_pos rfl] at hl
  by_cases hv : d < s ∧ e ≤ 0
  ·
   refine ⟨(a, b, c, d, e, 0, 3), ?_, ?_⟩
   ·
    have hj : Ev (fun k => spec_FlyLeg.j1 k true a b c d e 3 q r s) (a, b, c, d, e, 0, 3) := ev_now fun k => by simp only [spec_FlyLeg.j1, if_true]
    refine ev_step hj fun k => ?_
    simp only [spec_FlyLeg.j0, Bool.false_eq_true, if_false, if_true, if_pos hv.1, decide_eq_true hv.2]
   ·
    refine ⟨2, fun k hk => ?_⟩; obtain ⟨m, rfl⟩ : ∃ m, k = m + 2 := ⟨k - 2, by omega⟩; simp only [impl_FlyLeg.j0, Bool.false_eq_true, if_false, impl_flight_fly.f, if_neg p1, if_neg p2, if_true, impl_flight_fly.l2, if_pos hv.1, if_pos hv.2, Option.bind_some]
  ·
   refine fin (by omega) ?_; simp only [impl_flight_fly.f, if_neg p1, if_neg p2, if_true]; exact leg_climb a b c d e q r s s.toNat a b c d e 0 false hc (by omega) (by omega) hd he (by omega) (by omega) (by omega) (by omega) (by omega)
 rw [if_neg p3] at hl
 by_cases p4 : p = 4
 ·
  subst p4; rw [if_pos rfl] at hl; refine fin (by omega) ?_; simp only [impl_flight_fly.f, if_neg p1, if_neg p2, if_neg p3, if_true]; rw [w64 (a := s * 8) (by omega) (by omega)]; exact leg_hold a b c d e q r s hl (s * 8).toNat 0 a b c c d e false hc hc (by rw [if_neg (by omega)]) (by omega) (by omega) hd he (by omega) (by omega)
 rw [if_neg p4] at hl
 by_cases p5 : p = 5
 ·
  subst p5; rw [if_pos rfl] at hl; refine fin (by omega) ?_; simp only [impl_flight_fly.f, if_neg p1, if_neg p2, if_neg p3, if_neg p4, if_true]
  obtain ⟨m, hm, hmq⟩ : ∃ m : Nat, m ≤ 7 ∧ (c + r * m) % 8 = q := by
   rcases hl.2 with h | h
   ·
    exact ⟨((c - q) % 8).toNat, by omega, by subst h; omega⟩
   ·
    exact ⟨((q - c) % 8).toNat, by omega, by subst h; omega⟩
  exact leg_turn a b c d e q r s hl.1 hl.2 m a b c d e 0 false hc (by omega) (by omega) hd he (by omega) (by omega) hmq
 rw [if_neg p5] at hl; exact hl.elim
theorem route_l (l : List S31) (hl : l.length ≤ 30) : ∀ (d i : Nat) (o : List Int) (s a b c e g : Int), l.length - i = d → i ≤ l.length → o.length = i →
  ∃ r : Int × Int × Int × Int × Int × List Int × Int, r.2.2.2.2.2.1.length ≤ 30 ∧ Ev (fun k => spec_FlyRoute.l0 k l o s (i : Int) a b c e g) r ∧ Ev (fun k => impl_FlyRoute.l0 k o s l (l.length : Int) (i : Int) a b c e g) r := by
 intro d
 induction d with
 | zero =>
  intro i o s a b c e g hd hi ho; refine ⟨(a, b, c, e, g, o, 0), by simp only; omega, ev_now fun k => ?_, ev_now fun k => ?_⟩
  ·
   simp only [spec_FlyRoute.l0]; rw [if_neg (by omega)]
  ·
   simp only [impl_FlyRoute.l0]; rw [if_neg (by omega)]
 | succ d ih =>
  intro i o s a b c e g hd hi ho; generalize hP : rd_T31 l (i : Int) = P; obtain ⟨⟨v1, v2, v3, v4, v5, v6, v7⟩, ⟨K1, hs⟩, K2, hm⟩ := flyLeg a b c e g P.f0 P.f1 P.f2 P.f3; have hs' : ∀ k, K1 ≤ k → spec_FlyLeg.f k a b c e g P.f0 P.f1 P.f2 P.f3 = some (v1, v2, v3, v4, v5, v6, v7) := hs; have hm' : ∀ k, K2 ≤ k → impl_FlyLeg.f k a b c e g P.f0 P.f1 P.f2 P.f3 = some (v1, v2, v3, v4, v5, v6, v7) := hm
  have wi : wrap64 ((i : Int) + 1) = ((i + 1 : Nat) : Int) := by rw [w64 (a := (i : Int) + 1) (by omega) (by omega)]; omega
  have sp : ∀ (r : Int × Int × Int × Int × Int × List Int × Int) (B : Nat), (∀ k, B ≤ k → spec_FlyRoute.j1 k l o s (i : Int) v6 v7 (if v7 = 0 then decide (wrap64 (s + v6) > 2000) else false) a b c e g v1 v2 v3 v4 v5 = some r) → Ev (fun k => spec_FlyRoute.l0 k l o s (i : Int) a b c e g) r := by
   intro r B h; refine ⟨B + K1 + 1, fun k hk => ?_⟩; obtain ⟨m, rfl⟩ : ∃ m, k = m + 1 := ⟨k - 1, by omega⟩; have hj := h m (by omega); simp only [spec_FlyRoute.l0]; rw [if_pos (by omega), if_pos (by omega), hP, hs' m (by omega), Option.bind_some]; simp only []
   by_cases h7 : v7 = 0
   ·
    rw [if_pos h7] at hj ⊢; exact hj
   ·
    rw [if_neg h7] at hj ⊢; exact hj
  by_cases h7 : v7 = 0
  ·
   subst h7; rw [if_pos rfl] at sp
   by_cases hw : wrap64 (s + v6) > 2000
   ·
    refine ⟨(a, b, c, e, g, o, 2), by simp only; omega, sp _ 1 fun k hk => ?_, K2 + 1, fun k hk => ?_⟩
    ·
     obtain ⟨m, rfl⟩ : ∃ m, k = m + 1 := ⟨k - 1, by omega⟩; simp only [spec_FlyRoute.j1, decide_eq_true hw, if_true]; rw [if_neg (by decide)]
    ·
     obtain ⟨m, rfl⟩ : ∃ m, k = m + 1 := ⟨k - 1, by omega⟩; simp only [impl_FlyRoute.l0]; rw [if_pos (by omega), if_pos (by omega), if_pos (by omega), hP, hm' m (by omega), Option.bind_some]; simp only [if_true, if_pos hw]
   ·
    obtain ⟨r, hr, ⟨L1, g1⟩, L2, g2⟩ := ih (i + 1) (o ++ [v6]) (wrap64 (s + v6)) v1 v2 v3 v4 v5 (by omega) (by omega) (by simp; omega); have g1' : ∀ k, L1 ≤ k → spec_FlyRoute.l0 k l (o ++ [v6]) (wrap64 (s + v6)) ((i + 1 : Nat) : Int) v1 v2 v3 v4 v5 = some r := g1; have g2' : ∀ k, L2 ≤ k → impl_FlyRoute.l0 k (o ++ [v6]) (wrap64 (s + v6)) l (l.length : Int) ((i + 1 : Nat) : Int) v1 v2 v3 v4 v5 = some r := g2; refine ⟨r, hr, sp _ (L1 + 1) fun k hk => ?_, K2 + L2 + 1, fun k hk => ?_⟩
    ·
     obtain ⟨m, rfl⟩ : ∃ m, k = m + 1 := ⟨k - 1, by omega⟩; simp only [spec_FlyRoute.j1, decide_eq_false hw, Bool.false_eq_true, if_false, if_true, wi]; rw [if_pos (by omega)]; exact g1' m (by omega)
    ·
     obtain ⟨m, rfl⟩ : ∃ m, k = m + 1 := ⟨k - 1, by omega⟩; simp only [impl_FlyRoute.l0]; rw [if_pos (by omega), if_pos (by omega), if_pos (by omega), hP, hm' m (by omega), Option.bind_some]; simp only [if_true, if_neg hw, wi]; rw [if_pos (by omega)]; exact g2' m (by omega)
  ·
   rw [if_neg h7] at sp; refine ⟨(a, b, c, e, g, o, v7), by simp only; omega, sp _ 1 fun k hk => ?_, K2 + 1, fun k hk => ?_⟩
   ·
    obtain ⟨m, rfl⟩ : ∃ m, k = m + 1 := ⟨k - 1, by omega⟩; simp only [spec_FlyRoute.j1, Bool.false_eq_true, if_false, if_neg h7]
   ·
    obtain ⟨m, rfl⟩ : ∃ m, k = m + 1 := ⟨k - 1, by omega⟩; simp only [impl_FlyRoute.l0]; rw [if_pos (by omega), if_pos (by omega), if_pos (by omega), hP, hm' m (by omega), Option.bind_some]; simp only [if_neg h7]
theorem route (l : List S31) (a b c e g : Int) : ∃ r : Int × Int × Int × Int × Int × List Int × Int, r.2.2.2.2.2.1.length ≤ 30 ∧ Ev (fun k => spec_FlyRoute.f k a b c e g l) r ∧ Ev (fun k => impl_FlyRoute.f k a b c e g l) r := by
 simp only [spec_FlyRoute.f, impl_FlyRoute.f, Option.bind_some]
 by_cases h : (l.length : Int) > 30
 ·
  simp only [if_pos h]; exact ⟨(a, b, c, e, g, [], 1), by simp, ev_const rfl, ev_const rfl⟩
 ·
  simp only [if_neg h]; exact route_l l (by omega) l.length 0 [] 0 a b c e g (by omega) (by omega) rfl
theorem FnExactFlyRoute : laws_FnExactFlyRoute.Pure := by
 intro a b c d e l _ _ _ _ _ ⟨hl, _⟩; have hl' : l.length ≤ 9223372036854775807 := hl
 by_cases hc : (1048576 : Int) - (l.length : Int) < 0
 ·
  refine ⟨0, ?_⟩
  unfold laws_FnExactFlyRoute.f laws_szLegS.f
  rw [w64 (by omega) (by omega), if_pos hc]; rfl
 ·
  have lm : (l.map conv).length = l.length := List.length_map _; obtain ⟨⟨r1, r2, r3, r4, r5, o, r7⟩, hr, ⟨K1, hs⟩, K2, hi⟩ := route (l.map conv) a b c d e; have hr : o.length ≤ 30 := hr; obtain ⟨n, hn⟩ : ∃ n, n = K1 + K2 + l.length + 50 := ⟨_, rfl⟩; refine ⟨n + 3, ?_⟩
  have ht := fun k hk => laws_toLegS_eq l k (by omega) hk
  have he := fun k hk => laws_eqLegS_eq (l.map conv) k (by omega) hk
  have hq := fun k hk => laws_eqIntS_eq o k (by omega) hk
  have hC : ∀ a b c d e : Int, laws_toCraft.f a b c d e = some (a, b, c, d, e) := fun _ _ _ _ _ => rfl
  have hE : ∀ a b c d e : Int, laws_eqCraft.f a b c d e a b c d e = some true := fun _ _ _ _ _ => by simp only [laws_eqCraft.f, if_true]
  obtain ⟨y, m1, m2⟩ := markedL (l.map conv) 1 (by omega) (by omega); obtain ⟨z, n1, n2, n3⟩ := mark_int o 1 (by omega) (by omega) (n + 1) (by omega)
  have j2 : laws_FnExactFlyRoute.j2 (n + 1) z (1 + (o.length : Int)) false = some true := by
   simp only [laws_FnExactFlyRoute.j2, Bool.false_eq_true, if_false, n3 n (by omega), Option.bind_some]; rw [if_neg (by omega), if_pos trivial]
  have j1 : laws_FnExactFlyRoute.j1 (n + 2) l o r7 o false a b c d e r1 r2 r3 r4 r5 = some true := by
   simp only [laws_FnExactFlyRoute.j1, Bool.false_eq_true, if_false, n1, n3 (n + 1) (by omega), Option.bind_some, ht (n + 1) (by omega), hC, hE, hi (n + 1) (by omega), hq (n + 1) (by omega), if_true, bne_self_eq_false, j2]; rw [if_neg (by omega)]
  have j0 : laws_FnExactFlyRoute.j0 (n + 3) l o r7 (l.map conv) o r7 false a b c d e r1 r2 r3 r4 r5 r1 r2 r3 r4 r5 = some true := by
   simp only [laws_FnExactFlyRoute.j0, Bool.false_eq_true, if_false, ht (n + 2) (by omega), he (n + 2) (by omega), m1 (n + 2) (by omega), hC, hE, hq (n + 2) (by omega), Option.bind_some, if_true, bne_self_eq_false, j1]; rw [if_neg (by omega)]
  unfold laws_FnExactFlyRoute.f laws_szLegS.f
  rw [w64 (by omega) (by omega), if_neg hc, Option.bind_some, if_neg hc]; simp only [ht (n + 3) (by omega), Option.bind_some, hC, hE, hs (n + 3) (by omega), hi (n + 3) (by omega), hq (n + 3) (by omega), if_true, bne_self_eq_false, j0]
end Go.Proofs.Ytadnhfdodcmlaaa.Pure.FnExactFlyRoute
namespace Go.Proofs.Ytadnhfdodcmlaaa.Pure
theorem FnExactFlyRoute : Go.Proofs.Ytadnhfdodcmlaaa.PFnExactFlyRoute.laws_FnExactFlyRoute.Pure := FnExactFlyRoute.FnExactFlyRoute
end Go.Proofs.Ytadnhfdodcmlaaa.Pure
