/- A stable sort by blocks and symmetric merges: each function of the library's own, walked once. -/
import Derived.Test.YtbbfibokedlkkaaProg
import Derived.Shelf.SlSortCmp.Insertion1
import Derived.Sort.WalkB2
import Derived.Sort.WalkB12
import Derived.Deep.LoopGhost
import Derived.Sort.LotA
import Derived.Sort.OwnSortedInts
import Derived.KernelRfl
import Derived.Tactics
import Derived.WalkKit
import Derived.Lib.Walk
import Derived.Laws.Shifts
import Derived.Deep.Draws
import Derived.Deep.DeepCutAuto
import Derived.Deep.CutBlock
namespace Go.Proofs.Ytbbfibokedlkkaa
open Go Go.Proofs Go.Shelf Go.RowKit Go.Lib Go.Sort
structure Asd (p : Prop) : Prop where
 mk ::
 out : p
section
open Go.Sort
variable {α : Type} [Inhabited α]
def swR (d d' : Array α) (a b n : Nat) : Prop :=
 d'.size = d.size ∧ (∀ t, d'[t]! = if a ≤ t ∧ t < a + n then d[b + (t - a)]! else if b ≤ t ∧ t < b + n then d[a + (t - b)]! else d[t]!) ∧ PermIn a (b + n) d d'
def rotR (d d' : Array α) (a m b : Nat) : Prop :=
 ∀ t, d'[t]! = if a ≤ t ∧ t < a + (b - m) then d[t + (m - a)]! else if a + (b - m) ≤ t ∧ t < b then d[t - (b - m)]! else d[t]!
theorem swR_zero (d : Array α) (a b : Nat) : swR d d a b 0 := by
 refine ⟨rfl, fun t => ?_, permIn_refl _ _ _⟩; rw [if_neg (by omega), if_neg (by omega)]
theorem swR_step {d dk : Array α} {a b k n : Nat} (h : swR d dk a b k) (hab : a + n ≤ b) (hk : k < n) (hsz : b + n ≤ d.size) : swR d (swp dk (a + k) (b + k)) a b (k + 1) := by
 obtain ⟨hs, hp, hP⟩ := h; refine ⟨by rw [size_swp]; exact hs, fun t => ?_, ?_⟩
 ·
  rw [swp_get dk (by omega) (by omega), hp (a + k), hp (b + k), hp t]
  repeat' split
  all_goals first | (exfalso; omega) | exact congrArg (fun q => d[q]!) (by omega) | rfl
 ·
  refine permIn_trans _ _ _ _ _ (permIn_mono _ _ _ _ _ _ (Nat.le_refl a) (show b + k ≤ b + (k + 1) by omega) (by omega) hP) (swp_permIn _ _ _ _ _ (by omega) (by omega) (by omega) (by omega) (by omega))
theorem rotR_refl (d : Array α) (a : Nat) (m b : Nat) (h : a = m ∨ m = b) (hmb : m ≤ b) (ham : a ≤ m) : rotR d d a m b := by
 intro t
 repeat' split
 all_goals first | (exfalso; omega) | exact congrArg (fun q => d[q]!) (by omega) | rfl
theorem rotR_eq {d d' : Array α} {a m b : Nat} (h : swR d d' a m (b - m)) (ham : a ≤ m) (hmb : m ≤ b) (he : m - a = b - m) : rotR d d' a m b := by
 intro t; rw [h.2.1 t]
 repeat' split
 all_goals first | (exfalso; omega) | exact congrArg (fun q => d[q]!) (by omega) | rfl
theorem rotR_gt {d d1 d' : Array α} {a m b : Nat} (h : swR d d1 a m (b - m)) (h' : rotR d1 d' (a + (b - m)) m b) (ham : a ≤ m) (hmb : m ≤ b) (he : b - m < m - a) : rotR d d' a m b := by
 intro t; rw [h' t]; simp only [h.2.1]
 repeat' split
 all_goals first | (exfalso; omega) | exact congrArg (fun q => d[q]!) (by omega) | rfl
theorem rotR_lt {d d1 d' : Array α} {a m b : Nat} (h : swR d d1 a (b - (m - a)) (m - a)) (h' : rotR d1 d' a m (b - (m - a))) (ham : a ≤ m) (hmb : m ≤ b) (he : m - a < b - m) : rotR d d' a m b := by
 intro t; rw [h' t]; simp only [h.2.1]
 repeat' split
 all_goals first | (exfalso; omega) | exact congrArg (fun q => d[q]!) (by omega) | rfl
theorem rotR_up {d dk : Array α} {a k : Nat} (h : rotR d dk a (a + 1) (k + 1)) (hs : dk.size = d.size) (hak : a ≤ k) (hk : k + 1 < d.size) : rotR d (swp dk k (k + 1)) a (a + 1) (k + 2) := by
 intro t; rw [swp_get dk (by omega) (by omega), h k, h (k + 1), h t]
 repeat' split
 all_goals first | (exfalso; omega) | exact congrArg (fun q => d[q]!) (by omega) | rfl
theorem rotR_down {d dk : Array α} {m k : Nat} (h : rotR d dk (k + 1) m (m + 1)) (hs : dk.size = d.size) (hak : k + 1 ≤ m) (hk : m < d.size) : rotR d (swp dk (k + 1) k) k m (m + 1) := by
 intro t; rw [swp_get dk (by omega) (by omega), h k, h (k + 1), h t]
 repeat' split
 all_goals first | (exfalso; omega) | exact congrArg (fun q => d[q]!) (by omega) | rfl
variable (lt : α → α → Bool) (R : α → α → Prop)
def Xr (x y : α) : Prop := (lt y x = true → R y x) ∧ (lt y x = false → R x y)
def SrtR (d : Array α) (a b : Nat) : Prop := ∀ i j, a ≤ i → i < j → j < b → R d[i]! d[j]!
def XX (d : Array α) (a m b : Nat) : Prop := ∀ i j, a ≤ i → i < m → m ≤ j → j < b → Xr lt R d[i]! d[j]!
variable {lt R}
theorem SrtR.le_trans (hR : ∀ x y z, R x y → R y z → R x z) {d : Array α} {a b : Nat} (h : SrtR R d a b) {i j : Nat} {x : α} (hx : R x d[i]!) (ha : a ≤ i) (hij : i ≤ j) (hj : j < b) : R x d[j]! := by
 by_cases e : i = j
 ·
  subst e; exact hx
 ·
  exact hR _ _ _ hx (h i j ha (by omega) hj)
theorem SrtR.trans_le (hR : ∀ x y z, R x y → R y z → R x z) {d : Array α} {a b : Nat} (h : SrtR R d a b) {i j : Nat} {x : α} (hx : R d[j]! x) (ha : a ≤ i) (hij : i ≤ j) (hj : j < b) : R d[i]! x := by
 by_cases e : i = j
 ·
  subst e; exact hx
 ·
  exact hR _ _ _ (h i j ha (by omega) hj) hx
theorem low_high (hR : ∀ x y z, R x y → R y z → R x z) {d d2 : Array α} {a m b s e mid : Nat} (has : a ≤ s) (hsm : s ≤ m) (hme : m ≤ e) (heb : e ≤ b) (hmid : mid = s + (e - m)) (hrot : rotR d d2 s m e)
  (h1 : SrtR R d a m) (h2 : SrtR R d m b) (hA : a < s → e < b → R d[s - 1]! d[e]!) (hB : s < m → m < e → R d[e - 1]! d[s]!) :
  ∀ i j, a ≤ i → i < mid → mid ≤ j → j < b → R d2[i]! d2[j]! := by
 intro i j hai him hmj hjb; rw [hrot i, hrot j]; subst hmid
 by_cases c1 : i < s
 ·
  rw [if_neg (by omega), if_neg (by omega), if_neg (by omega)]
  by_cases c2 : j < e
  ·
   rw [if_pos (by omega)]; exact h1 _ _ hai (by omega) (by omega)
  ·
   rw [if_neg (by omega)]; exact h2.le_trans hR (h1.trans_le hR (hA (by omega) (by omega)) hai (by omega) (by omega)) (by omega) (by omega) hjb
 ·
  rw [if_pos (by omega), if_neg (by omega)]
  by_cases c2 : j < e
  ·
   rw [if_pos (by omega)]; exact h1.le_trans hR (i := s) (h2.trans_le hR (j := e - 1) (hB (by omega) (by omega)) (by omega) (by omega) (by omega)) (by omega) (by omega) (by omega)
  ·
   rw [if_neg (by omega)]; exact h2 _ _ (by omega) (by omega) hjb
theorem sym_final (hR : ∀ x y z, R x y → R y z → R x z) {d d2 d3 d4 : Array α} {a m b s e mid : Nat} (has : a ≤ s) (hsm : s ≤ m) (hme : m ≤ e) (heb : e ≤ b) (hb : b ≤ d2.size) (hmid : mid = s + (e - m)) (hrot : rotR d d2 s m e)
  (h1 : SrtR R d a m) (h2 : SrtR R d m b) (hA : a < s → e < b → R d[s - 1]! d[e]!) (hB : s < m → m < e → R d[e - 1]! d[s]!)
  (p3 : PermIn a mid d2 d3) (s3 : SrtR R d3 a mid) (p4 : PermIn mid b d3 d4) (s4 : SrtR R d4 mid b) : SrtR R d4 a b := by
 have hlh := low_high hR has hsm hme heb hmid hrot h1 h2 hA hB; intro i j hai hij hjb
 by_cases c1 : j < mid
 ·
  rw [p4.2.1 i (by omega), p4.2.1 j (by omega)]; exact s3 i j hai hij c1
 ·
  by_cases c2 : i < mid
  ·
   have q3 := permIn_all d2 d3 a mid (fun x => ∀ j, mid ≤ j → j < b → R x d2[j]!) (by omega) p3 (fun i h1 h2 j h3 h4 => hlh i j h1 h2 h3 h4) i hai c2; have q4 := permIn_all d3 d4 mid b (fun y => R d3[i]! y) (by rw [p3.1]; exact hb) p4 (fun j h1 h2 => by rw [p3.2.1 j (by omega)]; exact q3 j h1 h2) j (by omega) hjb; rw [p4.2.1 i (by omega)]; exact q4
  ·
   exact s4 i j (by omega) hij hjb
theorem rot_parts {d d2 : Array α} {a m b s e mid : Nat} (has : a ≤ s) (hsm : s ≤ m) (hme : m ≤ e) (heb : e ≤ b) (hmid : mid = s + (e - m)) (hrot : rotR d d2 s m e)
  (h1 : SrtR R d a m) (h2 : SrtR R d m b) (hX : XX lt R d a m b) :
  SrtR R d2 a s ∧ SrtR R d2 s mid ∧ SrtR R d2 mid e ∧ SrtR R d2 e b ∧ XX lt R d2 a s mid ∧ XX lt R d2 mid e b := by
 subst hmid; refine ⟨fun i j h3 h4 h5 => ?_, fun i j h3 h4 h5 => ?_, fun i j h3 h4 h5 => ?_, fun i j h3 h4 h5 => ?_, fun i j h3 h4 h5 h6 => ?_, fun i j h3 h4 h5 h6 => ?_⟩
 ·
  rw [hrot i, hrot j, if_neg (by omega), if_neg (by omega), if_neg (by omega), if_neg (by omega)]; exact h1 _ _ h3 h4 (by omega)
 ·
  rw [hrot i, hrot j, if_pos (by omega), if_pos (by omega)]; exact h2 _ _ (by omega) (by omega) (by omega)
 ·
  rw [hrot i, hrot j, if_neg (by omega), if_pos (by omega), if_neg (by omega), if_pos (by omega)]; exact h1 _ _ (by omega) (by omega) (by omega)
 ·
  rw [hrot i, hrot j, if_neg (by omega), if_neg (by omega), if_neg (by omega), if_neg (by omega)]; exact h2 _ _ (by omega) (by omega) (by omega)
 ·
  rw [hrot i, hrot j, if_neg (by omega), if_neg (by omega), if_pos (by omega)]; exact hX _ _ h3 (by omega) (by omega) (by omega)
 ·
  rw [hrot i, hrot j, if_neg (by omega), if_pos (by omega), if_neg (by omega), if_neg (by omega)]; exact hX _ _ (by omega) (by omega) (by omega) (by omega)
theorem sym_ends {d : Array α} {a m b mid s0 r0 s : Nat} (_ham : a < m) (hmb : m < b) (hmid : mid = (a + b) / 2) (h0 : s0 = (if mid < m then mid + m - b else a)) (h1 : r0 = (if mid < m then mid else m))
  (hs0 : s0 ≤ s) (hs1 : s ≤ r0) (hX : XX lt R d a m b) (hl : s = s0 ∨ lt d[mid + m - s]! d[s - 1]! = false) (hr : s = r0 ∨ lt d[mid + m - 1 - s]! d[s]! = true) :
  a ≤ s ∧ s ≤ m ∧ s ≤ mid ∧ m ≤ mid + m - s ∧ mid + m - s ≤ b ∧ mid = s + (mid + m - s - m) ∧ (a < s → mid + m - s < b → R d[s - 1]! d[mid + m - s]!) ∧ (s < m → m < mid + m - s → R d[mid + m - s - 1]! d[s]!) := by
 have e0 : a ≤ s ∧ s ≤ m ∧ s ≤ mid ∧ mid + m - s ≤ b := by
  subst h0 h1
  split at hs0 <;> split at hs1 <;> omega
 refine ⟨e0.1, e0.2.1, e0.2.2.1, by omega, e0.2.2.2, by omega, fun h2 h3 => ?_, fun h2 h3 => ?_⟩
 ·
  rcases hl with hl | hl
  ·
   exfalso; subst h0; split at hl <;> omega
  ·
   exact (hX (s - 1) (mid + m - s) (by omega) (by omega) (by omega) (by omega)).2 hl
 ·
  rcases hr with hr | hr
  ·
   exfalso; subst h1; split at hr <;> omega
  ·
   rw [show mid + m - s - 1 = mid + m - 1 - s by omega]; exact (hX s (mid + m - 1 - s) (by omega) h2 (by omega) (by omega)).1 hr
theorem one_left (hR : ∀ x y z, R x y → R y z → R x z) {d d2 : Array α} {a b i : Nat} (hai : a + 1 ≤ i) (hib : i ≤ b) (hb : b ≤ d2.size) (hrot : rotR d d2 a (a + 1) i) (h2 : SrtR R d (a + 1) b) (hX : XX lt R d a (a + 1) b)
  (hl : i = a + 1 ∨ lt d[i - 1]! d[a]! = true) (hr : i = b ∨ lt d[i]! d[a]! = false) : SrtR R d2 a b := by
 have h1 : SrtR R d a (a + 1) := fun p q h3 h4 h5 => by omega
 have hp := rot_parts (lt := lt) (Nat.le_refl a) (by omega) hai hib rfl hrot h1 h2 hX; refine sym_final hR (Nat.le_refl a) (by omega) hai hib hb rfl hrot h1 h2 (fun h => by omega) (fun _ h => ?_) (permIn_refl _ _ _) hp.2.1 (permIn_refl _ _ _) ?_
 ·
  rcases hl with hl | hl
  ·
   omega
  ·
   exact (hX a (i - 1) (Nat.le_refl _) (by omega) (by omega) (by omega)).1 hl
 ·
  intro p q h3 h4 h5
  by_cases c : a + (i - (a + 1)) = p
  ·
   subst c; rw [hrot, hrot q, if_neg (by omega), if_pos (by omega), if_neg (by omega), if_neg (by omega), show a + (i - (a + 1)) - (i - (a + 1)) = a by omega]
   rcases hr with hr | hr
   ·
    omega
   ·
    exact h2.le_trans hR (i := i) ((hX a i (Nat.le_refl _) (by omega) hai (by omega)).2 hr) hai (by omega) h5
  ·
   exact hp.2.2.2.1 p q (by omega) h4 h5
theorem one_right (hR : ∀ x y z, R x y → R y z → R x z) {d d2 : Array α} {a m i : Nat} (hai : a ≤ i) (him : i ≤ m) (hb : m + 1 ≤ d2.size) (hrot : rotR d d2 i m (m + 1)) (h1 : SrtR R d a m) (hX : XX lt R d a m (m + 1))
  (hl : i = a ∨ lt d[m]! d[i - 1]! = false) (hr : i = m ∨ lt d[m]! d[i]! = true) : SrtR R d2 a (m + 1) := by
 have h2 : SrtR R d m (m + 1) := fun p q h3 h4 h5 => by omega
 have hp := rot_parts (lt := lt) hai him (by omega) (Nat.le_refl _) rfl hrot h1 h2 hX; refine sym_final hR hai him (by omega) (Nat.le_refl _) hb rfl hrot h1 h2 (fun _ h => by omega) (fun h _ => ?_) (permIn_refl _ _ _) ?_ (permIn_refl _ _ _) hp.2.2.1
 ·
  rcases hr with hr | hr
  ·
   omega
  ·
   rw [show m + 1 - 1 = m by omega]; exact (hX i m hai h (Nat.le_refl _) (by omega)).1 hr
 ·
  intro p q h3 h4 h5
  by_cases c : q < i
  ·
   exact hp.1 p q h3 h4 c
  ·
   have e : q = i := by omega
   subst e; rw [hrot p, hrot q, if_neg (by omega), if_neg (by omega), if_pos (by omega), show q + (m - q) = m by omega]
   rcases hl with hl | hl
   ·
    omega
   ·
    exact h1.trans_le hR (j := q - 1) ((hX (q - 1) m (by omega) (by omega) (Nat.le_refl _) (by omega)).2 hl) h3 (by omega) (by omega)
theorem insInner_R (hR : ∀ x y z, R x y → R y z → R x z) (a b i : Nat) (hib : i < b) :
  ∀ (j : Nat) (d : Array α), a ≤ j → j ≤ i → b ≤ d.size → (∀ p q, a ≤ p → p < q → q ≤ i → p ≠ j → q ≠ j → R d[p]! d[q]!) → (∀ q, j < q → q ≤ i → R d[j]! d[q]!) → (∀ p, a ≤ p → p < j → Xr lt R d[p]! d[j]!) →
   PermIn a b d (insInner lt a j d) ∧ SrtR R (insInner lt a j d) a (i + 1) ∧ ∀ q, i < q → (insInner lt a j d)[q]! = d[q]!
 | 0, d, haj, hji, hb, hrest, hright, hleft => by
  unfold insInner
  refine ⟨permIn_refl _ _ _, fun p q h1 h2 h3 => ?_, fun _ _ => rfl⟩
  by_cases e : p = 0
  ·
   subst e; exact hright q h2 (by omega)
  ·
   exact hrest p q h1 h2 (by omega) e (by omega)
 | j + 1, d, haj, hji, hb, hrest, hright, hleft => by
  unfold insInner
  split
  ·
   rename_i hc
   simp only [Bool.and_eq_true, decide_eq_true_eq] at hc; have g := swp_get d (i := j + 1) (j := j) (by omega) (by omega); have hlj := (hleft j (by omega) (by omega)).1 hc.2
   have ih := insInner_R hR a b i hib j (swp d (j + 1) j) (by omega) (by omega) (by rw [swp_size]; exact hb) (fun p q h1 h2 h3 h4 h5 => by
     rw [g, g, if_neg h4, if_neg h5]
     by_cases e : q = j + 1
     ·
      subst e; rw [if_pos rfl, if_neg (by omega)]; exact hrest p j h1 (by omega) (by omega) (by omega) (by omega)
     ·
      rw [if_neg e]
      by_cases e' : p = j + 1
      ·
       subst e'; rw [if_pos rfl]; exact hrest j q (by omega) (by omega) h3 (by omega) e
      ·
       rw [if_neg e']; exact hrest p q h1 h2 h3 e' e) (fun q h1 h2 => by
     rw [g, g, if_pos rfl, if_neg (by omega)]
     by_cases e : q = j + 1
     ·
      subst e; rw [if_pos rfl]; exact hlj
     ·
      rw [if_neg e]; exact hright q (by omega) h2) (fun p h1 h2 => by
     rw [g, g, if_pos rfl, if_neg (by omega), if_neg (by omega)]; exact hleft p h1 (by omega))
   exact ⟨permIn_trans _ _ _ _ _ (swp_permIn d a b (j + 1) j haj (by omega) (by omega) (by omega) hb) ih.1, ih.2.1, fun q hq => by rw [ih.2.2 q hq, g, if_neg (by omega), if_neg (by omega)]⟩
  ·
   rename_i hc
   simp only [Bool.and_eq_true, decide_eq_true_eq, not_and, Bool.not_eq_true] at hc; refine ⟨permIn_refl _ _ _, fun p q h1 h2 h3 => ?_, fun _ _ => rfl⟩
   by_cases e : p = j + 1
   ·
    subst e; exact hright q h2 (by omega)
   ·
    by_cases e' : q = j + 1
    ·
     subst e'; have hj := (hleft j (by omega) (by omega)).2 (hc (by omega))
     by_cases e2 : p = j
     ·
      subst e2; exact hj
     ·
      exact hR _ _ _ (hrest p j h1 (by omega) (by omega) (by omega) (by omega)) hj
    ·
     exact hrest p q h1 h2 (by omega) e e'
theorem insOuter_R (hR : ∀ x y z, R x y → R y z → R x z) (a b : Nat) :
  ∀ (n i : Nat) (d : Array α), b - i = n → a < i → i ≤ b → b ≤ d.size → SrtR R d a i → (∀ p q, a ≤ p → p < q → i ≤ q → q < b → Xr lt R d[p]! d[q]!) → PermIn a b d (insOuter lt a b i d) ∧ SrtR R (insOuter lt a b i d) a b
 | 0, i, d, hn, _, hib, _, hs, _ => by
  obtain rfl : i = b := by omega
  rw [insOuter, if_neg (by omega)]; exact ⟨permIn_refl _ _ _, hs⟩
 | n + 1, i, d, hn, hai, hib, hb, hs, hX => by
  have hlt : i < b := by omega
  rw [insOuter, if_pos hlt]; have h1 := insInner_R hR a (i + 1) i (by omega) i d (by omega) (Nat.le_refl _) (by omega) (fun p q h1 h2 h3 _ h5 => hs p q h1 h2 (by omega)) (fun q h1 h2 => by omega) (fun p h1 h2 => hX p i h1 h2 (Nat.le_refl _) hlt)
  have h2 := insOuter_R hR a b n (i + 1) (insInner lt a i d) (by omega) (by omega) (by omega) (by rw [h1.1.1]; exact hb) h1.2.1 (fun p q h3 h4 h5 h6 => by
   rw [h1.2.2 q (by omega)]
   by_cases c : p ≤ i
   ·
    exact permIn_all d _ a (i + 1) (fun x => Xr lt R x d[q]!) (by omega) h1.1 (fun p h7 h8 => hX p q h7 (by omega) (by omega) h6) p h3 (by omega)
   ·
    rw [h1.2.2 p (by omega)]; exact hX p q h3 h4 (by omega) h6)
  exact ⟨permIn_trans _ _ _ _ _ (permIn_mono _ _ _ _ _ _ (Nat.le_refl a) (show i + 1 ≤ b by omega) (by omega) h1.1) h2.1, h2.2⟩
theorem insertion_R (hR : ∀ x y z, R x y → R y z → R x z) (d : Array α) (a b : Nat) (hab : a ≤ b) (hb : b ≤ d.size) (hX : ∀ p q, a ≤ p → p < q → q < b → Xr lt R d[p]! d[q]!) : PermIn a b d (insertionSort lt d a b) ∧ SrtR R (insertionSort lt d a b) a b := by
 unfold insertionSort
 by_cases h : a = b
 ·
  subst h; rw [insOuter, if_neg (by omega)]; exact ⟨permIn_refl _ _ _, fun i j h1 h2 h3 => by omega⟩
 ·
  exact insOuter_R hR a b (b - (a + 1)) (a + 1) d rfl (by omega) (by omega) hb (fun i j h1 h2 h3 => by omega) (fun p q h1 h2 _ h4 => hX p q h1 h2 h4)
end
theorem putRow_map {α β : Type} [Inhabited α] [Inhabited β] (enc : β → Value) (f : α → β) (w : World) (blk off : Nat) (d : Array α) : putRow (fun x => enc (f x)) w blk off d = putRow enc w blk off (d.map f) := by
 unfold putRow putCells
 congr 1
 funext c
 congr 1
 funext k x
 simp only [Array.size_map]
 split
 ·
  rename_i h
  have h1 : k - off < d.size := by omega
  rw [getElem!_pos d _ h1, getElem!_pos (d.map f) _ (by simpa using h1), Array.getElem_map]
 ·
  rfl
theorem sortWorld_grownBy {β : Type} [Inhabited β] (enc : β → Value) (w : World) (blk n : Nat) (d : Array β) (os : Array Obj) : w.grownBy (sortWorld enc w blk 0 n d os) (some blk) := by
 unfold sortWorld
 refine ⟨rfl, rfl, rfl, by simp [putRow, mapBlock, Sort.ahead], fun k hk hne => ?_⟩; rw [heap_grow_old _ _ (by simp [putRow, mapBlock, Sort.ahead]; exact hk)]
 have : blk ≠ k := fun e => hne (by rw [e])
 simp [putRow, mapBlock, Sort.ahead, Array.getElem?_modify, this]
section
variable {β : Type}
abbrev Tg (l : List β) := {p : β × Nat // p.1 ∈ l}
def tagged (l : List β) : List (Tg l) := l.zipIdx.attach.map fun x => ⟨x.1, List.fst_mem_of_mem_zipIdx x.2⟩
theorem tagged_length (l : List β) : (tagged l).length = l.length := by simp [tagged]
theorem tagged_fst (l : List β) : (tagged l).map (·.1) = l.zipIdx := by
 unfold tagged
 rw [List.map_map]; exact List.attach_map_subtype_val _
theorem tagged_at (l : List β) (i : Nat) (h : i < (tagged l).length) : ((tagged l)[i]).1 = (l[i]'(by rw [tagged_length] at h; exact h), i) := by
 have h1 : ((tagged l).map (·.1))[i]'(by simpa using h) = ((tagged l)[i]).1 := by simp
 rw [← h1]; simp only [tagged_fst]
 simp [List.getElem_zipIdx]
def TR (lt : β → β → Bool) (l : List β) (p q : Tg l) : Prop := lt p.1.1 q.1.1 = true ∨ (lt q.1.1 p.1.1 = false ∧ p.1.2 < q.1.2)
theorem TR_trans {lt : β → β → Bool} (hO : SWO lt) (l : List β) (x y z : Tg l) (h1 : TR lt l x y) (h2 : TR lt l y z) : TR lt l x z := by
 rcases h1 with h1 | ⟨h1, t1⟩ <;> rcases h2 with h2 | ⟨h2, t2⟩
 ·
  exact .inl (hO.trans _ _ _ h1 h2)
 ·
  left
  cases h : lt x.1.1 z.1.1 with
  | true => rfl
  | false => rw [hO.ntrans _ _ _ h h2] at h1; cases h1
 ·
  left
  cases h : lt x.1.1 z.1.1 with
  | true => rfl
  | false => rw [hO.ntrans _ _ _ h1 h] at h2; cases h2
 ·
  exact .inr ⟨hO.ntrans _ _ _ h2 h1, by omega⟩
theorem tagged_X (lt : β → β → Bool) (l : List β) [Inhabited (Tg l)] (i j : Nat) (hij : i < j) (hj : j < (tagged l).toArray.size) : Xr (fun p q : Tg l => lt p.1.1 q.1.1) (TR lt l) (tagged l).toArray[i]! (tagged l).toArray[j]! := by
 have hj' : j < (tagged l).length := by simpa using hj
 have e : ∀ k, k < (tagged l).length → (tagged l).toArray[k]!.1.2 = k := fun k hk => by
  rw [getElem!_pos _ k (by simpa using hk)]
  show ((tagged l)[k]).1.2 = k
  rw [tagged_at]
 refine ⟨fun h => .inl h, fun h => .inr ⟨h, ?_⟩⟩; rw [e i (by omega), e j hj']; exact hij
theorem perm_of_permIn {α : Type} [Inhabited α] {d d' : Array α} (h : PermIn 0 d.size d d') : d'.toList.Perm d.toList := by
 obtain ⟨hsz, _, hperm⟩ := h
 have e1 : d'.extract 0 d.size = d' := by rw [← hsz]; exact Array.extract_size
 rwa [e1, Array.extract_size] at hperm
theorem pairwise_of_srt {α : Type} [Inhabited α] {R : α → α → Prop} {d : Array α} (h : SrtR R d 0 d.size) : d.toList.Pairwise R := by
 rw [List.pairwise_iff_getElem]; intro i j hi hj hij
 have hi' : i < d.size := by simpa using hi
 have hj' : j < d.size := by simpa using hj
 have := h i j (Nat.zero_le _) hij hj'; rw [getElem!_pos d i hi', getElem!_pos d j hj'] at this
 simpa using this
theorem stable_unique {lt : β → β → Bool} (hO : SWO lt) (l : List β) (d' : List (Tg l)) (hp : d'.Perm (tagged l)) (hs : d'.Pairwise (TR lt l)) : d'.map (fun p => p.1.1) = l.mergeSort (fun x y => !lt y x) := by
 have hz : (d'.map (·.1)) = List.mergeSort l.zipIdx (List.zipIdxLE fun x y => !lt y x) := by
  have tr : ∀ a b c : β, (!lt b a) = true → (!lt c b) = true → (!lt c a) = true := fun a b c h1 h2 => by
   simp only [Bool.not_eq_true'] at h1 h2 ⊢; exact hO.ntrans _ _ _ h2 h1
  have tot : ∀ a b : β, ((!lt b a) || (!lt a b)) = true := fun a b => by
   cases h : lt b a with
   | false => simp
   | true => simp [hO.asymmA h]
  refine List.Perm.eq_of_pairwise (le := fun a b => List.zipIdxLE (fun x y => !lt y x) a b = true) ?_ ?_ (List.pairwise_mergeSort (List.zipIdxLE_trans tr) (List.zipIdxLE_total tot) _) (((hp.map _).trans (by rw [tagged_fst])).trans (List.mergeSort_perm _ _).symm)
  ·
   intro a b ha hb h1 h2
   have e : a.2 = b.2 := by
    simp only [List.zipIdxLE] at h1 h2
    split at h1
    ·
     split at h1
     ·
      rename_i c1 c2
      rw [if_pos c2, if_pos c1] at h2; simp only [decide_eq_true_eq] at h1 h2
      omega
     ·
      rename_i c1 c2
      rw [if_neg c2] at h2
      cases h2
    ·
     cases h1
   have ma : a ∈ l.zipIdx := by
    have := (hp.map (·.1)).mem_iff.1 ha
    rwa [tagged_fst] at this
   have mb : b ∈ l.zipIdx := (List.mergeSort_perm _ _).mem_iff.1 hb; rw [List.mem_zipIdx_iff_getElem?] at ma mb; rw [e, mb] at ma; exact Prod.ext (Option.some.inj ma).symm e
  ·
   rw [List.pairwise_map]; refine hs.imp ?_; intro a b h; simp only [List.zipIdxLE]
   rcases h with h | ⟨h, ht⟩
   ·
    simp [hO.asymmA h, h]
   ·
    simp only [h, Bool.not_false, if_true]
    split
    ·
     exact decide_eq_true (by omega)
    ·
     rfl
 rw [← List.mergeSort_zipIdx, ← hz, List.map_map]
 rfl
end
section
variable {α : Type} [Inhabited α]
set_option maxHeartbeats 16000000 in
set_option maxRecDepth 1000000 in
theorem stb_swapRange (enc : α → Value) (g : Nat) (cb : Array Value) (blk off cap : Nat) (d0 : Array α) (w0 : World) (R : Row1 enc w0 blk off d0) (a b n : Nat) (d : Array α) (w : World) (hs : d0.size = d.size) (S : SW enc w0 blk off d w) (hab : a + n ≤ b) (hb : b + n ≤ d.size) (hsz : d.size < 4611686018427387904) :
  Calls Try.prog 110 #[.slice (some ⟨blk, off, none⟩) d.size cap, .int .i64 a, .int .i64 b, .int .i64 n, .func (.func g) #[] cb] w fun e w' => e = .returned (.tuple #[]) ∧ ∃ d', SW enc w0 blk off d' w' ∧ swR d d' a b n := by
 have mixed : Try.prog.follows .mixedOrders = true := by kernel_rfl
 have t0 := Try.underlying0; have a0 := Try.isAgg0; have z0 := Try.sizeOf0; have v0 := Try.zeroValue0; have t3 := Try.underlying3; have a3 := Try.isAgg3; have z3 := Try.sizeOf3; have v3 := Try.zeroValue3; have t4 := Try.underlying4; have a4 := Try.isAgg4; have z4 := Try.sizeOf4; have v4 := Try.zeroValue4; have t45 := Try.underlying45; have a45 := Try.isAgg45; have z45 := Try.sizeOf45; have v45 := Try.zeroValue45; have t64 := Try.underlying64; have a64 := Try.isAgg64; have z64 := Try.sizeOf64; have v64 := Try.zeroValue64; have t119 := Try.underlying119; have a119 := Try.isAgg119; have z119 := Try.sizeOf119; have v119 := Try.zeroValue119; have u22 := run_underlying Try.underlying45; have hcl0 := R.hO.cells; simp only [Value.cells] at hcl0; have hst := R.hO.store Try.prog; have S0 : Aside (SW enc w0 blk off d w) := S; clear S
 go_enter Try.func110, Try.ntmps110
 go_wp2
 go_loopg [10] n (fun kx s10 wr => ∃ (i : Nat) (dk : Array α), s10 = .int .i64 i ∧ i ≤ n ∧ n - i ≤ kx ∧ dk.size = d.size ∧ Aside (SW enc w0 blk off dk wr) ∧ Asd (swR d dk a b i))
 case atStart => exact ⟨0, d, by go_num, Nat.zero_le _, by omega, rfl, S0, ⟨swR_zero d a b⟩⟩
 case round =>
  clear S0; obtain ⟨i, dk, rfl, hin, hkx, hds, S1, HR⟩ := hrel
  by_cases hlt : i < n
  ·
   have hltz : (i : Int) < (n : Int) := by omega
   go_wp2_with fail
   obtain ⟨iN1001, hiN1001⟩ : ∃ q, q = a + i := ⟨_, rfl⟩; obtain ⟨jN1001, hjN1001⟩ : ∃ q, q = b + i := ⟨_, rfl⟩
   have ea1001 : ((a : Int) + (i : Int)).toNat = iN1001 := by omega
   have pa1001 : (0 : Int) ≤ (a : Int) + (i : Int) := by omega
   have ba1001 : (a : Int) + (i : Int) < (d.size : Int) := by omega
   have ra1001 : IntKind.i64.wrap ((a : Int) + (i : Int)) = (a : Int) + (i : Int) := by rw [IntKind.wrap_i64]; omega
   have ec1001 : ((b : Int) + (i : Int)).toNat = jN1001 := by omega
   have pc1001 : (0 : Int) ≤ (b : Int) + (i : Int) := by omega
   have bc1001 : (b : Int) + (i : Int) < (d.size : Int) := by omega
   have rc1001 : IntKind.i64.wrap ((b : Int) + (i : Int)) = (b : Int) + (i : Int) := by rw [IntKind.wrap_i64]; omega
   obtain ⟨x1001, hx1001⟩ : ∃ x, x = dk[a + i]! := ⟨_, rfl⟩; obtain ⟨y1001, hy1001⟩ : ∃ x, x = dk[b + i]! := ⟨_, rfl⟩
   have S2 : Aside (SW enc w0 blk off (swp dk (a + i) (b + i)) (((wr.setCell ⟨blk, off + iN1001, none⟩ (enc y1001)).setCell ⟨blk, off + jN1001, none⟩ (enc x1001)).drew)) := by rw [hiN1001, hjN1001, hx1001, hy1001]; exact S1.out.swapped R (a + i) (b + i) (by omega) (by omega)
   have c1001a := S1.out.c1 R (by omega) (a + i) (by omega); have c1001b := S1.out.c1 R (by omega) (b + i) (by omega); have f1001a := S1.out.f1 R (by omega) (a + i) (by omega); have f1001b := S1.out.f1 R (by omega) (b + i) (by omega); obtain ⟨u1001, c1001c⟩ := S1.out.c2 R (by omega) (a + i) (b + i) (by omega) (by omega) (enc y1001); rw [← hjN1001, ← hiN1001] at c1001c; rw [← hx1001, ← hiN1001] at c1001a; rw [← hy1001, ← hjN1001] at c1001b; rw [← hiN1001] at f1001a; rw [← hjN1001] at f1001b; clear S1 hx1001 hy1001 hiN1001 hjN1001
   go_wp2_with fail
   go_big_region_o
   clear c1001a c1001b c1001c f1001a f1001b; generalize ((wr.setCell ⟨blk, off + iN1001, none⟩ (enc y1001)).setCell ⟨blk, off + jN1001, none⟩ (enc x1001)).drew = w2 at S2 ⊢; clear ea1001 ec1001
   go_wp2
   go_roundg (n - (i + 1))
   case measure => omega
   case rel => exact ⟨i + 1, swp dk (a + i) (b + i), by go_num, by omega, by omega, by rw [size_swp]; exact hds, S2, ⟨swR_step HR.out hab hlt hb⟩⟩
  ·
   have hltz : ¬ (i : Int) < (n : Int) := by omega
   have e : i = n := by omega
   subst e
   go_wp2
   go_end0
   exact ⟨rfl, dk, S1.out, HR.out⟩
set_option maxHeartbeats 16000000 in
set_option maxRecDepth 1000000 in
theorem stb_rotate (enc : α → Value) (g : Nat) (cb : Array Value) (blk off cap : Nat) (d0 : Array α) (w0 : World) (R : Row1 enc w0 blk off d0) (a m b : Nat) (d : Array α) (w : World) (hs : d0.size = d.size) (S : SW enc w0 blk off d w) (ham : a < m) (hmb : m < b) (hb : b ≤ d.size) (hsz : d.size < 4611686018427387904) :
  Calls Try.prog 103 #[.slice (some ⟨blk, off, none⟩) d.size cap, .int .i64 a, .int .i64 m, .int .i64 b, .func (.func g) #[] cb] w fun e w' => e = .returned (.tuple #[]) ∧ ∃ d', SW enc w0 blk off d' w' ∧ rotR d d' a m b ∧ PermIn a b d d' := by
 have mixed : Try.prog.follows .mixedOrders = true := by kernel_rfl
 have t0 := Try.underlying0; have a0 := Try.isAgg0; have z0 := Try.sizeOf0; have v0 := Try.zeroValue0; have t3 := Try.underlying3; have a3 := Try.isAgg3; have z3 := Try.sizeOf3; have v3 := Try.zeroValue3; have t4 := Try.underlying4; have a4 := Try.isAgg4; have z4 := Try.sizeOf4; have v4 := Try.zeroValue4; have t45 := Try.underlying45; have a45 := Try.isAgg45; have z45 := Try.sizeOf45; have v45 := Try.zeroValue45; have t64 := Try.underlying64; have a64 := Try.isAgg64; have z64 := Try.sizeOf64; have v64 := Try.zeroValue64; have t119 := Try.underlying119; have a119 := Try.isAgg119; have z119 := Try.sizeOf119; have v119 := Try.zeroValue119; have u22 := run_underlying Try.underlying45; have hcl0 := R.hO.cells; simp only [Value.cells] at hcl0; have hst := R.hO.store Try.prog; have S0 : Aside (SW enc w0 blk off d w) := S; clear S; have CALL : Asd (∀ (a b n : Nat) (d : Array α) (w : World), d0.size = d.size → SW enc w0 blk off d w → a + n ≤ b → b + n ≤ d.size → d.size < 4611686018427387904 → Calls Try.prog 110 #[.slice (some ⟨blk, off, none⟩) d.size cap, .int .i64 a, .int .i64 b, .int .i64 n, .func (.func g) #[] cb] w fun e w' => e = .returned (.tuple #[]) ∧ ∃ d', SW enc w0 blk off d' w' ∧ swR d d' a b n) := ⟨fun a b n d w hs S h1 h2 h3 => stb_swapRange enc g cb blk off cap d0 w0 R a b n d w hs S h1 h2 h3⟩
 go_enter Try.func103, Try.ntmps103
 have r0 : IntKind.i64.wrap ((m : Int) - (a : Int)) = (m : Int) - (a : Int) := by rw [IntKind.wrap_i64]; omega
 have r1 : IntKind.i64.wrap ((b : Int) - (m : Int)) = (b : Int) - (m : Int) := by rw [IntKind.wrap_i64]; omega
 go_wp2
 go_loopg [10, 11] (b - a) (fun kx s10 s11 wr => ∃ (i j : Nat) (dk : Array α), s10 = .int .i64 i ∧ s11 = .int .i64 j ∧ 0 < i ∧ 0 < j ∧ i ≤ m - a ∧ j ≤ b - m ∧ i + j ≤ kx ∧ dk.size = d.size ∧ Aside (SW enc w0 blk off dk wr) ∧ Asd (PermIn a b d dk ∧ ∀ d', rotR dk d' (m - i) m (m + j) → rotR d d' a m b))
 case atStart => exact ⟨m - a, b - m, d, by first | go_num | (congr 1; omega), by first | go_num | (congr 1; omega), by omega, by omega, Nat.le_refl _, Nat.le_refl _, by omega, rfl, S0, ⟨permIn_refl _ _ _, fun d' h => by rwa [show m - (m - a) = a by omega, show m + (b - m) = b by omega] at h⟩⟩
 case round =>
  clear S0 r0 r1; obtain ⟨i, j, dk, rfl, rfl, hi0, hj0, him, hjb, hkx, hds, S1, HR⟩ := hrel
  have rm : IntKind.i64.wrap ((m : Int) - (i : Int)) = (m : Int) - (i : Int) := by rw [IntKind.wrap_i64]; omega
  by_cases hij : i = j
  ·
   subst hij; have hcon := CALL.out (m - i) m i dk wr (by omega) S1.out (by omega) (by omega) (by omega); rw [show (((m - i : Nat)) : Int) = (m : Int) - (i : Int) by omega, hds] at hcon; have HCON := Asd.mk hcon; clear hcon
   go_wp2_with (go_at_call 110; refine HCON.out.mono ?_; rintro e w' ⟨rfl, d1, S2, HS⟩)
   go_end0
   refine ⟨rfl, d1, S2, HR.out.2 d1 (rotR_eq (by rwa [show m + i - m = i by omega]) (by omega) (by omega) (by omega)), permIn_trans _ _ _ _ _ HR.out.1 (permIn_mono _ _ _ _ _ _ (show a ≤ m - i by omega) (show m + i ≤ b by omega) (by omega) HS.2.2)⟩
  ·
   have hijz : ¬ ((i : Int) = (j : Int)) := by omega
   have hijb : (((i : Int)) != ((j : Int))) = true := bne_iff_ne.mpr hijz
   by_cases hgt : j < i
   ·
    have hgtz : (j : Int) < (i : Int) := by omega
    have rs : IntKind.i64.wrap ((i : Int) - (j : Int)) = (i : Int) - (j : Int) := by rw [IntKind.wrap_i64]; omega
    have hcon := CALL.out (m - i) m j dk wr (by omega) S1.out (by omega) (by omega) (by omega); rw [show (((m - i : Nat)) : Int) = (m : Int) - (i : Int) by omega, hds] at hcon; have HCON := Asd.mk hcon; clear hcon
    go_wp2_with (go_at_call 110; refine HCON.out.mono ?_; rintro e w' ⟨rfl, d1, S2, HS⟩)
    go_roundg (i - j + j)
    case measure => omega
    case rel => exact ⟨i - j, j, d1, by first | go_num | (congr 1; omega), rfl, by omega, hj0, by omega, hjb, Nat.le_refl _, by rw [HS.1]; exact hds, S2, ⟨permIn_trans _ _ _ _ _ HR.out.1 (permIn_mono _ _ _ _ _ _ (show a ≤ m - i by omega) (show m + j ≤ b by omega) (by omega) HS.2.2), fun d' h => HR.out.2 d' (rotR_gt (by rwa [show m + j - m = j by omega]) (by rwa [show m - i + (m + j - m) = m - (i - j) by omega]) (by omega) (by omega) (by omega))⟩⟩
   ·
    have hgtz : ¬ (j : Int) < (i : Int) := by omega
    have rs : IntKind.i64.wrap ((j : Int) - (i : Int)) = (j : Int) - (i : Int) := by rw [IntKind.wrap_i64]; omega
    have rp : IntKind.i64.wrap ((m : Int) + (j : Int)) = (m : Int) + (j : Int) := by rw [IntKind.wrap_i64]; omega
    have rq : IntKind.i64.wrap ((m : Int) + (j : Int) - (i : Int)) = (m : Int) + (j : Int) - (i : Int) := by rw [IntKind.wrap_i64]; omega
    have hcon := CALL.out (m - i) (m + j - i) i dk wr (by omega) S1.out (by omega) (by omega) (by omega); rw [show (((m - i : Nat)) : Int) = (m : Int) - (i : Int) by omega, show (((m + j - i : Nat)) : Int) = (m : Int) + (j : Int) - (i : Int) by omega, hds] at hcon; have HCON := Asd.mk hcon; clear hcon
    go_wp2_with (go_at_call 110; refine HCON.out.mono ?_; rintro e w' ⟨rfl, d1, S2, HS⟩)
    go_roundg (i + (j - i))
    case measure => omega
    case rel => exact ⟨i, j - i, d1, rfl, by first | go_num | (congr 1; omega), hi0, by omega, him, by omega, Nat.le_refl _, by rw [HS.1]; exact hds, S2, ⟨permIn_trans _ _ _ _ _ HR.out.1 (permIn_mono _ _ _ _ _ _ (show a ≤ m - i by omega) (show m + j - i + i ≤ b by omega) (by omega) HS.2.2), fun d' h => HR.out.2 d' (rotR_lt (by rwa [show m + j - (m - (m - i)) = m + j - i by omega, show m - (m - i) = i by omega]) (by rwa [show m + j - (m - (m - i)) = m + (j - i) by omega]) (by omega) (by omega) (by omega))⟩⟩
set_option maxHeartbeats 16000000 in
set_option maxRecDepth 1000000 in
theorem stb_sym1 (enc : α → Value) (g : Nat) (cb : Array Value) (blk off cap : Nat) (d0 : Array α) (w0 : World) (R : Row1 enc w0 blk off d0) (cf : α → α → Int) (eg : ∀ args w, (callFunc g args).run Try.prog w = .ok (.enter g args) w) (hcmp : CmpLays1 Try.prog g cb enc cf blk off d0.size w0) (Rr : α → α → Prop) (hR : ∀ x y z, Rr x y → Rr y z → Rr x z) (a m b : Nat) (d : Array α) (w : World) (hs : d0.size = d.size) (S : SW enc w0 blk off d w) (ham : a < m) (hmb : m < b) (hb : b ≤ d.size) (hsz : d.size < 4611686018427387904) (hs1 : SrtR Rr d a m) (hs2 : SrtR Rr d m b) (hX : XX (ltOf cf) Rr d a m b) (hm1 : m = a + 1) :
  Calls Try.prog 91 #[.slice (some ⟨blk, off, none⟩) d.size cap, .int .i64 a, .int .i64 m, .int .i64 b, .func (.func g) #[] cb] w fun e w' => e = .returned (.tuple #[]) ∧ ∃ d', SW enc w0 blk off d' w' ∧ PermIn a b d d' ∧ SrtR Rr d' a b := by
 have mixed : Try.prog.follows .mixedOrders = true := by kernel_rfl
 have t0 := Try.underlying0; have a0 := Try.isAgg0; have z0 := Try.sizeOf0; have v0 := Try.zeroValue0; have t3 := Try.underlying3; have a3 := Try.isAgg3; have z3 := Try.sizeOf3; have v3 := Try.zeroValue3; have t4 := Try.underlying4; have a4 := Try.isAgg4; have z4 := Try.sizeOf4; have v4 := Try.zeroValue4; have t45 := Try.underlying45; have a45 := Try.isAgg45; have z45 := Try.sizeOf45; have v45 := Try.zeroValue45; have t64 := Try.underlying64; have a64 := Try.isAgg64; have z64 := Try.sizeOf64; have v64 := Try.zeroValue64; have t119 := Try.underlying119; have a119 := Try.isAgg119; have z119 := Try.sizeOf119; have v119 := Try.zeroValue119; have u22 := run_underlying Try.underlying45; have hcl0 := R.hO.cells; simp only [Value.cells] at hcl0; have hst := R.hO.store Try.prog; have HC : Aside _ := hcmp; clear hcmp; have S0 : Aside (SW enc w0 blk off d w) := S; have X1 := Asd.mk hs1; have X2 := Asd.mk hs2; have XC := Asd.mk hX; clear S hs1 hs2 hX
 go_enter Try.func91, Try.ntmps91
 have rm1 : IntKind.i64.wrap ((m : Int) - (a : Int)) = (m : Int) - (a : Int) := by rw [IntKind.wrap_i64]; omega
 have hmz : ((m : Int) - (a : Int) == 1) = true := beq_iff_eq.mpr (by omega); have HM := Asd.mk hm1; clear hm1
 go_wp2
 clear hmz rm1
 go_loopg [10, 11] (b - m) (fun kx si sj wr => ∃ (i j : Nat), si = .int .i64 i ∧ sj = .int .i64 j ∧ m ≤ i ∧ i ≤ j ∧ j ≤ b ∧ j - i ≤ kx ∧ Aside (SW enc w0 blk off d wr) ∧ Asd (i = m ∨ (ltOf cf) d[i - 1]! d[a]! = true) ∧ Asd (j = b ∨ (ltOf cf) d[j]! d[a]! = false))
 case atStart => exact ⟨m, b, rfl, rfl, Nat.le_refl _, by omega, Nat.le_refl _, by omega, S0, ⟨.inl rfl⟩, ⟨.inl rfl⟩⟩
 case round =>
  clear S0; obtain ⟨i, j, rfl, rfl, hli, hij0, hjh, hkx, S1, HL, HR⟩ := hrel
  by_cases hij : i < j
  ·
   have hijz : (i : Int) < (j : Int) := by omega
   have rij : IntKind.i64.wrap ((i : Int) + (j : Int)) = (i : Int) + (j : Int) := by rw [IntKind.wrap_i64]; omega
   obtain ⟨h, hh⟩ : ∃ h, h = (i + j) / 2 := ⟨_, rfl⟩
   have zh : ((i : Int) + (j : Int)) / 2 = (h : Int) := by omega
   have h1 : i ≤ h := by omega
   have h2 : h < j := by omega
   have rh1 : IntKind.i64.wrap ((h : Int) + 1) = (h : Int) + 1 := by rw [IntKind.wrap_i64]; omega
   have hah : a < d.size := by omega
   clear hh
   cases hlv : (ltOf cf) d[h]! d[a]! with
   | true =>
    obtain ⟨iN1002, hiN1002⟩ : ∃ q, q = h := ⟨_, rfl⟩; obtain ⟨jN1002, hjN1002⟩ : ∃ q, q = a := ⟨_, rfl⟩
    have ea1002 : ((h : Int)).toNat = iN1002 := by omega
    have pa1002 : (0 : Int) ≤ (h : Int) := by omega
    have ba1002 : (h : Int) < (d.size : Int) := by omega
    have ra1002 : IntKind.i64.wrap ((h : Int)) = (h : Int) := by rw [IntKind.wrap_i64]; omega
    have ec1002 : ((a : Int)).toNat = jN1002 := by omega
    have pc1002 : (0 : Int) ≤ (a : Int) := by omega
    have bc1002 : (a : Int) < (d.size : Int) := by omega
    have rc1002 : IntKind.i64.wrap ((a : Int)) = (a : Int) := by rw [IntKind.wrap_i64]; omega
    obtain ⟨x1002, hx1002⟩ : ∃ x, x = d[h]! := ⟨_, rfl⟩; obtain ⟨y1002, hy1002⟩ : ∃ x, x = d[a]! := ⟨_, rfl⟩; have l1002a := S1.out.cl R (by omega) (h) (by omega); have l1002b := S1.out.cl R (by omega) (a) (by omega); rw [← hx1002, ← hiN1002] at l1002a; rw [← hy1002, ← hjN1002] at l1002b; have hc1002 := S1.out.cmp HC.out (by omega) x1002 y1002
    have hv1002 : cf x1002 y1002 < 0 := by rw [hx1002, hy1002]; exact of_decide_eq_true hlv
    have hd1002 : decide (cf x1002 y1002 < 0) = true := decide_eq_true hv1002; clear hx1002 hy1002 hiN1002 hjN1002
    go_wp2_with fail
    go_quiet_grown (first | (go_at_fn g; refine Calls.grown_of (hc1002 _ _)))
    have S2 : Aside (SW enc w0 blk off d (grow (wr.drewN nq) osq)) := S1.out.grown nq osq; clear l1002a l1002b hc1002 S1; generalize grow (wr.drewN nq) osq = w2 at S2 ⊢; clear nq osq; clear ea1002 ec1002 hv1002
    go_wp2
    go_roundg (j - (h + 1))
    case measure => omega
    case rel => exact ⟨h + 1, j, by first | rfl | go_num | (congr 1; omega), rfl, by omega, by omega, hjh, Nat.le_refl _, S2, ⟨.inr (by rw [show h + 1 - 1 = h by omega]; exact hlv)⟩, HR⟩
   | false =>
    obtain ⟨iN1003, hiN1003⟩ : ∃ q, q = h := ⟨_, rfl⟩; obtain ⟨jN1003, hjN1003⟩ : ∃ q, q = a := ⟨_, rfl⟩
    have ea1003 : ((h : Int)).toNat = iN1003 := by omega
    have pa1003 : (0 : Int) ≤ (h : Int) := by omega
    have ba1003 : (h : Int) < (d.size : Int) := by omega
    have ra1003 : IntKind.i64.wrap ((h : Int)) = (h : Int) := by rw [IntKind.wrap_i64]; omega
    have ec1003 : ((a : Int)).toNat = jN1003 := by omega
    have pc1003 : (0 : Int) ≤ (a : Int) := by omega
    have bc1003 : (a : Int) < (d.size : Int) := by omega
    have rc1003 : IntKind.i64.wrap ((a : Int)) = (a : Int) := by rw [IntKind.wrap_i64]; omega
    obtain ⟨x1003, hx1003⟩ : ∃ x, x = d[h]! := ⟨_, rfl⟩; obtain ⟨y1003, hy1003⟩ : ∃ x, x = d[a]! := ⟨_, rfl⟩; have l1003a := S1.out.cl R (by omega) (h) (by omega); have l1003b := S1.out.cl R (by omega) (a) (by omega); rw [← hx1003, ← hiN1003] at l1003a; rw [← hy1003, ← hjN1003] at l1003b; have hc1003 := S1.out.cmp HC.out (by omega) x1003 y1003
    have hv1003 : ¬ cf x1003 y1003 < 0 := by rw [hx1003, hy1003]; exact of_decide_eq_false hlv
    have hd1003 : decide (cf x1003 y1003 < 0) = false := decide_eq_false hv1003; clear hx1003 hy1003 hiN1003 hjN1003
    go_wp2_with fail
    go_quiet_grown (first | (go_at_fn g; refine Calls.grown_of (hc1003 _ _)))
    have S2 : Aside (SW enc w0 blk off d (grow (wr.drewN nq) osq)) := S1.out.grown nq osq; clear l1003a l1003b hc1003 S1; generalize grow (wr.drewN nq) osq = w2 at S2 ⊢; clear nq osq; clear ea1003 ec1003 hv1003
    go_wp2
    go_roundg (h - i)
    case measure => omega
    case rel => exact ⟨i, h, rfl, by first | rfl | go_num | (congr 1; omega), hli, h1, by omega, Nat.le_refl _, S2, HL, ⟨.inr (by exact hlv)⟩⟩
  ·
   have hijz : ¬ (i : Int) < (j : Int) := by omega
   have e : i = j := by omega
   subst e; clear hijz hij hij0 hkx
   have hai1 : a + 1 ≤ i := by have := HM.out; omega
   have ri1 : IntKind.i64.wrap ((i : Int) - 1) = (i : Int) - 1 := by rw [IntKind.wrap_i64]; omega
   go_wp2
   go_loopg [13] (b - a) (fun kx sk wr => ∃ (k' : Nat) (dk : Array α), sk = .int .i64 k' ∧ a ≤ k' ∧ k' + 1 ≤ i ∧ i - k' ≤ kx ∧ dk.size = d.size ∧ Aside (SW enc w0 blk off dk wr) ∧ Asd (rotR d dk a (a + 1) (k' + 1)) ∧ Asd (PermIn a b d dk))
   case atStart => exact ⟨a, d, rfl, Nat.le_refl _, by omega, by omega, rfl, S1, ⟨rotR_refl _ _ _ _ (Or.inr rfl) (Nat.le_refl _) (by omega)⟩, ⟨permIn_refl _ _ _⟩⟩
   case round =>
    clear S1; obtain ⟨k', dk, rfl, hak, hki, hkx, hds, S1, HO, HP⟩ := hrel
    have rk1 : IntKind.i64.wrap ((k' : Int) + 1) = (k' : Int) + 1 := by rw [IntKind.wrap_i64]; omega
    by_cases hk : k' + 1 < i
    ·
     have hkz : (k' : Int) < (i : Int) - 1 := by omega
     go_wp2_with fail
     obtain ⟨iN1004, hiN1004⟩ : ∃ q, q = k' := ⟨_, rfl⟩; obtain ⟨jN1004, hjN1004⟩ : ∃ q, q = k' + 1 := ⟨_, rfl⟩
     have ea1004 : ((k' : Int)).toNat = iN1004 := by omega
     have pa1004 : (0 : Int) ≤ (k' : Int) := by omega
     have ba1004 : (k' : Int) < (d.size : Int) := by omega
     have ra1004 : IntKind.i64.wrap ((k' : Int)) = (k' : Int) := by rw [IntKind.wrap_i64]; omega
     have ec1004 : ((k' : Int) + 1).toNat = jN1004 := by omega
     have pc1004 : (0 : Int) ≤ (k' : Int) + 1 := by omega
     have bc1004 : (k' : Int) + 1 < (d.size : Int) := by omega
     have rc1004 : IntKind.i64.wrap ((k' : Int) + 1) = (k' : Int) + 1 := by rw [IntKind.wrap_i64]; omega
     obtain ⟨x1004, hx1004⟩ : ∃ x, x = dk[k']! := ⟨_, rfl⟩; obtain ⟨y1004, hy1004⟩ : ∃ x, x = dk[k' + 1]! := ⟨_, rfl⟩
     have S2 : Aside (SW enc w0 blk off (swp dk (k') (k' + 1)) (((wr.setCell ⟨blk, off + iN1004, none⟩ (enc y1004)).setCell ⟨blk, off + jN1004, none⟩ (enc x1004)).drew)) := by rw [hiN1004, hjN1004, hx1004, hy1004]; exact S1.out.swapped R (k') (k' + 1) (by omega) (by omega)
     have c1004a := S1.out.c1 R (by omega) (k') (by omega); have c1004b := S1.out.c1 R (by omega) (k' + 1) (by omega); have f1004a := S1.out.f1 R (by omega) (k') (by omega); have f1004b := S1.out.f1 R (by omega) (k' + 1) (by omega); obtain ⟨u1004, c1004c⟩ := S1.out.c2 R (by omega) (k') (k' + 1) (by omega) (by omega) (enc y1004); rw [← hjN1004, ← hiN1004] at c1004c; rw [← hx1004, ← hiN1004] at c1004a; rw [← hy1004, ← hjN1004] at c1004b; rw [← hiN1004] at f1004a; rw [← hjN1004] at f1004b; clear S1 hx1004 hy1004 hiN1004 hjN1004
     go_wp2_with fail
     go_big_region_o
     clear c1004a c1004b c1004c f1004a f1004b; generalize ((wr.setCell ⟨blk, off + iN1004, none⟩ (enc y1004)).setCell ⟨blk, off + jN1004, none⟩ (enc x1004)).drew = w2 at S2 ⊢; clear ea1004 ec1004
     go_wp2
     go_roundg (i - (k' + 1))
     case measure => omega
     case rel => exact ⟨k' + 1, swp dk k' (k' + 1), by first | rfl | go_num | (congr 1; omega), by omega, by omega, Nat.le_refl _, by rw [size_swp]; exact hds, S2, ⟨rotR_up HO.out hds hak (by omega)⟩, ⟨permIn_trans _ _ _ _ _ HP.out (swp_permIn _ _ _ _ _ (by omega) (by omega) (by omega) (by omega) (by omega))⟩⟩
    ·
     have hkz : ¬ (k' : Int) < (i : Int) - 1 := by omega
     have e : Asd (k' + 1 = i) := ⟨by omega⟩; clear hk
     go_wp2
     (try simp only [Exit.inBlock, Exit.then])
     refine bodyPost_ret (results_none rfl _ _ _) rfl ?_; refine ⟨rfl, dk, S1, HP.out, ?_⟩; have hm1 := HM.out; subst hm1; exact one_left hR hli hjh (by omega) (e.out ▸ HO.out) X2.out XC.out HL.out HR.out
set_option maxHeartbeats 16000000 in
set_option maxRecDepth 1000000 in
theorem stb_sym2 (enc : α → Value) (g : Nat) (cb : Array Value) (blk off cap : Nat) (d0 : Array α) (w0 : World) (R : Row1 enc w0 blk off d0) (cf : α → α → Int) (eg : ∀ args w, (callFunc g args).run Try.prog w = .ok (.enter g args) w) (hcmp : CmpLays1 Try.prog g cb enc cf blk off d0.size w0) (Rr : α → α → Prop) (hR : ∀ x y z, Rr x y → Rr y z → Rr x z) (a m b : Nat) (d : Array α) (w : World) (hs : d0.size = d.size) (S : SW enc w0 blk off d w) (ham : a < m) (hmb : m < b) (hb : b ≤ d.size) (hsz : d.size < 4611686018427387904) (hs1 : SrtR Rr d a m) (hs2 : SrtR Rr d m b) (hX : XX (ltOf cf) Rr d a m b) (hm1 : m ≠ a + 1) (hb1 : b = m + 1) :
  Calls Try.prog 91 #[.slice (some ⟨blk, off, none⟩) d.size cap, .int .i64 a, .int .i64 m, .int .i64 b, .func (.func g) #[] cb] w fun e w' => e = .returned (.tuple #[]) ∧ ∃ d', SW enc w0 blk off d' w' ∧ PermIn a b d d' ∧ SrtR Rr d' a b := by
 have mixed : Try.prog.follows .mixedOrders = true := by kernel_rfl
 have t0 := Try.underlying0; have a0 := Try.isAgg0; have z0 := Try.sizeOf0; have v0 := Try.zeroValue0; have t3 := Try.underlying3; have a3 := Try.isAgg3; have z3 := Try.sizeOf3; have v3 := Try.zeroValue3; have t4 := Try.underlying4; have a4 := Try.isAgg4; have z4 := Try.sizeOf4; have v4 := Try.zeroValue4; have t45 := Try.underlying45; have a45 := Try.isAgg45; have z45 := Try.sizeOf45; have v45 := Try.zeroValue45; have t64 := Try.underlying64; have a64 := Try.isAgg64; have z64 := Try.sizeOf64; have v64 := Try.zeroValue64; have t119 := Try.underlying119; have a119 := Try.isAgg119; have z119 := Try.sizeOf119; have v119 := Try.zeroValue119; have u22 := run_underlying Try.underlying45; have hcl0 := R.hO.cells; simp only [Value.cells] at hcl0; have hst := R.hO.store Try.prog; have HC : Aside _ := hcmp; clear hcmp; have S0 : Aside (SW enc w0 blk off d w) := S; have X1 := Asd.mk hs1; have X2 := Asd.mk hs2; have XC := Asd.mk hX; clear S hs1 hs2 hX
 go_enter Try.func91, Try.ntmps91
 have rm1 : IntKind.i64.wrap ((m : Int) - (a : Int)) = (m : Int) - (a : Int) := by rw [IntKind.wrap_i64]; omega
 have hmz : ((m : Int) - (a : Int) == 1) = false := beq_eq_false_iff_ne.mpr (by omega)
 have rb1 : IntKind.i64.wrap ((b : Int) - (m : Int)) = (b : Int) - (m : Int) := by rw [IntKind.wrap_i64]; omega
 have hbz : ((b : Int) - (m : Int) == 1) = true := beq_iff_eq.mpr (by omega); have HM := Asd.mk hb1; clear hb1 hm1
 go_wp2
 clear hmz hbz rm1 rb1
 go_loopg [14, 15] (m - a) (fun kx si sj wr => ∃ (i j : Nat), si = .int .i64 i ∧ sj = .int .i64 j ∧ a ≤ i ∧ i ≤ j ∧ j ≤ m ∧ j - i ≤ kx ∧ Aside (SW enc w0 blk off d wr) ∧ Asd (i = a ∨ (ltOf cf) d[m]! d[i - 1]! = false) ∧ Asd (j = m ∨ (ltOf cf) d[m]! d[j]! = true))
 case atStart => exact ⟨a, m, rfl, rfl, Nat.le_refl _, by omega, Nat.le_refl _, by omega, S0, ⟨.inl rfl⟩, ⟨.inl rfl⟩⟩
 case round =>
  clear S0; obtain ⟨i, j, rfl, rfl, hli, hij0, hjh, hkx, S1, HL, HR⟩ := hrel
  by_cases hij : i < j
  ·
   have hijz : (i : Int) < (j : Int) := by omega
   have rij : IntKind.i64.wrap ((i : Int) + (j : Int)) = (i : Int) + (j : Int) := by rw [IntKind.wrap_i64]; omega
   obtain ⟨h, hh⟩ : ∃ h, h = (i + j) / 2 := ⟨_, rfl⟩
   have zh : ((i : Int) + (j : Int)) / 2 = (h : Int) := by omega
   have h1 : i ≤ h := by omega
   have h2 : h < j := by omega
   have rh1 : IntKind.i64.wrap ((h : Int) + 1) = (h : Int) + 1 := by rw [IntKind.wrap_i64]; omega
   have hah : m < d.size := by omega
   clear hh
   cases hlv : (ltOf cf) d[m]! d[h]! with
   | true =>
    obtain ⟨iN1005, hiN1005⟩ : ∃ q, q = m := ⟨_, rfl⟩; obtain ⟨jN1005, hjN1005⟩ : ∃ q, q = h := ⟨_, rfl⟩
    have ea1005 : ((m : Int)).toNat = iN1005 := by omega
    have pa1005 : (0 : Int) ≤ (m : Int) := by omega
    have ba1005 : (m : Int) < (d.size : Int) := by omega
    have ra1005 : IntKind.i64.wrap ((m : Int)) = (m : Int) := by rw [IntKind.wrap_i64]; omega
    have ec1005 : ((h : Int)).toNat = jN1005 := by omega
    have pc1005 : (0 : Int) ≤ (h : Int) := by omega
    have bc1005 : (h : Int) < (d.size : Int) := by omega
    have rc1005 : IntKind.i64.wrap ((h : Int)) = (h : Int) := by rw [IntKind.wrap_i64]; omega
    obtain ⟨x1005, hx1005⟩ : ∃ x, x = d[m]! := ⟨_, rfl⟩; obtain ⟨y1005, hy1005⟩ : ∃ x, x = d[h]! := ⟨_, rfl⟩; have l1005a := S1.out.cl R (by omega) (m) (by omega); have l1005b := S1.out.cl R (by omega) (h) (by omega); rw [← hx1005, ← hiN1005] at l1005a; rw [← hy1005, ← hjN1005] at l1005b; have hc1005 := S1.out.cmp HC.out (by omega) x1005 y1005
    have hv1005 : cf x1005 y1005 < 0 := by rw [hx1005, hy1005]; exact of_decide_eq_true hlv
    have hd1005 : decide (cf x1005 y1005 < 0) = true := decide_eq_true hv1005; clear hx1005 hy1005 hiN1005 hjN1005
    go_wp2_with fail
    go_quiet_grown (first | (go_at_fn g; refine Calls.grown_of (hc1005 _ _)))
    have S2 : Aside (SW enc w0 blk off d (grow (wr.drewN nq) osq)) := S1.out.grown nq osq; clear l1005a l1005b hc1005 S1; generalize grow (wr.drewN nq) osq = w2 at S2 ⊢; clear nq osq; clear ea1005 ec1005 hv1005
    go_wp2
    go_roundg (h - i)
    case measure => omega
    case rel => exact ⟨i, h, rfl, by first | rfl | go_num | (congr 1; omega), hli, h1, by omega, Nat.le_refl _, S2, HL, ⟨.inr (by exact hlv)⟩⟩
   | false =>
    obtain ⟨iN1006, hiN1006⟩ : ∃ q, q = m := ⟨_, rfl⟩; obtain ⟨jN1006, hjN1006⟩ : ∃ q, q = h := ⟨_, rfl⟩
    have ea1006 : ((m : Int)).toNat = iN1006 := by omega
    have pa1006 : (0 : Int) ≤ (m : Int) := by omega
    have ba1006 : (m : Int) < (d.size : Int) := by omega
    have ra1006 : IntKind.i64.wrap ((m : Int)) = (m : Int) := by rw [IntKind.wrap_i64]; omega
    have ec1006 : ((h : Int)).toNat = jN1006 := by omega
    have pc1006 : (0 : Int) ≤ (h : Int) := by omega
    have bc1006 : (h : Int) < (d.size : Int) := by omega
    have rc1006 : IntKind.i64.wrap ((h : Int)) = (h : Int) := by rw [IntKind.wrap_i64]; omega
    obtain ⟨x1006, hx1006⟩ : ∃ x, x = d[m]! := ⟨_, rfl⟩; obtain ⟨y1006, hy1006⟩ : ∃ x, x = d[h]! := ⟨_, rfl⟩; have l1006a := S1.out.cl R (by omega) (m) (by omega); have l1006b := S1.out.cl R (by omega) (h) (by omega); rw [← hx1006, ← hiN1006] at l1006a; rw [← hy1006, ← hjN1006] at l1006b; have hc1006 := S1.out.cmp HC.out (by omega) x1006 y1006
    have hv1006 : ¬ cf x1006 y1006 < 0 := by rw [hx1006, hy1006]; exact of_decide_eq_false hlv
    have hd1006 : decide (cf x1006 y1006 < 0) = false := decide_eq_false hv1006; clear hx1006 hy1006 hiN1006 hjN1006
    go_wp2_with fail
    go_quiet_grown (first | (go_at_fn g; refine Calls.grown_of (hc1006 _ _)))
    have S2 : Aside (SW enc w0 blk off d (grow (wr.drewN nq) osq)) := S1.out.grown nq osq; clear l1006a l1006b hc1006 S1; generalize grow (wr.drewN nq) osq = w2 at S2 ⊢; clear nq osq; clear ea1006 ec1006 hv1006
    go_wp2
    go_roundg (j - (h + 1))
    case measure => omega
    case rel => exact ⟨h + 1, j, by first | rfl | go_num | (congr 1; omega), rfl, by omega, by omega, hjh, Nat.le_refl _, S2, ⟨.inr (by rw [show h + 1 - 1 = h by omega]; exact hlv)⟩, HR⟩
  ·
   have hijz : ¬ (i : Int) < (j : Int) := by omega
   have e : i = j := by omega
   subst e; clear hijz hij hij0 hkx
   go_wp2
   go_loopg [17] (b - a) (fun kx sk wr => ∃ (k' : Nat) (dk : Array α), sk = .int .i64 k' ∧ i ≤ k' ∧ k' ≤ m ∧ k' - a ≤ kx ∧ dk.size = d.size ∧ Aside (SW enc w0 blk off dk wr) ∧ Asd (rotR d dk k' m (m + 1)) ∧ Asd (PermIn a b d dk))
   case atStart => exact ⟨m, d, rfl, by omega, Nat.le_refl _, by omega, rfl, S1, ⟨rotR_refl _ _ _ _ (Or.inl rfl) (by omega) (Nat.le_refl _)⟩, ⟨permIn_refl _ _ _⟩⟩
   case round =>
    clear S1; obtain ⟨k', dk, rfl, hak, hki, hkx, hds, S1, HO, HP⟩ := hrel
    have rk1 : IntKind.i64.wrap ((k' : Int) - 1) = (k' : Int) - 1 := by rw [IntKind.wrap_i64]; omega
    by_cases hk : i < k'
    ·
     have hkz : (i : Int) < (k' : Int) := by omega
     obtain ⟨kp, hkp⟩ : ∃ q, q + 1 = k' := ⟨k' - 1, by omega⟩
     have zkp : (k' : Int) = (kp : Int) + 1 := by omega
     have zkq : IntKind.i64.wrap ((kp : Int) + 1 - 1) = (kp : Int) := by rw [IntKind.wrap_i64]; omega
     have zkr : IntKind.i64.wrap ((kp : Int)) = (kp : Int) := by rw [IntKind.wrap_i64]; omega
     have hkz' : (i : Int) < (kp : Int) + 1 := by omega
     clear rk1; have HKP := Asd.mk hkp
     have hkq : kp ≤ k' := by omega
     have hkr : k' ≤ kp + 1 := by omega
     clear hkp
     go_wp2_with fail
     obtain ⟨iN1007, hiN1007⟩ : ∃ q, q = k' := ⟨_, rfl⟩; obtain ⟨jN1007, hjN1007⟩ : ∃ q, q = k' - 1 := ⟨_, rfl⟩
     have ea1007 : ((kp : Int) + 1).toNat = iN1007 := by omega
     have pa1007 : (0 : Int) ≤ (kp : Int) + 1 := by omega
     have ba1007 : (kp : Int) + 1 < (d.size : Int) := by omega
     have ra1007 : IntKind.i64.wrap ((kp : Int) + 1) = (kp : Int) + 1 := by rw [IntKind.wrap_i64]; omega
     have ec1007 : ((kp : Int)).toNat = jN1007 := by omega
     have pc1007 : (0 : Int) ≤ (kp : Int) := by omega
     have bc1007 : (kp : Int) < (d.size : Int) := by omega
     have rc1007 : IntKind.i64.wrap ((kp : Int)) = (kp : Int) := by rw [IntKind.wrap_i64]; omega
     obtain ⟨x1007, hx1007⟩ : ∃ x, x = dk[k']! := ⟨_, rfl⟩; obtain ⟨y1007, hy1007⟩ : ∃ x, x = dk[k' - 1]! := ⟨_, rfl⟩
     have S2 : Aside (SW enc w0 blk off (swp dk (k') (k' - 1)) (((wr.setCell ⟨blk, off + iN1007, none⟩ (enc y1007)).setCell ⟨blk, off + jN1007, none⟩ (enc x1007)).drew)) := by rw [hiN1007, hjN1007, hx1007, hy1007]; exact S1.out.swapped R (k') (k' - 1) (by omega) (by omega)
     have c1007a := S1.out.c1 R (by omega) (k') (by omega); have c1007b := S1.out.c1 R (by omega) (k' - 1) (by omega); have f1007a := S1.out.f1 R (by omega) (k') (by omega); have f1007b := S1.out.f1 R (by omega) (k' - 1) (by omega); obtain ⟨u1007, c1007c⟩ := S1.out.c2 R (by omega) (k') (k' - 1) (by omega) (by omega) (enc y1007); rw [← hjN1007, ← hiN1007] at c1007c; rw [← hx1007, ← hiN1007] at c1007a; rw [← hy1007, ← hjN1007] at c1007b; rw [← hiN1007] at f1007a; rw [← hjN1007] at f1007b; clear S1 hx1007 hy1007 hiN1007 hjN1007
     go_wp2_with fail
     go_big_region_o
     clear c1007a c1007b c1007c f1007a f1007b; generalize ((wr.setCell ⟨blk, off + iN1007, none⟩ (enc y1007)).setCell ⟨blk, off + jN1007, none⟩ (enc x1007)).drew = w2 at S2 ⊢; clear ea1007 ec1007
     go_wp2
     go_roundg (kp - a)
     case measure => omega
     case rel => exact ⟨kp, swp dk k' (k' - 1), by first | rfl | go_num | (congr 1; omega), by omega, by omega, Nat.le_refl _, by rw [size_swp]; exact hds, S2, ⟨by have hkp := HKP.out; subst hkp; exact rotR_down HO.out hds hki (by omega)⟩, ⟨permIn_trans _ _ _ _ _ HP.out (swp_permIn _ _ _ _ _ (by omega) (by omega) (by omega) (by omega) (by omega))⟩⟩
    ·
     have hkz : ¬ (i : Int) < (k' : Int) := by omega
     have e : Asd (k' = i) := ⟨by omega⟩; clear hk
     go_wp2
     (try simp only [Exit.inBlock, Exit.then])
     refine bodyPost_ret (results_none rfl _ _ _) rfl ?_; refine ⟨rfl, dk, S1, HP.out, ?_⟩; have hb1 := HM.out; subst hb1; exact one_right hR hli hjh (by omega) (e.out ▸ HO.out) X1.out XC.out HL.out HR.out
set_option maxHeartbeats 16000000 in
set_option maxRecDepth 1000000 in
theorem stb_sym3 (enc : α → Value) (g : Nat) (cb : Array Value) (blk off cap : Nat) (d0 : Array α) (w0 : World) (R : Row1 enc w0 blk off d0) (cf : α → α → Int) (eg : ∀ args w, (callFunc g args).run Try.prog w = .ok (.enter g args) w) (hcmp : CmpLays1 Try.prog g cb enc cf blk off d0.size w0) (Rr : α → α → Prop) (hR : ∀ x y z, Rr x y → Rr y z → Rr x z) (N : Nat) (ih : ∀ (a m b : Nat) (d : Array α) (w : World), b - a ≤ N → d0.size = d.size → SW enc w0 blk off d w → a < m → m < b → b ≤ d.size → d.size < 4611686018427387904 → SrtR Rr d a m → SrtR Rr d m b → XX (ltOf cf) Rr d a m b → Calls Try.prog 91 #[.slice (some ⟨blk, off, none⟩) d.size cap, .int .i64 a, .int .i64 m, .int .i64 b, .func (.func g) #[] cb] w fun e w' => e = .returned (.tuple #[]) ∧ ∃ d', SW enc w0 blk off d' w' ∧ PermIn a b d d' ∧ SrtR Rr d' a b) (a m b : Nat) (d : Array α) (w : World) (hs : d0.size = d.size) (S : SW enc w0 blk off d w) (ham : a < m) (hmb : m < b) (hb : b ≤ d.size) (hsz : d.size < 4611686018427387904) (hs1 : SrtR Rr d a m) (hs2 : SrtR Rr d m b) (hX : XX (ltOf cf) Rr d a m b) (hN : b - a ≤ N + 1) (hm1 : m ≠ a + 1) (hb1 : b ≠ m + 1) :
  Calls Try.prog 91 #[.slice (some ⟨blk, off, none⟩) d.size cap, .int .i64 a, .int .i64 m, .int .i64 b, .func (.func g) #[] cb] w fun e w' => e = .returned (.tuple #[]) ∧ ∃ d', SW enc w0 blk off d' w' ∧ PermIn a b d d' ∧ SrtR Rr d' a b := by
 have mixed : Try.prog.follows .mixedOrders = true := by kernel_rfl
 have t0 := Try.underlying0; have a0 := Try.isAgg0; have z0 := Try.sizeOf0; have v0 := Try.zeroValue0; have t3 := Try.underlying3; have a3 := Try.isAgg3; have z3 := Try.sizeOf3; have v3 := Try.zeroValue3; have t4 := Try.underlying4; have a4 := Try.isAgg4; have z4 := Try.sizeOf4; have v4 := Try.zeroValue4; have t45 := Try.underlying45; have a45 := Try.isAgg45; have z45 := Try.sizeOf45; have v45 := Try.zeroValue45; have t64 := Try.underlying64; have a64 := Try.isAgg64; have z64 := Try.sizeOf64; have v64 := Try.zeroValue64; have t119 := Try.underlying119; have a119 := Try.isAgg119; have z119 := Try.sizeOf119; have v119 := Try.zeroValue119; have u22 := run_underlying Try.underlying45; have hcl0 := R.hO.cells; simp only [Value.cells] at hcl0; have hst := R.hO.store Try.prog; have HC : Aside _ := hcmp; clear hcmp; have S0 : Aside (SW enc w0 blk off d w) := S; have X1 := Asd.mk hs1; have X2 := Asd.mk hs2; have XC := Asd.mk hX; clear S hs1 hs2 hX
 go_enter Try.func91, Try.ntmps91
 have ROT : Asd (∀ (a m b : Nat) (d : Array α) (w : World), d0.size = d.size → SW enc w0 blk off d w → a < m → m < b → b ≤ d.size → d.size < 4611686018427387904 → Calls Try.prog 103 #[.slice (some ⟨blk, off, none⟩) d.size cap, .int .i64 a, .int .i64 m, .int .i64 b, .func (.func g) #[] cb] w fun e w' => e = .returned (.tuple #[]) ∧ ∃ d', SW enc w0 blk off d' w' ∧ rotR d d' a m b ∧ PermIn a b d d') := ⟨fun a m b d w hs S h1 h2 h3 h4 => stb_rotate enc g cb blk off cap d0 w0 R a m b d w hs S h1 h2 h3 h4⟩; have IH := Asd.mk ih; clear ih
 have rm1 : IntKind.i64.wrap ((m : Int) - (a : Int)) = (m : Int) - (a : Int) := by rw [IntKind.wrap_i64]; omega
 have hmz : ((m : Int) - (a : Int) == 1) = false := beq_eq_false_iff_ne.mpr (by omega)
 have rb1 : IntKind.i64.wrap ((b : Int) - (m : Int)) = (b : Int) - (m : Int) := by rw [IntKind.wrap_i64]; omega
 have hbz : ((b : Int) - (m : Int) == 1) = false := beq_eq_false_iff_ne.mpr (by omega)
 have rab : IntKind.i64.wrap ((a : Int) + (b : Int)) = (a : Int) + (b : Int) := by rw [IntKind.wrap_i64]; omega
 obtain ⟨mid, hmid⟩ : ∃ q, q = (a + b) / 2 := ⟨_, rfl⟩
 have zmid : ((a : Int) + (b : Int)) / 2 = (mid : Int) := by omega
 have hm2 : a < mid := by omega
 have hm3 : mid < b := by omega
 obtain ⟨n, hn⟩ : ∃ q, q = mid + m := ⟨_, rfl⟩
 have rn : IntKind.i64.wrap ((mid : Int) + (m : Int)) = (n : Int) := by rw [IntKind.wrap_i64]; omega
 obtain ⟨p, hp⟩ : ∃ q, q + 1 = n := ⟨n - 1, by omega⟩
 have rp : IntKind.i64.wrap ((n : Int) - 1) = (p : Int) := by rw [IntKind.wrap_i64]; omega
 have HMID := Asd.mk hmid; have HN := Asd.mk hn; have HPN := Asd.mk hp
 have hn1 : mid + m ≤ n := by omega
 have hn2 : n ≤ mid + m := by omega
 have hp1 : p < n := by omega
 have hp2 : n ≤ p + 1 := by omega
 clear hmid hn hp
 go_upto_if 140 with fail
 clear hmz hbz rm1 rb1 rab zmid
 go_cut [20, 21] (fun v20 v21 wc => ∃ s0 r0 : Nat, v20 = .int .i64 s0 ∧ v21 = .int .i64 r0 ∧ Asd (s0 = if mid < m then mid + m - b else a) ∧ Asd (r0 = if mid < m then mid else m) ∧ Aside (SW enc w0 blk off d wc))
 case first =>
  by_cases hgt : mid < m
  ·
   have hgtz : (mid : Int) < (m : Int) := by omega
   obtain ⟨s0, hs00⟩ : ∃ q, q = mid + m - b := ⟨_, rfl⟩
   have rs0 : IntKind.i64.wrap ((n : Int) - (b : Int)) = (s0 : Int) := by have e1 := HMID.out; rw [IntKind.wrap_i64]; omega
   have HS0 := Asd.mk hs00; clear hs00
   go_wp2
   go_meet
   case rel => exact ⟨s0, mid, rfl, rfl, ⟨by rw [if_pos hgt]; exact HS0.out⟩, ⟨by rw [if_pos hgt]⟩, S0⟩
  ·
   have hgtz : ¬ (mid : Int) < (m : Int) := by omega
   go_wp2
   go_meet
   case rel => exact ⟨a, m, rfl, rfl, ⟨by rw [if_neg hgt]⟩, ⟨by rw [if_neg hgt]⟩, S0⟩
 case rest => as_aux_lemma =>
  clear S0; obtain ⟨s0, r0, rfl, rfl, HS0, HR0, S0⟩ := hcut
  have hsr : s0 ≤ r0 ∧ a ≤ s0 ∧ r0 ≤ m ∧ r0 ≤ mid ∧ mid + m ≤ s0 + b := by
   have e1 := HMID.out; have e2 := HS0.out; have e3 := HR0.out
   split at e2 <;> split at e3 <;> omega
  obtain ⟨hsr1, hsr2, hsr3, hsr4, hsr5⟩ := hsr
  go_wp2
  go_loopg [20, 21] (r0 - s0) (fun kx si sj wr => ∃ (i j : Nat), si = .int .i64 i ∧ sj = .int .i64 j ∧ s0 ≤ i ∧ i ≤ j ∧ j ≤ r0 ∧ j - i ≤ kx ∧ Aside (SW enc w0 blk off d wr) ∧ Asd (i = s0 ∨ (ltOf cf) d[mid + m - i]! d[i - 1]! = false) ∧ Asd (j = r0 ∨ (ltOf cf) d[mid + m - 1 - j]! d[j]! = true))
  case atStart => exact ⟨s0, r0, rfl, rfl, Nat.le_refl _, by omega, Nat.le_refl _, by omega, S0, ⟨.inl rfl⟩, ⟨.inl rfl⟩⟩
  case round =>
   clear S0; obtain ⟨i, j, rfl, rfl, hli, hij0, hjh, hkx, S1, HL, HR⟩ := hrel
   by_cases hij : i < j
   ·
    have hijz : (i : Int) < (j : Int) := by omega
    have rij : IntKind.i64.wrap ((i : Int) + (j : Int)) = (i : Int) + (j : Int) := by rw [IntKind.wrap_i64]; omega
    obtain ⟨h, hh⟩ : ∃ h, h = (i + j) / 2 := ⟨_, rfl⟩
    have zh : ((i : Int) + (j : Int)) / 2 = (h : Int) := by omega
    have h1 : i ≤ h := by omega
    have h2 : h < j := by omega
    have rh1 : IntKind.i64.wrap ((h : Int) + 1) = (h : Int) + 1 := by rw [IntKind.wrap_i64]; omega
    obtain ⟨pc, hq⟩ : ∃ q, q + h = p := ⟨p - h, by omega⟩
    have rq : IntKind.i64.wrap ((p : Int) - (h : Int)) = (pc : Int) := by rw [IntKind.wrap_i64]; omega
    have hq1 : pc + h ≤ p := by omega
    have hq2 : p ≤ pc + h := by omega
    have HQ := Asd.mk hq; clear hq; clear hh
    cases hlv : (ltOf cf) d[pc]! d[h]! with
    | true =>
     obtain ⟨iN1008, hiN1008⟩ : ∃ q, q = pc := ⟨_, rfl⟩; obtain ⟨jN1008, hjN1008⟩ : ∃ q, q = h := ⟨_, rfl⟩
     have ea1008 : ((pc : Int)).toNat = iN1008 := by omega
     have pa1008 : (0 : Int) ≤ (pc : Int) := by omega
     have ba1008 : (pc : Int) < (d.size : Int) := by omega
     have ra1008 : IntKind.i64.wrap ((pc : Int)) = (pc : Int) := by rw [IntKind.wrap_i64]; omega
     have ec1008 : ((h : Int)).toNat = jN1008 := by omega
     have pc1008 : (0 : Int) ≤ (h : Int) := by omega
     have bc1008 : (h : Int) < (d.size : Int) := by omega
     have rc1008 : IntKind.i64.wrap ((h : Int)) = (h : Int) := by rw [IntKind.wrap_i64]; omega
     obtain ⟨x1008, hx1008⟩ : ∃ x, x = d[pc]! := ⟨_, rfl⟩; obtain ⟨y1008, hy1008⟩ : ∃ x, x = d[h]! := ⟨_, rfl⟩; have l1008a := S1.out.cl R (by omega) (pc) (by omega); have l1008b := S1.out.cl R (by omega) (h) (by omega); rw [← hx1008, ← hiN1008] at l1008a; rw [← hy1008, ← hjN1008] at l1008b; have hc1008 := S1.out.cmp HC.out (by omega) x1008 y1008
     have hv1008 : cf x1008 y1008 < 0 := by rw [hx1008, hy1008]; exact of_decide_eq_true hlv
     have hd1008 : decide (cf x1008 y1008 < 0) = true := decide_eq_true hv1008; clear hx1008 hy1008 hiN1008 hjN1008
     go_wp2_with fail
     go_quiet_grown (first | (go_at_fn g; refine Calls.grown_of (hc1008 _ _)))
     have S2 : Aside (SW enc w0 blk off d (grow (wr.drewN nq) osq)) := S1.out.grown nq osq; clear l1008a l1008b hc1008 S1; generalize grow (wr.drewN nq) osq = w2 at S2 ⊢; clear nq osq; clear ea1008 ec1008 hv1008
     go_wp2
     go_roundg (h - i)
     case measure => omega
     case rel => exact ⟨i, h, rfl, by first | rfl | go_num | (congr 1; omega), hli, h1, by omega, Nat.le_refl _, S2, HL, ⟨.inr (by have h9 := HN.out; have h8 := HPN.out; have h7 := HQ.out; rw [show mid + m - 1 - h = pc by omega]; exact hlv)⟩⟩
    | false =>
     obtain ⟨iN1009, hiN1009⟩ : ∃ q, q = pc := ⟨_, rfl⟩; obtain ⟨jN1009, hjN1009⟩ : ∃ q, q = h := ⟨_, rfl⟩
     have ea1009 : ((pc : Int)).toNat = iN1009 := by omega
     have pa1009 : (0 : Int) ≤ (pc : Int) := by omega
     have ba1009 : (pc : Int) < (d.size : Int) := by omega
     have ra1009 : IntKind.i64.wrap ((pc : Int)) = (pc : Int) := by rw [IntKind.wrap_i64]; omega
     have ec1009 : ((h : Int)).toNat = jN1009 := by omega
     have pc1009 : (0 : Int) ≤ (h : Int) := by omega
     have bc1009 : (h : Int) < (d.size : Int) := by omega
     have rc1009 : IntKind.i64.wrap ((h : Int)) = (h : Int) := by rw [IntKind.wrap_i64]; omega
     obtain ⟨x1009, hx1009⟩ : ∃ x, x = d[pc]! := ⟨_, rfl⟩; obtain ⟨y1009, hy1009⟩ : ∃ x, x = d[h]! := ⟨_, rfl⟩; have l1009a := S1.out.cl R (by omega) (pc) (by omega); have l1009b := S1.out.cl R (by omega) (h) (by omega); rw [← hx1009, ← hiN1009] at l1009a; rw [← hy1009, ← hjN1009] at l1009b; have hc1009 := S1.out.cmp HC.out (by omega) x1009 y1009
     have hv1009 : ¬ cf x1009 y1009 < 0 := by rw [hx1009, hy1009]; exact of_decide_eq_false hlv
     have hd1009 : decide (cf x1009 y1009 < 0) = false := decide_eq_false hv1009; clear hx1009 hy1009 hiN1009 hjN1009
     go_wp2_with fail
     go_quiet_grown (first | (go_at_fn g; refine Calls.grown_of (hc1009 _ _)))
     have S2 : Aside (SW enc w0 blk off d (grow (wr.drewN nq) osq)) := S1.out.grown nq osq; clear l1009a l1009b hc1009 S1; generalize grow (wr.drewN nq) osq = w2 at S2 ⊢; clear nq osq; clear ea1009 ec1009 hv1009
     go_wp2
     go_roundg (j - (h + 1))
     case measure => omega
     case rel => exact ⟨h + 1, j, by first | rfl | go_num | (congr 1; omega), rfl, by omega, by omega, hjh, Nat.le_refl _, S2, ⟨.inr (by have h9 := HN.out; have h8 := HPN.out; have h7 := HQ.out; rw [show mid + m - (h + 1) = pc by omega, show h + 1 - 1 = h by omega]; exact hlv)⟩, HR⟩
   ·
    have hijz : ¬ (i : Int) < (j : Int) := by omega
    have e : i = j := by omega
    subst e; clear hijz hij hij0 hkx; have HE := Asd.mk (sym_ends ham hmb HMID.out HS0.out HR0.out hli hjh XC.out HL.out HR.out); obtain ⟨q1, q2, q3, q4, q5, q6, _, _⟩ := HE.out; obtain ⟨e, he⟩ : ∃ q, q = mid + m - i := ⟨_, rfl⟩
    have re : IntKind.i64.wrap ((n : Int) - (i : Int)) = (e : Int) := by rw [IntKind.wrap_i64]; omega
    rw [← he] at HE q4 q5 q6; have HQ7 : Asd (mid + m = i + e) := ⟨by omega⟩; have HQ6 : Asd (mid = i + (e - m)) := ⟨by omega⟩
    have q7 : mid ≤ e := by omega
    clear he q6
    go_upto_region 39 with fail
    go_cut [185] (fun v wc => v = .bool (decide (i < m ∧ m < e)) ∧ Aside (SW enc w0 blk off d wc))
    case first => as_aux_lemma =>
     by_cases c1 : i < m
     ·
      have c1z : (i : Int) < (m : Int) := by omega
      by_cases c2 : m < e
      ·
       have c2z : (m : Int) < (e : Int) := by omega
       go_wp2
       go_meet
       case rel => exact ⟨by rw [decide_eq_true (show i < m ∧ m < e from ⟨c1, c2⟩)], S1⟩
      ·
       have c2z : ¬ (m : Int) < (e : Int) := by omega
       go_wp2
       go_meet
       case rel => exact ⟨by rw [decide_eq_false (fun h : i < m ∧ m < e => c2 h.2)], S1⟩
     ·
      have c1z : ¬ (i : Int) < (m : Int) := by omega
      go_wp2
      go_meet
      case rel => exact ⟨by rw [decide_eq_false (fun h : i < m ∧ m < e => c1 h.1)], S1⟩
    case rest => as_aux_lemma =>
     clear S1; obtain ⟨rfl, S1⟩ := hcut
     go_upto_if 185 with fail
     go_cut [] (fun wc => ∃ d2 : Array α, Aside (SW enc w0 blk off d2 wc) ∧ Asd (rotR d d2 i m e) ∧ Asd (PermIn a b d d2) ∧ d2.size = d.size)
     case first => as_aux_lemma =>
      by_cases c : i < m ∧ m < e
      ·
       have cb : decide (i < m ∧ m < e) = true := decide_eq_true c; have hcon := ROT.out i m e d _ hs S1.out c.1 c.2 (by omega) hsz; have HCON := Asd.mk hcon; clear hcon; rw [cb]; clear c cb
       go_wp2_with (go_at_call 103; refine HCON.out.mono ?_; rintro e w' ⟨rfl, d2, S2, HO, HP⟩)
       go_meet
       case rel => exact ⟨d2, S2, ⟨HO⟩, ⟨permIn_mono _ _ _ _ _ _ q1 q5 hb HP⟩, HP.1⟩
      ·
       have cb : decide (i < m ∧ m < e) = false := decide_eq_false c; rw [cb]
       have hc : i = m ∨ m = e := by omega
       have HCC := Asd.mk hc; clear c cb hc
       go_wp2
       go_meet
       case rel => exact ⟨d, S1, ⟨rotR_refl _ _ _ _ HCC.out q4 q2⟩, ⟨permIn_refl _ _ _⟩, rfl⟩
     case rest => as_aux_lemma =>
      clear S1; obtain ⟨d2, S1, HO, HP2, hz2⟩ := hcut; have PT := Asd.mk (rot_parts (lt := ltOf cf) q1 q2 q4 q5 HQ6.out HO.out X1.out X2.out XC.out)
      have hs2 : d0.size = d2.size := by omega
      go_upto_region 41 with fail
      go_cut [199] (fun v wc => v = .bool (decide (a < i ∧ i < mid)) ∧ Aside (SW enc w0 blk off d2 wc))
      case first => as_aux_lemma =>
       by_cases c1 : a < i
       ·
        have c1z : (a : Int) < (i : Int) := by omega
        by_cases c2 : i < mid
        ·
         have c2z : (i : Int) < (mid : Int) := by omega
         go_wp2
         go_meet
         case rel => exact ⟨by rw [decide_eq_true (show a < i ∧ i < mid from ⟨c1, c2⟩)], S1⟩
        ·
         have c2z : ¬ (i : Int) < (mid : Int) := by omega
         go_wp2
         go_meet
         case rel => exact ⟨by rw [decide_eq_false (fun h : a < i ∧ i < mid => c2 h.2)], S1⟩
       ·
        have c1z : ¬ (a : Int) < (i : Int) := by omega
        go_wp2
        go_meet
        case rel => exact ⟨by rw [decide_eq_false (fun h : a < i ∧ i < mid => c1 h.1)], S1⟩
      case rest => as_aux_lemma =>
       clear S1; obtain ⟨rfl, S1⟩ := hcut
       go_upto_if 199 with fail
       go_cut [] (fun wc => ∃ d3 : Array α, Aside (SW enc w0 blk off d3 wc) ∧ Asd (PermIn a mid d2 d3) ∧ Asd (SrtR Rr d3 a mid) ∧ d3.size = d.size)
       case first => as_aux_lemma =>
        by_cases c : a < i ∧ i < mid
        ·
         have cb : decide (a < i ∧ i < mid) = true := decide_eq_true c; have hcon := IH.out a i mid d2 _ (by omega) hs2 S1.out c.1 c.2 (by omega) (by omega) PT.out.1 PT.out.2.1 PT.out.2.2.2.2.1; rw [hz2] at hcon; have HCON := Asd.mk hcon; clear hcon; rw [cb]; clear c cb
         go_wp2_with (go_at_call 91; refine HCON.out.mono ?_; rintro e w' ⟨rfl, d3, S3, HP, HS⟩)
         go_meet
         case rel => exact ⟨d3, S3, ⟨HP⟩, ⟨HS⟩, by rw [HP.1]; exact hz2⟩
        ·
         have cb : decide (a < i ∧ i < mid) = false := decide_eq_false c; rw [cb]
         have hc : i = a ∨ i = mid := by omega
         have HCC := Asd.mk hc; clear c cb hc
         go_wp2
         go_meet
         case rel => exact ⟨d2, S1, ⟨permIn_refl _ _ _⟩, ⟨HCC.out.elim (fun c3 => by have := PT.out.2.1; rwa [c3] at this) (fun c3 => by have := PT.out.1; rwa [c3] at this)⟩, hz2⟩
       case rest => as_aux_lemma =>
        clear S1; obtain ⟨d3, S1, HP3, HS3, hz3⟩ := hcut
        have hs3 : d0.size = d3.size := by omega
        have PU : Asd (SrtR Rr d3 mid e ∧ SrtR Rr d3 e b ∧ XX (ltOf cf) Rr d3 mid e b) := ⟨by
         have h3 := HP3.out.2.1; refine ⟨fun p q h1 h2 h4 => ?_, fun p q h1 h2 h4 => ?_, fun p q h1 h2 h4 h5 => ?_⟩
         ·
          rw [h3 p (by omega), h3 q (by omega)]; exact PT.out.2.2.1 p q h1 h2 h4
         ·
          rw [h3 p (by omega), h3 q (by omega)]; exact PT.out.2.2.2.1 p q h1 h2 h4
         ·
          rw [h3 p (by omega), h3 q (by omega)]; exact PT.out.2.2.2.2.2 p q h1 h2 h4 h5⟩
        have FIN : Asd (∀ d4, PermIn mid b d3 d4 → SrtR Rr d4 mid b → PermIn a b d d4 ∧ SrtR Rr d4 a b) := ⟨fun d4 h1 h2 => ⟨permIn_trans _ _ _ _ _ (permIn_trans _ _ _ _ _ HP2.out (permIn_mono _ _ _ _ _ _ (Nat.le_refl a) (show mid ≤ b by omega) (by omega) HP3.out)) (permIn_mono _ _ _ _ _ _ (show a ≤ mid by omega) (Nat.le_refl b) (by omega) h1), sym_final hR q1 q2 q4 q5 (by omega) HQ6.out HO.out X1.out X2.out HE.out.2.2.2.2.2.2.1 HE.out.2.2.2.2.2.2.2 HP3.out HS3.out h1 h2⟩⟩
        by_cases c1 : mid < e
        ·
         have c1z : (mid : Int) < (e : Int) := by omega
         by_cases c2 : e < b
         ·
          have c2z : (e : Int) < (b : Int) := by omega
          have hcon := IH.out mid e b d3 _ (by omega) hs3 S1.out c1 c2 (by omega) (by omega) PU.out.1 PU.out.2.1 PU.out.2.2; rw [hz3] at hcon; have HCON := Asd.mk hcon; clear hcon c1 c2
          go_wp2_with (go_at_call 91; refine HCON.out.mono ?_; rintro e w' ⟨rfl, d4, S4, HP, HS⟩)
          go_end0
          exact ⟨rfl, d4, S4, FIN.out d4 HP HS⟩
         ·
          have c2z : ¬ (e : Int) < (b : Int) := by omega
          have HEB : Asd (e = b) := ⟨by omega⟩; clear c1 c2
          go_wp2
          go_end0
          exact ⟨rfl, d3, S1.out, FIN.out d3 (permIn_refl _ _ _) (by have := PU.out.1; rwa [HEB.out] at this)⟩
        ·
         have c1z : ¬ (mid : Int) < (e : Int) := by omega
         have HEB : Asd (e = mid) := ⟨by omega⟩; clear c1
         go_wp2
         go_end0
         exact ⟨rfl, d3, S1.out, FIN.out d3 (permIn_refl _ _ _) (by have := PU.out.2.1; rwa [HEB.out] at this)⟩
theorem stb_symMerge (enc : α → Value) (g : Nat) (cb : Array Value) (blk off cap : Nat) (d0 : Array α) (w0 : World) (R : Row1 enc w0 blk off d0) (cf : α → α → Int) (eg : ∀ args w, (callFunc g args).run Try.prog w = .ok (.enter g args) w) (hcmp : CmpLays1 Try.prog g cb enc cf blk off d0.size w0) (Rr : α → α → Prop) (hR : ∀ x y z, Rr x y → Rr y z → Rr x z) : ∀ (N : Nat), ∀ (a m b : Nat) (d : Array α) (w : World), b - a ≤ N → d0.size = d.size → SW enc w0 blk off d w → a < m → m < b → b ≤ d.size → d.size < 4611686018427387904 → SrtR Rr d a m → SrtR Rr d m b → XX (ltOf cf) Rr d a m b →
  Calls Try.prog 91 #[.slice (some ⟨blk, off, none⟩) d.size cap, .int .i64 a, .int .i64 m, .int .i64 b, .func (.func g) #[] cb] w fun e w' => e = .returned (.tuple #[]) ∧ ∃ d', SW enc w0 blk off d' w' ∧ PermIn a b d d' ∧ SrtR Rr d' a b := by
 intro N
 induction N with
 | zero => intro a m b d w h1 _ _ h2 h3; omega
 | succ N ih =>
  intro a m b d w hN hs S ham hmb hb hsz hs1 hs2 hX
  by_cases hm1 : m = a + 1
  ·
   exact stb_sym1 enc g cb blk off cap d0 w0 R cf eg hcmp Rr hR a m b d w hs S ham hmb hb hsz hs1 hs2 hX hm1
  ·
   by_cases hb1 : b = m + 1
   ·
    exact stb_sym2 enc g cb blk off cap d0 w0 R cf eg hcmp Rr hR a m b d w hs S ham hmb hb hsz hs1 hs2 hX hm1 hb1
   ·
    exact stb_sym3 enc g cb blk off cap d0 w0 R cf eg hcmp Rr hR N ih a m b d w hs S ham hmb hb hsz hs1 hs2 hX hN hm1 hb1
theorem stb_lays : SlLaysF.n20 Try.prog ⟨fun | 20 => 90 | n => n, fun | 22 => 45 | 24 => 3 | 25 => 64 | n => n, fun n => n⟩ := {
 mixed := by kernel_rfl, f20 := ⟨Try.f90.name, by decide, Try.func90.trans (congrArg some (by kernel_rfl))⟩,
 t0 := Try.underlying0, a0 := Try.isAgg0, z0 := Try.sizeOf0, v0 := Try.zeroValue0, t3 := Try.underlying3, a3 := Try.isAgg3, z3 := Try.sizeOf3, v3 := Try.zeroValue3, t4 := Try.underlying4, a4 := Try.isAgg4, z4 := Try.sizeOf4, v4 := Try.zeroValue4, t22 := Try.underlying45, a22 := Try.isAgg45, z22 := Try.sizeOf45, v22 := Try.zeroValue45, t25 := Try.underlying64, a25 := Try.isAgg64, z25 := Try.sizeOf64, v25 := Try.zeroValue64, a24 := Try.isAgg3, z24 := Try.sizeOf3 }
set_option maxHeartbeats 16000000 in
set_option maxRecDepth 1000000 in
theorem stb_ins (enc : α → Value) (g : Nat) (cb : Array Value) (blk off cap : Nat) (d0 : Array α) (w0 : World) (R : Row1 enc w0 blk off d0) (cf : α → α → Int) (eg : ∀ args w, (callFunc g args).run Try.prog w = .ok (.enter g args) w) (hcmp : CmpLays1 Try.prog g cb enc cf blk off d0.size w0) (Rr : α → α → Prop) (hR : ∀ x y z, Rr x y → Rr y z → Rr x z) (a b : Nat) (d : Array α) (w : World) (hs : d0.size = d.size) (S : SW enc w0 blk off d w) (hab : a ≤ b) (hb : b ≤ d.size) (hsz : d.size < 4611686018427387904) (hX : ∀ p q, a ≤ p → p < q → q < b → Xr (ltOf cf) Rr d[p]! d[q]!) :
  Calls Try.prog 90 #[.slice (some ⟨blk, off, none⟩) d.size cap, .int .i64 a, .int .i64 b, .func (.func g) #[] cb] w fun e w' => e = .returned (.tuple #[]) ∧ ∃ d', SW enc w0 blk off d' w' ∧ PermIn a b d d' ∧ SrtR Rr d' a b :=
 (Any.insertionSortCmpFunc_s stb_lays enc cf g cb blk off cap a b d0 d w0 w eg hcmp R hs S hab hb hsz).mono fun _ _ ⟨h1, h2⟩ => ⟨h1, _, h2, insertion_R hR d a b hab hb hX⟩
def Blks (Rr : α → α → Prop) (d dk : Array α) (q : Nat) : Prop := (q = 0 ∧ dk = d) ∨ (q = 1 ∧ 20 ≤ d.size ∧ PermIn 0 20 d dk ∧ SrtR Rr dk 0 20) ∨ (q = 2 ∧ d.size = 40 ∧ ∃ d1, PermIn 0 20 d d1 ∧ SrtR Rr d1 0 20 ∧ PermIn 20 40 d1 dk ∧ SrtR Rr dk 20 40)
def Halves (lt : α → α → Bool) (Rr : α → α → Prop) (d dk : Array α) : Prop := PermIn 0 d.size d dk ∧ (d.size ≤ 20 → SrtR Rr dk 0 d.size) ∧ (20 < d.size → SrtR Rr dk 0 20 ∧ SrtR Rr dk 20 d.size ∧ XX lt Rr dk 0 20 d.size)
theorem XX_perm {lt : α → α → Bool} {Rr : α → α → Prop} {d d1 d2 : Array α} {n : Nat} (hn : 20 ≤ n) (hd : n ≤ d.size) (hX : ∀ p q, p < q → q < n → Xr lt Rr d[p]! d[q]!) (h1 : PermIn 0 20 d d1) (h2 : PermIn 20 n d1 d2) : XX lt Rr d2 0 20 n := by
 intro i j _ hi hj hjn; have e1 : d2[i]! = d1[i]! := h2.2.1 i (by omega); rw [e1]; refine permIn_all d1 d2 20 n (fun y => Xr lt Rr d1[i]! y) (by rw [h1.1]; exact hd) h2 (fun j h3 h4 => ?_) j hj hjn; rw [h1.2.1 j (by omega)]; exact permIn_all d d1 0 20 (fun x => Xr lt Rr x d[j]!) (by omega) h1 (fun i _ h6 => hX i j (by omega) h4) i (Nat.zero_le _) hi
theorem Blks.step {Rr : α → α → Prop} {d dk d' : Array α} {q : Nat} (h40 : d.size ≤ 40) (h : Blks Rr d dk q) (hq : 20 * q + 20 ≤ d.size) (hP : PermIn (20 * q) (20 * q + 20) dk d') (hS : SrtR Rr d' (20 * q) (20 * q + 20)) : Blks Rr d d' (q + 1) := by
 rcases h with ⟨rfl, rfl⟩ | ⟨rfl, h1, h2, h3⟩ | ⟨rfl, h1, _⟩
 ·
  exact .inr (.inl ⟨rfl, by omega, hP, hS⟩)
 ·
  exact .inr (.inr ⟨rfl, by omega, dk, h2, h3, hP, hS⟩)
 ·
  omega
theorem Blks.size {Rr : α → α → Prop} {d dk : Array α} {q : Nat} (h : Blks Rr d dk q) : dk.size = d.size := by
 rcases h with ⟨rfl, rfl⟩ | ⟨rfl, h1, h2, h3⟩ | ⟨rfl, h1, d1, h2, h3, h4, _⟩
 ·
  rfl
 ·
  exact h2.1
 ·
  exact h4.1.trans h2.1
theorem Blks.fresh {Rr : α → α → Prop} {d dk : Array α} {q : Nat} (h : Blks Rr d dk q) (i : Nat) (hi : 20 * q ≤ i) : dk[i]! = d[i]! := by
 rcases h with ⟨rfl, rfl⟩ | ⟨rfl, h1, h2, h3⟩ | ⟨rfl, h1, d1, h2, h3, h4, _⟩
 ·
  rfl
 ·
  exact h2.2.1 i (by omega)
 ·
  exact (h4.2.1 i (by omega)).trans (h2.2.1 i (by omega))
theorem Blks.last {lt : α → α → Bool} {Rr : α → α → Prop} {d dk d' : Array α} {q : Nat} (h40 : d.size ≤ 40) (hX : ∀ p q, p < q → q < d.size → Xr lt Rr d[p]! d[q]!) (h : Blks Rr d dk q) (hq : ¬ 20 * q + 20 ≤ d.size) (hP : PermIn (20 * q) d.size dk d') (hS : SrtR Rr d' (20 * q) d.size) : Halves lt Rr d d' := by
 rcases h with ⟨rfl, rfl⟩ | ⟨rfl, h1, h2, h3⟩ | ⟨rfl, h1, d1, h2, h3, h4, h5⟩
 ·
  exact ⟨hP, fun _ => hS, fun h => by omega⟩
 ·
  refine ⟨permIn_trans _ _ _ _ _ (permIn_mono _ _ _ _ _ _ (Nat.le_refl 0) h1 (Nat.le_refl _) h2) (permIn_mono _ _ _ _ _ _ (Nat.zero_le _) (Nat.le_refl _) (by rw [h2.1]; exact Nat.le_refl _) hP), fun h6 => ?_, fun h6 => ⟨fun i j a1 a2 a3 => ?_, hS, XX_perm h1 (Nat.le_refl _) hX h2 hP⟩⟩
  ·
   have e : d.size = 20 := by omega
   intro i j a1 a2 a3; rw [hP.2.1 i (by omega), hP.2.1 j (by omega)]; exact h3 i j a1 a2 (by omega)
  ·
   rw [hP.2.1 i (by omega), hP.2.1 j (by omega)]; exact h3 i j a1 a2 a3
 ·
  have hz : dk.size = 40 := by rw [h4.1, h2.1]; exact h1
  have q1 : PermIn 0 40 d dk := permIn_trans _ _ _ _ _ (permIn_mono _ _ _ _ _ _ (Nat.le_refl 0) (show 20 ≤ 40 by omega) (by omega) h2) (permIn_mono _ _ _ _ _ _ (show 0 ≤ 20 by omega) (Nat.le_refl 40) (by rw [h2.1]; omega) h4); have hx := XX_perm (lt := lt) (show 20 ≤ 40 by omega) (by omega) (fun p q a b => hX p q a (by omega)) h2 h4
  have he : ∀ i, d'[i]! = dk[i]! := fun i => hP.2.1 i (by omega)
  refine ⟨?_, fun h6 => by omega, fun _ => ⟨fun i j a1 a2 a3 => ?_, fun i j a1 a2 a3 => ?_, fun i j a1 a2 a3 a4 => ?_⟩⟩
  ·
   rw [h1] at hP ⊢; exact permIn_trans _ _ _ _ _ q1 (permIn_mono _ _ _ _ _ _ (show 0 ≤ 20 * 2 by omega) (Nat.le_refl 40) (by omega) hP)
  ·
   rw [he, he, h4.2.1 i (by omega), h4.2.1 j (by omega)]; exact h3 i j a1 a2 a3
  ·
   rw [he, he]; exact h5 i j a1 a2 (by omega)
  ·
   rw [he, he]; exact hx i j a1 a2 a3 (by omega)
set_option maxHeartbeats 16000000 in
set_option maxRecDepth 1000000 in
theorem stb_stable (enc : α → Value) (g : Nat) (cb : Array Value) (blk off cap : Nat) (d0 : Array α) (w0 : World) (R : Row1 enc w0 blk off d0) (cf : α → α → Int) (eg : ∀ args w, (callFunc g args).run Try.prog w = .ok (.enter g args) w) (hcmp : CmpLays1 Try.prog g cb enc cf blk off d0.size w0) (Rr : α → α → Prop) (hR : ∀ x y z, Rr x y → Rr y z → Rr x z) (d : Array α) (w : World) (hs : d0.size = d.size) (S : SW enc w0 blk off d w) (h40 : d.size ≤ 40) (hX : ∀ p q, p < q → q < d.size → Xr (ltOf cf) Rr d[p]! d[q]!) :
  Calls Try.prog 87 #[.slice (some ⟨blk, off, none⟩) d.size cap, .int .i64 d.size, .func (.func g) #[] cb] w fun e w' => e = .returned (.tuple #[]) ∧ ∃ d', SW enc w0 blk off d' w' ∧ PermIn 0 d.size d d' ∧ SrtR Rr d' 0 d.size := by
 have mixed : Try.prog.follows .mixedOrders = true := by kernel_rfl
 have t0 := Try.underlying0; have a0 := Try.isAgg0; have z0 := Try.sizeOf0; have v0 := Try.zeroValue0; have t3 := Try.underlying3; have a3 := Try.isAgg3; have z3 := Try.sizeOf3; have v3 := Try.zeroValue3; have t4 := Try.underlying4; have a4 := Try.isAgg4; have z4 := Try.sizeOf4; have v4 := Try.zeroValue4; have t45 := Try.underlying45; have a45 := Try.isAgg45; have z45 := Try.sizeOf45; have v45 := Try.zeroValue45; have t64 := Try.underlying64; have a64 := Try.isAgg64; have z64 := Try.sizeOf64; have v64 := Try.zeroValue64; have t119 := Try.underlying119; have a119 := Try.isAgg119; have z119 := Try.sizeOf119; have v119 := Try.zeroValue119; have u22 := run_underlying Try.underlying45; have hcl0 := R.hO.cells; simp only [Value.cells] at hcl0; have hst := R.hO.store Try.prog; have INS : Asd (∀ (a b : Nat) (dk : Array α) (w : World), d0.size = dk.size → SW enc w0 blk off dk w → a ≤ b → b ≤ dk.size → dk.size < 4611686018427387904 → (∀ p q, a ≤ p → p < q → q < b → Xr (ltOf cf) Rr dk[p]! dk[q]!) → Calls Try.prog 90 #[.slice (some ⟨blk, off, none⟩) dk.size cap, .int .i64 a, .int .i64 b, .func (.func g) #[] cb] w fun e w' => e = .returned (.tuple #[]) ∧ ∃ d', SW enc w0 blk off d' w' ∧ PermIn a b dk d' ∧ SrtR Rr d' a b) := ⟨fun a b dk w hs S h1 h2 h3 h4 => stb_ins enc g cb blk off cap d0 w0 R cf eg hcmp Rr hR a b dk w hs S h1 h2 h3 h4⟩; have SYM : Asd (∀ (a m b : Nat) (d : Array α) (w : World), d0.size = d.size → SW enc w0 blk off d w → a < m → m < b → b ≤ d.size → d.size < 4611686018427387904 → SrtR Rr d a m → SrtR Rr d m b → XX (ltOf cf) Rr d a m b → Calls Try.prog 91 #[.slice (some ⟨blk, off, none⟩) d.size cap, .int .i64 a, .int .i64 m, .int .i64 b, .func (.func g) #[] cb] w fun e w' => e = .returned (.tuple #[]) ∧ ∃ d', SW enc w0 blk off d' w' ∧ PermIn a b d d' ∧ SrtR Rr d' a b) := ⟨fun a m b d w hs S h1 h2 h3 h4 h5 h6 h7 => stb_symMerge enc g cb blk off cap d0 w0 R cf eg hcmp Rr hR (b - a) a m b d w (Nat.le_refl _) hs S h1 h2 h3 h4 h5 h6 h7⟩; have S0 : Aside (SW enc w0 blk off d w) := S; have XC := Asd.mk hX; clear S hX hcmp
 have h40z : (d.size : Int) ≤ 40 := by omega
 go_enter Try.func87, Try.ntmps87
 go_upto_block 0 with fail
 go_cut [7, 8] (fun v7 v8 wc => ∃ (q u : Nat) (dk : Array α), v7 = .int .i64 u ∧ u = 20 * q ∧ q ≤ 2 ∧ ¬ 20 * q + 20 ≤ d.size ∧ 20 * q ≤ d.size ∧ Aside (SW enc w0 blk off dk wc) ∧ Asd (Blks Rr d dk q))
 case first =>
  go_wp2_with fail
  go_loopg [7, 8] 2 (fun kx s7 s8 wr => ∃ (q u v : Nat) (dk : Array α), s7 = .int .i64 u ∧ s8 = .int .i64 v ∧ u = 20 * q ∧ v = 20 * q + 20 ∧ q ≤ 2 ∧ 2 - q ≤ kx ∧ 20 * q ≤ d.size ∧ Aside (SW enc w0 blk off dk wr) ∧ Asd (Blks Rr d dk q))
  case atStart => exact ⟨0, 0, 20, d, by go_num, by go_num, rfl, rfl, by omega, by omega, by omega, S0, ⟨.inl ⟨rfl, rfl⟩⟩⟩
  case round =>
   clear S0; obtain ⟨q, u, v, dk, rfl, rfl, hu, hv, hq2, hkx, hqn, S1, HB⟩ := hrel; have hzk : dk.size = d.size := HB.out.size; have HU := Asd.mk hu; have HV := Asd.mk hv
   by_cases hb : v ≤ d.size
   ·
    have hbz : (v : Int) ≤ (d.size : Int) := by omega
    have hcon := INS.out u v dk _ (by omega) S1.out (by omega) (by omega) (by omega) (fun p r h1 h2 h3 => by rw [HB.out.fresh p (by omega), HB.out.fresh r (by omega)]; exact XC.out p r h2 (by omega)); rw [hzk] at hcon; have HCON := Asd.mk hcon
    have r1 : IntKind.i64.wrap ((v : Int) + 20) = (v : Int) + 20 := by rw [IntKind.wrap_i64]; omega
    have hq1 : q < 2 := by omega
    clear hcon hu hv hqn
    go_wp2_with (go_at_call 90; refine HCON.out.mono ?_; rintro e w' ⟨rfl, d', S2, HP, HS⟩)
    go_roundg (2 - (q + 1))
    case measure => omega
    case rel => exact ⟨q + 1, v, v + 20, d', rfl, by first | rfl | go_num | (congr 1; omega), by have := HV.out; omega, by have := HV.out; omega, by omega, Nat.le_refl _, by have := HV.out; omega, S2, ⟨HB.out.step h40 (by have := HV.out; omega) (by rw [← HV.out, ← HU.out]; exact HP) (by rw [← HV.out, ← HU.out]; exact HS)⟩⟩
   ·
    have hbz : ¬ (v : Int) ≤ (d.size : Int) := by omega
    clear hu hv
    go_wp2
    go_meet
    case rel => exact ⟨q, u, dk, rfl, HU.out, hq2, by have := HV.out; omega, hqn, S1, HB⟩
 case rest => as_aux_lemma =>
  clear S0; obtain ⟨q, u, dk, rfl, hu, hq2, hqn, hqm, S1, HB⟩ := hcut; have hzk : dk.size = d.size := HB.out.size; have HU := Asd.mk hu; have hcon := INS.out u d.size dk _ (by omega) S1.out (by omega) (by omega) (by omega) (fun p r h1 h2 h3 => by rw [HB.out.fresh p (by omega), HB.out.fresh r (by omega)]; exact XC.out p r h2 (by omega)); rw [hzk] at hcon; have HCON := Asd.mk hcon; have HQN := Asd.mk hqn; clear hcon hu hqn hqm
  go_upto_block 2 with (go_at_call 90; refine HCON.out.mono ?_; rintro e w' ⟨rfl, d2, S2, HP, HS⟩)
  have HH : Asd (Halves (ltOf cf) Rr d d2) := ⟨HB.out.last h40 XC.out HQN.out (by rw [← HU.out]; exact HP) (by rw [← HU.out]; exact HS)⟩; clear HP HS HCON S1 HQN HB hzk
  go_wp2_with fail
  go_loopg [6] 20 (fun kx s6 wr => ∃ (bs : Nat) (dk : Array α), s6 = .int .i64 bs ∧ 40 - bs ≤ kx ∧ Aside (SW enc w0 blk off dk wr) ∧ Asd (PermIn 0 d.size d dk) ∧ ((bs = 20 ∧ Asd (Halves (ltOf cf) Rr d dk)) ∨ (bs = 40 ∧ Asd (SrtR Rr dk 0 d.size))))
  case atStart => exact ⟨20, d2, by go_num, by omega, S2, ⟨HH.out.1⟩, .inl ⟨rfl, HH⟩⟩
  case round =>
   clear S2 HH; obtain ⟨bs, dk, rfl, hkx, S3, HP, hcase⟩ := hrel; have hzk : dk.size = d.size := HP.out.1
   rcases hcase with ⟨rfl, HH⟩ | ⟨rfl, HS⟩
   ·
    by_cases h20 : 20 < d.size
    ·
     have h20z : (20 : Int) < (d.size : Int) := by omega
     go_wp2_with fail
     go_loopg [7, 8] 1 (fun ky s7 s8 wr2 => ∃ (dj : Array α), Aside (SW enc w0 blk off dj wr2) ∧ Asd (PermIn 0 d.size d dj) ∧ ((s7 = .int .i64 0 ∧ s8 = .int .i64 40 ∧ 1 ≤ ky ∧ Asd (Halves (ltOf cf) Rr d dj)) ∨ (s7 = .int .i64 40 ∧ s8 = .int .i64 80 ∧ d.size = 40 ∧ Asd (SrtR Rr dj 0 d.size))))
     case atStart => exact ⟨dk, S3, HP, .inl ⟨by go_num, by go_num, Nat.le_refl _, HH⟩⟩
     case round =>
      clear S3 HP HH hzk; obtain ⟨dj, S4, HP, hcase⟩ := hrel; have hzk : dj.size = d.size := HP.out.1
      rcases hcase with ⟨rfl, rfl, hky, HH⟩ | ⟨rfl, rfl, h41, HS⟩
      ·
       by_cases h41 : d.size = 40
       ·
        have h41z : (40 : Int) ≤ (d.size : Int) := by omega
        have hcon := SYM.out 0 20 40 dj _ (by omega) S4.out (by omega) (by omega) (by omega) (by omega) (HH.out.2.2 h20).1 (by have := (HH.out.2.2 h20).2.1; rwa [h41] at this) (by have := (HH.out.2.2 h20).2.2; rwa [h41] at this); rw [hzk, show ((0 : Nat) : Int) = 0 from rfl, show ((20 : Nat) : Int) = 20 from rfl, show ((40 : Nat) : Int) = 40 from rfl] at hcon; have HCON := Asd.mk hcon; have H41 := Asd.mk h41; clear hcon h41 HH
        go_wp2_with (go_at_call 91; refine HCON.out.mono ?_; rintro e w' ⟨rfl, d', S5, HP5, HS5⟩)
        go_roundg 0
        case measure => omega
        case rel => exact ⟨d', S5, ⟨permIn_trans _ _ _ _ _ HP.out (by rw [H41.out]; exact HP5)⟩, .inr ⟨by go_num, by go_num, H41.out, ⟨by rw [H41.out]; exact HS5⟩⟩⟩
       ·
        have h41z : ¬ (40 : Int) ≤ (d.size : Int) := by omega
        have hcon := SYM.out 0 20 d.size dj _ (by omega) S4.out (by omega) (by omega) (by omega) (by omega) (HH.out.2.2 h20).1 (HH.out.2.2 h20).2.1 (HH.out.2.2 h20).2.2; rw [hzk, show ((0 : Nat) : Int) = 0 from rfl, show ((20 : Nat) : Int) = 20 from rfl] at hcon; have HCON := Asd.mk hcon; clear hcon h41 HH
        go_wp2_with (go_at_call 91; refine HCON.out.mono ?_; rintro e w' ⟨rfl, d', S5, HP5, HS5⟩)
        go_roundg 0
        case measure => omega
        case rel => exact ⟨40, d', by go_num, by omega, S5, ⟨permIn_trans _ _ _ _ _ HP.out HP5⟩, .inr ⟨rfl, ⟨HS5⟩⟩⟩
      ·
       have h41z : ¬ (80 : Int) ≤ (d.size : Int) := by omega
       have h60z : ¬ (60 : Int) < (d.size : Int) := by omega
       clear h41
       go_wp2
       go_roundg 0
       case measure => omega
       case rel => exact ⟨40, dj, by go_num, by omega, S4, HP, .inr ⟨rfl, HS⟩⟩
    ·
     have h20z : ¬ (20 : Int) < (d.size : Int) := by omega
     have HS := Asd.mk (HH.out.2.1 (by omega))
     go_wp2
     go_end0
     exact ⟨rfl, dk, S3.out, HP.out, HS.out⟩
   ·
    have h40y : ¬ (40 : Int) < (d.size : Int) := by omega
    go_wp2
    go_end0
    exact ⟨rfl, dk, S3.out, HP.out, HS.out⟩
theorem stb_sortStable (enc : α → Value) (g : Nat) (cb : Array Value) (blk off cap : Nat) (d0 : Array α) (w0 : World) (R : Row1 enc w0 blk off d0) (cf : α → α → Int) (eg : ∀ args w, (callFunc g args).run Try.prog w = .ok (.enter g args) w) (hcmp : CmpLays1 Try.prog g cb enc cf blk off d0.size w0) (Rr : α → α → Prop) (hR : ∀ x y z, Rr x y → Rr y z → Rr x z) (d : Array α) (w : World) (hs : d0.size = d.size) (S : SW enc w0 blk off d w) (h40 : d.size ≤ 40) (hX : ∀ p q, p < q → q < d.size → Xr (ltOf cf) Rr d[p]! d[q]!) :
  Calls Try.prog 79 #[.slice (some ⟨blk, off, none⟩) d.size cap, .func (.func g) #[] cb] w fun e w' => e = .returned (.tuple #[]) ∧ ∃ d', SW enc w0 blk off d' w' ∧ PermIn 0 d.size d d' ∧ SrtR Rr d' 0 d.size := by
 have mixed : Try.prog.follows .mixedOrders = true := by kernel_rfl
 have t0 := Try.underlying0; have a0 := Try.isAgg0; have z0 := Try.sizeOf0; have v0 := Try.zeroValue0; have t3 := Try.underlying3; have a3 := Try.isAgg3; have z3 := Try.sizeOf3; have v3 := Try.zeroValue3; have t4 := Try.underlying4; have a4 := Try.isAgg4; have z4 := Try.sizeOf4; have v4 := Try.zeroValue4; have t45 := Try.underlying45; have a45 := Try.isAgg45; have z45 := Try.sizeOf45; have v45 := Try.zeroValue45; have t64 := Try.underlying64; have a64 := Try.isAgg64; have z64 := Try.sizeOf64; have v64 := Try.zeroValue64; have t119 := Try.underlying119; have a119 := Try.isAgg119; have z119 := Try.sizeOf119; have v119 := Try.zeroValue119; have u22 := run_underlying Try.underlying45; have hcl0 := R.hO.cells; simp only [Value.cells] at hcl0; have hst := R.hO.store Try.prog; have HCON := Asd.mk (stb_stable enc g cb blk off cap d0 w0 R cf eg hcmp Rr hR d w hs S h40 hX); clear hcmp hX S
 go_enter Try.func79, Try.ntmps79
 go_wp2_with (go_at_call 87; refine HCON.out.mono ?_; rintro e w' ⟨rfl, d', S5, HP5, HS5⟩)
 go_end0
 exact ⟨rfl, d', S5, HP5, HS5⟩
theorem stb_of {β : Type} [Inhabited β] (enc : β → Value) (h1 : OneCell enc) (cf : β → β → Int) (hO : SWO (ltOf cf)) (g : Nat) (cb : Array Value) (blk cap : Nat) (l : List β) (w : World) (hl : 0 < l.length) (h40 : l.length ≤ 40) (eg : ∀ args w, (callFunc g args).run Try.prog w = .ok (.enter g args) w) (hH : Holds enc w blk 0 l.toArray) (hblk : blk < w.heap.size)
  (hcl : ∀ x ∈ l, ∀ y ∈ l, ∀ W : World, w.grownBy W (some blk) → Calls Try.prog g (#[enc x, enc y] ++ cb) W fun e w' => e = .returned (.int .i64 (cf x y)) ∧ ∃ q os, w' = grow (W.drewN q) os) :
  Calls Try.prog 79 #[.slice (some ⟨blk, 0, none⟩) l.length cap, .func (.func g) #[] cb] w fun e w' => e = .returned (.tuple #[]) ∧ ∃ n os, w' = grow (putRow enc (Sort.ahead w n) blk 0 (l.mergeSort fun x y => !ltOf cf y x).toArray) os := by
 have hlt : 0 < (tagged l).length := by rw [tagged_length]; exact hl
 haveI : Inhabited (Tg l) := ⟨(tagged l)[0]⟩
 have hd : (tagged l).toArray.size = l.length := by simp [tagged_length]
 have hv : ∀ j, j < l.length → ((tagged l).toArray[j]!).1.1 = l.toArray[j]! := fun j hj => by
  have hj' : j < (tagged l).length := by rw [tagged_length]; exact hj
  rw [getElem!_pos _ j (by simpa using hj'), getElem!_pos l.toArray j (by simpa using hj)]
  show ((tagged l)[j]).1.1 = l[j]
  rw [tagged_at]
 have hH' : Holds (fun p : Tg l => enc p.1.1) w blk 0 (tagged l).toArray := fun j hj => by
  rw [hd] at hj
  show w.cell? _ = some (enc ((tagged l).toArray[j]!).1.1) ∧ _
  rw [hv j hj]; exact hH j (by simpa using hj)
 have R : Row1 (fun p : Tg l => enc p.1.1) w blk 0 (tagged l).toArray := ⟨fun p => h1 p.1.1, hH', hblk⟩
 have hcmp : CmpLays1 Try.prog g cb (fun p : Tg l => enc p.1.1) (fun p q => cf p.1.1 q.1.1) blk 0 (tagged l).toArray.size w := fun m os dk _ x y => hcl x.1.1 x.2 y.1.1 y.2 _ (sortWorld_grownBy _ w blk m dk os)
 have hs := stb_sortStable (fun p : Tg l => enc p.1.1) g cb blk 0 cap (tagged l).toArray w R (fun p q => cf p.1.1 q.1.1) eg hcmp (TR (ltOf cf) l) (TR_trans hO l) (tagged l).toArray w rfl (SW.start hH') (by omega) (fun p q hpq hq => tagged_X (ltOf cf) l p q hpq hq); rw [hd] at hs; refine hs.mono ?_; rintro e w' ⟨rfl, d', ⟨n, os, rfl⟩, hP, hS⟩; refine ⟨rfl, n, os, ?_⟩; rw [← hd] at hP hS; have hp := perm_of_permIn hP; have hz : d'.size = (tagged l).toArray.size := hP.1; rw [← hz] at hS; have hu := stable_unique hO l d'.toList hp (pairwise_of_srt hS)
 have he : d'.map (fun p : Tg l => p.1.1) = (l.mergeSort fun x y => !ltOf cf y x).toArray := by
  rw [← hu, ← Array.toList_map, Array.toArray_toList]
 show grow (putRow (fun p : Tg l => enc p.1.1) (Sort.ahead w n) blk 0 d') os = _
 rw [putRow_map enc (fun p : Tg l => p.1.1), he]
theorem stb_none0 (A_ : Option Addr) (cap : Nat) (f : Value) (w : World) : Calls Try.prog 90 #[.slice A_ 0 cap, .int .i64 0, .int .i64 0, f] w fun e w' => e = .returned (.tuple #[]) ∧ w' = w := by
 go_enter Try.func90, Try.ntmps90
 go_wp2
 go_loopg [8] 1 (fun kx s8 wr => s8 = .int .i64 1 ∧ wr = w)
 case atStart => exact ⟨by go_num, rfl⟩
 case round =>
  obtain ⟨rfl, rfl⟩ := hrel
  go_wp2
  go_end0
  exact ⟨rfl, rfl⟩
theorem stb_none1 (A_ : Option Addr) (cap : Nat) (f : Value) (w : World) : Calls Try.prog 87 #[.slice A_ 0 cap, .int .i64 0, f] w fun e w' => e = .returned (.tuple #[]) ∧ w' = w := by
 go_enter Try.func87, Try.ntmps87
 go_wp2
 go_loopg [7, 8] 1 (fun kx s7 s8 wr => s7 = .int .i64 0 ∧ s8 = .int .i64 20 ∧ wr = w)
 case atStart => exact ⟨by go_num, by go_num, rfl⟩
 case round =>
  obtain ⟨rfl, rfl, hwr⟩ := hrel
  go_wp2_with (go_at_call 90; refine (stb_none0 _ _ _ _).mono ?_; rintro e w' ⟨rfl, hw_⟩)
  go_loopg [6] 1 (fun kx s6 wr2 => s6 = .int .i64 20 ∧ wr2 = w)
  case atStart => exact ⟨by go_num, by first | rfl | exact hw_ | exact hw_.symm | (subst hw_; rfl) | (simp_all; done)⟩
  case round =>
   obtain ⟨rfl, hw2⟩ := hrel
   go_wp2
   go_end0
   exact ⟨rfl, by first | exact hw2 | rfl⟩
theorem stb_none (A_ : Option Addr) (cap : Nat) (f : Value) (w : World) : Calls Try.prog 79 #[.slice A_ 0 cap, f] w fun e w' => e = .returned (.tuple #[]) ∧ w' = w := by
 go_enter Try.func79, Try.ntmps79
 go_wp2_with (go_at_call 87; refine (stb_none1 _ _ _ _).mono ?_; rintro e w' ⟨rfl, rfl⟩)
 go_end0
 exact ⟨rfl, rfl⟩
end
end Go.Proofs.Ytbbfibokedlkkaa
