/- For every text up to the law's bound the program's LegRead answers what the reference's answers (FnExactLegRead returns true); no condition. -/
import Derived.Test.YtadnhfdodcmlaaaDoorPFnExactLegReadx10
import Derived.Test.YtadnhfdodcmlaaaDoorNum
namespace Go.Proofs.YtadnhfdodcmlaaaDoor.Pure.FnExactLegRead
open Go.RowKit Go.Proofs.YtadnhfdodcmlaaaDoor.PFnExactLegRead Go.Proofs.YtadnhfdodcmlaaaDoorW.PrintWords Go.Proofs.YtadnhfdodcmlaaaDoorW.PrintLast Go.Proofs.YtadnhfdodcmlaaaDoorW.PrintMore Go.Proofs.YtadnhfdodcmlaaaDoor.Num
set_option linter.unusedVariables false
set_option linter.unusedSimpArgs false
theorem in_s (a b c : Int) : spec_l1In.f a b c = some (decide (b ≤ a) && decide (a ≤ c)) := by
  unfold spec_l1In.f
  by_cases h : a ≥ b
  · rw [if_pos h, decide_eq_true (show b ≤ a from h)]; rfl
  · rw [if_neg h, decide_eq_false (show ¬ b ≤ a from h)]; rfl
/-- From some count of rounds on it answers r. -/
def Ev {α : Type} (F : Nat → Option α) (r : α) : Prop := ∃ K, ∀ k, K ≤ k → F k = some r
theorem ev_step {α : Type} {F G : Nat → Option α} {r : α} (h : Ev G r) (e : ∀ k, F (k + 1) = G k) : Ev F r := by
  obtain ⟨K, h⟩ := h
  refine ⟨K + 1, fun k hk => ?_⟩
  obtain ⟨m, rfl⟩ : ∃ m, k = m + 1 := ⟨k - 1, by omega⟩
  rw [e m]; exact h m (by omega)
theorem ev_now {α : Type} {F : Nat → Option α} {r : α} (e : ∀ k, F (k + 1) = some r) : Ev F r :=
  ⟨1, fun k hk => by obtain ⟨m, rfl⟩ : ∃ m, k = m + 1 := ⟨k - 1, by omega⟩; exact e m⟩
theorem ev_const {α : Type} {o : Option α} {r : α} (e : o = some r) : Ev (fun _ => o) r := ⟨0, fun _ _ => e⟩
theorem ev_bind {α β : Type} {F : Nat → Option α} {G : Nat → α → Option β} {a : α} {r : β} (h : Ev F a) (g : Ev (fun k => G k a) r) : Ev (fun k => (F k).bind (G k)) r := by
  obtain ⟨K, h⟩ := h
  obtain ⟨L, g⟩ := g
  exact ⟨max K L, fun k hk => by show (F k).bind (G k) = _; rw [h k (by omega), Option.bind_some]; exact g k (by omega)⟩
theorem ev_cong {α : Type} {F G : Nat → Option α} {r : α} (h : Ev G r) (e : ∀ k, F k = G k) : Ev F r := by
  obtain ⟨K, h⟩ := h
  exact ⟨K, fun k hk => (e k).trans (h k hk)⟩
theorem dd_len (u : Nat) : (Lib.decDigits u).length ≤ u + 1 := by
  induction u using Nat.strongRecOn with
  | _ u ih =>
    rw [Lib.decDigits]
    by_cases h : u < 10
    · rw [dif_pos h]; simp
    · rw [dif_neg h, List.length_append]
      have := ih (u / 10) (by omega)
      simp only [List.length_cons, List.length_nil]
      omega
theorem app_b (a b : List UInt8) : ((⟨a.toArray⟩ : ByteArray) ++ (⟨b.toArray⟩ : ByteArray)) = ⟨(a ++ b).toArray⟩ := by
  apply ByteArray.ext
  simp [ByteArray.data_append]
theorem siz_b (a : List UInt8) : (⟨a.toArray⟩ : ByteArray).size = a.length := by simp [ByteArray.size]
/-- The reference's decimal text is the library's. -/
theorem told_n : ∀ (u : Nat), u ≤ 1000000 → ∀ k : Nat, u < k → spec_l1Told.f k (u : Int) = some ⟨(Lib.decDigits u).toArray⟩ := by
  intro u
  induction u using Nat.strongRecOn with
  | _ u ih =>
    intro hu k hk
    obtain ⟨k, rfl⟩ : ∃ m, k = m + 1 := ⟨k - 1, by omega⟩
    rw [Lib.decDigits]
    simp only [spec_l1Told.f]
    rw [if_neg (by omega)]
    by_cases h : u < 10
    · rw [if_pos (by omega), dif_pos h]
      have hw : wrap64 (48 + (u : Int)) % 256 = ((48 + u : Nat) : Int) := by unfold wrap64; omega
      rw [hw]
      rfl
    · rw [if_neg (by omega), dif_neg h]
      have hd : wrap64 (Int.tdiv (u : Int) 10) = ((u / 10 : Nat) : Int) := by
        rw [Int.tdiv_eq_ediv_of_nonneg (by omega)]
        unfold wrap64; omega
      have hm : Int.tmod (u : Int) 10 = ((u % 10 : Nat) : Int) := by
        rw [Int.tmod_eq_emod_of_nonneg (by omega)]; omega
      rw [hd, hm, ih (u / 10) (by omega) (by omega) k (by omega), Option.bind_some, ih (u % 10) (by omega) (by omega) k (by omega), Option.bind_some]
      have h1 := dd_len (u / 10)
      have h2 := dd_len (u % 10)
      rw [siz_b, siz_b, if_pos (by omega), app_b]
      rw [show Lib.decDigits (u % 10) = [UInt8.ofNat (48 + u % 10)] by rw [Lib.decDigits, dif_pos (by omega)]]
theorem told_k (k : Nat) (hk : 1001 ≤ k) (n : Int) (h0 : -1000 ≤ n) (h1 : n ≤ 1000) : spec_l1Told.f (k + 1) n = some ⟨(Lib.itoa n).toArray⟩ := by
  unfold Lib.itoa
  by_cases h : n < 0
  · rw [if_pos h]
    simp only [spec_l1Told.f]
    rw [if_pos h]
    have hw : wrap64 (-n) = ((n.natAbs : Nat) : Int) := by unfold wrap64; omega
    rw [hw, told_n n.natAbs (by omega) k (by omega), Option.bind_some]
    have h1 := dd_len n.natAbs
    rw [siz_b, if_pos (by omega)]
    exact congrArg some (app_b [45] _)
  · rw [if_neg h]
    have := told_n n.toNat (by omega) (k + 1) (by omega)
    rw [← this]; congr 1; omega
theorem told_i (n : Int) (h0 : -1000 ≤ n) (h1 : n ≤ 1000) : spec_l1Told.f 1005 n = some ⟨(Lib.itoa n).toArray⟩ := told_k 1004 (by omega) n h0 h1
theorem itoa_s (n : Int) (h0 : -1000 ≤ n) (h1 : n ≤ 1000) : strconv_Itoa.f n = some ⟨(Lib.itoa n).toArray⟩ := by
  unfold strconv_Itoa.f
  rw [if_pos (by omega)]
theorem itoa_len (n : Int) (h0 : -1000 ≤ n) (h1 : n ≤ 1000) : (⟨(Lib.itoa n).toArray⟩ : ByteArray).size ≤ 1002 := by
  rw [siz_b]
  unfold Lib.itoa
  by_cases h : n < 0
  · rw [if_pos h]; have := dd_len n.natAbs; simp only [List.length_cons]; omega
  · rw [if_neg h]; have := dd_len n.toNat; omega
theorem legOk_eq (a b c d : Int) : impl_LegOk.f a b c d = spec_LegOk.f a b c d := by
  have hi : ∀ x : Int, impl_isDir.f x = spec_l1In.f x 0 7 := by
    intro x
    have h : impl_in.f x 0 7 = spec_l1In.f x 0 7 := rfl
    unfold impl_isDir.f
    rw [h, in_s]; rfl
  have h : impl_in.f = spec_l1In.f := rfl
  unfold impl_LegOk.f spec_LegOk.f
  rw [hi, h]
theorem legOk_some (a b c d : Int) : ∃ r, spec_LegOk.f a b c d = some r := by
  simp only [spec_LegOk.f, in_s, Option.bind_some, ites]
  repeat' split
  all_goals exact ⟨_, rfl⟩
theorem legKinds {a b c d : Int} (h : spec_LegOk.f a b c d = some true) :
    (a = 1 ∧ -500 ≤ b ∧ b ≤ 500 ∧ -500 ≤ c ∧ c ≤ 500) ∨ (a = 2 ∧ 0 ≤ b ∧ b ≤ 7 ∧ 1 ≤ d ∧ d ≤ 500) ∨ (a = 3 ∧ 0 ≤ d ∧ d ≤ 1000) ∨ (a = 4 ∧ 1 ≤ d ∧ d ≤ 9) ∨ (a = 5 ∧ 0 ≤ b ∧ b ≤ 7 ∧ (c = -1 ∨ c = 1)) := by
  simp only [spec_LegOk.f, in_s, Option.bind_some, ites] at h
  by_cases h1 : a = 1
  · subst h1; simp at h; omega
  by_cases h2 : a = 2
  · subst h2; simp at h; omega
  by_cases h3 : a = 3
  · subst h3; simp at h; omega
  by_cases h4 : a = 4
  · subst h4; simp at h; omega
  by_cases h5 : a = 5
  · subst h5
    by_cases hc : c = -1
    · subst hc; simp at h; omega
    · by_cases hb : 0 ≤ b ∧ b ≤ 7
      · simp [hc, hb] at h; omega
      · rw [if_neg (by decide), if_neg (by decide), if_neg (by decide), if_neg (by decide), if_pos rfl, if_neg (by simp; omega)] at h
        exact absurd h (by simp)
  simp [h1, h2, h3, h4, h5] at h
def dirs : List ByteArray := [(⟨#[110]⟩ : ByteArray), (⟨#[110, 101]⟩ : ByteArray), (⟨#[101]⟩ : ByteArray), (⟨#[115, 101]⟩ : ByteArray), (⟨#[115]⟩ : ByteArray), (⟨#[115, 119]⟩ : ByteArray), (⟨#[119]⟩ : ByteArray), (⟨#[110, 119]⟩ : ByteArray)]
theorem dirs_i : impl_dirNames.f = some dirs := rfl
theorem dirs_s : spec_l12Dirs.f = some dirs := rfl
theorem dirs_len : dirs.length = 8 := rfl
theorem dirs_size (b : Int) : (rdOf ByteArray.empty dirs b).size ≤ 2 := by
  unfold rdOf
  generalize b.toNat = m
  match m with
  | 0 => decide
  | 1 => decide
  | 2 => decide
  | 3 => decide
  | 4 => decide
  | 5 => decide
  | 6 => decide
  | 7 => decide
  | m + 8 => simp [dirs]
/-- The text of a right leg. -/
def told (n : Int) : ByteArray := ⟨(Lib.itoa n).toArray⟩
def text (a b c d : Int) : ByteArray :=
  if a = 1 then (((⟨#[116, 111, 32]⟩ : ByteArray) ++ told b) ++ (⟨#[32]⟩ : ByteArray)) ++ told c
  else if a = 2 then (((⟨#[99, 111, 117, 114, 115, 101, 32]⟩ : ByteArray) ++ (rdOf ByteArray.empty dirs b)) ++ (⟨#[32]⟩ : ByteArray)) ++ told d
  else if a = 3 then (⟨#[99, 108, 105, 109, 98, 32]⟩ : ByteArray) ++ told d
  else if a = 4 then (⟨#[104, 111, 108, 100, 32]⟩ : ByteArray) ++ told d
  else if c < 0 then ((⟨#[116, 117, 114, 110, 32]⟩ : ByteArray) ++ (rdOf ByteArray.empty dirs b)) ++ (⟨#[32, 108, 101, 102, 116]⟩ : ByteArray)
  else ((⟨#[116, 117, 114, 110, 32]⟩ : ByteArray) ++ (rdOf ByteArray.empty dirs b)) ++ (⟨#[32, 114, 105, 103, 104, 116]⟩ : ByteArray)
theorem told_len (n : Int) (h0 : -1000 ≤ n) (h1 : n ≤ 1000) : (told n).size ≤ 1002 := itoa_len n h0 h1
theorem told_s (n : Int) (h0 : -1000 ≤ n) (h1 : n ≤ 1000) : spec_l1Told.f 1005 n = some (told n) := told_i n h0 h1
theorem told_p (n : Int) (h0 : -1000 ≤ n) (h1 : n ≤ 1000) : strconv_Itoa.f n = some (told n) := itoa_s n h0 h1
theorem text_i {a b c d : Int} (h : spec_LegOk.f a b c d = some true) : impl_legText.f a b c d = some (text a b c d) := by
  unfold text
  have s1 : (⟨#[116, 111, 32]⟩ : ByteArray).size = 3 := rfl
  have s2 : (⟨#[32]⟩ : ByteArray).size = 1 := rfl
  have s3 : (⟨#[99, 111, 117, 114, 115, 101, 32]⟩ : ByteArray).size = 7 := rfl
  have s4 : (⟨#[116, 117, 114, 110, 32]⟩ : ByteArray).size = 5 := rfl
  have hl := dirs_len
  unfold impl_legText.f
  rcases legKinds h with ⟨rfl, h1, h2, h3, h4⟩ | ⟨rfl, h1, h2, h3, h4⟩ | ⟨rfl, h1, h2⟩ | ⟨rfl, h1, h2⟩ | ⟨rfl, h1, h2, h3⟩
  · have z1 := told_len b (by omega) (by omega)
    have z2 := told_len c (by omega) (by omega)
    rw [if_pos rfl, if_pos rfl, told_p b (by omega) (by omega), Option.bind_some, if_pos (by omega), if_pos (by rw [ByteArray.size_append]; omega), told_p c (by omega) (by omega), Option.bind_some, if_pos (by simp only [ByteArray.size_append]; omega)]
  · have z1 := told_len d (by omega) (by omega)
    have z2 := dirs_size b
    rw [if_neg (by decide), if_pos rfl, if_neg (by decide), if_pos rfl, dirs_i, Option.bind_some, if_pos (by omega), if_pos (by omega), if_pos (by omega), if_pos (by rw [ByteArray.size_append]; omega), told_p d (by omega) (by omega), Option.bind_some, if_pos (by simp only [ByteArray.size_append]; omega)]
  · have z1 := told_len d (by omega) (by omega)
    rw [if_neg (by decide), if_neg (by decide), if_pos rfl, if_neg (by decide), if_neg (by decide), if_pos rfl, told_p d (by omega) (by omega), Option.bind_some, if_pos (by omega)]
  · have z1 := told_len d (by omega) (by omega)
    rw [if_neg (by decide), if_neg (by decide), if_neg (by decide), if_pos rfl, if_neg (by decide), if_neg (by decide), if_neg (by decide), if_pos rfl, told_p d (by omega) (by omega), Option.bind_some, if_pos (by omega)]
  · have z2 := dirs_size b
    rw [if_neg (show ¬ (5 : Int) = 1 by decide), if_neg (show ¬ (5 : Int) = 1 by decide), if_neg (show ¬ (5 : Int) = 2 by decide), if_neg (show ¬ (5 : Int) = 2 by decide), if_neg (show ¬ (5 : Int) = 3 by decide), if_neg (show ¬ (5 : Int) = 3 by decide), if_neg (show ¬ (5 : Int) = 4 by decide), if_neg (show ¬ (5 : Int) = 4 by decide)]
    by_cases hc : c < 0
    · rw [if_pos hc, if_pos hc, dirs_i, Option.bind_some, if_pos (by omega), if_pos (by omega), if_pos (by omega), if_pos (by rw [ByteArray.size_append]; omega)]
    · rw [if_neg hc, if_neg hc, dirs_i, Option.bind_some, if_pos (by omega), if_pos (by omega), if_pos (by omega), if_pos (by rw [ByteArray.size_append]; omega)]
theorem text_s {a b c d : Int} (h : spec_LegOk.f a b c d = some true) : spec_LegText.f 1005 a b c d = some (text a b c d, true) := by
  unfold text
  have s1 : (⟨#[116, 111, 32]⟩ : ByteArray).size = 3 := rfl
  have s2 : (⟨#[32]⟩ : ByteArray).size = 1 := rfl
  have s3 : (⟨#[99, 111, 117, 114, 115, 101, 32]⟩ : ByteArray).size = 7 := rfl
  have s4 : (⟨#[116, 117, 114, 110, 32]⟩ : ByteArray).size = 5 := rfl
  have hl := dirs_len
  unfold spec_LegText.f
  rw [h, Option.bind_some, if_pos rfl]
  rcases legKinds h with ⟨rfl, h1, h2, h3, h4⟩ | ⟨rfl, h1, h2, h3, h4⟩ | ⟨rfl, h1, h2⟩ | ⟨rfl, h1, h2⟩ | ⟨rfl, h1, h2, h3⟩
  · have z1 := told_len b (by omega) (by omega)
    have z2 := told_len c (by omega) (by omega)
    rw [if_pos rfl, if_pos rfl, told_s b (by omega) (by omega), Option.bind_some, if_pos (by omega), if_pos (by rw [ByteArray.size_append]; omega), told_s c (by omega) (by omega), Option.bind_some, if_pos (by simp only [ByteArray.size_append]; omega)]
  · have z1 := told_len d (by omega) (by omega)
    have z2 := dirs_size b
    rw [if_neg (by decide), if_pos rfl, if_neg (by decide), if_pos rfl, dirs_s, Option.bind_some, if_pos (by omega), if_pos (by omega), if_pos (by omega), if_pos (by rw [ByteArray.size_append]; omega), told_s d (by omega) (by omega), Option.bind_some, if_pos (by simp only [ByteArray.size_append]; omega)]
  · have z1 := told_len d (by omega) (by omega)
    rw [if_neg (by decide), if_neg (by decide), if_pos rfl, if_neg (by decide), if_neg (by decide), if_pos rfl, told_s d (by omega) (by omega), Option.bind_some, if_pos (by omega)]
  · have z1 := told_len d (by omega) (by omega)
    rw [if_neg (by decide), if_neg (by decide), if_neg (by decide), if_pos rfl, if_neg (by decide), if_neg (by decide), if_neg (by decide), if_pos rfl, told_s d (by omega) (by omega), Option.bind_some, if_pos (by omega)]
  · have z2 := dirs_size b
    rw [if_neg (show ¬ (5 : Int) = 1 by decide), if_neg (show ¬ (5 : Int) = 1 by decide), if_neg (show ¬ (5 : Int) = 2 by decide), if_neg (show ¬ (5 : Int) = 2 by decide), if_neg (show ¬ (5 : Int) = 3 by decide), if_neg (show ¬ (5 : Int) = 3 by decide), if_neg (show ¬ (5 : Int) = 4 by decide), if_neg (show ¬ (5 : Int) = 4 by decide)]
    by_cases hc : c < 0
    · rw [if_pos hc, if_pos hc, dirs_s, Option.bind_some, if_pos (by omega), if_pos (by omega), if_pos (by omega), if_pos (by rw [ByteArray.size_append]; omega)]
    · rw [if_neg hc, if_neg hc, dirs_s, Option.bind_some, if_pos (by omega), if_pos (by omega), if_pos (by omega), if_pos (by rw [ByteArray.size_append]; omega)]
/-- LegText as the program and as the reference have it. -/
theorem LegText_both (a b c d : Int) : ∃ r, impl_LegText.f a b c d = some r ∧ spec_LegText.f 1005 a b c d = some r := by
  obtain ⟨o, ho⟩ := legOk_some a b c d
  cases o with
  | true =>
    refine ⟨(text a b c d, true), ?_, text_s ho⟩
    unfold impl_LegText.f
    rw [legOk_eq, ho, Option.bind_some, if_pos rfl, text_i ho]; rfl
  | false =>
    refine ⟨(⟨#[]⟩, false), ?_, ?_⟩
    · unfold impl_LegText.f
      rw [legOk_eq, ho, Option.bind_some, if_neg (by decide)]
    · unfold spec_LegText.f
      rw [ho, Option.bind_some, if_neg (by decide)]
/-! words between blanks: the reference's loop, the library's Split -/
def stepB (acc : List ByteArray) (b : UInt8) : List ByteArray := if b = 32 then acc ++ [(⟨#[]⟩ : ByteArray)] else acc.set (acc.length - 1) (rdOf ByteArray.empty acc ((acc.length - 1 : Nat) : Int) ++ (⟨#[b]⟩ : ByteArray))
theorem ext_one (s : ByteArray) (i : Nat) (h : i < s.size) (h' : i < s.data.toList.length) : s.extract i (i + 1) = (⟨#[s.data.toList[i]]⟩ : ByteArray) := by
  apply ByteArray.ext
  apply Array.ext'
  rw [ByteArray.data_extract, Array.toList_extract, List.extract_eq_take_drop, show i + 1 - i = 1 by omega, List.drop_eq_getElem_cons h']
  rfl
theorem bt_l (s : ByteArray) (i : Nat) (h : i < s.size) (h' : i < s.data.toList.length) : bt s (i : Int) = (s.data.toList[i].toNat : Int) := by
  unfold bt
  have h2 : (i : Int).toNat < s.size := by omega
  rw [dif_pos h2]
  rfl
theorem set_sizes (acc : List ByteArray) (j : Nat) (x : ByteArray) (n : Nat) (h : ∀ y ∈ acc, y.size ≤ n) (hx : x.size ≤ n) : ∀ y ∈ acc.set j x, y.size ≤ n := by
  intro y hy
  rcases List.mem_or_eq_of_mem_set hy with h1 | h1
  · exact h y h1
  · rw [h1]; exact hx
theorem rd_size (acc : List ByteArray) (j : Int) (n : Nat) (h : ∀ y ∈ acc, y.size ≤ n) : (rdOf ByteArray.empty acc j).size ≤ n := by
  unfold rdOf
  rw [List.getD_eq_getElem?_getD]
  cases hq : acc[j.toNat]? with
  | none => exact Nat.zero_le _
  | some x => exact h x (List.mem_of_getElem? hq)
theorem words_l0 (s : ByteArray) (hs : s.size ≤ 40) : ∀ (d i : Nat) (acc : List ByteArray), i + d = s.size → 1 ≤ acc.length → acc.length ≤ i + 1 → (∀ x ∈ acc, x.size ≤ i) →
    Ev (fun k => spec_l1Words.l0 k s acc (i : Int)) ((s.data.toList.drop i).foldl stepB acc) := by
  intro d
  induction d with
  | zero =>
    intro i acc hi h1 h2 h3
    refine ev_now (fun k => ?_)
    have hl : s.data.toList.length = s.size := Array.length_toList
    simp only [spec_l1Words.l0]
    rw [if_neg (by omega), List.drop_eq_nil_of_le (by omega)]
    rfl
  | succ d ih =>
    intro i acc hi h1 h2 h3
    have hl : s.data.toList.length = s.size := Array.length_toList
    have hb := bt_l s i (by omega) (by omega)
    have he := ext_one s i (by omega) (by omega)
    rw [List.drop_eq_getElem_cons (show i < s.data.toList.length by omega), List.foldl_cons]
    generalize s.data.toList[i]'(show i < s.data.toList.length by omega) = b at hb he ⊢
    have hw : wrap64 ((i : Int) + 1) = ((i + 1 : Nat) : Int) := by unfold wrap64; omega
    have hw2 : wrap64 ((acc.length : Int) - 1) = ((acc.length - 1 : Nat) : Int) := by unfold wrap64; omega
    have hr := rd_size acc ((acc.length - 1 : Nat) : Int) i h3
    refine ev_step (G := fun k => spec_l1Words.l0 k s (stepB acc b) ((i + 1 : Nat) : Int)) ?_ (fun k => ?_)
    · refine ih (i + 1) (stepB acc b) (by omega) ?_ ?_ ?_
      · unfold stepB; split
        · simp
        · rw [List.length_set]; exact h1
      · unfold stepB; split
        · simp; omega
        · rw [List.length_set]; omega
      · unfold stepB; split
        · intro x hx
          rcases List.mem_append.1 hx with h4 | h4
          · have := h3 x h4; omega
          · rw [List.mem_singleton.1 h4]; exact Nat.zero_le _
        · refine set_sizes acc _ _ (i + 1) (fun y hy => Nat.le_succ_of_le (h3 y hy)) ?_
          rw [ByteArray.size_append]
          have : (⟨#[b]⟩ : ByteArray).size = 1 := rfl
          omega
    · simp only [spec_l1Words.l0]
      rw [if_pos (by omega), if_pos (by omega), hb, hw, hw2]
      unfold stepB
      by_cases hq : b = 32
      · subst hq
        rw [if_pos (show ((UInt8.toNat 32 : Nat) : Int) = 32 from rfl), if_pos (show acc.length < 8796093022208 by omega), if_pos rfl]
      · have hn : ¬ ((b.toNat : Int) = 32) := by
          intro h
          apply hq
          apply UInt8.toNat_inj.1
          show b.toNat = 32
          omega
        have e1 : (⟨#[b]⟩ : ByteArray).size = 1 := rfl
        rw [if_neg hn, if_neg hq, if_pos (by omega), if_pos (by omega), if_pos (by omega), if_pos (by omega)]
        simp only [Int.toNat_natCast]
        rw [he, if_pos (by omega)]
theorem words_ev (s : ByteArray) (hs : s.size ≤ 40) : Ev (fun k => spec_l1Words.f k s) (s.data.toList.foldl stepB [(⟨#[]⟩ : ByteArray)]) := by
  have := words_l0 s hs s.size 0 [(⟨#[]⟩ : ByteArray)] (by omega) (by simp) (by simp) (by intro x hx; rw [List.mem_singleton.1 hx]; exact Nat.le_refl _)
  exact this
/-- One word, put behind the last. -/
theorem fold_word (pre : List ByteArray) : ∀ (w u : List UInt8), 32 ∉ w → w.foldl stepB (pre ++ [(⟨u.toArray⟩ : ByteArray)]) = pre ++ [(⟨(u ++ w).toArray⟩ : ByteArray)]
  | [], u, _ => by simp
  | b :: w, u, h => by
    have hb : ¬ b = 32 := fun e => h (by rw [e]; exact List.mem_cons_self)
    rw [List.foldl_cons]
    have e : stepB (pre ++ [(⟨u.toArray⟩ : ByteArray)]) b = pre ++ [(⟨(u ++ [b]).toArray⟩ : ByteArray)] := by
      unfold stepB
      rw [if_neg hb]
      have e1 : (pre ++ [(⟨u.toArray⟩ : ByteArray)]).length - 1 = pre.length := by simp
      rw [e1]
      have e2 : rdOf ByteArray.empty (pre ++ [(⟨u.toArray⟩ : ByteArray)]) (pre.length : Int) = (⟨u.toArray⟩ : ByteArray) := by
        unfold rdOf
        rw [Int.toNat_natCast, List.getD_eq_getElem?_getD, List.getElem?_append_right (Nat.le_refl _)]
        simp
      rw [e2, app_b u [b]]
      simp
    rw [e, fold_word pre w (u ++ [b]) (fun hm => h (List.mem_cons_of_mem _ hm))]
    simp
theorem fold_blank (acc : List ByteArray) (r : List UInt8) : (32 :: r).foldl stepB acc = r.foldl stepB (acc ++ [(⟨([] : List UInt8).toArray⟩ : ByteArray)]) := by
  rw [List.foldl_cons]; rfl
theorem words3 (a b c : List UInt8) (ha : 32 ∉ a) (hb : 32 ∉ b) (hc : 32 ∉ c) : (a ++ 32 :: (b ++ 32 :: c)).foldl stepB [(⟨#[]⟩ : ByteArray)] = [⟨a.toArray⟩, ⟨b.toArray⟩, ⟨c.toArray⟩] := by
  rw [List.foldl_append, show [(⟨#[]⟩ : ByteArray)] = [] ++ [(⟨([] : List UInt8).toArray⟩ : ByteArray)] from rfl, fold_word [] a [] ha, fold_blank, List.foldl_append, fold_word _ b [] hb, fold_blank, fold_word _ c [] hc]
  simp
theorem words2 (a b : List UInt8) (ha : 32 ∉ a) (hb : 32 ∉ b) : (a ++ 32 :: b).foldl stepB [(⟨#[]⟩ : ByteArray)] = [⟨a.toArray⟩, ⟨b.toArray⟩] := by
  rw [List.foldl_append, show [(⟨#[]⟩ : ByteArray)] = [] ++ [(⟨([] : List UInt8).toArray⟩ : ByteArray)] from rfl, fold_word [] a [] ha, fold_blank, fold_word _ b [] hb]
  simp
/-! the library's Split -/
theorem idx_none : ∀ (w : List UInt8), 32 ∉ w → Lib.index w [32] = -1
  | [], _ => rfl
  | b :: w, h => by
    have hb : ¬ b = 32 := fun e => h (by rw [e]; exact List.mem_cons_self)
    have := idx_none w (fun hm => h (List.mem_cons_of_mem _ hm))
    rw [Lib.index_one] at this ⊢
    simp [Lib.indexByte, hb, this]
theorem idx_hit (r : List UInt8) : ∀ (w : List UInt8), 32 ∉ w → Lib.index (w ++ 32 :: r) [32] = (w.length : Int)
  | [], _ => by rw [Lib.index_one]; simp [Lib.indexByte]
  | b :: w, h => by
    have hb : ¬ b = 32 := fun e => h (by rw [e]; exact List.mem_cons_self)
    have := idx_hit r w (fun hm => h (List.mem_cons_of_mem _ hm))
    rw [Lib.index_one] at this ⊢
    simp only [List.cons_append, Lib.indexByte, this]
    rw [if_neg (by simpa using hb), if_neg (by simp <;> omega)]
    simp
theorem count_none (w : List UInt8) (h : 32 ∉ w) : Lib.count w [32] = 0 := by rw [Lib.count_one]; exact List.count_eq_zero.2 h
theorem count_hit (w r : List UInt8) (h : 32 ∉ w) : Lib.count (w ++ 32 :: r) [32] = Lib.count r [32] + 1 := by
  rw [Lib.count_one, Lib.count_one, List.count_append, List.count_eq_zero.2 h, List.count_cons_self]; omega
theorem split_none (w : List UInt8) (h : 32 ∉ w) : Lib.split w [32] = [w] := by unfold Lib.split; rw [count_none w h]; rfl
theorem split_hit (w r : List UInt8) (h : 32 ∉ w) : Lib.split (w ++ 32 :: r) [32] = w :: Lib.split r [32] := by
  unfold Lib.split
  rw [count_hit w r h, Lib.splitK, idx_hit r w h, if_neg (by simp <;> omega)]
  simp
def sp : ByteArray := ⟨#[32]⟩
theorem bytes_ofL (l : List ByteArray) (m : List (List UInt8)) (h : l.map (·.data.toList) = m) : l = m.map fun x => (⟨x.toArray⟩ : ByteArray) := by
  subst h
  induction l with
  | nil => rfl
  | cons x l ih => rw [List.map_cons, List.map_cons, ← ih]
theorem splitB_l (s : ByteArray) : Lib.splitB sp 0 (Lib.countB s sp) s = (Lib.split s.data.toList [32]).map fun x => (⟨x.toArray⟩ : ByteArray) := bytes_ofL _ _ (Lib.splitB_data sp 0 _ s)
/-! numbers of a leg's text -/
def digitsOf (u : Nat) : List UInt8 :=
  if u < 10 then [UInt8.ofNat (48 + u)] else if u < 100 then [UInt8.ofNat (48 + u / 10), UInt8.ofNat (48 + u % 10)]
  else if u < 1000 then [UInt8.ofNat (48 + u / 100), UInt8.ofNat (48 + u / 10 % 10), UInt8.ofNat (48 + u % 10)]
  else [UInt8.ofNat (48 + u / 1000), UInt8.ofNat (48 + u / 100 % 10), UInt8.ofNat (48 + u / 10 % 10), UInt8.ofNat (48 + u % 10)]
theorem dd_step (u : Nat) (h : ¬ u < 10) : Lib.decDigits u = Lib.decDigits (u / 10) ++ [UInt8.ofNat (48 + u % 10)] := by rw [Lib.decDigits, dif_neg h]
theorem dd_eq (u : Nat) (h : u ≤ 1000) : Lib.decDigits u = digitsOf u := by
  unfold digitsOf
  by_cases h1 : u < 10
  · rw [if_pos h1, Lib.decDigits_one h1]
  rw [if_neg h1]
  by_cases h2 : u < 100
  · rw [if_pos h2, dd_step u h1, Lib.decDigits_one (by omega)]; rfl
  rw [if_neg h2]
  by_cases h3 : u < 1000
  · rw [if_pos h3, dd_step u h1, dd_step (u / 10) (by omega), Lib.decDigits_one (by omega), show u / 10 / 10 = u / 100 by omega]; rfl
  · rw [if_neg h3, dd_step u h1, dd_step (u / 10) (by omega), dd_step (u / 10 / 10) (by omega), Lib.decDigits_one (by omega), show u / 10 / 10 / 10 = u / 1000 by omega, show u / 10 / 10 = u / 100 by omega]; rfl
def itoaOf (n : Int) : List UInt8 := if n < 0 then 45 :: digitsOf n.natAbs else digitsOf n.toNat
theorem itoa_eq (n : Int) (h0 : -1000 ≤ n) (h1 : n ≤ 1000) : Lib.itoa n = itoaOf n := by
  unfold Lib.itoa itoaOf
  rw [dd_eq n.natAbs (by omega)]
  split
  · rfl
  · rw [dd_eq n.toNat (by omega)]
theorem itoa_all : ∀ m : Fin 2001, Lib.atoiAll (itoaOf ((m.val : Int) - 1000)) = .ok ((m.val : Int) - 1000) ∧ (itoaOf ((m.val : Int) - 1000)).all (fun b => b != 32) = true := by decide +kernel
theorem num_all : ∀ m : Fin 2001, spec_l1Number.f 20 ⟨(itoaOf ((m.val : Int) - 1000)).toArray⟩ = some ((m.val : Int) - 1000, true) := by decide +kernel
/-! both readers -/
theorem ev_of_some {α : Type} {F : Nat → Option α} (hm : ∀ k, LeO (F k) (F (k + 1))) {K : Nat} {r : α} (h : F K = some r) : Ev F r := by
  refine ⟨K, fun k hk => ?_⟩
  obtain ⟨d, rfl⟩ : ∃ d, k = K + d := ⟨k - K, by omega⟩
  clear hk
  induction d with
  | zero => exact h
  | succ d ih => exact hm _ _ ih
theorem ev_uniq {α : Type} {F : Nat → Option α} {r r' : α} (h : Ev F r) (h' : Ev F r') : r = r' := by
  obtain ⟨K, h⟩ := h
  obtain ⟨L, h'⟩ := h'
  exact Option.some.inj ((h (max K L) (by omega)).symm.trans (h' (max K L) (by omega)))
theorem num_l0 (s : ByteArray) (x4 : Int) : ∀ (d i : Nat) (x5 : Int), i + d = s.size → s.size ≤ 1000 → ∃ r, Ev (fun k => spec_l1Number.l0 k s x4 x5 (i : Int)) r
  | 0, i, x5, h, _ => ⟨_, ev_now (fun k => by simp only [spec_l1Number.l0]; rw [if_neg (by omega)])⟩
  | d + 1, i, x5, h, hs => by
    have hw : wrap64 ((i : Int) + 1) = ((i + 1 : Nat) : Int) := by unfold wrap64; omega
    by_cases hd : (decide (48 ≤ wrap64 (bt s (i : Int))) && decide (wrap64 (bt s (i : Int)) ≤ 57)) = true
    · obtain ⟨r, hr⟩ := num_l0 s x4 d (i + 1) (wrap64 ((wrap64 (10 * x5)) + (((bt s (i : Int)) - 48) % 256))) (by omega) hs
      refine ⟨r, ev_step hr (fun k => ?_)⟩
      simp only [spec_l1Number.l0]
      rw [if_pos (by omega), if_pos (by omega), in_s, Option.bind_some, if_pos hd, hw]
    · refine ⟨(0, false), ev_now (fun k => ?_)⟩
      simp only [spec_l1Number.l0]
      rw [if_pos (by omega), if_pos (by omega), in_s, Option.bind_some, if_neg hd]
theorem num_j2 (s : ByteArray) (x4 : Int) (b : Bool) (hs : s.size ≤ 1000) : ∃ r, Ev (fun k => spec_l1Number.j2 k s x4 b) r := by
  cases b with
  | true => exact ⟨(0, false), ev_now (fun k => by simp only [spec_l1Number.j2]; rw [if_pos trivial])⟩
  | false =>
    obtain ⟨r, hr⟩ := num_l0 s x4 s.size 0 0 (by omega) hs
    exact ⟨r, ev_step hr (fun k => by simp only [spec_l1Number.j2]; rw [if_neg (by decide)]; rfl)⟩
theorem num_j1 (s : ByteArray) (x4 : Int) (hs : s.size ≤ 1000) : ∃ r, Ev (fun k => spec_l1Number.j1 k s x4) r := by
  by_cases hd : (decide (1 ≤ (s.size : Int)) && decide ((s.size : Int) ≤ 9)) = true
  · obtain ⟨r, hr⟩ := num_j2 s x4 ((bt s 0) == 48) hs
    have : 1 ≤ (s.size : Int) := by simp at hd; omega
    exact ⟨r, ev_step hr (fun k => by simp only [spec_l1Number.j1]; rw [in_s, Option.bind_some, if_pos hd, if_pos (by omega)])⟩
  · obtain ⟨r, hr⟩ := num_j2 s x4 true hs
    exact ⟨r, ev_step hr (fun k => by simp only [spec_l1Number.j1]; rw [in_s, Option.bind_some, if_neg hd])⟩
theorem num_j0 (s : ByteArray) (x4 : Int) (b : Bool) (hs : s.size ≤ 1000) (h1 : b = true → 1 ≤ s.size) : ∃ r, Ev (fun k => spec_l1Number.j0 k s x4 b) r := by
  cases b with
  | true =>
    obtain ⟨r, hr⟩ := num_j1 (s.extract 1 s.size) (-1) (by rw [ByteArray.size_extract]; omega)
    have := h1 rfl
    exact ⟨r, ev_step hr (fun k => by simp only [spec_l1Number.j0]; rw [if_pos trivial, if_pos (by omega)])⟩
  | false =>
    obtain ⟨r, hr⟩ := num_j1 s x4 hs
    exact ⟨r, ev_step hr (fun k => by simp only [spec_l1Number.j0]; rw [if_neg (by decide)])⟩
theorem num_tot (s : ByteArray) (hs : s.size ≤ 1000) : ∃ r, Ev (fun k => spec_l1Number.f k s) r := by
  unfold spec_l1Number.f
  by_cases h0 : s.toList = ([48] : List UInt8)
  · exact ⟨(0, true), ev_cong (ev_const (o := some (0, true)) rfl) (fun k => by rw [if_pos h0])⟩
  by_cases h1 : (s.size : Int) > 0
  · obtain ⟨r, hr⟩ := num_j0 s 1 ((bt s 0) == 45) hs (fun _ => by omega)
    exact ⟨r, ev_cong hr (fun k => by rw [if_neg h0, if_pos h1, if_pos (by omega)])⟩
  · obtain ⟨r, hr⟩ := num_j0 s 1 false hs (fun h => by cases h)
    exact ⟨r, ev_cong hr (fun k => by rw [if_neg h0, if_neg h1])⟩
theorem num_of (n : Int) (h0 : -1000 ≤ n) (h1 : n ≤ 1000) : Ev (fun k => spec_l1Number.f k (told n)) (n, true) := by
  have h := num_all ⟨(n + 1000).toNat, by omega⟩
  have e : (((⟨(n + 1000).toNat, by omega⟩ : Fin 2001).val : Int) - 1000) = n := by show ((n + 1000).toNat : Int) - 1000 = n; omega
  rw [e] at h
  refine ev_of_some (fun k => spec_l1Number.mono _ k) (K := 20) ?_
  unfold told
  rw [itoa_eq n h0 h1]
  exact h
theorem atoi_of (n : Int) (h0 : -1000 ≤ n) (h1 : n ≤ 1000) : strconv_Atoi.val (told n) = n ∧ 32 ∉ Lib.itoa n := by
  have h := itoa_all ⟨(n + 1000).toNat, by omega⟩
  have e : (((⟨(n + 1000).toNat, by omega⟩ : Fin 2001).val : Int) - 1000) = n := by show ((n + 1000).toNat : Int) - 1000 = n; omega
  rw [e] at h
  rw [itoa_eq n h0 h1]
  refine ⟨?_, fun hm => ?_⟩
  · unfold strconv_Atoi.val told
    rw [itoa_eq n h0 h1]
    simp only [h.1]
  · have := List.all_eq_true.1 h.2 32 hm
    exact absurd this (by decide)
theorem find_l0 (s : ByteArray) : ∀ (d i : Nat), i + d = 8 → ∃ r, Ev (fun k => spec_l12Find.l0 k s (i : Int)) r
  | 0, i, h => ⟨_, ev_now (fun k => by simp only [spec_l12Find.l0]; rw [if_neg (by omega)])⟩
  | d + 1, i, h => by
    have hw : wrap64 ((i : Int) + 1) = ((i + 1 : Nat) : Int) := by unfold wrap64; omega
    have hl := dirs_len
    by_cases hd : (rdOf ByteArray.empty dirs (i : Int)).toList = s.toList
    · refine ⟨(i : Int), ev_now (fun k => ?_)⟩
      simp only [spec_l12Find.l0]
      rw [if_pos (by omega), dirs_s, Option.bind_some, if_pos (by omega), if_pos (by omega), if_pos hd]
    · obtain ⟨r, hr⟩ := find_l0 s d (i + 1) (by omega)
      refine ⟨r, ev_step hr (fun k => ?_)⟩
      simp only [spec_l12Find.l0]
      rw [if_pos (by omega), dirs_s, Option.bind_some, if_pos (by omega), if_pos (by omega), if_neg hd, hw]
theorem find_tot (s : ByteArray) : ∃ r, Ev (fun k => spec_l12Find.f k s) r := find_l0 s 8 0 (by omega)
theorem idx_l0 (s : ByteArray) : ∀ (d i k : Nat), i + d = 8 → d < k → ∃ r, slices_Index_string_string.l0 k dirs s 8 (i : Int) = some r
  | d, i, 0, h, hk => absurd hk (Nat.not_lt_zero _)
  | 0, i, k + 1, h, hk => ⟨-1, by simp only [slices_Index_string_string.l0]; rw [if_neg (by omega)]⟩
  | d + 1, i, k + 1, h, hk => by
    have hw : wrap64 ((i : Int) + 1) = ((i + 1 : Nat) : Int) := by unfold wrap64; omega
    have hl := dirs_len
    simp only [slices_Index_string_string.l0]
    rw [if_pos (by omega), if_pos (by omega), if_pos (by omega)]
    by_cases hd : s.toList = (rdOf ByteArray.empty dirs (i : Int)).toList
    · rw [if_pos hd]; exact ⟨_, rfl⟩
    · rw [if_neg hd, hw]; exact idx_l0 s d (i + 1) k (by omega) (by omega)
theorem idx_tot (s : ByteArray) : ∃ r, slices_Index_string_string.f 20 impl_readLeg.dirs s = some r := idx_l0 s 8 0 20 (by omega) (by omega)
theorem dirs_all : ∀ b : Fin 8, spec_l12Find.f 20 (rdOf ByteArray.empty dirs (b.val : Int)) = some (b.val : Int) ∧ slices_Index_string_string.f 20 impl_readLeg.dirs (rdOf ByteArray.empty dirs (b.val : Int)) = some (b.val : Int) ∧ ((rdOf ByteArray.empty dirs (b.val : Int)).data.toList.all fun x => x != 32) = true := by decide +kernel
theorem dir_of (b : Int) (h0 : 0 ≤ b) (h1 : b ≤ 7) : Ev (fun k => spec_l12Find.f k (rdOf ByteArray.empty dirs b)) b ∧ slices_Index_string_string.f 20 impl_readLeg.dirs (rdOf ByteArray.empty dirs b) = some b ∧ 32 ∉ (rdOf ByteArray.empty dirs b).data.toList := by
  have h := dirs_all ⟨b.toNat, by omega⟩
  have e : (((⟨b.toNat, by omega⟩ : Fin 8).val : Int)) = b := by show (b.toNat : Int) = b; omega
  rw [e] at h
  refine ⟨ev_of_some (fun k => spec_l12Find.mono _ k) h.1, h.2.1, fun hm => ?_⟩
  have := List.all_eq_true.1 h.2.2 32 hm
  exact absurd this (by decide)
/-- What both answer about a leg that was read. -/
def check (s : ByteArray) (l : Int × Int × Int × Int) : Int × Int × Int × Int × Bool :=
  if spec_LegOk.f l.1 l.2.1 l.2.2.1 l.2.2.2 = some true ∧ (text l.1 l.2.1 l.2.2.1 l.2.2.2).toList = s.toList then (l.1, l.2.1, l.2.2.1, l.2.2.2, true) else (0, 0, 0, 0, false)
theorem check_eq (s : ByteArray) (l l' : Int × Int × Int × Int)
    (h1 : spec_LegOk.f l.1 l.2.1 l.2.2.1 l.2.2.2 = some true → (text l.1 l.2.1 l.2.2.1 l.2.2.2).toList = s.toList → l' = l)
    (h2 : spec_LegOk.f l'.1 l'.2.1 l'.2.2.1 l'.2.2.2 = some true → (text l'.1 l'.2.1 l'.2.2.1 l'.2.2.2).toList = s.toList → l' = l) : check s l = check s l' := by
  unfold check
  by_cases hc : spec_LegOk.f l.1 l.2.1 l.2.2.1 l.2.2.2 = some true ∧ (text l.1 l.2.1 l.2.2.1 l.2.2.2).toList = s.toList
  · have := h1 hc.1 hc.2
    subst this
    rfl
  · by_cases hc' : spec_LegOk.f l'.1 l'.2.1 l'.2.2.1 l'.2.2.2 = some true ∧ (text l'.1 l'.2.1 l'.2.2.1 l'.2.2.2).toList = s.toList
    · have := h2 hc'.1 hc'.2
      subst this
      exact absurd hc' hc
    · rw [if_neg hc, if_neg hc']
/-- The program's end: the leg's text is told and held against what was read. -/
theorem end_i (s : ByteArray) (a b c d : Int) : ((impl_LegText.f a b c d).bind fun bt144 => (if bt144.2 = true then (if bt144.1.toList = s.toList then (some (a, b, c, d, true)) else (some (0, 0, 0, 0, false))) else (some (0, 0, 0, 0, false)))) = some (check s (a, b, c, d)) := by
  obtain ⟨o, ho⟩ := legOk_some a b c d
  cases o with
  | true =>
    have e : impl_LegText.f a b c d = some (text a b c d, true) := by
      unfold impl_LegText.f
      rw [legOk_eq, ho, Option.bind_some, if_pos rfl, text_i ho]; rfl
    rw [e, Option.bind_some, if_pos rfl]
    unfold check
    by_cases h : (text a b c d).toList = s.toList
    · rw [if_pos h, if_pos ⟨ho, h⟩]
    · rw [if_neg h, if_neg (fun g => h g.2)]
  | false =>
    have e : impl_LegText.f a b c d = some (⟨#[]⟩, false) := by
      unfold impl_LegText.f
      rw [legOk_eq, ho, Option.bind_some, if_neg (by decide)]
    rw [e, Option.bind_some, if_neg (by decide)]
    unfold check
    rw [if_neg (fun g => by have := ho.symm.trans g.1; cases this)]
theorem end_s (s : ByteArray) (a b c d : Int) : Ev (fun k => (spec_LegText.f k a b c d).bind fun bt144 => (if bt144.2 = true then (if bt144.1.toList = s.toList then (some (a, b, c, d, true)) else (some (0, 0, 0, 0, false))) else (some (0, 0, 0, 0, false)))) (check s (a, b, c, d)) := by
  obtain ⟨r, h1, h2⟩ := LegText_both a b c d
  have he := end_i s a b c d
  rw [h1, Option.bind_some] at he
  exact ev_bind (F := fun k => spec_LegText.f k a b c d) (G := fun k bt144 => (if bt144.2 = true then (if bt144.1.toList = s.toList then (some (a, b, c, d, true)) else (some (0, 0, 0, 0, false))) else (some (0, 0, 0, 0, false)))) (ev_of_some (fun k => spec_LegText.mono _ _ _ _ k) h2) (ev_const he)
/-- The three words of the reference (the lacking ones empty). -/
noncomputable def numS (s : ByteArray) : Int × Bool := if h : s.size ≤ 1000 then Classical.choose (num_tot s h) else (0, false)
theorem numS_ev (s : ByteArray) (h : s.size ≤ 1000) : Ev (fun k => spec_l1Number.f k s) (numS s) := by
  unfold numS; rw [dif_pos h]; exact Classical.choose_spec (num_tot s h)
noncomputable def findS (s : ByteArray) : Int := Classical.choose (find_tot s)
theorem findS_ev (s : ByteArray) : Ev (fun k => spec_l12Find.f k s) (findS s) := Classical.choose_spec (find_tot s)
noncomputable def legS (a b c : ByteArray) : Int × Int × Int × Int :=
  if a.toList = ([116, 111] : List UInt8) then (1, (numS b).1, (numS c).1, 0)
  else if a.toList = ([99, 111, 117, 114, 115, 101] : List UInt8) then (2, findS b, 0, (numS c).1)
  else if a.toList = ([99, 108, 105, 109, 98] : List UInt8) then (3, 0, 0, (numS b).1)
  else if a.toList = ([104, 111, 108, 100] : List UInt8) then (4, 0, 0, (numS b).1)
  else if a.toList = ([116, 117, 114, 110] : List UInt8) then (5, findS b, (if c.toList = ([108, 101, 102, 116] : List UInt8) then -1 else 1), 0)
  else (0, 0, 0, 0)
theorem spec_l0 (s : ByteArray) (W : List ByteArray) (hW : 3 ≤ W.length) (hs : ∀ x ∈ W, x.size ≤ 1000) :
    Ev (fun k => spec_LegRead.l0 k s W) (check s (legS (rdOf ByteArray.empty W 0) (rdOf ByteArray.empty W 1) (rdOf ByteArray.empty W 2))) := by
  have q1 := numS_ev _ (rd_size W 1 1000 hs)
  have q2 := numS_ev _ (rd_size W 2 1000 hs)
  generalize hn1 : numS (rdOf ByteArray.empty W 1) = n1 at q1
  generalize hn2 : numS (rdOf ByteArray.empty W 2) = n2 at q2
  obtain ⟨K1, q1⟩ := q1
  obtain ⟨K2, q2⟩ := q2
  replace q1 : ∀ k, K1 ≤ k → spec_l1Number.f k (rdOf ByteArray.empty W 1) = some n1 := q1
  replace q2 : ∀ k, K2 ≤ k → spec_l1Number.f k (rdOf ByteArray.empty W 2) = some n2 := q2
  have key : ∀ r, Ev (fun k => (if (rdOf ByteArray.empty W 0).toList = ([116, 111] : List UInt8) then ((spec_LegText.f k 1 n1.1 n2.1 0).bind fun bt211 => (if bt211.2 = true then (if bt211.1.toList = s.toList then (some (1, n1.1, n2.1, 0, true)) else (some (0, 0, 0, 0, false))) else (some (0, 0, 0, 0, false)))) else (if (rdOf ByteArray.empty W 0).toList = ([99, 111, 117, 114, 115, 101] : List UInt8) then ((spec_l12Find.f k (rdOf ByteArray.empty W 1)).bind fun t214 => ((spec_LegText.f k 2 t214 0 n2.1).bind fun bt215 => (if bt215.2 = true then (if bt215.1.toList = s.toList then (some (2, t214, 0, n2.1, true)) else (some (0, 0, 0, 0, false))) else (some (0, 0, 0, 0, false))))) else (if (rdOf ByteArray.empty W 0).toList = ([99, 108, 105, 109, 98] : List UInt8) then ((spec_LegText.f k 3 0 0 n1.1).bind fun bt217 => (if bt217.2 = true then (if bt217.1.toList = s.toList then (some (3, 0, 0, n1.1, true)) else (some (0, 0, 0, 0, false))) else (some (0, 0, 0, 0, false)))) else (if (rdOf ByteArray.empty W 0).toList = ([104, 111, 108, 100] : List UInt8) then ((spec_LegText.f k 4 0 0 n1.1).bind fun bt219 => (if bt219.2 = true then (if bt219.1.toList = s.toList then (some (4, 0, 0, n1.1, true)) else (some (0, 0, 0, 0, false))) else (some (0, 0, 0, 0, false)))) else (if (rdOf ByteArray.empty W 0).toList = ([116, 117, 114, 110] : List UInt8) then ((spec_l12Find.f k (rdOf ByteArray.empty W 1)).bind fun t222 => (if (rdOf ByteArray.empty W 2).toList = ([108, 101, 102, 116] : List UInt8) then ((spec_LegText.f k 5 t222 (-1) 0).bind fun bt224 => (if bt224.2 = true then (if bt224.1.toList = s.toList then (some (5, t222, (-1), 0, true)) else (some (0, 0, 0, 0, false))) else (some (0, 0, 0, 0, false)))) else ((spec_LegText.f k 5 t222 1 0).bind fun bt226 => (if bt226.2 = true then (if bt226.1.toList = s.toList then (some (5, t222, 1, 0, true)) else (some (0, 0, 0, 0, false))) else (some (0, 0, 0, 0, false)))))) else ((spec_LegText.f k 0 0 0 0).bind fun bt228 => (if bt228.2 = true then (if bt228.1.toList = s.toList then (some (0, 0, 0, 0, true)) else (some (0, 0, 0, 0, false))) else (some (0, 0, 0, 0, false)))))))))) r → Ev (fun k => spec_LegRead.l0 k s W) r := by
    rintro r ⟨K, h⟩
    refine ⟨K + K1 + K2 + 2, fun k hk => ?_⟩
    obtain ⟨k, rfl⟩ : ∃ m, k = m + 1 := ⟨k - 1, by omega⟩
    simp only [spec_LegRead.l0]
    rw [if_neg (by omega), if_pos (by omega), q1 k (by omega), Option.bind_some, if_pos (by omega), q2 k (by omega), Option.bind_some, if_pos (by omega)]
    obtain ⟨k, rfl⟩ : ∃ m, k = m + 1 := ⟨k - 1, by omega⟩
    have w0 : (0 : Int) < (W.length : Int) := by omega
    have w1 : (1 : Int) < (W.length : Int) := by omega
    have w2 : (2 : Int) < (W.length : Int) := by omega
    simp only [spec_LegRead.j1, beq_iff_eq, if_pos w0, if_pos w1, if_pos w2]
    exact h k (by omega)
  apply key
  unfold legS
  rw [hn1, hn2]
  have hf := findS_ev (rdOf ByteArray.empty W 1)
  by_cases h1 : (rdOf ByteArray.empty W 0).toList = ([116, 111] : List UInt8)
  · rw [if_pos h1]; exact ev_cong (end_s s 1 n1.1 n2.1 0) (fun k => by rw [if_pos h1])
  by_cases h2 : (rdOf ByteArray.empty W 0).toList = ([99, 111, 117, 114, 115, 101] : List UInt8)
  · rw [if_neg h1, if_pos h2]
    refine ev_cong (ev_bind (F := fun k => spec_l12Find.f k (rdOf ByteArray.empty W 1)) (G := fun k t214 => ((spec_LegText.f k 2 t214 0 n2.1).bind fun bt215 => (if bt215.2 = true then (if bt215.1.toList = s.toList then (some (2, t214, 0, n2.1, true)) else (some (0, 0, 0, 0, false))) else (some (0, 0, 0, 0, false))))) hf (end_s s 2 _ 0 n2.1)) (fun k => by rw [if_neg h1, if_pos h2])
  by_cases h3 : (rdOf ByteArray.empty W 0).toList = ([99, 108, 105, 109, 98] : List UInt8)
  · rw [if_neg h1, if_neg h2, if_pos h3]; exact ev_cong (end_s s 3 0 0 n1.1) (fun k => by rw [if_neg h1, if_neg h2, if_pos h3])
  by_cases h4 : (rdOf ByteArray.empty W 0).toList = ([104, 111, 108, 100] : List UInt8)
  · rw [if_neg h1, if_neg h2, if_neg h3, if_pos h4]; exact ev_cong (end_s s 4 0 0 n1.1) (fun k => by rw [if_neg h1, if_neg h2, if_neg h3, if_pos h4])
  by_cases h5 : (rdOf ByteArray.empty W 0).toList = ([116, 117, 114, 110] : List UInt8)
  · rw [if_neg h1, if_neg h2, if_neg h3, if_neg h4, if_pos h5]
    by_cases h6 : (rdOf ByteArray.empty W 2).toList = ([108, 101, 102, 116] : List UInt8)
    · rw [if_pos h6]
      exact ev_cong (ev_bind (F := fun k => spec_l12Find.f k (rdOf ByteArray.empty W 1)) (G := fun k t222 => ((spec_LegText.f k 5 t222 (-1) 0).bind fun bt224 => (if bt224.2 = true then (if bt224.1.toList = s.toList then (some (5, t222, (-1), 0, true)) else (some (0, 0, 0, 0, false))) else (some (0, 0, 0, 0, false))))) hf (end_s s 5 _ (-1) 0)) (fun k => by rw [if_neg h1, if_neg h2, if_neg h3, if_neg h4, if_pos h5]; congr 1; funext t; rw [if_pos h6])
    · rw [if_neg h6]
      exact ev_cong (ev_bind (F := fun k => spec_l12Find.f k (rdOf ByteArray.empty W 1)) (G := fun k t222 => ((spec_LegText.f k 5 t222 1 0).bind fun bt224 => (if bt224.2 = true then (if bt224.1.toList = s.toList then (some (5, t222, 1, 0, true)) else (some (0, 0, 0, 0, false))) else (some (0, 0, 0, 0, false))))) hf (end_s s 5 _ 1 0)) (fun k => by rw [if_neg h1, if_neg h2, if_neg h3, if_neg h4, if_pos h5]; congr 1; funext t; rw [if_neg h6])
  · rw [if_neg h1, if_neg h2, if_neg h3, if_neg h4, if_neg h5]; exact ev_cong (end_s s 0 0 0 0) (fun k => by rw [if_neg h1, if_neg h2, if_neg h3, if_neg h4, if_neg h5])
theorem rd_pad (W : List ByteArray) (i : Int) : rdOf ByteArray.empty (W ++ [(⟨#[]⟩ : ByteArray)]) i = rdOf ByteArray.empty W i := by
  unfold rdOf
  rw [List.getD_eq_getElem?_getD, List.getD_eq_getElem?_getD]
  by_cases h : i.toNat < W.length
  · rw [List.getElem?_append_left h]
  · rw [List.getElem?_append_right (by omega), List.getElem?_eq_none (show W.length ≤ i.toNat by omega)]
    by_cases h2 : i.toNat - W.length = 0
    · rw [h2]; rfl
    · rw [List.getElem?_eq_none (by simp; omega)]
theorem spec_pad (s : ByteArray) : ∀ (d : Nat) (W : List ByteArray), 3 ≤ W.length + d → d ≤ 3 → (∀ x ∈ W, x.size ≤ 1000) → W.length ≤ 1000 →
    Ev (fun k => spec_LegRead.l0 k s W) (check s (legS (rdOf ByteArray.empty W 0) (rdOf ByteArray.empty W 1) (rdOf ByteArray.empty W 2)))
  | 0, W, h, _, hs, _ => spec_l0 s W (by omega) hs
  | d + 1, W, h, hd, hs, hl => by
    by_cases h3 : 3 ≤ W.length
    · exact spec_l0 s W h3 hs
    · have hx := spec_pad s d (W ++ [(⟨#[]⟩ : ByteArray)]) (by simp; omega) (by omega) (by
        intro x hx
        rcases List.mem_append.1 hx with h4 | h4
        · exact hs x h4
        · rw [List.mem_singleton.1 h4]; exact Nat.zero_le _) (by simp; omega)
      rw [rd_pad, rd_pad, rd_pad] at hx
      refine ev_step hx (fun k => ?_)
      simp only [spec_LegRead.l0]
      rw [if_pos (by omega), if_pos (by omega)]
theorem readLeg_tot (W : List ByteArray) (hs : ∀ x ∈ W, x.size ≤ 281474976710656) : ∃ l, impl_readLeg.f W = some l := by
  obtain ⟨i, hi⟩ := idx_tot (impl_readLeg.at_ W 1)
  unfold impl_readLeg.f
  rw [if_pos (List.all_eq_true.2 fun x hx => decide_eq_true (hs x hx)), hi]
  simp only [Option.bind_some]
  repeat' split
  all_goals exact ⟨_, rfl⟩
theorem split_sizes (s : ByteArray) : ∀ (k : Nat) (t : ByteArray), t.size ≤ s.size → ∀ x ∈ Lib.splitB sp 0 k t, x.size ≤ s.size
  | 0, t, ht, x, hx => by rw [Lib.splitB_zero] at hx; rw [List.mem_singleton.1 hx]; exact ht
  | k + 1, t, ht, x, hx => by
    unfold Lib.splitB at hx
    split at hx
    · rw [List.mem_singleton.1 hx]; exact ht
    · rcases List.mem_cons.1 hx with h | h
      · rw [h, ByteArray.size_extract]; omega
      · exact split_sizes s k _ (by rw [ByteArray.size_extract]; omega) x h
/-- The program's reader. -/
theorem impl_read (s : ByteArray) (hs : s.size ≤ 1048576) : ∃ l, impl_readLeg.f (Lib.splitB sp 0 (Lib.countB s sp) s) = some l ∧ impl_LegRead.f s = some (check s l) := by
  obtain ⟨l, hl⟩ := readLeg_tot (Lib.splitB sp 0 (Lib.countB s sp) s) (fun x hx => by have := split_sizes s _ s (Nat.le_refl _) x hx; omega)
  refine ⟨l, hl, ?_⟩
  unfold impl_LegRead.f strings_Split.f
  have e1 : (⟨#[32]⟩ : ByteArray).size = 1 := rfl
  rw [if_pos (by omega), Option.bind_some, show (⟨#[32]⟩ : ByteArray) = sp from rfl, hl, Option.bind_some]
  exact end_i s l.1 l.2.1 l.2.2.1 l.2.2.2
theorem txt1 (b c d : Int) : (text 1 b c d).data.toList = [116, 111] ++ 32 :: (Lib.itoa b ++ 32 :: Lib.itoa c) := by
  unfold text; rw [if_pos rfl]; simp [ByteArray.data_append, told]
theorem txt2 (b c d : Int) : (text 2 b c d).data.toList = [99, 111, 117, 114, 115, 101] ++ 32 :: ((rdOf ByteArray.empty dirs b).data.toList ++ 32 :: Lib.itoa d) := by
  unfold text; rw [if_neg (by decide), if_pos rfl]; simp [ByteArray.data_append, told]
theorem txt3 (b c d : Int) : (text 3 b c d).data.toList = [99, 108, 105, 109, 98] ++ 32 :: Lib.itoa d := by
  unfold text; rw [if_neg (by decide), if_neg (by decide), if_pos rfl]; simp [ByteArray.data_append, told]
theorem txt4 (b c d : Int) : (text 4 b c d).data.toList = [104, 111, 108, 100] ++ 32 :: Lib.itoa d := by
  unfold text; rw [if_neg (by decide), if_neg (by decide), if_neg (by decide), if_pos rfl]; simp [ByteArray.data_append, told]
theorem txt5l (b d : Int) : (text 5 b (-1) d).data.toList = [116, 117, 114, 110] ++ 32 :: ((rdOf ByteArray.empty dirs b).data.toList ++ 32 :: [108, 101, 102, 116]) := by
  unfold text; rw [if_neg (by decide), if_neg (by decide), if_neg (by decide), if_neg (by decide), if_pos (by decide)]; simp [ByteArray.data_append]
theorem txt5r (b d : Int) : (text 5 b 1 d).data.toList = [116, 117, 114, 110] ++ 32 :: ((rdOf ByteArray.empty dirs b).data.toList ++ 32 :: [114, 105, 103, 104, 116]) := by
  unfold text; rw [if_neg (by decide), if_neg (by decide), if_neg (by decide), if_neg (by decide), if_neg (by decide)]; simp [ByteArray.data_append]
theorem bytes_eta (x : ByteArray) : (⟨x.data.toList.toArray⟩ : ByteArray) = x := by apply ByteArray.ext; simp
theorem lst (l : List UInt8) : (⟨l.toArray⟩ : ByteArray).toList = l := by rw [ByteArray.toList_eq]
/-- A right leg in the readers' form: what it does not need is 0. -/
def Norm (l : Int × Int × Int × Int) : Prop := (l.1 = 1 → l.2.2.2 = 0) ∧ (l.1 = 2 → l.2.2.1 = 0) ∧ (l.1 = 3 → l.2.1 = 0 ∧ l.2.2.1 = 0) ∧ (l.1 = 4 → l.2.1 = 0 ∧ l.2.2.1 = 0) ∧ (l.1 = 5 → l.2.2.2 = 0)
theorem readLeg_eq (W : List ByteArray) (hs : ∀ x ∈ W, x.size ≤ 281474976710656) : impl_readLeg.f W =
    (if W.length = 3 ∧ (impl_readLeg.at_ W 0).toList = ([116, 111] : List UInt8) then some (1, impl_readLeg.num W 1, impl_readLeg.num W 2, 0)
    else if W.length = 3 ∧ (impl_readLeg.at_ W 0).toList = ([99, 111, 117, 114, 115, 101] : List UInt8) then (slices_Index_string_string.f 20 impl_readLeg.dirs (impl_readLeg.at_ W 1)).bind fun i => some (2, i, 0, impl_readLeg.num W 2)
    else if W.length = 2 ∧ (impl_readLeg.at_ W 0).toList = ([99, 108, 105, 109, 98] : List UInt8) then some (3, 0, 0, impl_readLeg.num W 1)
    else if W.length = 2 ∧ (impl_readLeg.at_ W 0).toList = ([104, 111, 108, 100] : List UInt8) then some (4, 0, 0, impl_readLeg.num W 1)
    else if W.length = 3 ∧ (impl_readLeg.at_ W 0).toList = ([116, 117, 114, 110] : List UInt8) then
      (if (impl_readLeg.at_ W 2).toList = ([108, 101, 102, 116] : List UInt8) then (slices_Index_string_string.f 20 impl_readLeg.dirs (impl_readLeg.at_ W 1)).bind fun i => some (5, i, -1, 0)
       else (slices_Index_string_string.f 20 impl_readLeg.dirs (impl_readLeg.at_ W 1)).bind fun i => some (5, i, 1, 0))
    else some (0, 0, 0, 0)) := by
  unfold impl_readLeg.f
  rw [if_pos (List.all_eq_true.2 fun x hx => decide_eq_true (hs x hx))]
/-- A right leg in the readers' form comes back from its text by both readers. -/
theorem core (s : ByteArray) (hz : s.size ≤ 1048576) (a b c d : Int) (ho : spec_LegOk.f a b c d = some true) (hn : Norm (a, b, c, d)) (ht : (text a b c d).toList = s.toList) :
    impl_readLeg.f (Lib.splitB sp 0 (Lib.countB s sp) s) = some (a, b, c, d) ∧
    legS (rdOf ByteArray.empty (s.data.toList.foldl stepB [(⟨#[]⟩ : ByteArray)]) 0) (rdOf ByteArray.empty (s.data.toList.foldl stepB [(⟨#[]⟩ : ByteArray)]) 1) (rdOf ByteArray.empty (s.data.toList.foldl stepB [(⟨#[]⟩ : ByteArray)]) 2) = (a, b, c, d) := by
  have hsz : ∀ x ∈ Lib.splitB sp 0 (Lib.countB s sp) s, x.size ≤ 281474976710656 := fun x hx => by have := split_sizes s _ s (Nat.le_refl _) x hx; omega
  rw [readLeg_eq _ hsz, splitB_l]
  clear hsz
  rw [ByteArray.toList_eq, ByteArray.toList_eq] at ht
  rw [← ht]
  clear ht
  have T : ∀ n : Int, -1000 ≤ n → n ≤ 1000 → numS (told n) = (n, true) := fun n h0 h1 => ev_uniq (numS_ev _ (by have := told_len n h0 h1; unfold told at *; rw [siz_b, itoa_eq n h0 h1]; unfold itoaOf digitsOf; split <;> (repeat' split) <;> simp)) (num_of n h0 h1)
  have n1 : 32 ∉ ([116, 111] : List UInt8) := by decide
  have n2 : 32 ∉ ([99, 111, 117, 114, 115, 101] : List UInt8) := by decide
  have n3 : 32 ∉ ([99, 108, 105, 109, 98] : List UInt8) := by decide
  have n4 : 32 ∉ ([104, 111, 108, 100] : List UInt8) := by decide
  have n5 : 32 ∉ ([116, 117, 114, 110] : List UInt8) := by decide
  have n6 : 32 ∉ ([108, 101, 102, 116] : List UInt8) := by decide
  have n7 : 32 ∉ ([114, 105, 103, 104, 116] : List UInt8) := by decide
  rcases legKinds ho with ⟨rfl, h1, h2, h3, h4⟩ | ⟨rfl, h1, h2, h3, h4⟩ | ⟨rfl, h1, h2⟩ | ⟨rfl, h1, h2⟩ | ⟨rfl, h1, h2, h3⟩
  · obtain rfl : d = 0 := hn.1 rfl
    have m1 := atoi_of b (by omega) (by omega)
    have m2 := atoi_of c (by omega) (by omega)
    rw [txt1, words3 _ _ _ n1 m1.2 m2.2, split_hit _ _ n1, split_hit _ _ m1.2, split_none _ m2.2]
    refine ⟨?_, ?_⟩
    · rw [if_pos ⟨rfl, lst _⟩]
      exact congrArg some (by show (1, strconv_Atoi.val (told b), strconv_Atoi.val (told c), (0 : Int)) = _; rw [m1.1, m2.1])
    · show legS (⟨([116, 111] : List UInt8).toArray⟩ : ByteArray) (told b) (told c) = _
      unfold legS
      rw [if_pos (lst _), T b (by omega) (by omega), T c (by omega) (by omega)]
  · obtain rfl : c = 0 := hn.2.1 rfl
    have m1 := dir_of b h1 h2
    have m2 := atoi_of d (by omega) (by omega)
    rw [txt2, words3 _ _ _ n2 m1.2.2 m2.2, split_hit _ _ n2, split_hit _ _ m1.2.2, split_none _ m2.2]
    refine ⟨?_, ?_⟩
    · rw [if_neg (fun g => absurd ((lst _).symm.trans g.2) (by decide)), if_pos ⟨rfl, lst _⟩]
      have e : impl_readLeg.at_ (List.map (fun x => (⟨x.toArray⟩ : ByteArray)) [[99, 111, 117, 114, 115, 101], (rdOf ByteArray.empty dirs b).data.toList, Lib.itoa d]) 1 = rdOf ByteArray.empty dirs b := bytes_eta _
      rw [e, m1.2.1, Option.bind_some]
      exact congrArg some (by show (2, b, (0 : Int), strconv_Atoi.val (told d)) = _; rw [m2.1])
    · show legS (⟨([99, 111, 117, 114, 115, 101] : List UInt8).toArray⟩ : ByteArray) (⟨(rdOf ByteArray.empty dirs b).data.toList.toArray⟩ : ByteArray) (told d) = _
      unfold legS
      rw [if_neg (fun g => absurd ((lst _).symm.trans g) (by decide)), if_pos (lst _), T d (by omega) (by omega), bytes_eta, ev_uniq (findS_ev _) m1.1]
  · obtain ⟨rfl, rfl⟩ := hn.2.2.1 rfl
    have m2 := atoi_of d (by omega) (by omega)
    rw [txt3, words2 _ _ n3 m2.2, split_hit _ _ n3, split_none _ m2.2]
    refine ⟨?_, ?_⟩
    · rw [if_neg (fun g => absurd g.1 (by simp)), if_neg (fun g => absurd g.1 (by simp)), if_pos ⟨rfl, lst _⟩]
      exact congrArg some (by show (3, (0 : Int), (0 : Int), strconv_Atoi.val (told d)) = _; rw [m2.1])
    · show legS (⟨([99, 108, 105, 109, 98] : List UInt8).toArray⟩ : ByteArray) (told d) ByteArray.empty = _
      unfold legS
      rw [if_neg (fun g => absurd ((lst _).symm.trans g) (by decide)), if_neg (fun g => absurd ((lst _).symm.trans g) (by decide)), if_pos (lst _), T d (by omega) (by omega)]
  · obtain ⟨rfl, rfl⟩ := hn.2.2.2.1 rfl
    have m2 := atoi_of d (by omega) (by omega)
    rw [txt4, words2 _ _ n4 m2.2, split_hit _ _ n4, split_none _ m2.2]
    refine ⟨?_, ?_⟩
    · rw [if_neg (fun g => absurd g.1 (by simp)), if_neg (fun g => absurd g.1 (by simp)), if_neg (fun g => absurd ((lst _).symm.trans g.2) (by decide)), if_pos ⟨rfl, lst _⟩]
      exact congrArg some (by show (4, (0 : Int), (0 : Int), strconv_Atoi.val (told d)) = _; rw [m2.1])
    · show legS (⟨([104, 111, 108, 100] : List UInt8).toArray⟩ : ByteArray) (told d) ByteArray.empty = _
      unfold legS
      rw [if_neg (fun g => absurd ((lst _).symm.trans g) (by decide)), if_neg (fun g => absurd ((lst _).symm.trans g) (by decide)), if_neg (fun g => absurd ((lst _).symm.trans g) (by decide)), if_pos (lst _), T d (by omega) (by omega)]
  · obtain rfl : d = 0 := hn.2.2.2.2 rfl
    have m1 := dir_of b h1 h2
    rcases h3 with rfl | rfl
    · rw [txt5l, words3 _ _ _ n5 m1.2.2 n6, split_hit _ _ n5, split_hit _ _ m1.2.2, split_none _ n6]
      have e2 : (impl_readLeg.at_ (List.map (fun x => (⟨x.toArray⟩ : ByteArray)) [[116, 117, 114, 110], (rdOf ByteArray.empty dirs b).data.toList, [108, 101, 102, 116]]) 2).toList = ([108, 101, 102, 116] : List UInt8) := lst _
      refine ⟨?_, ?_⟩
      · rw [if_neg (fun g => absurd ((lst _).symm.trans g.2) (by decide)), if_neg (fun g => absurd ((lst _).symm.trans g.2) (by decide)), if_neg (fun g => absurd g.1 (by simp)), if_neg (fun g => absurd g.1 (by simp)), if_pos ⟨rfl, lst _⟩, if_pos e2]
        have e : impl_readLeg.at_ (List.map (fun x => (⟨x.toArray⟩ : ByteArray)) [[116, 117, 114, 110], (rdOf ByteArray.empty dirs b).data.toList, [108, 101, 102, 116]]) 1 = rdOf ByteArray.empty dirs b := bytes_eta _
        rw [e, m1.2.1, Option.bind_some]
      · show legS (⟨([116, 117, 114, 110] : List UInt8).toArray⟩ : ByteArray) (⟨(rdOf ByteArray.empty dirs b).data.toList.toArray⟩ : ByteArray) (⟨([108, 101, 102, 116] : List UInt8).toArray⟩ : ByteArray) = _
        unfold legS
        rw [if_neg (fun g => absurd ((lst _).symm.trans g) (by decide)), if_neg (fun g => absurd ((lst _).symm.trans g) (by decide)), if_neg (fun g => absurd ((lst _).symm.trans g) (by decide)), if_neg (fun g => absurd ((lst _).symm.trans g) (by decide)), if_pos (lst _), if_pos (lst _), bytes_eta, ev_uniq (findS_ev _) m1.1]
    · rw [txt5r, words3 _ _ _ n5 m1.2.2 n7, split_hit _ _ n5, split_hit _ _ m1.2.2, split_none _ n7]
      have e2 : ¬ (impl_readLeg.at_ (List.map (fun x => (⟨x.toArray⟩ : ByteArray)) [[116, 117, 114, 110], (rdOf ByteArray.empty dirs b).data.toList, [114, 105, 103, 104, 116]]) 2).toList = ([108, 101, 102, 116] : List UInt8) := fun g => absurd ((lst [114, 105, 103, 104, 116]).symm.trans g) (by decide)
      refine ⟨?_, ?_⟩
      · rw [if_neg (fun g => absurd ((lst _).symm.trans g.2) (by decide)), if_neg (fun g => absurd ((lst _).symm.trans g.2) (by decide)), if_neg (fun g => absurd g.1 (by simp)), if_neg (fun g => absurd g.1 (by simp)), if_pos ⟨rfl, lst _⟩, if_neg e2]
        have e : impl_readLeg.at_ (List.map (fun x => (⟨x.toArray⟩ : ByteArray)) [[116, 117, 114, 110], (rdOf ByteArray.empty dirs b).data.toList, [114, 105, 103, 104, 116]]) 1 = rdOf ByteArray.empty dirs b := bytes_eta _
        rw [e, m1.2.1, Option.bind_some]
      · show legS (⟨([116, 117, 114, 110] : List UInt8).toArray⟩ : ByteArray) (⟨(rdOf ByteArray.empty dirs b).data.toList.toArray⟩ : ByteArray) (⟨([114, 105, 103, 104, 116] : List UInt8).toArray⟩ : ByteArray) = _
        unfold legS
        rw [if_neg (fun g => absurd ((lst _).symm.trans g) (by decide)), if_neg (fun g => absurd ((lst _).symm.trans g) (by decide)), if_neg (fun g => absurd ((lst _).symm.trans g) (by decide)), if_neg (fun g => absurd ((lst _).symm.trans g) (by decide)), if_pos (lst _), if_neg (fun g => absurd ((lst _).symm.trans g) (by decide)), bytes_eta, ev_uniq (findS_ev _) m1.1]
theorem norm_S (a b c : ByteArray) : Norm (legS a b c) := by
  unfold legS
  repeat' split
  all_goals simp [Norm]
theorem norm_I (W : List ByteArray) (hs : ∀ x ∈ W, x.size ≤ 281474976710656) (l : Int × Int × Int × Int) (h : impl_readLeg.f W = some l) : Norm l := by
  obtain ⟨i, hi⟩ := idx_tot (impl_readLeg.at_ W 1)
  rw [readLeg_eq W hs, hi] at h
  simp only [Option.bind_some] at h
  repeat' split at h
  all_goals (obtain rfl := Option.some.inj h; simp [Norm])
theorem told_small (n : Int) (h0 : -1000 ≤ n) (h1 : n ≤ 1000) : (told n).size ≤ 5 := by
  unfold told
  rw [siz_b, itoa_eq n h0 h1]
  unfold itoaOf digitsOf
  split <;> (repeat' split) <;> simp
theorem text_small {a b c d : Int} (h : spec_LegOk.f a b c d = some true) : (text a b c d).size ≤ 40 := by
  have s1 : (⟨#[116, 111, 32]⟩ : ByteArray).size = 3 := rfl
  have s2 : (⟨#[32]⟩ : ByteArray).size = 1 := rfl
  have s3 : (⟨#[99, 111, 117, 114, 115, 101, 32]⟩ : ByteArray).size = 7 := rfl
  have s4 : (⟨#[116, 117, 114, 110, 32]⟩ : ByteArray).size = 5 := rfl
  have s5 : (⟨#[99, 108, 105, 109, 98, 32]⟩ : ByteArray).size = 6 := rfl
  have s6 : (⟨#[104, 111, 108, 100, 32]⟩ : ByteArray).size = 5 := rfl
  have s7 : (⟨#[32, 108, 101, 102, 116]⟩ : ByteArray).size = 5 := rfl
  have s8 : (⟨#[32, 114, 105, 103, 104, 116]⟩ : ByteArray).size = 6 := rfl
  unfold text
  rcases legKinds h with ⟨rfl, h1, h2, h3, h4⟩ | ⟨rfl, h1, h2, h3, h4⟩ | ⟨rfl, h1, h2⟩ | ⟨rfl, h1, h2⟩ | ⟨rfl, h1, h2, h3⟩
  · have z1 := told_small b (by omega) (by omega)
    have z2 := told_small c (by omega) (by omega)
    rw [if_pos rfl]
    simp only [ByteArray.size_append]; omega
  · have z1 := told_small d (by omega) (by omega)
    have z2 := dirs_size b
    rw [if_neg (by decide), if_pos rfl]
    simp only [ByteArray.size_append]; omega
  · have z1 := told_small d (by omega) (by omega)
    rw [if_neg (by decide), if_neg (by decide), if_pos rfl]
    simp only [ByteArray.size_append]; omega
  · have z1 := told_small d (by omega) (by omega)
    rw [if_neg (by decide), if_neg (by decide), if_neg (by decide), if_pos rfl]
    simp only [ByteArray.size_append]; omega
  · have z2 := dirs_size b
    rw [if_neg (show ¬ (5 : Int) = 1 by decide), if_neg (show ¬ (5 : Int) = 2 by decide), if_neg (show ¬ (5 : Int) = 3 by decide), if_neg (show ¬ (5 : Int) = 4 by decide)]
    split <;> (simp only [ByteArray.size_append]; omega)
theorem fold_sizes (s : List UInt8) : ∀ (acc : List ByteArray) (n m : Nat), (∀ x ∈ acc, x.size ≤ n) → acc.length ≤ m → (∀ x ∈ s.foldl stepB acc, x.size ≤ n + s.length) ∧ (s.foldl stepB acc).length ≤ m + s.length := by
  induction s with
  | nil => intro acc n m h hl; exact ⟨h, hl⟩
  | cons b s ih =>
    intro acc n m h hl
    rw [List.foldl_cons]
    have := ih (stepB acc b) (n + 1) (m + 1) (by
      unfold stepB; split
      · intro x hx
        rcases List.mem_append.1 hx with h4 | h4
        · have := h x h4; omega
        · rw [List.mem_singleton.1 h4]; exact Nat.zero_le _
      · refine set_sizes acc _ _ (n + 1) (fun y hy => Nat.le_succ_of_le (h y hy)) ?_
        have hr := rd_size acc ((acc.length - 1 : Nat) : Int) n h
        have e1 : (⟨#[b]⟩ : ByteArray).size = 1 := rfl
        rw [ByteArray.size_append]
        omega) (by
      unfold stepB; split
      · simp; omega
      · rw [List.length_set]; omega)
    simp only [List.length_cons]
    exact ⟨fun x hx => by have := this.1 x hx; omega, by omega⟩
theorem fold_len1 (s : List UInt8) : ∀ (acc : List ByteArray), 1 ≤ acc.length → 1 ≤ (s.foldl stepB acc).length := by
  induction s with
  | nil => intro acc h; exact h
  | cons b s ih =>
    intro acc h
    rw [List.foldl_cons]
    refine ih _ ?_
    unfold stepB; split
    · simp
    · rw [List.length_set]; exact h
theorem LegRead_both (s : ByteArray) (hs : s.size ≤ 1048576) : ∃ r, impl_LegRead.f s = some r ∧ Ev (fun k => spec_LegRead.f k s) r := by
  obtain ⟨l, hl, hi⟩ := impl_read s hs
  have hsz : ∀ x ∈ Lib.splitB sp 0 (Lib.countB s sp) s, x.size ≤ 281474976710656 := fun x hx => by have := split_sizes s _ s (Nat.le_refl _) x hx; omega
  have hnl := norm_I _ hsz l hl
  refine ⟨check s l, hi, ?_⟩
  unfold spec_LegRead.f
  by_cases hb : (s.size : Int) > 40
  · have e : check s l = (0, 0, 0, 0, false) := by
      unfold check
      rw [if_neg]
      rintro ⟨g1, g2⟩
      have h3 := text_small g1
      rw [ByteArray.toList_eq, ByteArray.toList_eq] at g2
      have h4 := congrArg List.length g2
      have h5 : (text l.1 l.2.1 l.2.2.1 l.2.2.2).data.toList.length = (text l.1 l.2.1 l.2.2.1 l.2.2.2).size := Array.length_toList
      have h6 : s.data.toList.length = s.size := Array.length_toList
      omega
    rw [e]
    exact ev_cong (ev_const (o := some (0, 0, 0, 0, false)) rfl) (fun k => by rw [if_pos hb])
  · have hW := fold_sizes s.data.toList [(⟨#[]⟩ : ByteArray)] 0 1 (by intro x hx; rw [List.mem_singleton.1 hx]; exact Nat.le_refl _) (by simp)
    have h6 : s.data.toList.length = s.size := Array.length_toList
    have h1 := fold_len1 s.data.toList [(⟨#[]⟩ : ByteArray)] (by simp)
    have hp := spec_pad s 2 (s.data.toList.foldl stepB [(⟨#[]⟩ : ByteArray)]) (by omega) (by omega) (fun x hx => by have := hW.1 x hx; omega) (by omega)
    have hq : check s l = check s (legS (rdOf ByteArray.empty (s.data.toList.foldl stepB [(⟨#[]⟩ : ByteArray)]) 0) (rdOf ByteArray.empty (s.data.toList.foldl stepB [(⟨#[]⟩ : ByteArray)]) 1) (rdOf ByteArray.empty (s.data.toList.foldl stepB [(⟨#[]⟩ : ByteArray)]) 2)) := by
      refine check_eq s l _ (fun g1 g2 => ?_) (fun g1 g2 => ?_)
      · exact (core s hs l.1 l.2.1 l.2.2.1 l.2.2.2 g1 hnl g2).2
      · have := (core s hs _ _ _ _ g1 (norm_S _ _ _) g2).1
        exact Option.some.inj (this.symm.trans hl)
    rw [hq]
    exact ev_cong (ev_bind (F := fun k => spec_l1Words.f k s) (G := fun k t => spec_LegRead.l0 k s t) (words_ev s (by omega)) hp) (fun k => by rw [if_neg hb])
theorem FnExactLegRead : laws_FnExactLegRead.Pure := by
  intro s _
  by_cases hb : (s.size : Int) > 1048576
  · refine ⟨0, ?_⟩
    unfold laws_FnExactLegRead.f
    rw [if_pos hb]
  · obtain ⟨r, h1, K, h2⟩ := LegRead_both s (by omega)
    refine ⟨K, ?_⟩
    have h3 : spec_LegRead.f K s = some r := h2 K (Nat.le_refl _)
    unfold laws_FnExactLegRead.f
    rw [if_neg hb, h3, Option.bind_some, h1, Option.bind_some]
    simp [laws_eqLeg.f]
end Go.Proofs.YtadnhfdodcmlaaaDoor.Pure.FnExactLegRead
namespace Go.Proofs.YtadnhfdodcmlaaaDoor.Pure
theorem FnExactLegRead : Go.Proofs.YtadnhfdodcmlaaaDoor.PFnExactLegRead.laws_FnExactLegRead.Pure := FnExactLegRead.FnExactLegRead
end Go.Proofs.YtadnhfdodcmlaaaDoor.Pure
