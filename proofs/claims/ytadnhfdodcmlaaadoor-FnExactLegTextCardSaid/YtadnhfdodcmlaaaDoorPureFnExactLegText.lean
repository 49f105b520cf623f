/- For every Leg the program's LegText answers what the reference's answers (FnExactLegText returns true); no condition. -/
import Derived.Test.YtadnhfdodcmlaaaDoorAskFnExactLegText
import Derived.Test.YtadnhfdodcmlaaaDoorNum
namespace Go.Proofs.YtadnhfdodcmlaaaDoor.Pure.FnExactLegText
open Go.RowKit Go.Proofs.YtadnhfdodcmlaaaDoor.PFnExactLegText Go.Proofs.YtadnhfdodcmlaaaDoorW.PrintWords Go.Proofs.YtadnhfdodcmlaaaDoorW.PrintLast Go.Proofs.YtadnhfdodcmlaaaDoorW.PrintMore Go.Proofs.YtadnhfdodcmlaaaDoor.Num
set_option linter.unusedVariables false
set_option linter.unusedSimpArgs false
theorem in_s (a b c : Int) : spec_l1In.f a b c = some (decide (b ≤ a) && decide (a ≤ c)) := by
  unfold spec_l1In.f
  by_cases h : a ≥ b
  · rw [if_pos h, decide_eq_true (show b ≤ a from h)]; rfl
  · rw [if_neg h, decide_eq_false (show ¬ b ≤ a from h)]; rfl
theorem dd_len (u : Nat) : (Lib.decDigits u).length ≤ u + 1 := by
  induction u using Nat.strongRecOn with
  | _ u ih =>
    rw [Lib.decDigits]
    by_cases h : u < 10
    · rw [dif_pos h]; simp
    · rw [dif_neg h, List.length_append]
      have := ih (u / 10) (by omega)
      simp only [List.length_cons, List.length_nil]
      omega
theorem app_b (a b : List UInt8) : ((⟨a.toArray⟩ : ByteArray) ++ (⟨b.toArray⟩ : ByteArray)) = ⟨(a ++ b).toArray⟩ := by
  apply ByteArray.ext
  simp [ByteArray.data_append]
theorem siz_b (a : List UInt8) : (⟨a.toArray⟩ : ByteArray).size = a.length := by simp [ByteArray.size]
/-- The reference's decimal text is the library's. -/
theorem told_n : ∀ (u : Nat), u ≤ 1000000 → ∀ k : Nat, u < k → spec_l1Told.f k (u : Int) = some ⟨(Lib.decDigits u).toArray⟩ := by
  intro u
  induction u using Nat.strongRecOn with
  | _ u ih =>
    intro hu k hk
    obtain ⟨k, rfl⟩ : ∃ m, k = m + 1 := ⟨k - 1, by omega⟩
    rw [Lib.decDigits]
    simp only [spec_l1Told.f]
    rw [if_neg (by omega)]
    by_cases h : u < 10
    · rw [if_pos (by omega), dif_pos h]
      have hw : wrap64 (48 + (u : Int)) % 256 = ((48 + u : Nat) : Int) := by unfold wrap64; omega
      rw [hw]
      rfl
    · rw [if_neg (by omega), dif_neg h]
      have hd : wrap64 (Int.tdiv (u : Int) 10) = ((u / 10 : Nat) : Int) := by
        rw [Int.tdiv_eq_ediv_of_nonneg (by omega)]
        unfold wrap64; omega
      have hm : Int.tmod (u : Int) 10 = ((u % 10 : Nat) : Int) := by
        rw [Int.tmod_eq_emod_of_nonneg (by omega)]; omega
      rw [hd, hm, ih (u / 10) (by omega) (by omega) k (by omega), Option.bind_some, ih (u % 10) (by omega) (by omega) k (by omega), Option.bind_some]
      have h1 := dd_len (u / 10)
      have h2 := dd_len (u % 10)
      rw [siz_b, siz_b, if_pos (by omega), app_b]
      rw [show Lib.decDigits (u % 10) = [UInt8.ofNat (48 + u % 10)] by rw [Lib.decDigits, dif_pos (by omega)]]
theorem told_k (k : Nat) (hk : 1001 ≤ k) (n : Int) (h0 : -1000 ≤ n) (h1 : n ≤ 1000) : spec_l1Told.f (k + 1) n = some ⟨(Lib.itoa n).toArray⟩ := by
  unfold Lib.itoa
  by_cases h : n < 0
  · rw [if_pos h]
    simp only [spec_l1Told.f]
    rw [if_pos h]
    have hw : wrap64 (-n) = ((n.natAbs : Nat) : Int) := by unfold wrap64; omega
    rw [hw, told_n n.natAbs (by omega) k (by omega), Option.bind_some]
    have h1 := dd_len n.natAbs
    rw [siz_b, if_pos (by omega)]
    exact congrArg some (app_b [45] _)
  · rw [if_neg h]
    have := told_n n.toNat (by omega) (k + 1) (by omega)
    rw [← this]; congr 1; omega
theorem told_i (n : Int) (h0 : -1000 ≤ n) (h1 : n ≤ 1000) : spec_l1Told.f 1005 n = some ⟨(Lib.itoa n).toArray⟩ := told_k 1004 (by omega) n h0 h1
theorem itoa_s (n : Int) (h0 : -1000 ≤ n) (h1 : n ≤ 1000) : strconv_Itoa.f n = some ⟨(Lib.itoa n).toArray⟩ := by
  unfold strconv_Itoa.f
  rw [if_pos (by omega)]
theorem itoa_len (n : Int) (h0 : -1000 ≤ n) (h1 : n ≤ 1000) : (⟨(Lib.itoa n).toArray⟩ : ByteArray).size ≤ 1002 := by
  rw [siz_b]
  unfold Lib.itoa
  by_cases h : n < 0
  · rw [if_pos h]; have := dd_len n.natAbs; simp only [List.length_cons]; omega
  · rw [if_neg h]; have := dd_len n.toNat; omega
theorem legOk_eq (a b c d : Int) : impl_LegOk.f a b c d = spec_LegOk.f a b c d := by
  have hi : ∀ x : Int, impl_isDir.f x = spec_l1In.f x 0 7 := by
    intro x
    have h : impl_in.f x 0 7 = spec_l1In.f x 0 7 := rfl
    unfold impl_isDir.f
    rw [h, in_s]; rfl
  have h : impl_in.f = spec_l1In.f := rfl
  unfold impl_LegOk.f spec_LegOk.f
  rw [hi, h]
theorem legOk_some (a b c d : Int) : ∃ r, spec_LegOk.f a b c d = some r := by
  simp only [spec_LegOk.f, in_s, Option.bind_some, ites]
  repeat' split
  all_goals exact ⟨_, rfl⟩
theorem legKinds {a b c d : Int} (h : spec_LegOk.f a b c d = some true) :
    (a = 1 ∧ -500 ≤ b ∧ b ≤ 500 ∧ -500 ≤ c ∧ c ≤ 500) ∨ (a = 2 ∧ 0 ≤ b ∧ b ≤ 7 ∧ 1 ≤ d ∧ d ≤ 500) ∨ (a = 3 ∧ 0 ≤ d ∧ d ≤ 1000) ∨ (a = 4 ∧ 1 ≤ d ∧ d ≤ 9) ∨ (a = 5 ∧ 0 ≤ b ∧ b ≤ 7 ∧ (c = -1 ∨ c = 1)) := by
  simp only [spec_LegOk.f, in_s, Option.bind_some, ites] at h
  by_cases h1 : a = 1
  · subst h1; simp at h; omega
  by_cases h2 : a = 2
  · subst h2; simp at h; omega
  by_cases h3 : a = 3
  · subst h3; simp at h; omega
  by_cases h4 : a = 4
  · subst h4; simp at h; omega
  by_cases h5 : a = 5
  · subst h5
    by_cases hc : c = -1
    · subst hc; simp at h; omega
    · by_cases hb : 0 ≤ b ∧ b ≤ 7
      · simp [hc, hb] at h; omega
      · rw [if_neg (by decide), if_neg (by decide), if_neg (by decide), if_neg (by decide), if_pos rfl, if_neg (by simp; omega)] at h
        exact absurd h (by simp)
  simp [h1, h2, h3, h4, h5] at h
def dirs : List ByteArray := [(⟨#[110]⟩ : ByteArray), (⟨#[110, 101]⟩ : ByteArray), (⟨#[101]⟩ : ByteArray), (⟨#[115, 101]⟩ : ByteArray), (⟨#[115]⟩ : ByteArray), (⟨#[115, 119]⟩ : ByteArray), (⟨#[119]⟩ : ByteArray), (⟨#[110, 119]⟩ : ByteArray)]
theorem dirs_i : impl_dirNames.f = some dirs := rfl
theorem dirs_s : spec_l12Dirs.f = some dirs := rfl
theorem dirs_len : dirs.length = 8 := rfl
theorem dirs_size (b : Int) : (rdOf ByteArray.empty dirs b).size ≤ 2 := by
  unfold rdOf
  generalize b.toNat = m
  match m with
  | 0 => decide
  | 1 => decide
  | 2 => decide
  | 3 => decide
  | 4 => decide
  | 5 => decide
  | 6 => decide
  | 7 => decide
  | m + 8 => simp [dirs]
/-- The text of a right leg. -/
def told (n : Int) : ByteArray := ⟨(Lib.itoa n).toArray⟩
def text (a b c d : Int) : ByteArray :=
  if a = 1 then (((⟨#[116, 111, 32]⟩ : ByteArray) ++ told b) ++ (⟨#[32]⟩ : ByteArray)) ++ told c
  else if a = 2 then (((⟨#[99, 111, 117, 114, 115, 101, 32]⟩ : ByteArray) ++ (rdOf ByteArray.empty dirs b)) ++ (⟨#[32]⟩ : ByteArray)) ++ told d
  else if a = 3 then (⟨#[99, 108, 105, 109, 98, 32]⟩ : ByteArray) ++ told d
  else if a = 4 then (⟨#[104, 111, 108, 100, 32]⟩ : ByteArray) ++ told d
  else if c < 0 then ((⟨#[116, 117, 114, 110, 32]⟩ : ByteArray) ++ (rdOf ByteArray.empty dirs b)) ++ (⟨#[32, 108, 101, 102, 116]⟩ : ByteArray)
  else ((⟨#[116, 117, 114, 110, 32]⟩ : ByteArray) ++ (rdOf ByteArray.empty dirs b)) ++ (⟨#[32, 114, 105, 103, 104, 116]⟩ : ByteArray)
theorem told_len (n : Int) (h0 : -1000 ≤ n) (h1 : n ≤ 1000) : (told n).size ≤ 1002 := itoa_len n h0 h1
theorem told_s (n : Int) (h0 : -1000 ≤ n) (h1 : n ≤ 1000) : spec_l1Told.f 1005 n = some (told n) := told_i n h0 h1
theorem told_p (n : Int) (h0 : -1000 ≤ n) (h1 : n ≤ 1000) : strconv_Itoa.f n = some (told n) := itoa_s n h0 h1
theorem text_i {a b c d : Int} (h : spec_LegOk.f a b c d = some true) : impl_legText.f a b c d = some (text a b c d) := by
  unfold text
  have s1 : (⟨#[116, 111, 32]⟩ : ByteArray).size = 3 := rfl
  have s2 : (⟨#[32]⟩ : ByteArray).size = 1 := rfl
  have s3 : (⟨#[99, 111, 117, 114, 115, 101, 32]⟩ : ByteArray).size = 7 := rfl
  have s4 : (⟨#[116, 117, 114, 110, 32]⟩ : ByteArray).size = 5 := rfl
  have hl := dirs_len
  unfold impl_legText.f
  rcases legKinds h with ⟨rfl, h1, h2, h3, h4⟩ | ⟨rfl, h1, h2, h3, h4⟩ | ⟨rfl, h1, h2⟩ | ⟨rfl, h1, h2⟩ | ⟨rfl, h1, h2, h3⟩
  · have z1 := told_len b (by omega) (by omega)
    have z2 := told_len c (by omega) (by omega)
    rw [if_pos rfl, if_pos rfl, told_p b (by omega) (by omega), Option.bind_some, if_pos (by omega), if_pos (by rw [ByteArray.size_append]; omega), told_p c (by omega) (by omega), Option.bind_some, if_pos (by simp only [ByteArray.size_append]; omega)]
  · have z1 := told_len d (by omega) (by omega)
    have z2 := dirs_size b
    rw [if_neg (by decide), if_pos rfl, if_neg (by decide), if_pos rfl, dirs_i, Option.bind_some, if_pos (by omega), if_pos (by omega), if_pos (by omega), if_pos (by rw [ByteArray.size_append]; omega), told_p d (by omega) (by omega), Option.bind_some, if_pos (by simp only [ByteArray.size_append]; omega)]
  · have z1 := told_len d (by omega) (by omega)
    rw [if_neg (by decide), if_neg (by decide), if_pos rfl, if_neg (by decide), if_neg (by decide), if_pos rfl, told_p d (by omega) (by omega), Option.bind_some, if_pos (by omega)]
  · have z1 := told_len d (by omega) (by omega)
    rw [if_neg (by decide), if_neg (by decide), if_neg (by decide), if_pos rfl, if_neg (by decide), if_neg (by decide), if_neg (by decide), if_pos rfl, told_p d (by omega) (by omega), Option.bind_some, if_pos (by omega)]
  · have z2 := dirs_size b
    rw [if_neg (show ¬ (5 : Int) = 1 by decide), if_neg (show ¬ (5 : Int) = 1 by decide), if_neg (show ¬ (5 : Int) = 2 by decide), if_neg (show ¬ (5 : Int) = 2 by decide), if_neg (show ¬ (5 : Int) = 3 by decide), if_neg (show ¬ (5 : Int) = 3 by decide), if_neg (show ¬ (5 : Int) = 4 by decide), if_neg (show ¬ (5 : Int) = 4 by decide)]
    by_cases hc : c < 0
    · rw [if_pos hc, if_pos hc, dirs_i, Option.bind_some, if_pos (by omega), if_pos (by omega), if_pos (by omega), if_pos (by rw [ByteArray.size_append]; omega)]
    · rw [if_neg hc, if_neg hc, dirs_i, Option.bind_some, if_pos (by omega), if_pos (by omega), if_pos (by omega), if_pos (by rw [ByteArray.size_append]; omega)]
theorem text_s {a b c d : Int} (h : spec_LegOk.f a b c d = some true) : spec_LegText.f 1005 a b c d = some (text a b c d, true) := by
  unfold text
  have s1 : (⟨#[116, 111, 32]⟩ : ByteArray).size = 3 := rfl
  have s2 : (⟨#[32]⟩ : ByteArray).size = 1 := rfl
  have s3 : (⟨#[99, 111, 117, 114, 115, 101, 32]⟩ : ByteArray).size = 7 := rfl
  have s4 : (⟨#[116, 117, 114, 110, 32]⟩ : ByteArray).size = 5 := rfl
  have hl := dirs_len
  unfold spec_LegText.f
  rw [h, Option.bind_some, if_pos rfl]
  rcases legKinds h with ⟨rfl, h1, h2, h3, h4⟩ | ⟨rfl, h1, h2, h3, h4⟩ | ⟨rfl, h1, h2⟩ | ⟨rfl, h1, h2⟩ | ⟨rfl, h1, h2, h3⟩
  · have z1 := told_len b (by omega) (by omega)
    have z2 := told_len c (by omega) (by omega)
    rw [if_pos rfl, if_pos rfl, told_s b (by omega) (by omega), Option.bind_some, if_pos (by omega), if_pos (by rw [ByteArray.size_append]; omega), told_s c (by omega) (by omega), Option.bind_some, if_pos (by simp only [ByteArray.size_append]; omega)]
  · have z1 := told_len d (by omega) (by omega)
    have z2 := dirs_size b
    rw [if_neg (by decide), if_pos rfl, if_neg (by decide), if_pos rfl, dirs_s, Option.bind_some, if_pos (by omega), if_pos (by omega), if_pos (by omega), if_pos (by rw [ByteArray.size_append]; omega), told_s d (by omega) (by omega), Option.bind_some, if_pos (by simp only [ByteArray.size_append]; omega)]
  · have z1 := told_len d (by omega) (by omega)
    rw [if_neg (by decide), if_neg (by decide), if_pos rfl, if_neg (by decide), if_neg (by decide), if_pos rfl, told_s d (by omega) (by omega), Option.bind_some, if_pos (by omega)]
  · have z1 := told_len d (by omega) (by omega)
    rw [if_neg (by decide), if_neg (by decide), if_neg (by decide), if_pos rfl, if_neg (by decide), if_neg (by decide), if_neg (by decide), if_pos rfl, told_s d (by omega) (by omega), Option.bind_some, if_pos (by omega)]
  · have z2 := dirs_size b
    rw [if_neg (show ¬ (5 : Int) = 1 by decide), if_neg (show ¬ (5 : Int) = 1 by decide), if_neg (show ¬ (5 : Int) = 2 by decide), if_neg (show ¬ (5 : Int) = 2 by decide), if_neg (show ¬ (5 : Int) = 3 by decide), if_neg (show ¬ (5 : Int) = 3 by decide), if_neg (show ¬ (5 : Int) = 4 by decide), if_neg (show ¬ (5 : Int) = 4 by decide)]
    by_cases hc : c < 0
    · rw [if_pos hc, if_pos hc, dirs_s, Option.bind_some, if_pos (by omega), if_pos (by omega), if_pos (by omega), if_pos (by rw [ByteArray.size_append]; omega)]
    · rw [if_neg hc, if_neg hc, dirs_s, Option.bind_some, if_pos (by omega), if_pos (by omega), if_pos (by omega), if_pos (by rw [ByteArray.size_append]; omega)]
/-- LegText as the program and as the reference have it. -/
theorem LegText_both (a b c d : Int) : ∃ r, impl_LegText.f a b c d = some r ∧ spec_LegText.f 1005 a b c d = some r := by
  obtain ⟨o, ho⟩ := legOk_some a b c d
  cases o with
  | true =>
    refine ⟨(text a b c d, true), ?_, text_s ho⟩
    unfold impl_LegText.f
    rw [legOk_eq, ho, Option.bind_some, if_pos rfl, text_i ho]; rfl
  | false =>
    refine ⟨(⟨#[]⟩, false), ?_, ?_⟩
    · unfold impl_LegText.f
      rw [legOk_eq, ho, Option.bind_some, if_neg (by decide)]
    · unfold spec_LegText.f
      rw [ho, Option.bind_some, if_neg (by decide)]
theorem FnExactLegText : laws_FnExactLegText.Pure := by
  intro a b c d _ _ _ _
  refine ⟨1005, ?_⟩
  obtain ⟨r, h1, h2⟩ := LegText_both a b c d
  unfold laws_FnExactLegText.f
  simp [laws_toLeg.f, h1, h2]
end Go.Proofs.YtadnhfdodcmlaaaDoor.Pure.FnExactLegText
namespace Go.Proofs.YtadnhfdodcmlaaaDoor.Pure
theorem FnExactLegText : Go.Proofs.YtadnhfdodcmlaaaDoor.PFnExactLegText.laws_FnExactLegText.Pure := FnExactLegText.FnExactLegText
end Go.Proofs.YtadnhfdodcmlaaaDoor.Pure
