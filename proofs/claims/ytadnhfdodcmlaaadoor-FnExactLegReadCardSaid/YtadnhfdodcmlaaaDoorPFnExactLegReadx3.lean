/- Walks of the functions named below, by a program of the session over the kit's printer. -/
import Derived.Test.YtadnhfdodcmlaaaDoorPFnExactLegReadx0
namespace Go.Proofs.YtadnhfdodcmlaaaDoor.PFnExactLegRead
open Go.RowKit Go.Proofs.YtadnhfdodcmlaaaDoorW.PrintWords Go.Proofs.YtadnhfdodcmlaaaDoorW.PrintLast Go.Proofs.YtadnhfdodcmlaaaDoorW.PrintMore
attribute [local go_sem] max2_int min2_int max_two min_two max_three min_three max_four min_four   -- for this text's walks alone
set_option linter.unusedVariables false
set_option linter.unusedSimpArgs false

/-! ### strconv_Atoi: function 40, by hand -/
def strconv_Atoi.ren : Go.Shelf.Ren := ⟨fun | 172 => 40 | 244 => 48 | 245 => 49 | 247 => 56 | 279 => 57 | 280 => 58 | 281 => 59 | 282 => 60 | 287 => 69 | 316 => 70 | 171 => 37 | 205 => 71 | 321 => 82 | 322 => 83 | 243 => 47 | 246 => 55 | 283 => 65 | 284 => 66 | 285 => 67 | 286 => 68 | 129 => 78 | 317 => 77 | 318 => 79 | 319 => 80 | 320 => 81 | 337 => 86 | 338 => 87 | n => n, fun | 9 => 9 | 3 => 3 | 75 => 71 | 76 => 72 | 4 => 4 | 5 => 5 | 167 => 87 | 37 => 22 | 0 => 0 | 85 => 88 | 2 => 2 | 168 => 90 | 53 => 99 | 175 => 104 | 46 => 79 | 210 => 108 | 127 => 116 | 145 => 119 | 143 => 117 | 21 => 21 | 171 => 98 | 173 => 102 | 212 => 111 | 51 => 112 | 20 => 20 | 213 => 113 | 232 => 127 | 233 => 128 | 80 => 129 | n => n, fun | 15 => 0 | 16 => 1 | 17 => 3 | 18 => 6 | 19 => 7 | n => n⟩
theorem strconv_Atoi.lays : LaysC.n172 Tryd.prog strconv_Atoi.ren := {
  mixed := by kernel_rfl,
  f129 := Tryd.func78.trans (congrArg some (by kernel_rfl)),
  f171 := Tryd.func37.trans (congrArg some (by kernel_rfl)),
  f172 := Tryd.func40.trans (congrArg some (by kernel_rfl)),
  f205 := Tryd.func71.trans (congrArg some (by kernel_rfl)),
  f243 := Tryd.func47.trans (congrArg some (by kernel_rfl)),
  f244 := Tryd.func48.trans (congrArg some (by kernel_rfl)),
  f245 := Tryd.func49.trans (congrArg some (by kernel_rfl)),
  f246 := Tryd.func55.trans (congrArg some (by kernel_rfl)),
  f247 := Tryd.func56.trans (congrArg some (by kernel_rfl)),
  f279 := Tryd.func57.trans (congrArg some (by kernel_rfl)),
  f280 := Tryd.func58.trans (congrArg some (by kernel_rfl)),
  f281 := Tryd.func59.trans (congrArg some (by kernel_rfl)),
  f282 := Tryd.func60.trans (congrArg some (by kernel_rfl)),
  f283 := Tryd.func65.trans (congrArg some (by kernel_rfl)),
  f284 := Tryd.func66.trans (congrArg some (by kernel_rfl)),
  f285 := Tryd.func67.trans (congrArg some (by kernel_rfl)),
  f286 := Tryd.func68.trans (congrArg some (by kernel_rfl)),
  f287 := Tryd.func69.trans (congrArg some (by kernel_rfl)),
  f316 := Tryd.func70.trans (congrArg some (by kernel_rfl)),
  f317 := Tryd.func77.trans (congrArg some (by kernel_rfl)),
  f318 := Tryd.func79.trans (congrArg some (by kernel_rfl)),
  f319 := Tryd.func80.trans (congrArg some (by kernel_rfl)),
  f320 := Tryd.func81.trans (congrArg some (by kernel_rfl)),
  f321 := Tryd.func82.trans (congrArg some (by kernel_rfl)),
  f322 := Tryd.func83.trans (congrArg some (by kernel_rfl)),
  f337 := Tryd.func86.trans (congrArg some (by kernel_rfl)),
  f338 := Tryd.func87.trans (congrArg some (by kernel_rfl)),
  t0 := Tryd.underlying0,
  a0 := Tryd.isAgg0,
  z0 := Tryd.sizeOf0,
  v0 := Tryd.zeroValue0,
  t2 := Tryd.underlying2,
  a2 := Tryd.isAgg2,
  z2 := Tryd.sizeOf2,
  v2 := Tryd.zeroValue2,
  t3 := Tryd.underlying3,
  a3 := Tryd.isAgg3,
  z3 := Tryd.sizeOf3,
  v3 := Tryd.zeroValue3,
  t4 := Tryd.underlying4,
  a4 := Tryd.isAgg4,
  z4 := Tryd.sizeOf4,
  v4 := Tryd.zeroValue4,
  t5 := Tryd.underlying5,
  a5 := Tryd.isAgg5,
  z5 := Tryd.sizeOf5,
  v5 := Tryd.zeroValue5,
  t9 := Tryd.underlying9,
  a9 := Tryd.isAgg9,
  z9 := Tryd.sizeOf9,
  v9 := Tryd.zeroValue9,
  t20 := Tryd.underlying20,
  a20 := Tryd.isAgg20,
  z20 := Tryd.sizeOf20,
  v20 := Tryd.zeroValue20,
  t21 := Tryd.underlying21,
  a21 := Tryd.isAgg21,
  z21 := Tryd.sizeOf21,
  v21 := Tryd.zeroValue21,
  t37 := Tryd.underlying22,
  a37 := Tryd.isAgg22,
  z37 := Tryd.sizeOf22,
  v37 := Tryd.zeroValue22,
  t46 := Tryd.underlying79,
  a46 := Tryd.isAgg79,
  z46 := Tryd.sizeOf79,
  v46 := Tryd.zeroValue79,
  t51 := Tryd.underlying112,
  a51 := Tryd.isAgg112,
  z51 := Tryd.sizeOf112,
  v51 := Tryd.zeroValue112,
  t53 := Tryd.underlying99,
  a53 := Tryd.isAgg99,
  z53 := Tryd.sizeOf99,
  v53 := Tryd.zeroValue99,
  t75 := Tryd.underlying71,
  a75 := Tryd.isAgg71,
  z75 := Tryd.sizeOf71,
  v75 := Tryd.zeroValue71,
  t76 := Tryd.underlying72,
  a76 := Tryd.isAgg72,
  z76 := Tryd.sizeOf72,
  v76 := Tryd.zeroValue72,
  t85 := Tryd.underlying88,
  a85 := Tryd.isAgg88,
  z85 := Tryd.sizeOf88,
  v85 := Tryd.zeroValue88,
  t127 := Tryd.underlying116,
  a127 := Tryd.isAgg116,
  z127 := Tryd.sizeOf116,
  v127 := Tryd.zeroValue116,
  t143 := Tryd.underlying117,
  a143 := Tryd.isAgg117,
  z143 := Tryd.sizeOf117,
  v143 := Tryd.zeroValue117,
  t145 := Tryd.underlying119,
  a145 := Tryd.isAgg119,
  z145 := Tryd.sizeOf119,
  v145 := Tryd.zeroValue119,
  t167 := Tryd.underlying87,
  a167 := Tryd.isAgg87,
  z167 := Tryd.sizeOf87,
  v167 := Tryd.zeroValue87,
  t168 := Tryd.underlying90,
  a168 := Tryd.isAgg90,
  z168 := Tryd.sizeOf90,
  v168 := Tryd.zeroValue90,
  t171 := Tryd.underlying98,
  a171 := Tryd.isAgg98,
  z171 := Tryd.sizeOf98,
  v171 := Tryd.zeroValue98,
  t173 := Tryd.underlying102,
  a173 := Tryd.isAgg102,
  z173 := Tryd.sizeOf102,
  v173 := Tryd.zeroValue102,
  t175 := Tryd.underlying104,
  a175 := Tryd.isAgg104,
  z175 := Tryd.sizeOf104,
  v175 := Tryd.zeroValue104,
  t210 := Tryd.underlying108,
  a210 := Tryd.isAgg108,
  z210 := Tryd.sizeOf108,
  v210 := Tryd.zeroValue108,
  t212 := Tryd.underlying111,
  a212 := Tryd.isAgg111,
  z212 := Tryd.sizeOf111,
  v212 := Tryd.zeroValue111,
  t213 := Tryd.underlying113,
  a213 := Tryd.isAgg113,
  z213 := Tryd.sizeOf113,
  t232 := Tryd.underlying127,
  a232 := Tryd.isAgg127,
  z232 := Tryd.sizeOf127,
  v232 := Tryd.zeroValue127,
  t233 := Tryd.underlying128,
  a233 := Tryd.isAgg128,
  z233 := Tryd.sizeOf128,
  v233 := Tryd.zeroValue128,
  g15 := by kernel_rfl,
  g16 := by kernel_rfl,
  g17 := by kernel_rfl,
  g18 := by kernel_rfl,
  g19 := by kernel_rfl,
  t80 := Tryd.underlying129,
  a80 := Tryd.isAgg129,
  z80 := Tryd.sizeOf129,
  v80 := Tryd.zeroValue129,
  i0 := by kernel_rfl,
  i2 := by kernel_rfl,
  i3 := by kernel_rfl,
  i4 := by kernel_rfl,
  i5 := by kernel_rfl,
  i9 := by kernel_rfl,
  i20 := by kernel_rfl,
  i21 := by kernel_rfl,
  i37 := by kernel_rfl,
  i46 := by kernel_rfl,
  i51 := by kernel_rfl,
  i53 := by kernel_rfl,
  i75 := by kernel_rfl,
  i76 := by kernel_rfl,
  i80 := by kernel_rfl,
  i85 := by kernel_rfl,
  i127 := by kernel_rfl,
  i143 := by kernel_rfl,
  i145 := by kernel_rfl,
  i167 := by kernel_rfl,
  i168 := by kernel_rfl,
  i171 := by kernel_rfl,
  i173 := by kernel_rfl,
  i175 := by kernel_rfl,
  i210 := by kernel_rfl,
  i212 := by kernel_rfl,
  i232 := by kernel_rfl,
  i233 := by kernel_rfl,
  m15 := by kernel_rfl,
  m16 := by kernel_rfl,
  m17 := by kernel_rfl,
  m18 := by kernel_rfl,
  m19 := by kernel_rfl,
  c0 := by kernel_rfl,
  c2 := by kernel_rfl,
  c3 := by kernel_rfl,
  c4 := by kernel_rfl,
  c5 := by kernel_rfl,
  c9 := by kernel_rfl,
  c20 := by kernel_rfl,
  c21 := by kernel_rfl,
  c37 := by kernel_rfl,
  c46 := by kernel_rfl,
  c51 := by kernel_rfl,
  c53 := by kernel_rfl,
  c75 := by kernel_rfl,
  c76 := by kernel_rfl,
  c80 := by kernel_rfl,
  c85 := by kernel_rfl,
  c127 := by kernel_rfl,
  c143 := by kernel_rfl,
  c145 := by kernel_rfl,
  c167 := by kernel_rfl,
  c168 := by kernel_rfl,
  c171 := by kernel_rfl,
  c173 := by kernel_rfl,
  c175 := by kernel_rfl,
  c210 := by kernel_rfl,
  c212 := by kernel_rfl,
  c213 := by kernel_rfl,
  c232 := by kernel_rfl,
  c233 := by kernel_rfl }
/-- The number that Atoi returns beside its error. -/
def strconv_Atoi.val (a0 : ByteArray) : Int := match Lib.atoiAll a0.data.toList with
  | .ok v => v
  | .range => Lib.atoiSat a0.data.toList
  | _ => 0
theorem strconv_Atoi.calls (a0 : ByteArray) (w : World) (hs : a0.size ≤ 281474976710656) (htab_ : Ground w) :
    Calls Tryd.prog 40 #[.string a0] w fun e w' => (∃ ev : Value, e = .returned (.tuple #[.int .i64 (strconv_Atoi.val a0), ev])) ∧ Below w.heap.size w w' := by
  obtain ⟨_, _, ⟨t, p, h3⟩, ⟨t', p', h4⟩⟩ := htab_
  unfold strconv_Atoi.val
  rcases h : Lib.atoiAll a0.data.toList with v | _ | _
  · refine (Any.strconv_Atoi_ok strconv_Atoi.lays a0 (by omega) v h w).mono ?_
    rintro e w' ⟨rfl, rfl | ⟨s, rfl⟩⟩
    · exact ⟨⟨_, rfl⟩, Below.refl _ _⟩
    · exact ⟨⟨_, rfl⟩, Lib.bytesWorld_below _ _ _⟩
  · refine (Any.strconv_Atoi_syntax strconv_Atoi.lays a0 hs h (.iface t p) w h3 (Or.inr ⟨t, p, rfl⟩)).mono ?_
    rintro e w' ⟨N, rfl, _, _, hb⟩
    exact ⟨⟨_, rfl⟩, hb⟩
  · refine (Any.strconv_Atoi_range strconv_Atoi.lays a0 hs h (.iface t' p') w h4 (Or.inr ⟨t', p', rfl⟩)).mono ?_
    rintro e w' ⟨N, rfl, _, _, hb⟩
    exact ⟨⟨_, rfl⟩, hb⟩

/-! ### slices_Index_string_string: function 41 -/
def slices_Index_string_string.l0 : Nat → List ByteArray → ByteArray → Int → Int → Option (Int)
  | 0, _, _, _, _ => none
  | k + 1, x0, x1, x7, x8 => if x8 < x7 then (if 0 ≤ x8 then (if x8 < (x0.length : Int) then (if x1.toList = (rdOf ByteArray.empty x0 x8).toList then (some x8) else (slices_Index_string_string.l0 k x0 x1 x7 (wrap64 (x8 + 1)))) else (none)) else (none)) else (some (-1))
def slices_Index_string_string.f (k : Nat) (l0 : List ByteArray) (a1 : ByteArray) : Option (Int) := slices_Index_string_string.l0 k l0 a1 (l0.length : Int) 0
theorem slices_Index_string_string.mono_l : ∀ k, (∀ y0 y1 y2 y3, LeO (slices_Index_string_string.l0 k y0 y1 y2 y3) (slices_Index_string_string.l0 (k + 1) y0 y1 y2 y3))
  | 0 => fun _ _ _ _ r h => by simp [slices_Index_string_string.l0] at h
  | k + 1 => by
    have ih0 := slices_Index_string_string.mono_l k
    · intro y0 y1 y2 y3
      unfold slices_Index_string_string.l0
      repeat' first
      | (with_reducible exact ih0 _ _ _ _)
      | (with_reducible exact LeO.refl _)
      | (with_reducible exact LeO.none _)
      | (with_reducible refine LeO.ite ?_ ?_)
      | (with_reducible refine LeO.bind ?_ (fun _ => ?_))
      | exact ih0 _ _ _ _
      | exact LeO.none _
      | refine LeO.ite ?_ ?_
      | refine LeO.bind ?_ (fun _ => ?_)
theorem slices_Index_string_string.mono : ∀ a0 a1 k, LeO (slices_Index_string_string.f k a0 a1) (slices_Index_string_string.f (k + 1) a0 a1) := by
  intro a0 a1 k
  have ih0 := slices_Index_string_string.mono_l k
  unfold slices_Index_string_string.f
  repeat' first
      | (with_reducible exact ih0 _ _ _ _)
      | (with_reducible exact LeO.refl _)
      | (with_reducible exact LeO.none _)
      | (with_reducible refine LeO.ite ?_ ?_)
      | (with_reducible refine LeO.bind ?_ (fun _ => ?_))
      | exact ih0 _ _ _ _
      | exact LeO.none _
      | refine LeO.ite ?_ ?_
      | refine LeO.bind ?_ (fun _ => ?_)
set_option maxHeartbeats 8000000 in
set_option maxRecDepth 100000 in
theorem slices_Index_string_string.calls (k : Nat) (A0 : Option Addr) (c0 : Nat) (l0 : List ByteArray) (a1 : ByteArray) (r : Int) (w : World) (hr0 : Kd.C Kd.string w A0 l0.length l0) (hc0 : l0.length ≤ c0) (h : slices_Index_string_string.f k l0 a1 = some r) :
    Calls Tryd.prog 41 #[.slice A0 l0.length c0, .string a1] w fun e w' => e = .returned (.int .i64 r) ∧ Drawn0 w w' := by
  have HR0 := Aside0.mk hr0
  have HC0 := Aside0.mk hc0
  clear hr0 hc0
  have H : (slices_Index_string_string.l0 k l0 a1 (l0.length : Int) 0) = some r := h
  clear h
  have H' := Aside0.mk H
  clear H
  go_enter Tryd.func41, Tryd.ntmps41
  go_wp2
  go_loopg [8] k (fun kq v8 w' => ∃ (x8_1 : Int), v8 = .int .i64 x8_1 ∧ Aside0 (slices_Index_string_string.l0 kq l0 a1 (l0.length : Int) x8_1 = some r) ∧ Aside0 (kq ≤ k) ∧ Drawn0 w w')
  case atStart => exact ⟨(0), (by first | rfl | (simp; done) | (simp [*]; done)), H', ⟨Nat.le_refl _⟩, by repeat (first | exact Drawn0.refl _ | apply Drawn0.step)⟩
  case round =>
    clear H'
    try clear p2
    obtain ⟨x8_1, rfl, HA, HK1, ⟨m1, rfl⟩⟩ := hrel
    cases gk with
    | zero => exact absurd HA.out (by simp [slices_Index_string_string.l0])
    | succ k1 =>
      have H := HA.out
      clear HA
      simp only [slices_Index_string_string.l0] at H
      by_cases c3 : x8_1 < (l0.length : Int)
      · rw [if_pos c3] at H
        have c3b0 : decide (x8_1 < (l0.length : Int)) = true := decide_eq_true c3
        clear c3
        by_cases c4 : 0 ≤ x8_1
        · rw [if_pos c4] at H
          have c4b0 : decide (0 ≤ x8_1) = true := decide_eq_true c4
          clear c4
          by_cases c5 : x8_1 < (l0.length : Int)
          · rw [if_pos c5] at H
            have c5b0 : decide (x8_1 < (l0.length : Int)) = true := decide_eq_true c5
            clear c5
            by_cases c6 : a1.toList = (rdOf ByteArray.empty l0 x8_1).toList
            · rw [if_pos c6] at H
              have c6b0 : (a1.toList == (rdOf ByteArray.empty l0 x8_1).toList) = true := beq_iff_eq.mpr c6
              have c6b1 : (a1.toList != (rdOf ByteArray.empty l0 x8_1).toList) = false := bne_eq_false_iff_eq.mpr c6
              clear c6
              obtain rfl := Option.some.inj H
              have p134 : 0 ≤ (x8_1 : Int) := of_decide_eq_true (by first | (with_reducible assumption) | assumption)
              have q134 : x8_1 < (l0.length : Int) := of_decide_eq_true (by first | (with_reducible assumption) | assumption)
              obtain ⟨ad134, e134, hx134_0⟩ := Kd.at_string HR0.out x8_1 p134 q134
              cases e134
              replace p134 := eq_true p134
              replace q134 := eq_true q134
              go_wp2
              go_ret
              exact ⟨by first | rfl | (simp; done) | (simp [*]; done), by repeat (first | exact Drawn0.refl _ | apply Drawn0.step)⟩
            · rw [if_neg c6] at H
              have c6b0 : (a1.toList == (rdOf ByteArray.empty l0 x8_1).toList) = false := beq_eq_false_iff_ne.mpr c6
              have c6b1 : (a1.toList != (rdOf ByteArray.empty l0 x8_1).toList) = true := bne_iff_ne.mpr c6
              have H' := Aside0.mk H
              clear H
              have p134 : 0 ≤ (x8_1 : Int) := of_decide_eq_true (by first | (with_reducible assumption) | assumption)
              have q134 : x8_1 < (l0.length : Int) := of_decide_eq_true (by first | (with_reducible assumption) | assumption)
              obtain ⟨ad134, e134, hx134_0⟩ := Kd.at_string HR0.out x8_1 p134 q134
              cases e134
              replace p134 := eq_true p134
              replace q134 := eq_true q134
              go_wp2
              go_roundg k1
              case measure => have := HK1.out; omega
              case rel => exact ⟨(wrap64 (x8_1 + 1)), (by first | rfl | (simp; done) | (simp [*]; done)), H', ⟨by have := HK1.out; omega⟩, by repeat (first | exact Drawn0.refl _ | apply Drawn0.step)⟩
          · rw [if_neg c5] at H
            exact absurd H (by simp)
        · rw [if_neg c4] at H
          exact absurd H (by simp)
      · rw [if_neg c3] at H
        have c3b0 : decide (x8_1 < (l0.length : Int)) = false := decide_eq_false c3
        clear c3
        obtain rfl := Option.some.inj H
        go_wp2
        go_ret
        exact ⟨by first | rfl | (simp; done) | (simp [*]; done), by repeat (first | exact Drawn0.refl _ | apply Drawn0.step)⟩

end Go.Proofs.YtadnhfdodcmlaaaDoor.PFnExactLegRead
