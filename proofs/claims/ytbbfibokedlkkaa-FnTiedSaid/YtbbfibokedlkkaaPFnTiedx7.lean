/- Walks of the functions named below, by a program of the session over the kit's printer. -/
import Derived.Test.YtbbfibokedlkkaaPFnTiedx0
import Derived.Test.YtbbfibokedlkkaaPFnTiedx3
import Derived.Test.YtbbfibokedlkkaaPFnTiedx6
namespace Go.Proofs.Ytbbfibokedlkkaa.PFnTied
open Go.RowKit Go.Proofs.YtbbfibokedlkkaaW.PrintWords Go.Proofs.YtbbfibokedlkkaaW.PrintLast Go.Proofs.YtbbfibokedlkkaaW.PrintMore
attribute [local go_sem] max2_int min2_int max_two min_two max_three min_three max_four min_four   -- for this text's walks alone
set_option linter.unusedVariables false
set_option linter.unusedSimpArgs false

/-! ### impl_CloseFor: function 29, by hand -/
/-- Is a use of the first rank among these? -/
def impl_CloseFor.inU (u : List S59) (l : List Int) : Bool := l.all fun x => decide (0 ≤ x) && decide (x < (u.length : Int))
def impl_CloseFor.rank0 (u : List S59) (x : Int) : Bool := decide ((rd_T59 u x).f2 = 0)
set_option maxHeartbeats 4000000 in
set_option maxRecDepth 100000 in
theorem impl_CloseFor.one (u : List S59) (x : Int) (B : Nat) (W : World) (v0 v1 v2 : Value) (A : Option Addr) (c : Nat) (hb : W.heap[B]? = some (.cells #[v0, v1, v2, .slice A u.length c] 41 (0, 0))) (hC : Kd.C k59 W A u.length u) (hx : 0 ≤ x ∧ x < (u.length : Int)) :
  Calls Try.prog 65 #[.int .i64 x, .pointer (some ⟨B, 0, none⟩)] W fun e w' => e = .returned (.bool (impl_CloseFor.rank0 u x)) ∧ Below W.heap.size W w' := by
 have hu := Try.underlying59; have hu2 := Try.underlying41; have hlen := hC.2.1; obtain ⟨ad, e, hx0, hx1, hx2⟩ := at_T59 hC x hx.1 hx.2; subst e; have hcb : W.cell? ⟨B, 3, none⟩ = some (.slice (some ad) u.length c) := (blk_cell hb 3).trans rfl
 unfold impl_CloseFor.rank0
 obtain ⟨p, hp⟩ : ∃ p, (rd_T59 u x).f2 = p := ⟨_, rfl⟩; rw [hp] at hx2 ⊢; obtain ⟨x0, x1⟩ := hx; clear hx0 hx1 hp hb hC
 go_enter Try.func65, Try.ntmps65
 go_wp2
 go_ret
 exact ⟨by first | rfl | (simp; done) | (go_simp; done), Below.refl _ _⟩
set_option maxHeartbeats 4000000 in
set_option maxRecDepth 100000 in
theorem impl_CloseFor.index (A0 : Option Addr) (c0 : Nat) (l0 : List Int) (p : Int → Bool) (Bi : Nat) (r : Bool) (w : World) (hr0 : Kd.C (Kd.int .i64) w A0 l0.length l0) (hone : ∀ (x : Int), x ∈ l0 → ∀ (W : World), Below w.heap.size w W → Calls Try.prog 65 #[.int .i64 x, .pointer (some ⟨Bi, 0, none⟩)] W fun e w' => e = .returned (.bool (p x)) ∧ Below W.heap.size W w') (h : l0.any p = r) :
  Calls Try.prog 83 #[.slice A0 l0.length c0, .func (.func 65) #[] #[.pointer (some ⟨Bi, 0, none⟩)]] w fun e w' => ∃ n : Int, e = .returned (.int .i64 n) ∧ decide (0 ≤ n) = r ∧ Below w.heap.size w w' := by
 have HR := Az hr0; have HL := Az h; have HO := Az hone; have hlen := hr0.2.1; have HN := Az hlen; clear hr0 h hlen hone; have HB := Az (Below.refl w.heap.size w); have hlen : l0.length ≤ 9223372036854775807 := HN.out
 go_enter Try.func83, Try.ntmps83
 go_wp2
 go_loopg [5, 8] l0.length (fun gg _ s8 wr => ∃ kk : Nat, kk ≤ l0.length ∧ l0.length - kk ≤ gg ∧ s8 = .int .i64 kk ∧ Aside0 (Below w.heap.size w wr) ∧ Aside0 ((l0.drop kk).any p = r))
 case atStart => exact ⟨0, Nat.zero_le _, by omega, rfl, HB, HL⟩
 case round =>
  obtain ⟨kk, hkk, hg, rfl, BW, A⟩ := hrel; clear HB
  by_cases hlt : kk < l0.length
  ·
   have hltz : (kk : Int) < (l0.length : Int) := by omega
   have hA := A.out
   have erd : rd l0 (kk : Int) = l0[kk] := by show l0.getD (kk : Int).toNat 0 = _; rw [Int.toNat_natCast, List.getD_eq_getElem?_getD, List.getElem?_eq_getElem hlt]; rfl
   rw [List.drop_eq_getElem_cons hlt, List.any_cons, ← erd] at hA; have hone := HO.out (rd l0 (kk : Int)) (by rw [erd]; exact List.getElem_mem hlt) wr BW.out; clear A erd; obtain ⟨ad, e, hx0⟩ := Kd.at_int HR.out (kk : Int) (by omega) hltz
   cases e
   simp only [Int.toNat_natCast] at hx0; replace hx0 := (BW.out.cell (World.block_lt_of_cell? w _ hx0)).trans hx0
   cases hq : p (rd l0 (kk : Int))
   ·
    rw [hq] at hA hone; rw [Bool.false_or] at hA; have HC := Az hone; have HA := Az hA; clear hone hA
    go_wp2_with (go_at_call 65; refine HC.out.mono ?_; rintro e w' ⟨rfl, hb'⟩)
    go_roundg (l0.length - (kk + 1))
    case measure => omega
    case rel => exact ⟨kk + 1, by omega, by omega, by go_num, ⟨below_step BW.out hb'⟩, HA⟩
   ·
    rw [hq] at hA hone; rw [Bool.true_or] at hA; have HC := Az hone; have HA := Az hA; clear hone hA
    go_wp2_with (go_at_call 65; refine HC.out.mono ?_; rintro e w' ⟨rfl, hb'⟩)
    go_ret
    exact ⟨(kk : Int), rfl, by rw [← HA.out]; simp, below_step BW.out hb'⟩
  ·
   have hltz : ¬ (kk : Int) < (l0.length : Int) := by omega
   have : kk = l0.length := by omega
   subst this; have hr := A.out; rw [List.drop_length] at hr; have HR' := Az hr; clear hr A
   go_wp2
   go_ret
   exact ⟨-1, rfl, by rw [← HR'.out]; rfl, BW.out⟩
set_option maxHeartbeats 4000000 in
set_option maxRecDepth 100000 in
theorem impl_CloseFor.contains (A0 : Option Addr) (c0 : Nat) (l0 : List Int) (p : Int → Bool) (Bi : Nat) (r : Bool) (w : World) (hr0 : Kd.C (Kd.int .i64) w A0 l0.length l0) (hone : ∀ (x : Int), x ∈ l0 → ∀ (W : World), Below w.heap.size w W → Calls Try.prog 65 #[.int .i64 x, .pointer (some ⟨Bi, 0, none⟩)] W fun e w' => e = .returned (.bool (p x)) ∧ Below W.heap.size W w') (h : l0.any p = r) :
  Calls Try.prog 64 #[.slice A0 l0.length c0, .func (.func 65) #[] #[.pointer (some ⟨Bi, 0, none⟩)]] w fun e w' => e = .returned (.bool r) ∧ Below w.heap.size w w' := by
 have HC := Az (impl_CloseFor.index A0 c0 l0 p Bi r w hr0 hone h); clear hr0 hone h
 go_enter Try.func64, Try.ntmps64
 go_wp2_with (go_at_call 83; refine HC.out.mono ?_; rintro e w' ⟨n, rfl, hn, hb⟩)
 go_ret
 exact ⟨by subst hn; rfl, hb⟩
/-- Clip: the same row, without spare room. -/
theorem impl_CloseFor.clip (A : Option Addr) (n c : Nat) (w : World) (hn : n ≤ c) (hl : n ≤ 9223372036854775807) : Calls Try.prog 82 #[.slice A n c] w fun e w' => e = .returned (.slice A n n) ∧ w' = w := by
 go_enter Try.func82, Try.ntmps82
 go_wp2
 go_ret
 exact ⟨rfl, rfl⟩
theorem impl_CloseFor.app (ty : TypeId) (w : World) (A : Option Addr) (l : List Int) (hC : Kd.C (Kd.int .i64) w A l.length l) (hA : A = none → l.length = 0) (B2 : Nat) (i : Int) (hB2 : w.heap[B2]? = some (.cells #[.int .i64 i] 3 (0, 0))) (hl : l.length < 1000) :
  ∃ v' w', (Builtin.append_ #[45, 45] ty #[.slice A l.length l.length, .slice (some ⟨B2, 0, none⟩) 1 1]).run Try.prog w = .ok v' w' ∧ Kd.R (Kd.int .i64) 3 w' w.heap.size (fun _ => True) v' (l ++ [i]) ∧ w.grownBy w' none := by
 obtain ⟨i0, hi, hzz⟩ := Option.map_eq_some_iff.1 info3; simp only [Prod.mk.injEq] at hzz; obtain ⟨hz0, hz1, hz2⟩ := hzz; have hn : ∀ j u, [Value.int .i64 i][j]? = some u → w.cell? ((⟨B2, 0, none⟩ : Addr).add j) = some u := World.news_of_block hB2
 have fin : ∀ v' w', w'.ownsRow w.heap.size 3 1 v' (l.length + 1) (encs (Value.int .i64) l ++ [Value.int .i64 i]) → Kd.R (Kd.int .i64) 3 w' w.heap.size (fun _ => True) v' (l ++ [i]) := fun v' w' h => by
  refine Kd.R_of_own ?_ (fun _ _ => trivial)
  unfold encs at h ⊢
  rw [List.map_append, List.length_append, List.length_singleton]; exact h
 cases A with
 | none =>
  obtain rfl : l = [] := List.eq_nil_of_length_eq_zero (hA rfl); obtain ⟨v', w', hr, ho, hg, _⟩ := run_append_own (P := Try.prog) w w.heap.size 45 ty 3 i0 (.int .i64 0) 1 8 Try.underlying45 hi hz0 hz1 hz2 rfl (by decide) (.slice none 0 0) 0 [] (World.ownsRow_nil w _ 3 1) ⟨B2, 0, none⟩ 1 1 [.int .i64 i] rfl hn (fun u hu => by rw [List.mem_singleton.1 hu]; rfl) (by decide) (by decide) (Nat.le_refl _); exact ⟨v', w', hr, fin v' w' ho, hg⟩
 | some b =>
  have holds : ∀ j u, (encs (Value.int .i64) l)[j]? = some u → w.cell? (b.add j) = some u := by
   intro j u hu
   have hj : j < l.length := by
    have := (List.getElem?_eq_some_iff.1 hu).1
    rwa [encs_length] at this
   rw [encs_get (enc := Value.int .i64) (d := 0) l j hj] at hu; obtain ⟨ad, e, hc⟩ := Kd.at_int hC (j : Int) (by omega) (by omega)
   cases e
   rw [Int.toNat_natCast] at hc; rw [← hu]; exact hc
  obtain ⟨v', w', hr, ho, hg⟩ := run_append_arg_grows (P := Try.prog) w 45 ty 3 i0 (.int .i64 0) 1 8 Try.underlying45 hi hz0 hz1 hz2 rfl (by decide) b l.length l.length (encs (Value.int .i64) l) (by rw [encs_length]; omega) holds ⟨B2, 0, none⟩ 1 1 [.int .i64 i] rfl hn (by omega) (by simp only [maxLen]; omega) (by omega); exact ⟨v', w', hr, fin v' w' ho, hg⟩
set_option maxHeartbeats 4000000 in
set_option maxRecDepth 100000 in
theorem impl_CloseFor.clone (A : Option Addr) (c : Nat) (l : List Int) (w : World) (hr0 : Kd.C (Kd.int .i64) w A l.length l) (hl : l.length < 1000) : Calls Try.prog 63 #[.slice A l.length c] w fun e w' => ∃ v : Value, e = .returned v ∧ Kd.R (Kd.int .i64) 3 w' w.heap.size (fun _ => True) v l ∧ Below w.heap.size w w' := by
 have hnl := fun (W_ : World) (a_ : Option Addr) (n_ c_ n2_ c2_ : Nat) => Go.Lib.run_eql_slice_nil (P := Try.prog) W_ 45 3 a_ n_ c_ n2_ c2_ Try.underlying45
 have HR := Az hr0; have HL := Az hl
 cases hAc : A with
 | none =>
  have : l = [] := by
   cases l with
   | nil => rfl
   | cons x xs =>
    obtain ⟨ad, e, _⟩ := hr0.2.2 (Nat.zero_lt_succ _); rw [hAc] at e; cases e
  subst this; clear hr0 hl HR HL
  go_enter Try.func63, Try.ntmps63
  go_wp2
  go_ret
  exact ⟨_, rfl, Kd.R_nil _ _ _ _ _, Below.refl _ _⟩
 | some ad =>
  subst hAc; have HB := Az (Below.refl w.heap.size w); clear hr0 hl
  go_enter Try.func63, Try.ntmps63
  go_wp2_with (first | ((with_reducible refine gate_dst (N := 5) rfl ?_); refine Kd.R_lit (Kd.int .i64) _ 3 ?hg (N := 5) ?hd (xs := ([] : List Int)) (inner := []) (ok := fun _ => True) (okp := fun _ => True) ?hr ?hp (fun _ hk => hk) trivial (Below.refl _ _) (Nat.le_refl _) (by simp) ?_; (case hd => rfl); (case hg => rfl); (case hr => first | (go_simp; done) | (go_simp; rfl)); (case hp => exact Reps.none _ _); intro v5 w5 ho hb hg hx; have HO := Az ho; have HB5 := Az hb; clear ho hb hg hx) | ((with_reducible refine gate_builtin (b := .append) (xs := #[.tmp 5, .tmp 6]) rfl ?_); at_builtin; refine Kd.R_append_rows (Kd.int .i64) (w0 := w) w.heap.size rfl (.tmp 5) (.tmp 6) 45 3 (.int .i64 0) 8 rfl Try.underlying45 info3 rfl (by decide) (by omega) v5 [] l (some ad) l.length c (fun _ => True) (fun _ => False) rfl rfl HO.out (Kd.C_below HR.out HB5.out) (fun _ _ h => h) (fun _ hk => hk.elim) (fun _ _ => trivial) HB5.out HB5.out.size (by have := HL.out; simp only [List.length_nil]; omega) ?_; intro v7 w7 ho hb hg hat; have HO7 := Az ho; have HB7 := Az hb; clear ho hb hg hat))
  go_ret
  exact ⟨_, rfl, HO7.out, HB7.out⟩
/-- What a list of ties more says: is no use of the first rank shed? -/
def impl_CloseFor.tk (k : Nat) (a0 : Int) (s : List S57) (t : List S55) (u : List S59) (l : List Int) : Option Bool := (impl_shed.f k a0 s t u l).bind fun sh => if impl_CloseFor.inU u sh = true ∧ l.length < 1000 then some (!(sh.any (impl_CloseFor.rank0 u))) else none
theorem impl_CloseFor.gb {w w' : World} {row : Option Nat} (h : Below w.heap.size w w') : w.grownBy w' row := ⟨h.os, h.tape, h.output, h.size, fun k hk _ => h.block k hk⟩
theorem impl_CloseFor.gset (w : World) (g j : Nat) (v : Value) : w.grownBy (w.setCell ⟨g, j, none⟩ v) (some g) := ⟨rfl, rfl, rfl, by simp [World.setCell], fun k _ hk => Below.heap_setCell w ⟨g, j, none⟩ v k (fun e => hk (congrArg some e))⟩
theorem impl_CloseFor.Rbox {w w' : World} {base Bo : Nat} {ok : Nat → Prop} {v vo : Value} {l : List Int} (h : Kd.R (Kd.int .i64) 3 w base ok v l) (hb : w.heap[Bo]? = some (.cells #[vo] 45 (0, 0))) (hg : w.grownBy w' (some Bo)) : Kd.R (Kd.int .i64) 3 w' base ok v l :=
 Kd.R_mono (Kd.R_step (Kd.R_types h hb (fun q hq => by cases hq with | head => decide | tail _ h => cases h)) (fun k ho hk => hg.block k hk (fun e => ho.2 (Option.some.inj e)))) (fun _ hk => hk.1)
/-- The net's box, and the one that holds what was tried last; w0: the world in which all began. -/
structure impl_CloseFor.Inv (w0 W : World) (Bn Bo : Nat) (a0 : Int) (A1 : Option Addr) (c1 : Nat) (s : List S57) (A2 : Option Addr) (c2 : Nat) (t : List S55) (A3 : Option Addr) (c3 : Nat) (u : List S59) : Prop where
 below : Below w0.heap.size w0 W
 net : W.heap[Bn]? = some (.cells #[.int .i64 a0, .slice A1 s.length c1, .slice A2 t.length c2, .slice A3 u.length c3] 41 (0, 0))
 box : ∃ v, W.heap[Bo]? = some (.cells #[v] 45 (0, 0))
 hn : w0.heap.size ≤ Bn
 ho : w0.heap.size ≤ Bo
theorem impl_CloseFor.Inv.grown {w0 W W' : World} {Bn Bo : Nat} {a0 : Int} {A1 : Option Addr} {c1 : Nat} {s : List S57} {A2 : Option Addr} {c2 : Nat} {t : List S55} {A3 : Option Addr} {c3 : Nat} {u : List S59} (h : impl_CloseFor.Inv w0 W Bn Bo a0 A1 c1 s A2 c2 t A3 c3 u) (hg : W.grownBy W' none) : impl_CloseFor.Inv w0 W' Bn Bo a0 A1 c1 s A2 c2 t A3 c3 u :=
 ⟨pw_below_grown h.below none h.below.size hg (fun k hk => by cases hk), blk_grown h.net hg (by simp), by obtain ⟨v, hv⟩ := h.box; exact ⟨v, blk_grown hv hg (by simp)⟩, h.hn, h.ho⟩
set_option maxHeartbeats 8000000 in
set_option maxRecDepth 100000 in
theorem impl_CloseFor.take (k : Nat) (w0 W : World) (Bn Bo : Nat) (a0 : Int) (A1 : Option Addr) (c1 : Nat) (s : List S57) (A2 : Option Addr) (c2 : Nat) (t : List S55) (A3 : Option Addr) (c3 : Nat) (u : List S59) (A : Option Addr) (c : Nat) (l : List Int) (r : Bool)
  (hr1 : Kd.C k57 w0 A1 s.length s) (hc1 : s.length ≤ c1) (hr2 : Kd.C k55 w0 A2 t.length t) (hc2 : t.length ≤ c2) (hr3 : Kd.C k59 w0 A3 u.length u) (hc3 : u.length ≤ c3)
  (hI : impl_CloseFor.Inv w0 W Bn Bo a0 A1 c1 s A2 c2 t A3 c3 u) (v0 : Value) (ok : Nat → Prop) (hl : Kd.R (Kd.int .i64) 3 W w0.heap.size ok (.slice A l.length c) l) (h : impl_CloseFor.tk k a0 s t u l = some r) :
  Calls Try.prog 62 #[.slice A l.length c, .pointer (some ⟨Bo, 0, none⟩), .pointer (some ⟨Bn, 0, none⟩)] W fun e w' => e = .returned (.bool r) ∧ W.grownBy w' (some Bo) ∧ ∃ v, w'.heap[Bo]? = some (.cells #[v] 45 (0, 0)) ∧ Kd.R (Kd.int .i64) 3 w' w0.heap.size (fun _ => True) v l := by
 have hu41 := Try.underlying41
 unfold impl_CloseFor.tk at h
 obtain ⟨sh, hsh, h⟩ := Option.bind_eq_some_iff.1 h
 by_cases hin : impl_CloseFor.inU u sh = true ∧ l.length < 1000
 ·
  rw [if_pos hin] at h; obtain ⟨hin, hl3⟩ := hin; obtain rfl := Option.some.inj h; clear h; obtain ⟨vo, hbo⟩ := hI.box; have hI0 := hI; have hlr := Kd.R_reads' hl
  have hne : Bn ≠ Bo := fun e => by have := hI.net; rw [e, hbo] at this; simp at this
  have HNE := Az hne; have HC := Az (impl_CloseFor.clone A c l W hlr.2.2 hl3); have HI := Az hI; have HLR := Az hlr; have HL := Az hl; have HBO := Az hbo; have HSH := Az hsh; have H1 := Az hr1; have H2 := Az hr2; have H3 := Az hr3; have hcb : W.cell? ⟨Bo, 0, none⟩ = some vo := (blk_cell hbo 0).trans rfl; obtain ⟨hn0, hn1, hn2, hn3⟩ := bc4 hI.net; have hzo := blk_frozen hbo 0; clear hr1 hr2 hr3 hI hl hsh hlr hbo; have HWS := Az hI0.below.size
  go_enter Try.func62, Try.ntmps62
  go_wp2_with (first | (go_at_call 63; refine HC.out.mono ?_; rintro e w5 ⟨v6, rfl, ho, hb⟩; obtain ⟨A6, c6, rfl⟩ := Kd.R_slice ho; have HO6 := Az ho; have HB5 := Az hb; clear ho hb; have hcb := (pw_cell_below HB5.out hcb); have hzo := blk_frozen (blk_below HBO.out HB5.out) 0) | ((with_reducible refine gate_store (t := 45) (p := 1) rfl ?_); refine store_event (t := 45) (p := 1) (v := ?vo_w6) (w1 := (w5.setCell ⟨Bo, 0, none⟩ (.slice A6 l.length c6))) ?hg ?ho ?hn ?hr ?_; (case ho => rfl); (case hg => rfl); (case hn => rfl); (case hr => first | (go_simp; done) | (go_simp; rfl)); intro w6 hw; have hg6 : w5.grownBy w6 (some Bo) := (by rw [hw]; exact impl_CloseFor.gset w5 Bo 0 _); have HG6 := Az hg6; have hk6 : w6.heap[Bo]? = some (.cells #[.slice A6 l.length c6] 45 (0, 0)) := (by rw [hw]; exact blk_put (blk_below HBO.out HB5.out) 0 _ rfl); have HK6 := Az hk6; clear hg6 hk6 hw; have HNET := Az (blk_grown (blk_below HI.out.net HB5.out) HG6.out (by simpa using HNE.out)); obtain ⟨hm0, hm1, hm2, hm3⟩ := bc4 HNET.out; have HBW := Az (pw_below_grown (below_step HI.out.below HB5.out) (some Bo) (Nat.le_trans HI.out.below.size HB5.out.size) HG6.out (fun k hk => by cases hk; exact HI.out.ho)); have HCL := Az (Kd.R_reads' (impl_CloseFor.Rbox (Kd.R_below HL.out HB5.out) (blk_below HBO.out HB5.out) HG6.out))) | (go_at_call 60; refine (impl_shed.calls k a0 _ _ s _ _ t _ _ u _ _ l sh w6 (Kd.C_below H1.out HBW.out) hc1 (Kd.C_below H2.out HBW.out) hc2 (Kd.C_below H3.out HBW.out) hc3 HCL.out.2.2 HCL.out.2.1 HSH.out).mono ?_; rintro e w7 ⟨v9, rfl, ho, hb⟩; obtain ⟨A9, c9, rfl⟩ := Kd.R_slice ho; have HO9 := Az ho; have HB7 := Az hb; clear ho hb) | (go_at_call 64; refine (impl_CloseFor.contains A9 _ sh (impl_CloseFor.rank0 u) Bn _ w7 (Kd.R_reads' HO9.out).2.2 (fun x hx W' hb => impl_CloseFor.one u x Bn W' _ _ _ A3 c3 (blk_below (blk_below HNET.out HB7.out) hb) (Kd.C_below H3.out (below_step (below_step HBW.out HB7.out) hb)) (by have := List.all_eq_true.1 hin x hx; simpa using this)) rfl).mono ?_; rintro e w8 ⟨rfl, hb⟩; have HB8 := Az hb; clear hb))
  go_ret
  refine ⟨by first | rfl | simp, (((impl_CloseFor.gb HB5.out).trans HG6.out).trans (impl_CloseFor.gb HB7.out)).trans (impl_CloseFor.gb HB8.out), _, blk_below (blk_below HK6.out HB7.out) HB8.out, Kd.R_lower (Kd.R_below (Kd.R_below (impl_CloseFor.Rbox HO6.out (blk_below HBO.out HB5.out) HG6.out) HB7.out) HB8.out) HWS.out⟩
 ·
  rw [if_neg hin] at h; cases h
theorem impl_CloseFor.ev_step {P : Program} {ops : Array Oper} {o : Oper} {a : Act} {W w1 : World} {v : Value} {K : Act → World → Prop} {Q : Exit → Act → World → Prop} {E : Prop} (hw : Region.wanted o (yielded ops a.tmps) = true) (hrun : (execOp a.eval o).run P W = .ok (.value v) w1) (h : K (a.put o.dst v) w1) : if Region.wanted o (yielded ops a.tmps) = true then Oper.wp P o a W K Q else E := by
 rw [if_pos hw]
 unfold Oper.wp
 rw [hrun]; exact h
theorem impl_CloseFor.bg {w w' : World} (h : w.grownBy w' none) : Below w.heap.size w w' := ⟨h.os, h.tape, h.output, h.size, fun k hk => h.block k hk (by simp)⟩
/-- All ascending lists of so many open ties more, tried in order: the first that is taken. -/
def impl_CloseFor.go (tk : List Int → Option Bool) (t : List S55) (rec : Int → List Int → Option (Option (List Int))) (l : List Int) : Nat → Int → Option (Option (List Int))
 | 0, _ => none
 | k + 1, i => if i < (t.length : Int) then (if 0 ≤ i then (if (rd_T55 t i).f2 = true then impl_CloseFor.go tk t rec l k (wrap64 (i + 1)) else (if l.length < 999 then (rec (wrap64 (i + 1)) (l ++ [i])).bind fun r => if r.isSome = true then some r else impl_CloseFor.go tk t rec l k (wrap64 (i + 1)) else none)) else none) else some none
def impl_CloseFor.ch (tk : List Int → Option Bool) (t : List S55) (K : Nat) : Nat → Int → List Int → Option (Option (List Int))
 | 0, _, l => (tk l).bind fun b => some (if b = true then some l else none)
 | m + 1, i, l => impl_CloseFor.go tk t (impl_CloseFor.ch tk t K m) l K i
theorem impl_CloseFor.app_step {ops : Array Oper} {o : Oper} {a : Act} {w : World} {K : Act → World → Prop} {Q : Exit → Act → World → Prop} {E : Prop} (hw : Region.wanted o (yielded ops a.tmps) = true) (s x : Operand) (ho : o.op = .call { callee := .builtin .append, args := #[s, x], argTypes := #[45, 45] }) {A : Option Addr} {l : List Int} {B2 : Nat} {i : Int}
  (hs : a.eval s = .slice A l.length l.length) (hx : a.eval x = .slice (some ⟨B2, 0, none⟩) 1 1) (hC : Kd.C (Kd.int .i64) w A l.length l) (hA : A = none → l.length = 0) (hB2 : w.heap[B2]? = some (.cells #[.int .i64 i] 3 (0, 0))) (hl : l.length < 1000)
  (h : ∀ v' w', Kd.R (Kd.int .i64) 3 w' w.heap.size (fun _ => True) v' (l ++ [i]) → w.grownBy w' none → K (a.put o.dst v') w') : if Region.wanted o (yielded ops a.tmps) = true then Oper.wp Try.prog o a w K Q else E := by
 rw [if_pos hw]; obtain ⟨v', w', hr, hR, hg⟩ := impl_CloseFor.app o.type w A l hC hA B2 i hB2 hl
 unfold Oper.wp execOp
 simp only [ho, resolve, invoke, builtin, Sem.run_bind, Sem.run_pure, Result.andThen_ok, List.map_toArray, List.map_cons, List.map_nil, hs, hx, hr]; exact h v' w' hR hg
theorem impl_CloseFor.nilLen {w : World} {A : Option Addr} {l : List Int} (hC : Kd.C (Kd.int .i64) w A l.length l) (h : A = none) : l.length = 0 := by
 cases l with
 | nil => rfl
 | cons x xs =>
  obtain ⟨ad, e, _⟩ := hC.2.2 (Nat.zero_lt_succ _); rw [h] at e; cases e
theorem impl_CloseFor.RboxI {w0 W W' : World} {Bn Bo : Nat} {a0 : Int} {A1 : Option Addr} {c1 : Nat} {s : List S57} {A2 : Option Addr} {c2 : Nat} {t : List S55} {A3 : Option Addr} {c3 : Nat} {u : List S59} {base : Nat} {ok : Nat → Prop} {v : Value} {l : List Int} (h : impl_CloseFor.Inv w0 W Bn Bo a0 A1 c1 s A2 c2 t A3 c3 u) (hr : Kd.R (Kd.int .i64) 3 W base ok v l) (hg : W.grownBy W' (some Bo)) : Kd.R (Kd.int .i64) 3 W' base ok v l := by
 obtain ⟨vo, hb⟩ := h.box; exact impl_CloseFor.Rbox hr hb hg
def impl_CloseFor.T6 : Bool × List (List Nat × List Nat) := (true, [([], []), ([0], [0]), ([], []), ([1, 2], [1, 2]), ([3], [3]), ([4], [4]), ([5], [5]), ([6], [6]), ([7], [7]), ([7], [7]), ([9, 7], [7, 9]), ([7], [7]), ([11, 7], [7, 11]), ([7], [7]), ([13, 7, 7], [7, 13]), ([7], [7]), ([15, 7], [7, 15]), ([14, 16, 14, 7], [7, 14, 16]), ([7], [7]), ([8, 10, 12, 17, 18, 17, 7], [7, 8, 10, 12, 17, 18]), ([7, 19], [7, 19])])
def impl_CloseFor.B6 : List Nat := [0, 1, 0, 7, 15, 31, 63, 127, 255, 255, 767, 255, 2303, 255, 8447, 255, 33023, 123135, 255, 524287, 1048575]
theorem impl_CloseFor.tab6 : rtab .any (opsOf Try.f61 6) = impl_CloseFor.T6 := by kernel_rfl
theorem impl_CloseFor.bits6 : waitsOk impl_CloseFor.T6.2 impl_CloseFor.B6 = true := by kernel_rfl
abbrev impl_CloseFor.M0 : Array Bool := #[O,O,O,O,O,O,O,O,O,O,O,O,O,O,O,O,O,O,O,O,O]
abbrev impl_CloseFor.M1 : Array Bool := #[O,O,I,O,O,O,O,O,O,O,O,O,O,O,O,O,O,O,O,O,O]
abbrev impl_CloseFor.M2 : Array Bool := #[I,O,I,O,O,O,O,O,O,O,O,O,O,O,O,O,O,O,O,O,O]
abbrev impl_CloseFor.M3 : Array Bool := #[I,I,I,O,O,O,O,O,O,O,O,O,O,O,O,O,O,O,O,O,O]
abbrev impl_CloseFor.M4 : Array Bool := #[I,I,I,I,O,O,O,O,O,O,O,O,O,O,O,O,O,O,O,O,O]
abbrev impl_CloseFor.M5 : Array Bool := #[I,I,I,I,I,O,O,O,O,O,O,O,O,O,O,O,O,O,O,O,O]
abbrev impl_CloseFor.M6 : Array Bool := #[I,I,I,I,I,I,O,O,O,O,O,O,O,O,O,O,O,O,O,O,O]
abbrev impl_CloseFor.M7 : Array Bool := #[I,I,I,I,I,I,I,O,O,O,O,O,O,O,O,O,O,O,O,O,O]
abbrev impl_CloseFor.M8 : Array Bool := #[I,I,I,I,I,I,I,I,O,O,O,O,O,O,O,O,O,O,O,O,O]
abbrev impl_CloseFor.M9 : Array Bool := #[I,I,I,I,I,I,I,I,I,O,O,O,O,O,O,O,O,O,O,O,O]
abbrev impl_CloseFor.M10 : Array Bool := #[I,I,I,I,I,I,I,I,I,I,O,O,O,O,O,O,O,O,O,O,O]
abbrev impl_CloseFor.M11 : Array Bool := #[I,I,I,I,I,I,I,I,I,I,I,O,O,O,O,O,O,O,O,O,O]
abbrev impl_CloseFor.M12 : Array Bool := #[I,I,I,I,I,I,I,I,I,I,I,I,O,O,O,O,O,O,O,O,O]
abbrev impl_CloseFor.M13 : Array Bool := #[I,I,I,I,I,I,I,I,I,I,I,I,I,O,O,O,O,O,O,O,O]
abbrev impl_CloseFor.M14 : Array Bool := #[I,I,I,I,I,I,I,I,I,I,I,I,I,I,O,O,O,O,O,O,O]
abbrev impl_CloseFor.M15 : Array Bool := #[I,I,I,I,I,I,I,I,I,I,I,I,I,I,O,I,O,O,O,O,O]
abbrev impl_CloseFor.M16 : Array Bool := #[I,I,I,I,I,I,I,I,I,I,I,I,I,I,O,I,O,O,I,O,O]
abbrev impl_CloseFor.M17 : Array Bool := #[I,I,I,I,I,I,I,I,I,I,I,I,I,I,I,I,I,O,I,O,O]
abbrev impl_CloseFor.M18 : Array Bool := #[I,I,I,I,I,I,I,I,I,I,I,I,I,I,I,I,O,O,I,O,O]
abbrev impl_CloseFor.M19 : Array Bool := #[I,I,I,I,I,I,I,I,I,I,I,I,I,I,O,I,I,O,I,O,O]
abbrev impl_CloseFor.M20 : Array Bool := #[I,I,I,I,I,I,I,I,I,I,I,I,I,I,I,I,I,I,I,O,O]
abbrev impl_CloseFor.M21 : Array Bool := #[I,I,I,I,I,I,I,I,I,I,I,I,I,I,I,I,I,I,I,I,O]
abbrev impl_CloseFor.M22 : Array Bool := #[I,I,I,I,I,I,I,I,I,I,I,I,I,I,I,I,I,I,I,I,I]
/-- What a call of choose leaves: the box holds what was tried last, which is what was taken. -/
def impl_CloseFor.Left (W w' : World) (Bo base : Nat) (r : Option (List Int)) : Prop := W.grownBy w' (some Bo) ∧ ∃ v, w'.heap[Bo]? = some (.cells #[v] 45 (0, 0)) ∧ ∀ q, r = some q → Kd.R (Kd.int .i64) 3 w' base (fun _ => True) v q
section
variable (k : Nat) (w0 : World) (Bn Bo : Nat) (a0 : Int) (A1 : Option Addr) (c1 : Nat) (s : List S57) (A2 : Option Addr) (c2 : Nat) (t : List S55) (A3 : Option Addr) (c3 : Nat) (u : List S59)
  (hr1 : Kd.C k57 w0 A1 s.length s) (hc1 : s.length ≤ c1) (hr2 : Kd.C k55 w0 A2 t.length t) (hc2 : t.length ≤ c2) (hr3 : Kd.C k59 w0 A3 u.length u) (hc3 : u.length ≤ c3)
theorem impl_CloseFor.Inv.left {W w' : World} {r : Option (List Int)} (h : impl_CloseFor.Inv w0 W Bn Bo a0 A1 c1 s A2 c2 t A3 c3 u) (hl : impl_CloseFor.Left W w' Bo w0.heap.size r) : impl_CloseFor.Inv w0 w' Bn Bo a0 A1 c1 s A2 c2 t A3 c3 u := by
 obtain ⟨hg, v, hv, _⟩ := hl; obtain ⟨vo, hb⟩ := h.box; refine ⟨pw_below_grown h.below (some Bo) h.below.size hg (fun k hk => by cases hk; exact h.ho), blk_grown h.net hg (fun e => ?_), ⟨v, hv⟩, h.hn, h.ho⟩; have := h.net; rw [Option.some.inj e, hb] at this
 simp at this
include hr1 hc1 hr2 hc2 hr3 hc3
set_option maxHeartbeats 8000000 in
set_option maxRecDepth 100000 in
theorem impl_CloseFor.choose (K : Nat) : ∀ (m : Nat), m ≤ 1000 → ∀ (i : Int) (l : List Int) (A : Option Addr) (c : Nat) (W : World) (ok : Nat → Prop) (r : Option (List Int)), impl_CloseFor.Inv w0 W Bn Bo a0 A1 c1 s A2 c2 t A3 c3 u → Kd.R (Kd.int .i64) 3 W w0.heap.size ok (.slice A l.length c) l → impl_CloseFor.ch (impl_CloseFor.tk k a0 s t u) t K m i l = some r →
  Calls Try.prog 61 #[.agg #[.int .i64 a0, .slice A1 s.length c1, .slice A2 t.length c2, .slice A3 u.length c3], .int .i64 m, .int .i64 i, .slice A l.length c, .func (.func 62) #[] #[.pointer (some ⟨Bo, 0, none⟩), .pointer (some ⟨Bn, 0, none⟩)]] W fun e w' => e = .returned (.bool r.isSome) ∧ impl_CloseFor.Left W w' Bo w0.heap.size r := by
 intro m
 induction m with
 | zero =>
  intro _ i l A c W ok r hI hL h
  unfold impl_CloseFor.ch at h
  obtain ⟨b, hb, h⟩ := Option.bind_eq_some_iff.1 h; have hI2 := hI.grown (World.grownBy_alloc W (.cells #[.int .i64 a0, .slice A1 s.length c1, .slice A2 t.length c2, .slice A3 u.length c3] 41 (0, 0)) none); have HT := Az (impl_CloseFor.take k w0 _ Bn Bo a0 A1 c1 s A2 c2 t A3 c3 u A c l b hr1 hc1 hr2 hc2 hr3 hc3 hI2 .nilIface ok (Kd.R_below hL (below_alloc (Below.refl _ _) _)) hb); have HH := Az (Option.some.inj h); clear hr1 hr2 hr3 hI hL hI2 hb h; have hm0 : ((0 : Nat) : Int) = 0 := rfl; rw [hm0]
  go_enter Try.func61, Try.ntmps61
  go_wp2_with (go_at_call 62; refine HT.out.mono ?_; rintro e w7 ⟨rfl, hg, v, hv, hR⟩; have HG := Az hg; have HV := Az hv; have HRR := Az hR; clear hg hv hR)
  go_ret
  have e : r.isSome = b := by rw [← HH.out]; cases b <;> rfl
  refine ⟨by rw [e]; rfl, ⟨(World.grownBy_alloc W _ (some Bo)).trans HG.out, v, HV.out, fun q hq => ?_⟩⟩; have := HH.out; rw [hq] at this
  cases b
  ·
   simp at this
  ·
   simp at this; rw [← this]; exact HRR.out
 | succ m ih =>
  intro hm i l A c W ok r hI hL h; have HIH := Az (ih (by omega)); clear ih
  unfold impl_CloseFor.ch at h
  have HA := Az h; have H1 := Az hr1; have H2 := Az hr2; have H3 := Az hr3; have HI := Az hI; have HL := Az hL; have hL2 := hr2.2.1; clear hr1 hr2 hr3 hI hL h; have hu41 := Try.underlying41; have hu55 := Try.underlying55
  have hm0 : (((m + 1 : Nat) : Int) == 0) = false := by rw [beq_eq_false_iff_ne]; omega
  obtain ⟨M, hM⟩ : ∃ M : Int, M = ((m + 1 : Nat) : Int) := ⟨_, rfl⟩
  have hM1 : wrap64 (M - 1) = (m : Int) := by unfold wrap64; omega
  rw [← hM] at hm0 ⊢; have HM := Az hM1; have HMM := Az hM; clear hM hM1
  go_enter Try.func61, Try.ntmps61
  go_wp2_with (first | ((with_reducible refine gate_dst (N := 5) rfl ?_); refine box_event ?hg (N := 5) ?hd (cs := #[.int .i64 a0, .slice A1 s.length c1, .slice A2 t.length c2, .slice A3 u.length c3]) (t := 41) ?hr ?_; (case hd => rfl); (case hg => rfl); (case hr => first | (go_simp; done) | (go_simp; rfl)); intro g5 hg w5 hbox hb; have BK5 := Az hbox; have HB5 := Az hb; have HE5 := Az hg; clear hg hbox hb))
  go_loopg [11] K (fun kq v11 wr => ∃ (j : Int), v11 = .int .i64 j ∧ Aside0 (impl_CloseFor.go (impl_CloseFor.tk k a0 s t u) t (impl_CloseFor.ch (impl_CloseFor.tk k a0 s t u) t K m) l kq j = some r) ∧ Aside0 (kq ≤ K) ∧ Aside0 (W.grownBy wr (some Bo)) ∧ Aside0 (impl_CloseFor.Inv w0 wr Bn Bo a0 A1 c1 s A2 c2 t A3 c3 u) ∧ Aside0 (Kd.R (Kd.int .i64) 3 wr w0.heap.size ok (.slice A l.length c) l) ∧ Aside0 (wr.heap[g5]? = some (.cells #[.int .i64 a0, .slice A1 s.length c1, .slice A2 t.length c2, .slice A3 u.length c3] 41 (0, 0))))
  case atStart => exact ⟨i, rfl, HA, ⟨Nat.le_refl _⟩, ⟨impl_CloseFor.gb HB5.out⟩, ⟨HI.out.grown (impl_CloseFor.gb HB5.out)⟩, ⟨Kd.R_below HL.out HB5.out⟩, BK5⟩
  case round =>
   clear HA HB5 BK5 HI HL; obtain ⟨j, rfl, HA, HK1, HG, HI, HL, BK⟩ := hrel
   cases gk with
   | zero => exact absurd HA.out (by simp [impl_CloseFor.go])
   | succ k1 =>
    have H := HA.out; clear HA; simp only [impl_CloseFor.go] at H; obtain ⟨hz0, hz1, hz2, hz3⟩ := bc4 BK.out
    by_cases c1_ : j < (t.length : Int)
    ·
     rw [if_pos c1_] at H
     by_cases c2_ : 0 ≤ j
     ·
      rw [if_pos c2_] at H; have cb1 : decide (j < (t.length : Int)) = true := decide_eq_true c1_
      have hw1 : wrap64 (j + 1) = j + 1 := by unfold wrap64; omega
      rw [hw1] at H; have HW1 := Az hw1; clear hw1; obtain ⟨ad, ea, hx0, hx1, hx2⟩ := at_T55 H2.out j c2_ c1_; subst ea; have hxt0 := hx2; replace hx2 := pw_cell_below HI.out.below hx2; have p1 := eq_true c1_; have p2 := eq_true c2_
      by_cases c3_ : (rd_T55 t j).f2 = true
      ·
       rw [if_pos c3_] at H; rw [c3_] at hx2; have H' := Az H; clear hx0 hx1 H c3_ hxt0
       go_wp2
       go_quiet (fail)
       go_wp2
       go_roundg k1
       case measure => have := HK1.out; omega
       case rel => exact ⟨j + 1, (by first | rfl | (simp; done) | (simp [*]; done)), H', ⟨by have := HK1.out; omega⟩, ⟨HG.out.trans (impl_CloseFor.gb (pw_below_drewN (Below.refl _ _) _))⟩, ⟨HI.out.grown (impl_CloseFor.gb (pw_below_drewN (Below.refl _ _) _))⟩, ⟨Kd.R_below HL.out (pw_below_drewN (Below.refl _ _) _)⟩, ⟨BK.out⟩⟩
      ·
       rw [if_neg c3_] at H; replace c3_ := Bool.eq_false_iff.mpr c3_; rw [c3_] at hx2
       by_cases c4_ : l.length < 999
       ·
        rw [if_pos c4_] at H; obtain ⟨r1, hrec, H⟩ := Option.bind_eq_some_iff.1 H; rw [c3_] at hxt0; have hxt := Az hxt0; have HREC := Az hrec; have H' := Az H; clear hx0 hx1 H c3_ hrec hxt0
        go_wp2
        have HB7 : Below wr.heap.size wr wr.drew := below_drew1 (Below.refl _ _); have HG7 := Az (HG.out.trans (impl_CloseFor.gb (row := some Bo) HB7)); have HI7 := Az (HI.out.grown (impl_CloseFor.gb HB7)); have HL7 := Az (Kd.R_below HL.out HB7); have BK7 := Az (blk_below BK.out HB7); clear HB7; refine start_ (n := 21) (S := fun w' => w'.cell? ⟨g5, 0, none⟩ = some (.int .i64 a0) ∧ w'.cell? ⟨g5, 1, none⟩ = some (.slice A1 s.length c1) ∧ w'.cell? ⟨g5, 2, none⟩ = some (.slice (some ad) t.length c2) ∧ w'.cell? ⟨g5, 3, none⟩ = some (.slice A3 u.length c3) ∧ w'.cell? ⟨(ad.add (j.toNat * 3)).block, (ad.add (j.toNat * 3)).off + 2, none⟩ = some (.bool false)) (ds := []) impl_CloseFor.M0 (by kernel_rfl) rfl rfl ⟨hz0, hz1, hz2, hz3, hx2⟩ (fun hHeld => ?_); refine with_tabW impl_CloseFor.tab6 impl_CloseFor.bits6 (fun HT_ HW_ => ?_); generalize wr.drew = w7 at HG7 HI7 HL7 BK7 hHeld ⊢; refine pz 2 27 impl_CloseFor.M1 HT_.out ?_; refine pz 0 25 impl_CloseFor.M2 HT_.out ?_; refine tz 1 26 impl_CloseFor.M3 HT_.out HW_.out hHeld ?_; refine pz 3 28 impl_CloseFor.M4 HT_.out ?_; refine pz 4 29 impl_CloseFor.M5 HT_.out ?_; refine tz 5 30 impl_CloseFor.M6 HT_.out HW_.out hHeld ?_; refine pz 6 31 impl_CloseFor.M7 HT_.out ?_; refine pz 7 32 impl_CloseFor.M8 HT_.out ?_; refine tz 8 33 impl_CloseFor.M9 HT_.out HW_.out hHeld ?_; refine pz 9 34 impl_CloseFor.M10 HT_.out ?_; refine pz 10 35 impl_CloseFor.M11 HT_.out ?_; refine pz 11 36 impl_CloseFor.M12 HT_.out ?_; refine pz 12 37 impl_CloseFor.M13 HT_.out ?_; refine pz 13 38 impl_CloseFor.M14 HT_.out ?_; refine pz 15 40 impl_CloseFor.M15 HT_.out ?_; refine pz 18 43 impl_CloseFor.M16 HT_.out ?_; have HC7 := Az (Kd.R_reads' HL7.out); have HHE := Az hHeld; have HSB : Aside0 (∀ (w' : World), Below w7.heap.size w7 w' → (w'.cell? ⟨g5, 0, none⟩ = some (.int .i64 a0) ∧ w'.cell? ⟨g5, 1, none⟩ = some (.slice A1 s.length c1) ∧ w'.cell? ⟨g5, 2, none⟩ = some (.slice (some ad) t.length c2) ∧ w'.cell? ⟨g5, 3, none⟩ = some (.slice A3 u.length c3) ∧ w'.cell? ⟨(ad.add (j.toNat * 3)).block, (ad.add (j.toNat * 3)).off + 2, none⟩ = some (.bool false))) := ⟨fun w' hb => ⟨pw_cell_below hb HHE.out.1, pw_cell_below hb HHE.out.2.1, pw_cell_below hb HHE.out.2.2.1, pw_cell_below hb HHE.out.2.2.2.1, pw_cell_below hb HHE.out.2.2.2.2⟩⟩; refine join_ (σ := Nat) 3 impl_CloseFor.M17 (fun s_ => [(39, .slice (A : Option Addr) l.length l.length), (41, .slice (some ⟨s_, 0, none⟩) 1 1)]) (fun s_ w' => Below w7.heap.size w7 w' ∧ w'.heap[s_]? = some (.cells #[.int .i64 j] 3 (0, 0))) ?cont ?main
        case main =>
         intro hJ; refine two_ (i := 14) (j := 16) (Ni := some 39) (Nj := some 41) impl_CloseFor.M18 impl_CloseFor.M19 rfl rfl rfl rfl (two_of HT_.out (by kernel_rfl)) (by decide) (by decide) (fun K hK => ?_) (fun K hK => ?_)
         ·
          refine goes_ Try.func82 (by kernel_rfl) rfl #[.slice A l.length c] (by rfl) rfl rfl (by (try simp only [List.map_toArray, List.map_cons, List.map_nil]); first | done | rfl) ?_; refine (impl_CloseFor.clip A l.length c w7 HC7.out.2.1 HC7.out.2.2.2.1).mono ?_; rintro e w8 ⟨rfl, rfl⟩; refine ⟨_, rfl, ?_⟩; refine hK.out _ _ hHeld (fun hHeld => ?_); clear hK K; refine norm_ (a' := ?_) ?_ ?_; rotate_left
          ·
           show Act.put _ (some 39) _ = _
           simp only [Act.put, sA, sB, sC, i64_w, i32_w]
           rfl
          refine one_ (i := 16) (N := some 41) impl_CloseFor.M17 rfl rfl (one_of HT_.out (by kernel_rfl)) (by decide) (fun K hK => ?_); refine impl_CloseFor.ev_step (w1 := w8.alloc (.cells #[.int .i64 j] 3 (0, 0))) (v := .slice (some ⟨w8.heap.size, 0, none⟩) 1 1) (by rfl) (by first | (go_simp; done) | (go_simp; rfl)) ?_; refine hK.out _ _ (HSB.out _ (below_alloc (Below.refl _ _) _)) (fun hHeld => ?_); exact norm_ (by first | (simp only [putAll, Act.put, sA, sB, sC]; done) | (simp only [putAll, Act.put, sA, sB, sC]; rfl)) (hJ w8.heap.size _ ⟨below_alloc (Below.refl _ _) _, blk_new _ _⟩)
         ·
          refine impl_CloseFor.ev_step (w1 := w7.alloc (.cells #[.int .i64 j] 3 (0, 0))) (v := .slice (some ⟨w7.heap.size, 0, none⟩) 1 1) (by rfl) (by first | (go_simp; done) | (go_simp; rfl)) ?_; refine hK.out _ _ (HSB.out _ (below_alloc (Below.refl _ _) _)) (fun hHeld => ?_); clear hK K; refine norm_ (a' := ?_) ?_ ?_; rotate_left
          ·
           show Act.put _ (some 41) _ = _
           simp only [Act.put, sA, sB, sC, i64_w, i32_w]
           rfl
          refine one_ (i := 14) (N := some 39) impl_CloseFor.M17 rfl rfl (one_of HT_.out (by kernel_rfl)) (by decide) (fun K hK => ?_); refine goes_ Try.func82 (by kernel_rfl) rfl #[.slice A l.length c] (by rfl) rfl rfl (by (try simp only [List.map_toArray, List.map_cons, List.map_nil]); first | done | rfl) ?_; refine (impl_CloseFor.clip A l.length c _ HC7.out.2.1 HC7.out.2.2.2.1).mono ?_; rintro e w8 ⟨rfl, rfl⟩; refine ⟨_, rfl, ?_⟩; refine hK.out _ _ hHeld (fun hHeld => ?_); clear hK K; exact norm_ (by first | (simp only [putAll, Act.put, sA, sB, sC]; done) | (simp only [putAll, Act.put, sA, sB, sC]; rfl)) (hJ w7.heap.size _ ⟨below_alloc (Below.refl _ _) _, blk_new _ _⟩)
        case cont =>
         rintro s_ w8 ⟨hb8, hs8⟩; have HB8 := Az hb8; have HS8 := Az hs8; have HG8 := Az (HG7.out.trans (impl_CloseFor.gb (row := some Bo) hb8)); have HI8 := Az (HI7.out.grown (impl_CloseFor.gb hb8)); have HL8 := Az (Kd.R_below HL7.out hb8); have BK8 := Az (blk_below BK7.out hb8); have HC8 := Az (Kd.R_reads' HL8.out).2.2; clear hb8 hs8; refine norm_ (a' := ?_) ?_ ?_; rotate_left
         ·
          simp only [putAll, Act.put, sA, sB, sC]
          rfl
         refine one_ (i := 17) (N := some 42) impl_CloseFor.M20 rfl rfl (one_of HT_.out (by kernel_rfl)) (by decide) (fun K hK => ?_); refine impl_CloseFor.app_step (by rfl) (.tmp 39) (.tmp 41) rfl rfl rfl HC8.out (impl_CloseFor.nilLen HC8.out) HS8.out (by omega) (fun v9 w9 hR9 hg9 => ?_); obtain ⟨A9, c9, rfl⟩ := Kd.R_slice hR9; have HB9 := Az (impl_CloseFor.bg hg9); have HI9 := Az (HI8.out.grown hg9); have HG9 := Az (HG8.out.trans (impl_CloseFor.gb (row := some Bo) HB9.out)); have HL9 := Az (Kd.R_below HL8.out HB9.out); have BK9 := Az (blk_below BK8.out HB9.out); have HR9 := Az (Kd.R_lower hR9 (HI8.out.below.size)); clear hR9 hg9; refine hK.out _ _ (HSB.out _ (below_then HB8.out HB8.out.size HB9.out)) (fun hHeld => ?_); clear hK K; refine norm_ (a' := ?_) ?_ ?_; rotate_left
         ·
          show Act.put _ (some 42) _ = _
          simp only [Act.put, sA, sB, sC, i64_w, i32_w]
          rfl
         refine one_ (i := 19) (N := some 44) impl_CloseFor.M21 rfl rfl (one_of HT_.out (by kernel_rfl)) (by decide) (fun K hK => ?_); refine goes_ Try.func61 (by kernel_rfl) rfl #[.agg #[.int .i64 a0, .slice A1 s.length c1, .slice (some ad) t.length c2, .slice A3 u.length c3], .int .i64 (wrap64 (M - 1)), .int .i64 (wrap64 (j + 1)), .slice A9 (l ++ [j]).length c9, .func (.func 62) #[] #[.pointer (some ⟨Bo, 0, none⟩), .pointer (some ⟨Bn, 0, none⟩)]] (by rfl) rfl rfl (by (try simp only [List.map_toArray, List.map_cons, List.map_nil]); first | done | rfl) ?_; rw [HM.out, HW1.out]; refine (HIH.out (j + 1) (l ++ [j]) A9 c9 w9 (fun _ => True) r1 HI9.out HR9.out HREC.out).mono ?_; rintro e w10 ⟨rfl, hleft⟩; refine ⟨_, rfl, ?_⟩; have HLF := Az hleft; have HI10 := Az (impl_CloseFor.Inv.left _ _ _ _ _ _ _ _ _ _ _ _ _ HI9.out hleft); clear hleft
         have hneb : some g5 ≠ some Bo := fun e => by
          obtain ⟨vo, hb⟩ := HI9.out.box; have := BK9.out; rw [Option.some.inj e, hb] at this
          simp at this
         have BK10 := Az (blk_grown BK9.out HLF.out.1 hneb); have HG10 := Az (HG9.out.trans HLF.out.1); have HL10 := Az (impl_CloseFor.RboxI HI9.out HL9.out HLF.out.1); have hx10 := pw_cell_below HI10.out.below hxt.out; obtain ⟨hy0, hy1, hy2, hy3⟩ := bc4 BK10.out; refine hK.out _ _ ⟨hy0, hy1, hy2, hy3, hx10⟩ (fun hHeld => ?_); clear hK K; refine norm_ (a' := ?_) ?_ ?_; rotate_left
         ·
          show Act.put _ (some 44) _ = _
          simp only [Act.put, sA, sB, sC, i64_w, i32_w]
          rfl
         refine pz 20 45 impl_CloseFor.M22 HT_.out ?_; refine done_ (done_of HT_.out (by kernel_rfl)) ?_
         cases r1 with
         | some q =>
          have hr : some (some q) = some r := H'.out; obtain rfl := Option.some.inj hr
          go_wp2
          go_ret
          exact ⟨by first | rfl | simp, HG10.out, HLF.out.2⟩
         | none =>
          have hr : impl_CloseFor.go (impl_CloseFor.tk k a0 s t u) t (impl_CloseFor.ch (impl_CloseFor.tk k a0 s t u) t K m) l k1 (j + 1) = some r := H'.out; have H2_ := Az hr; clear hr H'
          go_wp2
          go_roundg k1
          case measure => have := HK1.out; omega
          case rel => exact ⟨j + 1, (by first | rfl | (simp; done) | (simp [*]; done)), H2_, ⟨by have := HK1.out; omega⟩, HG10, HI10, HL10, BK10⟩
       ·
        rw [if_neg c4_] at H; cases H
     ·
      rw [if_neg c2_] at H; cases H
    ·
     rw [if_neg c1_] at H; have cb1 : decide (j < (t.length : Int)) = false := decide_eq_false c1_; obtain rfl := Option.some.inj H; clear H
     go_wp2
     go_ret
     exact ⟨rfl, HG.out, by obtain ⟨v, hv⟩ := HI.out.box; exact ⟨v, hv, fun q hq => by cases hq⟩⟩
end
/-- So many ties more, from none on, to the most: the first choice that is taken. -/
def impl_CloseFor.lp (tk : List Int → Option Bool) (t : List S55) (K : Nat) (most : Int) : Nat → Nat → Option (List Int × Bool)
 | 0, _ => none
 | k + 1, m => if (m : Int) < most + 1 then (impl_CloseFor.ch tk t K m 0 []).bind fun r => match r with
   | some q => some (q, true)
   | none => impl_CloseFor.lp tk t K most k (m + 1)
  else some ([], false)
def impl_CloseFor.f (k : Nat) (a0 : Int) (s : List S57) (t : List S55) (u : List S59) (most : Int) : Option (List Int × Bool) := (impl_NetOk.f a0 s t u).bind fun ok => if ok = true then (impl_in.f most 0 3).bind fun b => (if b = true then impl_CloseFor.lp (impl_CloseFor.tk k a0 s t u) t k most k 0 else some ([], false)) else some ([], false)
set_option maxHeartbeats 8000000 in
set_option maxRecDepth 100000 in
theorem impl_CloseFor.calls (k : Nat) (a0_0 : Int) (A0_1 : Option Addr) (c0_1 : Nat) (l0_1 : List S57) (A0_2 : Option Addr) (c0_2 : Nat) (l0_2 : List S55) (A0_3 : Option Addr) (c0_3 : Nat) (l0_3 : List S59) (a1 : Int) (r1 : List Int) (r2 : Bool) (w : World) (hr0_1 : Kd.C k57 w A0_1 l0_1.length l0_1) (hc0_1 : l0_1.length ≤ c0_1) (hr0_2 : Kd.C k55 w A0_2 l0_2.length l0_2) (hc0_2 : l0_2.length ≤ c0_2) (hr0_3 : Kd.C k59 w A0_3 l0_3.length l0_3) (hc0_3 : l0_3.length ≤ c0_3) (h : impl_CloseFor.f k a0_0 l0_1 l0_2 l0_3 a1 = some (r1, r2)) :
  Calls Try.prog 29 #[.agg #[.int .i64 a0_0, .slice A0_1 l0_1.length c0_1, .slice A0_2 l0_2.length c0_2, .slice A0_3 l0_3.length c0_3], .int .i64 a1] w fun e w' => ∃ v0_ : Value, e = .returned (.tuple #[v0_, .bool r2]) ∧ Kd.R (Kd.int .i64) 3 w' w.heap.size (fun _ => True) v0_ r1 ∧ Below w.heap.size w w' := by
 have hu41 := Try.underlying41
 unfold impl_CloseFor.f at h
 obtain ⟨ok, hok, h⟩ := Option.bind_eq_some_iff.1 h; have HOK := Az hok; have H1 := Az hr0_1; have H2 := Az hr0_2; have H3 := Az hr0_3; clear hok hr0_1 hr0_2 hr0_3
 cases ok with
 | false =>
  simp only [Bool.false_eq_true, if_false, Option.some.injEq, Prod.mk.injEq] at h; obtain ⟨rfl, rfl⟩ := h
  go_enter Try.func29, Try.ntmps29
  go_wp2_with (first | ((with_reducible refine gate_dst (N := 2) rfl ?_); refine box_event ?hg (N := 2) ?hd (cs := #[.int .i64 a0_0, .slice A0_1 l0_1.length c0_1, .slice A0_2 l0_2.length c0_2, .slice A0_3 l0_3.length c0_3]) (t := 41) ?hr ?_; (case hd => rfl); (case hg => rfl); (case hr => first | (go_simp; done) | (go_simp; rfl)); intro g5 hg w5 hbox hb; have BK5 := Az hbox; have HB5 := Az hb; have HG5 := Az hg; clear hg hbox hb; obtain ⟨hz0, hz1, hz2, hz3⟩ := bc4 BK5.out) | (go_at_call 17; refine (impl_NetOk.calls a0_0 _ _ l0_1 _ _ l0_2 _ _ l0_3 false w5 (Kd.C_below H1.out HB5.out) hc0_1 (Kd.C_below H2.out HB5.out) hc0_2 (Kd.C_below H3.out HB5.out) hc0_3 HOK.out).mono ?_; rintro e w6 ⟨rfl, hb⟩; have HB6 := Az hb; clear hb))
  go_ret2
  exact ⟨_, by first | rfl | simp, Kd.R_nil _ _ _ _ _, below_step HB5.out HB6.out⟩
 | true =>
  simp only [if_true] at h; obtain ⟨b, hb, h⟩ := Option.bind_eq_some_iff.1 h; have HBB := Az hb
  cases b with
  | false =>
   clear hb; simp only [Bool.false_eq_true, if_false, Option.some.injEq, Prod.mk.injEq] at h; obtain ⟨rfl, rfl⟩ := h
   go_enter Try.func29, Try.ntmps29
   go_wp2_with (first | ((with_reducible refine gate_dst (N := 2) rfl ?_); refine box_event ?hg (N := 2) ?hd (cs := #[.int .i64 a0_0, .slice A0_1 l0_1.length c0_1, .slice A0_2 l0_2.length c0_2, .slice A0_3 l0_3.length c0_3]) (t := 41) ?hr ?_; (case hd => rfl); (case hg => rfl); (case hr => first | (go_simp; done) | (go_simp; rfl)); intro g5 hg w5 hbox hb; have BK5 := Az hbox; have HB5 := Az hb; have HG5 := Az hg; clear hg hbox hb; obtain ⟨hz0, hz1, hz2, hz3⟩ := bc4 BK5.out) | (go_at_call 17; refine (impl_NetOk.calls a0_0 _ _ l0_1 _ _ l0_2 _ _ l0_3 true w5 (Kd.C_below H1.out HB5.out) hc0_1 (Kd.C_below H2.out HB5.out) hc0_2 (Kd.C_below H3.out HB5.out) hc0_3 HOK.out).mono ?_; rintro e w6 ⟨rfl, hb⟩; have HB6 := Az hb; clear hb) | (go_at_call 36; refine (impl_in.calls a1 0 3 false _ HBB.out).mono ?_; rintro e w7 ⟨rfl, ⟨nd, rfl⟩⟩))
   go_ret2
   exact ⟨_, by first | rfl | simp, Kd.R_nil _ _ _ _ _, pw_below_drewN (below_step HB5.out HB6.out) _⟩
  | true =>
   simp only [if_true] at h
   have ha : 0 ≤ a1 ∧ a1 ≤ 3 := by
    unfold impl_in.f at hb
    split at hb
    ·
     rename_i g
     simp only [Option.some.injEq, decide_eq_true_eq] at hb; exact ⟨g, hb⟩
    ·
     cases hb
   clear hb; have HAA := Az ha
   have hw1 : wrap64 (a1 + 1) = a1 + 1 := by unfold wrap64; omega
   have HW1 := Az hw1; have HH := Az h
   have hwi : IntKind.i64.wrap (a1 + 1) = a1 + 1 := by rw [IntKind.wrap_i64]; omega
   clear h ha hw1
   go_enter Try.func29, Try.ntmps29
   go_wp2_with (first | ((with_reducible refine gate_dst (N := 2) rfl ?_); refine box_event ?hg (N := 2) ?hd (cs := #[.int .i64 a0_0, .slice A0_1 l0_1.length c0_1, .slice A0_2 l0_2.length c0_2, .slice A0_3 l0_3.length c0_3]) (t := 41) ?hr ?_; (case hd => rfl); (case hg => rfl); (case hr => first | (go_simp; done) | (go_simp; rfl)); intro g5 hg w5 hbox hb; have BK5 := Az hbox; have HB5 := Az hb; have HG5 := Az hg; clear hg hbox hb; obtain ⟨hz0, hz1, hz2, hz3⟩ := bc4 BK5.out) | (go_at_call 17; refine (impl_NetOk.calls a0_0 _ _ l0_1 _ _ l0_2 _ _ l0_3 true w5 (Kd.C_below H1.out HB5.out) hc0_1 (Kd.C_below H2.out HB5.out) hc0_2 (Kd.C_below H3.out HB5.out) hc0_3 HOK.out).mono ?_; rintro e w6 ⟨rfl, hb⟩; have HB6 := Az hb; clear hb) | (go_at_call 36; refine (impl_in.calls a1 0 3 true _ HBB.out).mono ?_; rintro e w7 ⟨rfl, ⟨nd, rfl⟩⟩) | ((with_reducible refine gate_dst (N := 6) rfl ?_); refine box_event ?hg (N := 6) ?hd (cs := #[.slice none 0 0]) (t := 45) ?hr ?_; (case hd => rfl); (case hg => rfl); (case hr => first | (go_simp; done) | (go_simp; rfl)); intro g6 hg w8 hbox hb; have BK6 := Az hbox; have HB8 := Az hb; have HG6 := Az hg; clear hg hbox hb; have hzb := (blk_cell BK6.out 0).trans rfl; have hzf := blk_frozen BK6.out 0) | ((with_reducible refine gate_store (t := 45) (p := 6) rfl ?_); refine store_event (t := 45) (p := 6) (v := ?vo_w9) (w1 := (w8.setCell ⟨g6, 0, none⟩ (.slice none 0 0))) ?hg ?ho ?hn ?hr ?_; (case ho => rfl); (case hg => rfl); (case hn => rfl); (case hr => first | (go_simp; done) | (go_simp; rfl)); intro w9 hw; have HS9 := Az hw; clear hw))
   have HBA := Az (pw_below_drewN (below_step HB5.out HB6.out) nd); have HB88 := Az (below_step HBA.out HB8.out)
   have hge : w.heap.size ≤ g6 := by rw [HG6.out]; exact HBA.out.size
   have hge5 : w.heap.size ≤ g5 := by rw [HG5.out]; exact Nat.le_refl _
   have hb6 : w6.heap[g5]? = some (.cells #[.int .i64 a0_0, .slice A0_1 l0_1.length c0_1, .slice A0_2 l0_2.length c0_2, .slice A0_3 l0_3.length c0_3] 41 (0, 0)) := blk_below BK5.out HB6.out; have hb8 : w8.heap[g5]? = some (.cells #[.int .i64 a0_0, .slice A0_1 l0_1.length c0_1, .slice A0_2 l0_2.length c0_2, .slice A0_3 l0_3.length c0_3] 41 (0, 0)) := blk_below (w := w6.drewN nd) (blk_drewN hb6 nd) HB8.out
   have hne : g5 ≠ g6 := fun e => by
    have h1 := blk_lt hb6; have h2 := HG6.out; have h3 : (w6.drewN nd).heap.size = w6.heap.size := rfl
    omega
   have HI := Az (show impl_CloseFor.Inv w w9 g5 g6 a0_0 A0_1 c0_1 l0_1 A0_2 c0_2 l0_2 A0_3 c0_3 l0_3 from ⟨by rw [HS9.out]; exact below_set HB88.out hge, by rw [HS9.out]; exact (Below.heap_setCell w8 ⟨g6, 0, none⟩ _ g5 hne).trans hb8, ⟨_, by rw [HS9.out]; exact blk_put BK6.out 0 _ rfl⟩, hge5, hge⟩); clear HS9 hb8 hb6 HB88 HBA hge hge5 hne HG6 HG5 HB8 BK6 BK5 HB5 HB6 hzb hzf hz0 hz1 hz2 hz3 HBB HOK
   go_loopg [7, 18] k (fun kq v7 v18 wr => ∃ m : Nat, v18 = .int .i64 m ∧ Aside0 ((m : Int) ≤ a1 + 1) ∧ Aside0 (impl_CloseFor.lp (impl_CloseFor.tk k a0_0 l0_1 l0_2 l0_3) l0_2 k a1 kq m = some (r1, r2)) ∧ Aside0 (kq ≤ k) ∧ Aside0 (impl_CloseFor.Inv w wr g5 g6 a0_0 A0_1 c0_1 l0_1 A0_2 c0_2 l0_2 A0_3 c0_3 l0_3))
   case atStart => exact ⟨0, rfl, ⟨by have := HAA.out; omega⟩, HH, ⟨Nat.le_refl _⟩, HI⟩
   case round =>
    clear HI HH; obtain ⟨m, rfl, HM, HA, HK1, HI⟩ := hrel
    cases gk with
    | zero => exact absurd HA.out (by simp [impl_CloseFor.lp])
    | succ k1 =>
     have H := HA.out; clear HA; simp only [impl_CloseFor.lp] at H; obtain ⟨hz0, hz1, hz2, hz3⟩ := bc4 HI.out.net
     by_cases hlt : (m : Int) < a1 + 1
     ·
      rw [if_pos hlt] at H; have hltb : decide ((m : Int) < a1 + 1) = true := decide_eq_true hlt; obtain ⟨r, hch, H⟩ := Option.bind_eq_some_iff.1 H; have HC := Az (impl_CloseFor.choose k w g5 g6 a0_0 A0_1 c0_1 l0_1 A0_2 c0_2 l0_2 A0_3 c0_3 l0_3 H1.out hc0_1 H2.out hc0_2 H3.out hc0_3 k m (by have := HAA.out; omega) 0 [] none 0 wr (fun _ => True) r HI.out (Kd.R_nil _ _ _ _ _) hch); have HH := Az H; clear hch H; have HLT := Az hlt
      cases r with
      | some q =>
       go_wp2_with (first | (go_at_call 61; refine HC.out.mono ?_; rintro e w10 ⟨rfl, hleft⟩; obtain ⟨hg, v, hv, hq⟩ := hleft; have HI10 := Az (impl_CloseFor.Inv.left _ _ _ _ _ _ _ _ _ _ _ _ _ HI.out ⟨hg, v, hv, hq⟩); have HQ := Az (hq q rfl); have hcv := (blk_cell hv 0).trans rfl; clear hg hv hq))
       go_ret2
       have e := HH.out; simp only [Option.some.injEq, Prod.mk.injEq] at e; obtain ⟨rfl, rfl⟩ := e; exact ⟨_, by first | rfl | simp, HQ.out, HI10.out.below⟩
      | none =>
       go_wp2_with (first | (go_at_call 61; refine HC.out.mono ?_; rintro e w10 ⟨rfl, hleft⟩; have HI10 := Az (impl_CloseFor.Inv.left _ _ _ _ _ _ _ _ _ _ _ _ _ HI.out hleft); clear hleft))
       go_roundg k1
       case measure => have := HK1.out; omega
       case rel => exact ⟨m + 1, (by first | rfl | (simp; done) | go_num | (have := HLT.out; have := HAA.out; rw [show ((m + 1 : Nat) : Int) = wrap64 ((m : Int) + 1) from by unfold wrap64; omega])), ⟨by have := HLT.out; omega⟩, HH, ⟨by have := HK1.out; omega⟩, HI10⟩
     ·
      rw [if_neg hlt] at H; have hltb : decide ((m : Int) < a1 + 1) = false := decide_eq_false hlt; simp only [Option.some.injEq, Prod.mk.injEq] at H; obtain ⟨rfl, rfl⟩ := H
      go_wp2
      go_ret2
      exact ⟨_, by first | rfl | simp, Kd.R_nil _ _ _ _ _, HI.out.below⟩

/-! ### spec_l1In: function 33 -/
def spec_l1In.f (a0 : Int) (a1 : Int) (a2 : Int) : Option (Bool) := if a0 ≥ a1 then (some (decide (a0 ≤ a2))) else (some false)
set_option maxHeartbeats 8000000 in
set_option maxRecDepth 100000 in
theorem spec_l1In.calls (a0 : Int) (a1 : Int) (a2 : Int) (r : Bool) (w : World) (h : spec_l1In.f a0 a1 a2 = some r) :
  Calls Try.prog 33 #[.int .i64 a0, .int .i64 a1, .int .i64 a2] w fun e w' => e = .returned (.bool r) ∧ Drawn0 w w' := by
 have H : (if a0 ≥ a1 then (some (decide (a0 ≤ a2))) else (some false)) = some r := h; clear h
 by_cases c4 : a0 ≥ a1
 ·
  rw [if_pos c4] at H; have c4b0 : decide (a1 ≤ a0) = true := decide_eq_true c4; clear c4; obtain rfl := Option.some.inj H
  go_enter Try.func33, Try.ntmps33
  go_wp2
  go_ret
  exact ⟨by first | rfl | (simp; done) | (simp [*]; done), by repeat (first | exact Drawn0.refl _ | apply Drawn0.step)⟩
 ·
  rw [if_neg c4] at H; have c4b0 : decide (a1 ≤ a0) = false := decide_eq_false c4; clear c4; obtain rfl := Option.some.inj H
  go_enter Try.func33, Try.ntmps33
  go_wp2
  go_ret
  exact ⟨by first | rfl | (simp; done) | (simp [*]; done), by repeat (first | exact Drawn0.refl _ | apply Drawn0.step)⟩

end Go.Proofs.Ytbbfibokedlkkaa.PFnTied
