/- Walks of the functions named below, by a program of the session over the kit's printer. -/
import Derived.Test.YtjndpoofjidamaaPFnExactTake14x0
import Derived.Test.YtjndpoofjidamaaPFnExactTake14x2
import Derived.Test.YtjndpoofjidamaaPFnExactTake14x5
namespace Go.Proofs.Ytjndpoofjidamaa.PFnExactTake14
open Go.RowKit Go.Proofs.YtjndpoofjidamaaW.PrintWords Go.Proofs.YtjndpoofjidamaaW.PrintLast Go.Proofs.YtjndpoofjidamaaW.PrintMore
attribute [local go_sem] max2_int min2_int max_two min_two max_three min_three max_four min_four   -- for this text's walks alone
set_option linter.unusedVariables false
set_option linter.unusedSimpArgs false

/-! ### impl_Take14: function 28, by hand -/
/-! slices.Insert of one element, at a row of one's own -/
def impl_Take14.ovl (l : List Value) (o : Nat) (vs : List Value) : List Value := l.take o ++ vs ++ l.drop (o + vs.length)
theorem impl_Take14.ovl_cons (l : List Value) (o : Nat) (v : Value) (r : List Value) (h : o < l.length) : impl_Take14.ovl (l.set o v) (o + 1) r = impl_Take14.ovl l o (v :: r) := by
 unfold impl_Take14.ovl
 have e1 : (l.set o v).take (o + 1) = l.take o ++ [v] := by
  rw [List.take_add_one, List.getElem?_set_self h, List.take_set, List.set_eq_of_length_le (by rw [List.length_take]; omega)]; rfl
 have e2 : (l.set o v).drop (o + 1 + r.length) = l.drop (o + (v :: r).length) := by
  rw [List.drop_set_of_lt (by omega), List.length_cons]; congr 1; omega
 rw [e1, e2, List.append_assoc (l.take o)]; rfl
theorem impl_Take14.heap_setCells (b : Nat) : ∀ (vs : List Value) (o : Nat) (w : World) (cur : Array Value) (t : TypeId), w.heap[b]? = some (.cells cur t (0, 0)) → o + vs.length ≤ cur.size → ∃ cur', (w.setCells b o vs).heap[b]? = some (.cells cur' t (0, 0)) ∧ cur'.toList = impl_Take14.ovl cur.toList o vs ∧ cur'.size = cur.size
 | [], o, w, cur, t, h, _ => ⟨cur, h, by simp [impl_Take14.ovl], rfl⟩
 | v :: r, o, w, cur, t, h, hl => by
  rw [List.length_cons] at hl; obtain ⟨cur', h1, h2, h3⟩ := impl_Take14.heap_setCells b r (o + 1) (w.setCell ⟨b, o, none⟩ v) (cur.setIfInBounds o v) t (blk_set h o v) (by rw [Array.size_setIfInBounds]; omega); refine ⟨cur', h1, ?_, by rw [h3, Array.size_setIfInBounds]⟩; rw [h2, Array.toList_setIfInBounds]; exact impl_Take14.ovl_cons _ _ _ _ (by simpa using (show o < cur.size by omega))
theorem impl_Take14.grown_setCells (b : Nat) : ∀ (vs : List Value) (o : Nat) (w : World), w.grownBy (w.setCells b o vs) (some b)
 | [], _, w => ⟨rfl, rfl, rfl, Nat.le_refl _, fun _ _ _ => rfl⟩
 | v :: r, o, w => World.grownBy.trans (b := w.setCell ⟨b, o, none⟩ v) ⟨rfl, rfl, rfl, by simp [World.setCell], fun k _ hk => Below.heap_setCell w ⟨b, o, none⟩ v k (fun e => hk (congrArg some e))⟩ (impl_Take14.grown_setCells b r (o + 1) _)
theorem impl_Take14.own_of {w : World} {base g cap n : Nat} {cur : Array Value} {ok : Nat → Prop} (hbase : base ≤ g) (h : w.heap[g]? = some (.cells cur 9 (0, 0))) (hsz : cur.size = cap) (hn : n ≤ cap) (hcm : cap ≤ maxLen) (ys : List ByteArray) (hys : ys.length = n) (ht : cur.toList.take n = ys.map Value.string) (hok : ok g) : Kd.R Kd.string 9 w base ok (.slice (some ⟨g, 0, none⟩) n cap) ys := by
 subst hys; exact Kd.R_of_own (enc := Value.string) ⟨by simp [encs], .inr ⟨g, cap, cur, rfl, hbase, h, hn, hcm, by rw [hsz, Nat.mul_one], by rw [Nat.mul_one]; exact ht⟩⟩ (fun k hk => by simp [Value.ownBlock] at hk; subst hk; exact hok)
/-- The list with one more at a place. -/
def impl_Take14.put (l : List ByteArray) (i : Nat) (x : ByteArray) : List ByteArray := l.take i ++ x :: l.drop i
theorem impl_Take14.put_map (l : List ByteArray) (i : Nat) (x : ByteArray) : (impl_Take14.put l i x).map Value.string = (l.map Value.string).take i ++ Value.string x :: (l.map Value.string).drop i := by
 unfold impl_Take14.put; rw [List.map_append, List.map_cons, List.map_take, List.map_drop]
theorem impl_Take14.put_len (l : List ByteArray) (i : Nat) (x : ByteArray) (h : i ≤ l.length) : (impl_Take14.put l i x).length = l.length + 1 := by
 unfold impl_Take14.put; rw [List.length_append, List.length_cons, List.length_take, List.length_drop]; omega
/-- What stands in a row in which the rest was shifted, then the new one laid. -/
theorem impl_Take14.shift (cs sp : List Value) (i : Nat) (v : Value) (hi : i ≤ cs.length) (hs : 0 < sp.length) : (impl_Take14.ovl (impl_Take14.ovl (cs ++ sp) (i + 1) (cs.drop i)) i [v]).take (cs.length + 1) = cs.take i ++ v :: cs.drop i := by
 have h1 : ((cs ++ sp).take (i + 1)).length = i + 1 := by rw [List.length_take, List.length_append]; omega
 have e1 : impl_Take14.ovl (cs ++ sp) (i + 1) (cs.drop i) = (cs ++ sp).take (i + 1) ++ (cs.drop i ++ (cs ++ sp).drop (i + 1 + (cs.drop i).length)) := by unfold impl_Take14.ovl; rw [List.append_assoc]
 have e2 : ((cs ++ sp).take (i + 1) ++ (cs.drop i ++ (cs ++ sp).drop (i + 1 + (cs.drop i).length))).take i = cs.take i := by
  rw [List.take_append_of_le_length (by omega), List.take_take, show min i (i + 1) = i by omega, List.take_append_of_le_length hi]
 have e3 : ((cs ++ sp).take (i + 1) ++ (cs.drop i ++ (cs ++ sp).drop (i + 1 + (cs.drop i).length))).drop (i + 1) = cs.drop i ++ (cs ++ sp).drop (i + 1 + (cs.drop i).length) := List.drop_left' h1; rw [e1]
 unfold impl_Take14.ovl
 rw [e2, List.length_singleton, e3, ← List.append_assoc]
 have h2 : (cs.take i ++ [v] ++ cs.drop i).length = cs.length + 1 := by simp; omega
 rw [List.take_left' h2]; simp
theorem impl_Take14.grow_l (C0 cs : List Value) (i : Nat) (v : Value) (hi : i ≤ cs.length) (hC : C0.take i = cs.take i) (hlen : cs.length + 1 ≤ C0.length) : (impl_Take14.ovl (impl_Take14.ovl C0 i [v]) (i + 1) (cs.drop i)).take (cs.length + 1) = cs.take i ++ v :: cs.drop i := by
 have h1 : (C0.take i ++ [v]).length = i + 1 := by rw [List.length_append, List.length_take, List.length_singleton]; omega
 have e1 : (impl_Take14.ovl C0 i [v]).take (i + 1) = cs.take i ++ [v] := by
  unfold impl_Take14.ovl
  rw [List.take_left' h1, hC]
 generalize impl_Take14.ovl C0 i [v] = l1 at e1
 unfold impl_Take14.ovl
 rw [e1]
 have h2 : (cs.take i ++ [v] ++ cs.drop i).length = cs.length + 1 := by simp; omega
 rw [List.take_left' h2]; simp
theorem impl_Take14.end2 (cs zs : List Value) (v : Value) : (cs ++ ([v] ++ zs)).take (cs.length + 1) = cs ++ [v] := by
 rw [← List.append_assoc]; exact List.take_left' (by simp)
theorem impl_Take14.end_l (cs sp : List Value) (v : Value) : (impl_Take14.ovl (cs ++ sp) cs.length [v]).take (cs.length + 1) = cs ++ [v] := by
 unfold impl_Take14.ovl
 rw [List.take_left' rfl]; exact List.take_left' (by simp)
def impl_Take14.ren : Go.Shelf.Ren := ⟨fun | 22 => 92 | 29 => 99 | 30 => 100 | 36 => 103 | 17 => 105 | n => n, fun | 24 => 29 | 9 => 9 | 3 => 3 | 4 => 4 | 0 => 0 | n => n, fun | n => n⟩
theorem impl_Take14.lays : Go.Proofs.Lays2.n22 Try.prog impl_Take14.ren := {
 mixed := by kernel_rfl,
 f17 := Try.func105.trans (congrArg some (by kernel_rfl)),
 f22 := Try.func92.trans (congrArg some (by kernel_rfl)),
 f29 := Try.func99.trans (congrArg some (by kernel_rfl)),
 f30 := Try.func100.trans (congrArg some (by kernel_rfl)),
 f36 := Try.func103.trans (congrArg some (by kernel_rfl)),
 t0 := Try.underlying0,
 a0 := Try.isAgg0,
 z0 := Try.sizeOf0,
 v0 := Try.zeroValue0,
 t3 := Try.underlying3,
 a3 := Try.isAgg3,
 z3 := Try.sizeOf3,
 v3 := Try.zeroValue3,
 t4 := Try.underlying4,
 a4 := Try.isAgg4,
 z4 := Try.sizeOf4,
 v4 := Try.zeroValue4,
 t9 := Try.underlying9,
 a9 := Try.isAgg9,
 z9 := Try.sizeOf9,
 v9 := Try.zeroValue9,
 t24 := Try.underlying29,
 a24 := Try.isAgg29,
 z24 := Try.sizeOf29,
 v24 := Try.zeroValue29,
 i9 := by kernel_rfl }

set_option maxHeartbeats 4000000 in
theorem impl_Take14.ins (base : Nat) (ok : Nat → Prop) (A : Option Addr) (c : Nat) (xs : List ByteArray) (x : ByteArray) (i : Nat) (hi : i ≤ xs.length) (hl : xs.length < 4398046511104) (w0 w : World) (hB : Below base w0 w) (hbase : base ≤ w.heap.size) (hR : Kd.R Kd.string 9 w base ok (.slice A xs.length c) xs) (B2 : Nat) (hB2 : w.heap[B2]? = some (.cells #[.string x] 9 (0, 0))) (hne : ∀ g, A = some ⟨g, 0, none⟩ → B2 ≠ g) :
  Calls Try.prog 92 #[.slice A xs.length c, .int .i64 i, .slice (some ⟨B2, 0, none⟩) 1 1] w fun e w' => ∃ v : Value, e = .returned v ∧ Kd.R Kd.string 9 w' base (fun k => ok k ∨ w.heap.size ≤ k) v (impl_Take14.put xs i x) ∧ Below base w0 w' := by
 have hok := hR.1; have ho : w.ownsRow base 9 1 (.slice A xs.length c) xs.length (encs Value.string xs) := Kd.own_of_R hR
 have hvs : ∀ j v, [Value.string x][j]? = some v → w.cell? ⟨B2, 0 + j, none⟩ = some v := fun j v hv => by
  rw [Nat.zero_add]
  cases j with
  | zero => rw [← hv]; exact (blk_cell hB2 0).trans rfl
  | succ j => simp at hv
 have h1v : ∀ v ∈ [Value.string x], v.oneCell' = true := fun v hv => by rw [List.mem_singleton.1 hv]; rfl
 have hcl : (xs.map Value.string).length = xs.length := List.length_map _
 have h1c : ∀ v ∈ xs.map Value.string, v.oneCell' = true := fun v hv => by obtain ⟨y, _, rfl⟩ := List.mem_map.1 hv; rfl
 have hpl := impl_Take14.put_len xs i x hi; obtain ⟨hlen, ⟨hnil, h0⟩ | ⟨g, cap, cur, hv, hbg, hc, hncap, hcm, hsz, htk⟩⟩ := ho
 ·
  -- no row: the end of nothing
  obtain rfl : xs = [] := List.eq_nil_of_length_eq_zero h0
  injection hnil with hA _ hc0
  subst hA; subst hc0
  obtain rfl : i = 0 := by simpa using hi
  refine (Any2.slices_Insert_string_end_grow impl_Take14.lays none 0 0 B2 0 1 1 [] [.string x] w (by omega) (by omega) (by omega) (by omega) rfl rfl (fun _ => rfl) (fun a h => by cases h) hvs h1v).mono ?_; rintro e w' ⟨rfl, rfl⟩; refine ⟨_, rfl, ?_, ?_⟩
  ·
   refine impl_Take14.own_of (cap := grownCap w (0 + 1) 0 (impl_Take14.ren.t 9)) hbase (heap_alloc_new w.drew _) ?_ (grownCap_ge w (0 + 1) 0 _) (grownCap_le_maxLen w (0 + 1) 0 _ (by decide)) _ rfl ?_ (.inr (Nat.le_refl _))
   ·
    have := grownCap_ge w (0 + 1) 0 (impl_Take14.ren.t 9); generalize grownCap w (0 + 1) 0 (impl_Take14.ren.t 9) = cp at this; rw [Array.size_append, size_zeroCells]
    show 1 + (cp - (0 + 1)) * 1 = cp
    omega
   ·
    simp [impl_Take14.put]
  ·
   exact pw_below_grown hB none hbase ⟨rfl, rfl, rfl, by simp, fun k hk _ => Below.heap_alloc w.drew _ k hk⟩ (fun k hk => by cases hk)
 ·
  injection hv with hA hn hc0
  subst hA; subst hc0; have hgw : g < w.heap.size := blk_lt hc; have hg := hne g rfl; rw [Nat.mul_one] at hsz htk; have htk : cur.toList.take xs.length = xs.map Value.string := htk
  have hcur : cur.toList = xs.map Value.string ++ cur.toList.drop xs.length := by rw [← htk, List.take_append_drop]
  have hcs : ∀ j v, (xs.map Value.string)[j]? = some v → w.cell? ⟨g, 0 + j, none⟩ = some v := fun j v hv => by
   have hj : j < xs.length := by
    have := (List.getElem?_eq_some_iff.1 hv).1
    rwa [hcl] at this
   rw [Nat.zero_add, blk_cell hc j, ← hv, ← Array.getElem?_toList, hcur, List.getElem?_append_left (by rw [hcl]; exact hj)]
  have hsome : ∀ j, j < c → (w.cell? ⟨g, j, none⟩).isSome = true := fun j hj => by
   rw [blk_cell hc j, Array.getElem?_eq_getElem (by omega)]; rfl
  by_cases hroom : xs.length + 1 ≤ c
  ·
   by_cases hend : i = xs.length
   ·
    subst hend; refine (Any2.slices_Insert_string_end_room impl_Take14.lays g 0 xs.length c B2 0 1 1 [.string x] w (by omega) hroom (by simpa [maxLen] using hcm) rfl (fun j hj => hsome _ (by omega)) (fun j hj => blk_frozen hc _) hvs h1v).mono ?_; rintro e w' ⟨rfl, rfl⟩; obtain ⟨cur', k1, k2, k3⟩ := impl_Take14.heap_setCells g [.string x] (0 + xs.length) w cur 9 hc (by simp; omega); refine ⟨_, rfl, ?_, pw_below_grown hB (some g) hbase (impl_Take14.grown_setCells g _ _ w) (fun k hk => by cases hk; exact hbg)⟩; refine impl_Take14.own_of hbg k1 (by omega) hroom hcm (impl_Take14.put xs xs.length x) (by rw [hpl]) ?_ (.inl (hok g rfl)); rw [k2, Nat.zero_add, hcur, impl_Take14.put_map]; have := impl_Take14.end_l (xs.map Value.string) (cur.toList.drop xs.length) (.string x); rw [hcl] at this; rw [this, List.take_of_length_le (by rw [hcl]; omega), List.drop_of_length_le (by rw [hcl]; omega)]
   ·
    refine (Any2.slices_Insert_string_shift impl_Take14.lays g 0 xs.length c i B2 0 1 1 (xs.map Value.string) [.string x] w (by omega) (by omega) hroom (by simpa [maxLen] using hcm) hg hcl rfl hcs (fun j hj => by rw [Nat.zero_add]; exact hsome _ (by omega)) (fun j hj => blk_frozen hc _) hvs h1c h1v 9 9 1 cur.size (by simp [World.shape?, hB2]) (by simp [World.shape?, hc]) (by omega) (blk_frozen hB2 _) (blk_frozen hB2 _)).mono ?_; rintro e w' ⟨rfl, rfl⟩
    have hd : ((xs.map Value.string).drop i).length = xs.length - i := by rw [List.length_drop, hcl]
    obtain ⟨cur1, k1, k2, k3⟩ := impl_Take14.heap_setCells g ((xs.map Value.string).drop i) (0 + (i + 1)) w.drew cur 9 hc (by omega); obtain ⟨cur2, m1, m2, m3⟩ := impl_Take14.heap_setCells g [.string x] (0 + i) _ cur1 9 k1 (by simp; omega); have hg1 := impl_Take14.grown_setCells g ((xs.map Value.string).drop i) (0 + (i + 1)) w.drew; have hg2 := impl_Take14.grown_setCells g [.string x] (0 + i) (w.drew.setCells g (0 + (i + 1)) ((xs.map Value.string).drop i)); have hB1 : Below base w0 w.drew := below_drew1 hB; have hB3 := pw_below_grown hB1 (some g) hbase (World.grownBy.trans hg1 hg2) (fun k hk => by cases hk; exact hbg); refine ⟨_, rfl, ?_, hB3⟩; refine impl_Take14.own_of hbg m1 (by omega) hroom hcm (impl_Take14.put xs i x) (by rw [hpl]) ?_ (.inl (hok g rfl)); rw [m2, k2, Nat.zero_add, Nat.zero_add, hcur, impl_Take14.put_map]; have := impl_Take14.shift (xs.map Value.string) (cur.toList.drop xs.length) i (.string x) (by omega) (by rw [List.length_drop]; simp; omega); rw [hcl] at this; exact this
  ·
   by_cases hend : i = xs.length
   ·
    subst hend; refine (Any2.slices_Insert_string_end_grow impl_Take14.lays (some ⟨g, 0, none⟩) xs.length c B2 0 1 1 (xs.map Value.string) [.string x] w (by omega) hncap (by omega) (by omega) hcl rfl (fun h => by cases h) (fun a ha j v hj => by cases ha; rw [Addr.add_lit]; exact hcs j v hj) hvs h1v).mono ?_; rintro e w' ⟨rfl, rfl⟩; refine ⟨_, rfl, ?_, pw_below_grown hB none hbase ⟨rfl, rfl, rfl, by simp, fun k hk _ => Below.heap_alloc w.drew _ k hk⟩ (fun k hk => by cases hk)⟩; refine impl_Take14.own_of (cap := grownCap w (xs.length + 1) c (impl_Take14.ren.t 9)) hbase (heap_alloc_new w.drew _) ?_ (grownCap_ge w (xs.length + 1) c _) (grownCap_le_maxLen w (xs.length + 1) c _ (by simp only [maxLen]; omega)) (impl_Take14.put xs xs.length x) (by rw [hpl]) ?_ (.inr (Nat.le_refl _))
    ·
     have := grownCap_ge w (xs.length + 1) c (impl_Take14.ren.t 9); generalize grownCap w (xs.length + 1) c (impl_Take14.ren.t 9) = cp at this; rw [Array.size_append, size_zeroCells, List.size_toArray, List.length_append, hcl]
     show xs.length + 1 + (cp - (xs.length + 1)) * 1 = cp
     omega
    ·
     rw [impl_Take14.put_map, List.take_of_length_le (l := xs.map Value.string) (by rw [hcl]; omega), List.drop_of_length_le (by rw [hcl]; omega), Array.toList_append, List.append_assoc]; have := impl_Take14.end2 (xs.map Value.string) (Builtin.zeroCells (Value.string ⟨#[]⟩).cells (grownCap w (xs.length + 1) c (impl_Take14.ren.t 9) - (xs.length + 1))).toList (.string x); rw [hcl] at this; exact this
   ·
    refine (Any2.slices_Insert_string_grow impl_Take14.lays g 0 xs.length c i B2 0 1 1 (xs.map Value.string) [.string x] w (by omega) (by omega) hncap (by omega) (by omega) hcl rfl hcs hvs h1c h1v).mono ?_; rintro e w' ⟨rfl, rfl⟩; have hge := grownCap_ge w (xs.length + 1) c (impl_Take14.ren.t 9); have hle := grownCap_le_maxLen w (xs.length + 1) c (impl_Take14.ren.t 9) (by simp only [maxLen]; omega); generalize grownCap w (xs.length + 1) c (impl_Take14.ren.t 9) = cp at hge hle; obtain ⟨C0, hC0⟩ : ∃ C0, C0 = (((xs.map Value.string).take i).toArray ++ Builtin.zeroCells (Value.string ⟨#[]⟩).cells (xs.length + 1 - i) ++ Builtin.zeroCells (Value.string ⟨#[]⟩).cells (cp - (xs.length + 1))) := ⟨_, rfl⟩
    have hd : ((xs.map Value.string).drop i).length = xs.length - i := by rw [List.length_drop, hcl]
    have ht : ((xs.map Value.string).take i).length = i := by rw [List.length_take, hcl]; omega
    have hs0 : C0.size = cp := by
     rw [hC0, Array.size_append, Array.size_append, size_zeroCells, size_zeroCells, List.size_toArray, ht]
     show i + (xs.length + 1 - i) * 1 + (cp - (xs.length + 1)) * 1 = cp
     omega
    have ht0 : C0.toList.take i = (xs.map Value.string).take i := by
     rw [hC0, Array.toList_append, Array.toList_append, List.append_assoc]; exact List.take_left' ht
    rw [← hC0]; obtain ⟨cur1, k1, k2, k3⟩ := impl_Take14.heap_setCells w.heap.size [.string x] i (w.alloc (.cells C0 9)).drew C0 9 (blk_new w _) (by simp; omega); obtain ⟨cur2, m1, m2, m3⟩ := impl_Take14.heap_setCells w.heap.size ((xs.map Value.string).drop i) (i + 1) ((w.alloc (.cells C0 9)).drew.setCells w.heap.size i [.string x]).drew cur1 9 k1 (by omega); have hg1 := impl_Take14.grown_setCells w.heap.size [.string x] i (w.alloc (.cells C0 9)).drew; have hg2 := impl_Take14.grown_setCells w.heap.size ((xs.map Value.string).drop i) (i + 1) ((w.alloc (.cells C0 9)).drew.setCells w.heap.size i [.string x]).drew; have hB1 : Below base w0 (w.alloc (.cells C0 9)).drew := below_drew1 (hB.alloc hbase _); have hb1 : base ≤ (w.alloc (.cells C0 9)).drew.heap.size := Nat.le_trans hbase (by simp); have hB2_ : Below base w0 ((w.alloc (.cells C0 9)).drew.setCells w.heap.size i [.string x]).drew := below_drew1 (pw_below_grown hB1 (some w.heap.size) hb1 hg1 (fun k hk => by cases hk; exact hbase)); refine ⟨_, rfl, ?_, pw_below_grown hB2_ (some w.heap.size) (Nat.le_trans hb1 hg1.size) hg2 (fun k hk => by cases hk; exact hbase)⟩; refine impl_Take14.own_of hbase m1 (by omega) hge hle (impl_Take14.put xs i x) (by rw [hpl]) ?_ (.inr (Nat.le_refl _)); rw [m2, k2, impl_Take14.put_map]; have := impl_Take14.grow_l C0.toList (xs.map Value.string) i (.string x) (by omega) ht0 (by rw [hcl]; simpa using (show xs.length + 1 ≤ C0.size by omega)); rw [hcl] at this; exact this
/-! slices.DeleteFunc at a row of one's own, over a closure that captures a string -/
theorem impl_Take14.heap_put {w : World} {g n : Nat} {cur : Array Value} {e : TypeId} {fr : Nat × Nat} (d : Array ByteArray) (hb : w.heap[g]? = some (.cells cur e fr)) : (Go.Sort.putRow Value.string (Go.Sort.ahead w n) g 0 d).heap[g]? = some (.cells (Go.Sort.putCells Value.string 0 d cur) e fr) := by
 simp [Go.Sort.putRow, Go.Sort.mapBlock, Go.Sort.ahead, Array.getElem?_modify, hb, Go.Sort.onCells]
theorem impl_Take14.grown_put {w : World} {g n : Nat} (d : Array ByteArray) : w.grownBy (Go.Sort.putRow Value.string (Go.Sort.ahead w n) g 0 d) (some g) := by
 refine ⟨rfl, rfl, rfl, by simp [Go.Sort.putRow, Go.Sort.mapBlock, Go.Sort.ahead], fun k hk hne => ?_⟩
 have : g ≠ k := fun e => hne (by rw [e])
 simp [Go.Sort.putRow, Go.Sort.mapBlock, Go.Sort.ahead, Array.getElem?_modify, this]
theorem impl_Take14.take_put (cur : Array Value) (ts : List ByteArray) (m : Nat) (hm : m ≤ ts.length) (h : ts.length ≤ cur.size) : (Go.Sort.putCells Value.string 0 ts.toArray cur).toList.take m = (ts.take m).map Value.string := by
 apply List.ext_getElem?
 intro j
 by_cases hj : j < m
 ·
  rw [List.getElem?_take_of_lt hj, Array.getElem?_toList]
  simp [Go.Sort.putCells, List.getElem?_take_of_lt hj, show j < ts.length by omega, show j < cur.size by omega]
 ·
  rw [List.getElem?_take_eq_none (by omega), List.getElem?_eq_none (by simp; omega)]
theorem impl_Take14.holds {w : World} {g : Nat} {cur : Array Value} {e : TypeId} {ss : List ByteArray} (hb : w.heap[g]? = some (.cells cur e (0, 0))) (ht : cur.toList.take ss.length = ss.map Value.string) : Go.Sort.Holds Value.string w g 0 ss.toArray := by
 intro j hj
 have hj' : j < ss.length := by simpa using hj
 refine ⟨?_, by simp [World.frozen?, hb]⟩
 have h1 : (cur.toList.take ss.length)[j]? = (ss.map Value.string)[j]? := by rw [ht]
 rw [List.getElem?_take_of_lt hj'] at h1; rw [Nat.zero_add, blk_cell hb j, ← Array.getElem?_toList, h1]
 simp [hj']
/-- The closure, in whatever world holds the name. -/
theorem impl_Take14.clo (nm x : ByteArray) (B : Nat) (W : World) (hc : W.cell? ⟨B, 0, none⟩ = some (.string nm)) : Calls Try.prog 73 #[.string x, .pointer (some ⟨B, 0, none⟩)] W fun e w' => e = .returned (.bool (x.toList == nm.toList)) ∧ ∃ q, w' = W.drewN q := by
 go_enter Try.func73, Try.ntmps73
 go_wp2
 all_goals (go_ret; exact ⟨by first | rfl | simp_all, 0, rfl⟩)
def impl_Take14.renD : Go.Shelf.Ren := ⟨fun | 10 => 72 | 6 => 93 | n => n, fun | 22 => 29 | 23 => 9 | 25 => 64 | 3 => 3 | 4 => 4 | 0 => 0 | n => n, fun | n => n⟩
theorem impl_Take14.laysD : Go.Proofs.SlLaysH.n10 Try.prog impl_Take14.renD := {
 mixed := by kernel_rfl,
 f6 := ⟨Try.f93.name, by decide, Try.func93.trans (congrArg some (by kernel_rfl))⟩,
 f10 := ⟨Try.f72.name, by decide, Try.func72.trans (congrArg some (by kernel_rfl))⟩,
 t0 := Try.underlying0,
 a0 := Try.isAgg0,
 z0 := Try.sizeOf0,
 v0 := Try.zeroValue0,
 t3 := Try.underlying3,
 a3 := Try.isAgg3,
 z3 := Try.sizeOf3,
 v3 := Try.zeroValue3,
 t4 := Try.underlying4,
 a4 := Try.isAgg4,
 z4 := Try.sizeOf4,
 v4 := Try.zeroValue4,
 t22 := Try.underlying29,
 a22 := Try.isAgg29,
 z22 := Try.sizeOf29,
 v22 := Try.zeroValue29,
 a23 := Try.isAgg9,
 z23 := Try.sizeOf9,
 t25 := Try.underlying64,
 a25 := Try.isAgg64,
 z25 := Try.sizeOf64,
 v25 := Try.zeroValue64 }


set_option maxHeartbeats 4000000 in
theorem impl_Take14.idx_none (Bn : Nat) (w : World) : Calls Try.prog 93 #[.slice none 0 0, .func (.func 73) #[] #[.pointer (some ⟨Bn, 0, none⟩)]] w fun e w' => e = .returned (.int .i64 (-1)) ∧ Below w.heap.size w w' := by
 have HB := Az (Below.refl w.heap.size w)
 go_enter Try.func93, Try.ntmps93
 go_wp2
 go_loopg [5, 8] 1 (fun gg _ s8 wr => s8 = .int .i64 0 ∧ Aside0 (Below w.heap.size w wr))
 case atStart => exact ⟨rfl, HB⟩
 case round =>
  obtain ⟨rfl, BW⟩ := hrel
  go_wp2
  go_ret
  exact ⟨rfl, BW.out⟩
set_option maxHeartbeats 4000000 in
theorem impl_Take14.del_none (Bn : Nat) (w : World) : Calls Try.prog 72 #[.slice none 0 0, .func (.func 73) #[] #[.pointer (some ⟨Bn, 0, none⟩)]] w fun e w' => e = .returned (.slice none 0 0) ∧ Below w.heap.size w w' := by
 go_enter Try.func72, Try.ntmps72
 go_wp2_with (go_at_call 93; refine (impl_Take14.idx_none Bn _).mono ?_; rintro e w' ⟨rfl, hb⟩)
 go_ret
 exact ⟨rfl, hb⟩
/-- Without the name. -/
def impl_Take14.without (l : List ByteArray) (nm : ByteArray) : List ByteArray := l.filter fun x => !(x.toList == nm.toList)
theorem impl_Take14.del (base : Nat) (ok : Nat → Prop) (A : Option Addr) (c : Nat) (xs : List ByteArray) (nm : ByteArray) (Bn : Nat) (w0 w : World) (hB : Below base w0 w) (hbase : base ≤ w.heap.size) (hR : Kd.R Kd.string 9 w base ok (.slice A xs.length c) xs) (hcn : w.heap[Bn]? = some (.cells #[.string nm] 9 (0, 0))) (hlt : Bn < base) :
  Calls Try.prog 72 #[.slice A xs.length c, .func (.func 73) #[] #[.pointer (some ⟨Bn, 0, none⟩)]] w fun e w' => ∃ v : Value, e = .returned v ∧ Kd.R Kd.string 9 w' base ok v (impl_Take14.without xs nm) ∧ Below base w0 w' ∧ w.grownBy w' (.slice A xs.length c : Value).ownBlock ∧ (∀ g, v.ownBlock = some g → (.slice A xs.length c : Value).ownBlock = some g) := by
 have hok := hR.1; have ho : w.ownsRow base 9 1 (.slice A xs.length c) xs.length (encs Value.string xs) := Kd.own_of_R hR; obtain ⟨hlen, ⟨hnil, h0⟩ | ⟨g, cap, cur, hv, hbg, hc, hncap, hcm, hsz, htk⟩⟩ := ho
 ·
  obtain rfl : xs = [] := List.eq_nil_of_length_eq_zero h0
  injection hnil with hA _ hc0
  subst hA; subst hc0; refine (impl_Take14.del_none Bn w).mono ?_; rintro e w' ⟨rfl, hb⟩; exact ⟨_, rfl, Kd.R_nil _ _ _ _ _, below_then hB hbase hb, ⟨hb.os, hb.tape, hb.output, hb.size, fun k hk _ => hb.block k hk⟩, fun g h => h⟩
 ·
  injection hv with hA hn hc0
  subst hA; subst hc0; have hgw : g < w.heap.size := blk_lt hc
  have hne : Bn ≠ g := by omega
  have hBn : Bn < w.heap.size := blk_lt hcn; rw [Nat.mul_one] at hsz htk; have hcell : w.cell? ⟨Bn, 0, none⟩ = some (.string nm) := (blk_cell hcn 0).trans rfl; have eg : ∀ args w, (callFunc 73 args).run Try.prog w = .ok (.enter 73 args) w := Go.Proofs.enters_of Try.func73 (by kernel_rfl) rfl
  have hlen' : xs.toArray.size = xs.length := by simp
  have hcon := Go.Proofs.AnyE.slices_DeleteFunc impl_Take14.laysD Value.string (fun _ => rfl) (fun x => x.toList == nm.toList) 73 #[.pointer (some ⟨Bn, 0, none⟩)] eg ByteArray.empty Try.zeroValue9 g 0 c xs.toArray w
   (fun W x hb => impl_Take14.clo nm x Bn W ((hb.cell (p := ⟨Bn, 0, none⟩) hBn).trans hcell))
   (fun n os dk x _ => impl_Take14.clo nm x Bn _ (by
    unfold Go.Proofs.sortWorld
    rw [Go.Sort.cell?_grow _ _ _ (by show Bn < (Go.Sort.putRow _ _ _ _ _).heap.size; rw [Go.Sort.size_putRow]; exact hBn), Go.Sort.cell?_putRow_other _ _ g 0 _ _ (Or.inl hne)]
    exact hcell))
   (impl_Take14.holds hc htk) (by rw [hlen']; have := hcm; simp only [maxLen] at this; omega) (by rw [hlen']; exact hncap)
  rw [hlen'] at hcon; refine hcon.mono ?_; rintro e w' ⟨rfl, q, rfl⟩; have hle : (impl_Take14.without xs nm).length ≤ xs.length := List.length_filter_le _ _; have hgr := impl_Take14.grown_put (w := w) (g := g) (n := q) ((impl_Take14.without xs nm ++ List.replicate (xs.length - (impl_Take14.without xs nm).length) ByteArray.empty).toArray); refine ⟨_, rfl, ?_, pw_below_grown hB (some g) hbase hgr (fun k hk => by cases hk; exact hbg), hgr, fun g' h => h⟩; refine impl_Take14.own_of hbg (impl_Take14.heap_put _ hc) (by simp [Go.Sort.putCells, hsz]) (Nat.le_trans hle hncap) hcm (impl_Take14.without xs nm) rfl ?_ (hok g rfl)
  show (Go.Sort.putCells Value.string 0 (impl_Take14.without xs nm ++ List.replicate (xs.length - (impl_Take14.without xs nm).length) ByteArray.empty).toArray cur).toList.take (impl_Take14.without xs nm).length = (impl_Take14.without xs nm).map Value.string
  rw [impl_Take14.take_put cur _ _ (by rw [List.length_append]; omega) (by rw [List.length_append, List.length_replicate]; omega), List.take_left' rfl]
/-! with: a list of ascending names with one more -/
def impl_Take14.withf (k : Nat) (l : List ByteArray) (x : ByteArray) : Option (List ByteArray) := (slices_BinarySearch_string_string.f k l x).bind fun r => if r.2 = true then some l else (slices_Clone_string_string.f l).bind fun c => if 0 ≤ r.1 ∧ r.1.toNat ≤ c.length ∧ c.length < 4398046511104 then some (impl_Take14.put c r.1.toNat x) else none
theorem impl_Take14.apart {w : World} {base n c : Nat} {A : Option Addr} {ok : Nat → Prop} {xs : List ByteArray} (h : Kd.R Kd.string 9 w base ok (.slice A n c) xs) : ∀ g, A = some ⟨g, 0, none⟩ → w.heap.size ≠ g := by
 intro g e; subst e; obtain ⟨_, ⟨hnil, _⟩ | ⟨g', cap, cur, hv, _, hc, _⟩⟩ := Kd.own_of_R h
 ·
  cases hnil
 ·
  injection hv with hA _ _
  injection hA with hA
  injection hA with hA _
  subst hA; have := blk_lt hc
  omega
theorem impl_Take14.self {w : World} {base : Nat} {v : Value} {ok : Nat → Prop} {xs : List ByteArray} (h : Kd.R Kd.string 9 w base ok v xs) : Kd.R Kd.string 9 w base (fun k => some k = v.ownBlock) v xs :=
 ⟨fun k hk => hk.symm, h.2.imp_ (fun _ _ hp => by exact hp)⟩
set_option maxHeartbeats 4000000 in
set_option maxRecDepth 100000 in
theorem impl_Take14.with_ (k : Nat) (base : Nat) (ok : Nat → Prop) (A : Option Addr) (c : Nat) (l : List ByteArray) (x : ByteArray) (r : List ByteArray) (w0 w : World) (hB : Below base w0 w) (hbase : base ≤ w.heap.size) (hR : Kd.R Kd.string 9 w base ok (.slice A l.length c) l) (h : impl_Take14.withf k l x = some r) :
  Calls Try.prog 70 #[.slice A l.length c, .string x] w fun e w' => ∃ v : Value, e = .returned v ∧ Kd.R Kd.string 9 w' base (fun k => some k = (Value.slice A l.length c).ownBlock ∨ w.heap.size ≤ k) v r ∧ Below w.heap.size w w' := by
 unfold impl_Take14.withf at h
 obtain ⟨⟨i, b⟩, hbs, h⟩ := Option.bind_eq_some_iff.1 h; have hrd := Kd.R_reads' hR; have HC := Az hrd.2.2; have HCC := Az hrd.2.1; have HBS := Az hbs; have HR := Az hR; have HB := Az hB; have HBASE := Az hbase
 cases b with
 | true =>
  have h : some l = some r := h; obtain rfl := Option.some.inj h; clear h hbs hrd hR hB hbase
  go_enter Try.func70, Try.ntmps70
  go_wp2_with (go_at_call 91; refine (slices_BinarySearch_string_string.calls k _ _ l x i true _ HC.out HCC.out HBS.out).mono ?_; rintro e w7 ⟨rfl, ⟨nd, rfl⟩⟩)
  go_ret
  exact ⟨_, by first | rfl | simp, Kd.R_mono (impl_Take14.self (Kd.R_below HR.out (pw_below_drewN (Below.refl _ _) _))) (fun _ hk => .inl hk), pw_below_drewN (Below.refl _ _) _⟩
 | false =>
  have h : ((slices_Clone_string_string.f l).bind fun c => if 0 ≤ i ∧ i.toNat ≤ c.length ∧ c.length < 4398046511104 then some (impl_Take14.put c i.toNat x) else none) = some r := h; obtain ⟨cl, hcl, h⟩ := Option.bind_eq_some_iff.1 h
  by_cases hi : 0 ≤ i ∧ i.toNat ≤ cl.length ∧ cl.length < 4398046511104
  ·
   rw [if_pos hi] at h; obtain rfl := Option.some.inj h; obtain ⟨n, hn⟩ : ∃ n : Nat, i = (n : Int) := ⟨i.toNat, by omega⟩; subst hn; rw [Int.toNat_natCast] at hi ⊢; have HI := Az hi; have HCL := Az hcl; clear h hbs hrd hR hB hbase hi hcl
   go_enter Try.func70, Try.ntmps70
   go_wp2_with (first | (go_at_call 91; refine (slices_BinarySearch_string_string.calls k _ _ l x (n : Int) false _ HC.out HCC.out HBS.out).mono ?_; rintro e w7 ⟨rfl, ⟨nd, rfl⟩⟩) | (go_at_call 60; refine (slices_Clone_string_string.calls _ _ l cl _ (Kd.C_below HC.out (pw_below_drewN (Below.refl _ _) _)) HCC.out HCL.out).mono ?_; rintro e w8 ⟨v16, rfl, ho, hb⟩; obtain ⟨A8, c8, rfl⟩ := Kd.R_slice ho; have HO : Aside0 (Kd.R Kd.string 9 w8 w.heap.size (fun _ => True) (.slice A8 cl.length c8) cl) := Az ho; have HB8 : Aside0 (Below w.heap.size w w8) := Az (below_then (pw_below_drewN (Below.refl _ _) nd) (Nat.le_refl _) hb); clear ho hb) | (go_at_call 92; refine (impl_Take14.ins w.heap.size (fun _ => True) A8 c8 cl x n HI.out.2.1 HI.out.2.2 w _ (below_alloc HB8.out _) (Nat.le_trans HB8.out.size (by simp)) (Kd.R_below HO.out (below_alloc (Below.refl _ _) _)) w8.heap.size (by simpa using blk_new w8 _) (impl_Take14.apart HO.out)).mono ?_; rintro e w9 ⟨v, rfl, ho, hb⟩; have HO9 := Az ho; have HB9 := Az hb; clear ho hb))
   go_ret
   exact ⟨v, by first | rfl | simp, Kd.R_lower (Kd.R_mono (Kd.R_bound HO9.out) (fun k hk => .inr hk.2.1)) HBASE.out, HB9.out⟩
  ·
   rw [if_neg hi] at h; cases h
def impl_Take14.f (k : Nat) (l0 : List S63) (l1_0 l1_1 l1_2 : List ByteArray) (a2 : ByteArray) : Option (List ByteArray × List ByteArray × List ByteArray × Bool) := (impl_clonePanel.f l1_0 l1_1 l1_2).bind fun c => (slices_Contains_string_string.f k l1_1 a2).bind fun bl => (slices_Contains_string_string.f k l1_0 a2).bind fun ba => (impl_panelOk.f k l0 l1_0 l1_1 l1_2).bind fun bo => if (!bo || (!bl && !ba)) = true then some (c.1, c.2.1, c.2.2, false) else if ba = true then (impl_Take14.withf k c.2.2 a2).bind fun t => some (c.1, impl_Take14.without c.2.1 a2, t, true) else some (c.1, impl_Take14.without c.2.1 a2, c.2.2, true)
def impl_Take14.T2 : Bool × List (List Nat × List Nat) := (true, [([], []), ([0], [0]), ([], []), ([1, 2], [1, 2]), ([], []), ([4], [4]), ([], []), ([5, 6, 3], [5, 6]), ([3, 7, 0, 1, 2, 3], [3]), ([7, 8, 0, 1, 2, 3, 4, 5, 6, 7, 8], [7])])
def impl_Take14.B2 : List Nat := [0, 1, 0, 7, 0, 16, 0, 127, 255, 511]
theorem impl_Take14.tab2 : rtab .any (opsOf Try.f28 2) = impl_Take14.T2 := by kernel_rfl
theorem impl_Take14.bits2 : waitsOk impl_Take14.T2.2 impl_Take14.B2 = true := by kernel_rfl
abbrev impl_Take14.M0 := #[O,O,O,O,O,O,O,O,O,O]
abbrev impl_Take14.M1 := #[I,O,O,O,O,O,O,O,O,O]
abbrev impl_Take14.M2 := #[I,O,O,O,I,O,O,O,O,O]
abbrev impl_Take14.M3 := #[I,I,O,O,I,O,O,O,O,O]
abbrev impl_Take14.M4 := #[I,I,I,O,I,O,O,O,O,O]
abbrev impl_Take14.M5 := #[I,I,I,O,I,I,O,O,O,O]
abbrev impl_Take14.M6 := #[I,I,I,O,I,I,I,O,O,O]
abbrev impl_Take14.M7 := #[I,I,I,I,I,I,I,O,O,O]
abbrev impl_Take14.M8 := #[I,I,I,I,I,I,I,I,O,O]
abbrev impl_Take14.M9 := #[I,I,I,I,I,I,I,I,I,O]
abbrev impl_Take14.M10 := #[I,I,I,I,I,I,I,I,I,I]
theorem impl_Take14.below_put3 {w W : World} {g : Nat} {a b c : Value} (h : Below w.heap.size w W) (hg : w.heap.size ≤ g) : Below w.heap.size w (((W.setCell ⟨g, 0, none⟩ a).setCell ⟨g, 1, none⟩ b).setCell ⟨g, 2, none⟩ c) := below_set (below_set (below_set h hg) hg) hg
theorem impl_Take14.blk_put3 {W : World} {g : Nat} {x y z a b c : Value} {t : TypeId} (h : W.heap[g]? = some (.cells #[x, y, z] t (0, 0))) : (((W.setCell ⟨g, 0, none⟩ a).setCell ⟨g, 1, none⟩ b).setCell ⟨g, 2, none⟩ c).heap[g]? = some (.cells #[a, b, c] t (0, 0)) := by
 have h1 := blk_put h 0 a rfl; have h2 := blk_put h1 1 b rfl; exact blk_put h2 2 c rfl
structure impl_Take14.Inv (w W : World) (B g4 g5 g6 g8 : Nat) (P0 P1 P2 : Value) (nm : ByteArray) (v0 v1 v2 : Value) (d0 d1 d2 : List ByteArray) : Prop where
 b4 : W.heap[g4]? = some (.cells #[P0, P1, P2] 47 (0, 0))
 b5 : W.heap[g5]? = some (.cells #[.string nm] 9 (0, 0))
 b6 : W.heap[g6]? = some (.cells #[.slice none 0 0, .slice none 0 0, .slice none 0 0] 47 (0, 0))
 b8 : W.heap[g8]? = some (.cells #[v0, v1, v2] 47 (0, 0))
 below : Below w.heap.size w W
 l4 : w.heap.size ≤ g4
 l5 : w.heap.size ≤ g5
 l6 : w.heap.size ≤ g6
 l8 : w.heap.size ≤ g8
 n48 : g4 ≠ g8
 n68 : g6 ≠ g8
 B5 : g5 < B
 hB : w.heap.size ≤ B
 hW : B ≤ W.heap.size
 r0 : Kd.R Kd.string 9 W B (fun k => some k ≠ v1.ownBlock ∧ some k ≠ v2.ownBlock) v0 d0
 r1 : Kd.R Kd.string 9 W B (fun k => some k ≠ v0.ownBlock ∧ some k ≠ v2.ownBlock) v1 d1
 r2 : Kd.R Kd.string 9 W B (fun k => some k ≠ v0.ownBlock ∧ some k ≠ v1.ownBlock) v2 d2
section
variable {w W W' : World} {B g4 g5 g6 g8 : Nat} {P0 P1 P2 : Value} {nm : ByteArray} {v0 v1 v2 : Value} {d0 d1 d2 : List ByteArray}
theorem impl_Take14.Inv.mv (h : impl_Take14.Inv w W B g4 g5 g6 g8 P0 P1 P2 nm v0 v1 v2 d0 d1 d2) (hb : Below W.heap.size W W') : impl_Take14.Inv w W' B g4 g5 g6 g8 P0 P1 P2 nm v0 v1 v2 d0 d1 d2 :=
 ⟨blk_below h.b4 hb, blk_below h.b5 hb, blk_below h.b6 hb, blk_below h.b8 hb, below_then h.below h.below.size hb, h.l4, h.l5, h.l6, h.l8, h.n48, h.n68, h.B5, h.hB, Nat.le_trans h.hW hb.size, Kd.R_below h.r0 hb, Kd.R_below h.r1 hb, Kd.R_below h.r2 hb⟩
theorem impl_Take14.ne59 {g g' : Nat} {c c' : Array Value} (h : W.heap[g]? = some (.cells c 9 (0, 0))) (h' : W.heap[g']? = some (.cells c' 47 (0, 0))) : g ≠ g' := by
 rintro rfl; rw [h] at h'
 injection h' with h'
 injection h' with _ h' _
 cases h'
theorem impl_Take14.far {ok : Nat → Prop} {v : Value} {d : List ByteArray} (h : Kd.R Kd.string 9 W B ok v d) {g j : Nat} {cs : Array Value} (hb : W.heap[g]? = some (.cells cs 47 (0, 0))) (u : Value) : Kd.R Kd.string 9 (W.setCell ⟨g, j, none⟩ u) B ok v d :=
 Kd.R_mono (Kd.R_far (p := ⟨g, j, none⟩) (Kd.R_types h hb (by decide)) (fun _ hk => hk.2) u) (fun _ hk => hk.1)
/-- A store into the new panel's second cell, behind a change of the row it held. -/
theorem impl_Take14.Inv.del (h : impl_Take14.Inv w W B g4 g5 g6 g8 P0 P1 P2 nm v0 v1 v2 d0 d1 d2) {v : Value} {d : List ByteArray} (hg : W.grownBy W' v1.ownBlock) (hR : Kd.R Kd.string 9 W' B (fun k => some k ≠ v0.ownBlock ∧ some k ≠ v2.ownBlock) v d) (ho : ∀ g, v.ownBlock = some g → v1.ownBlock = some g) : impl_Take14.Inv w (W'.setCell ⟨g8, 1, none⟩ v) B g4 g5 g6 g8 P0 P1 P2 nm v0 v v2 d0 d d2 := by
 have n4 := Kd.R_ne h.r1 h.b4 (by decide); have n6 := Kd.R_ne h.r1 h.b6 (by decide); have n8 := Kd.R_ne h.r1 h.b8 (by decide)
 have n5 : some g5 ≠ v1.ownBlock := fun e => by
  have := (Kd.R_bound h.r1).1 g5 e.symm; have := h.B5
  omega
 have k4 : W'.heap[g4]? = _ := (hg.block g4 (blk_lt h.b4) n4).trans h.b4; have k5 : W'.heap[g5]? = _ := (hg.block g5 (blk_lt h.b5) n5).trans h.b5; have k6 : W'.heap[g6]? = _ := (hg.block g6 (blk_lt h.b6) n6).trans h.b6; have k8 : W'.heap[g8]? = _ := (hg.block g8 (blk_lt h.b8) n8).trans h.b8
 have hb : Below w.heap.size w W' := pw_below_grown h.below _ h.below.size hg (fun k hk => by
  have := (Kd.R_bound h.r1).1 k hk; have := h.hB
  omega)
 refine ⟨(Below.heap_setCell _ ⟨g8, 1, none⟩ _ g4 h.n48).trans k4, (Below.heap_setCell _ ⟨g8, 1, none⟩ _ g5 (impl_Take14.ne59 k5 k8)).trans k5, (Below.heap_setCell _ ⟨g8, 1, none⟩ _ g6 h.n68).trans k6, blk_put k8 1 v rfl, below_set hb h.l8, h.l4, h.l5, h.l6, h.l8, h.n48, h.n68, h.B5, h.hB, Nat.le_trans (Nat.le_trans h.hW hg.size) (by simp), ?_, impl_Take14.far hR k8 v, ?_⟩
 ·
  exact impl_Take14.far (Kd.R_mono (Kd.R_grown h.r0 hg (fun k hk => hk.1)) (fun k hk => ⟨fun e => hk.1 (ho k e.symm).symm, hk.2⟩)) k8 v
 ·
  exact impl_Take14.far (Kd.R_mono (Kd.R_grown h.r2 hg (fun k hk => hk.2)) (fun k hk => ⟨hk.1, fun e => hk.2 (ho k e.symm).symm⟩)) k8 v
/-- A store into the new panel's third cell. -/
theorem impl_Take14.Inv.with_ (h : impl_Take14.Inv w W B g4 g5 g6 g8 P0 P1 P2 nm v0 v1 v2 d0 d1 d2) {v : Value} {d : List ByteArray} (hb : Below W.heap.size W W') (hR : Kd.R Kd.string 9 W' B (fun k => some k = v2.ownBlock ∨ W.heap.size ≤ k) v d) : impl_Take14.Inv w (W'.setCell ⟨g8, 2, none⟩ v) B g4 g5 g6 g8 P0 P1 P2 nm v0 v1 v d0 d1 d := by
 have k := h.mv hb; have m0 := Kd.R_bound h.r0; have m1 := Kd.R_bound h.r1
 have hr : Kd.R Kd.string 9 W' B (fun k => some k ≠ v0.ownBlock ∧ some k ≠ v1.ownBlock) v d := Kd.R_mono hR (fun j hj => by
  rcases hj with hj | hj
  ·
   exact h.r2.1 j hj.symm
  ·
   exact ⟨fun e => by have := m0.1 j e.symm; omega, fun e => by have := m1.1 j e.symm; omega⟩)
 refine ⟨(Below.heap_setCell _ ⟨g8, 2, none⟩ _ g4 h.n48).trans k.b4, (Below.heap_setCell _ ⟨g8, 2, none⟩ _ g5 (impl_Take14.ne59 k.b5 k.b8)).trans k.b5, (Below.heap_setCell _ ⟨g8, 2, none⟩ _ g6 h.n68).trans k.b6, blk_put k.b8 2 v rfl, below_set k.below h.l8, h.l4, h.l5, h.l6, h.l8, h.n48, h.n68, h.B5, h.hB, Nat.le_trans k.hW (by simp), ?_, ?_, impl_Take14.far hr k.b8 v⟩
 ·
  exact impl_Take14.far (Kd.R_mono (Kd.R_below m0 hb) (fun j hj => ⟨hj.1.1, fun e => by
   rcases hR.1 j e.symm with q | q
   ·
    exact hj.1.2 q
   ·
    have := hj.2; omega⟩)) k.b8 v
 ·
  exact impl_Take14.far (Kd.R_mono (Kd.R_below m1 hb) (fun j hj => ⟨hj.1.1, fun e => by
   rcases hR.1 j e.symm with q | q
   ·
    exact hj.1.2 q
   ·
    have := hj.2; omega⟩)) k.b8 v
theorem impl_Take14.Inv.k8 (h : impl_Take14.Inv w W B g4 g5 g6 g8 P0 P1 P2 nm v0 v1 v2 d0 d1 d2) (hg : W.grownBy W' v1.ownBlock) : W'.heap[g8]? = some (.cells #[v0, v1, v2] 47 (0, 0)) := (hg.block g8 (blk_lt h.b8) (Kd.R_ne h.r1 h.b8 (by decide))).trans h.b8
theorem impl_Take14.Inv.k6 (h : impl_Take14.Inv w W B g4 g5 g6 g8 P0 P1 P2 nm v0 v1 v2 d0 d1 d2) (hg : W.grownBy W' v1.ownBlock) : W'.heap[g6]? = some (.cells #[.slice none 0 0, .slice none 0 0, .slice none 0 0] 47 (0, 0)) := (hg.block g6 (blk_lt h.b6) (Kd.R_ne h.r1 h.b6 (by decide))).trans h.b6
theorem impl_Take14.Inv.k5 (h : impl_Take14.Inv w W B g4 g5 g6 g8 P0 P1 P2 nm v0 v1 v2 d0 d1 d2) (hg : W.grownBy W' v1.ownBlock) : W'.cell? ⟨g5, 0, none⟩ = some (.string nm) ∧ g5 ≠ g8 := by
 have n5 : some g5 ≠ v1.ownBlock := fun e => by
  have := (Kd.R_bound h.r1).1 g5 e.symm; have := h.B5
  omega
 exact ⟨(blk_cell ((hg.block g5 (blk_lt h.b5) n5).trans h.b5) 0).trans rfl, impl_Take14.ne59 h.b5 h.b8⟩
/-- What is returned. -/
theorem impl_Take14.Inv.fin (h : impl_Take14.Inv w W B g4 g5 g6 g8 P0 P1 P2 nm v0 v1 v2 d0 d1 d2) : (((W.setCell ⟨g6, 0, none⟩ v0).setCell ⟨g6, 1, none⟩ v1).setCell ⟨g6, 2, none⟩ v2).heap[g6]? = some (.cells #[v0, v1, v2] 47 (0, 0)) ∧ Kd.R Kd.string 9 (((W.setCell ⟨g6, 0, none⟩ v0).setCell ⟨g6, 1, none⟩ v1).setCell ⟨g6, 2, none⟩ v2) w.heap.size (fun k => some k ≠ v1.ownBlock ∧ some k ≠ v2.ownBlock) v0 d0 ∧ Kd.R Kd.string 9 (((W.setCell ⟨g6, 0, none⟩ v0).setCell ⟨g6, 1, none⟩ v1).setCell ⟨g6, 2, none⟩ v2) w.heap.size (fun k => some k ≠ v0.ownBlock ∧ some k ≠ v2.ownBlock) v1 d1 ∧ Kd.R Kd.string 9 (((W.setCell ⟨g6, 0, none⟩ v0).setCell ⟨g6, 1, none⟩ v1).setCell ⟨g6, 2, none⟩ v2) w.heap.size (fun k => some k ≠ v0.ownBlock ∧ some k ≠ v1.ownBlock) v2 d2 ∧ Below w.heap.size w (((W.setCell ⟨g6, 0, none⟩ v0).setCell ⟨g6, 1, none⟩ v1).setCell ⟨g6, 2, none⟩ v2) :=
 ⟨impl_Take14.blk_put3 h.b6, rf3 (Kd.R_lower h.r0 h.hB) h.b6 (by decide), rf3 (Kd.R_lower h.r1 h.hB) h.b6 (by decide), rf3 (Kd.R_lower h.r2 h.hB) h.b6 (by decide), impl_Take14.below_put3 h.below h.l6⟩
end
set_option maxHeartbeats 8000000 in
set_option maxRecDepth 100000 in
theorem impl_Take14.calls (k : Nat) (A0 : Option Addr) (c0 : Nat) (l0 : List (S63)) (A1_0 : Option Addr) (c1_0 : Nat) (l1_0 : List ByteArray) (A1_1 : Option Addr) (c1_1 : Nat) (l1_1 : List ByteArray) (A1_2 : Option Addr) (c1_2 : Nat) (l1_2 : List ByteArray) (a2 : ByteArray) (r1 : List ByteArray) (r2 : List ByteArray) (r3 : List ByteArray) (r4 : Bool) (w : World) (hr0 : Kd.C k63 w A0 l0.length l0) (hc0 : l0.length ≤ c0) (hr1_0 : Kd.C Kd.string w A1_0 l1_0.length l1_0) (hc1_0 : l1_0.length ≤ c1_0) (hr1_1 : Kd.C Kd.string w A1_1 l1_1.length l1_1) (hc1_1 : l1_1.length ≤ c1_1) (hr1_2 : Kd.C Kd.string w A1_2 l1_2.length l1_2) (hc1_2 : l1_2.length ≤ c1_2) (h : impl_Take14.f k l0 l1_0 l1_1 l1_2 a2 = some (r1, r2, r3, r4)) :
  Calls Try.prog 28 #[.slice A0 l0.length c0, .agg #[.slice A1_0 l1_0.length c1_0, .slice A1_1 l1_1.length c1_1, .slice A1_2 l1_2.length c1_2], .string a2] w fun e w' => ∃ v0_ v1_ v2_ : Value, e = .returned (.tuple #[.agg #[v0_, v1_, v2_], .bool r4]) ∧ Kd.R Kd.string 9 w' w.heap.size (fun k_ => Nb (v1_) k_ ∧ Nb (v2_) k_) v0_ r1 ∧ Kd.R Kd.string 9 w' w.heap.size (fun k_ => Nb (v0_) k_ ∧ Nb (v2_) k_) v1_ r2 ∧ Kd.R Kd.string 9 w' w.heap.size (fun k_ => Nb (v0_) k_ ∧ Nb (v1_) k_) v2_ r3 ∧ Below w.heap.size w w' := by
 have hu47 := Try.underlying47; have H0 := Az hr0; have D0 := Az hc0; have H1 := Az hr1_0; have D1 := Az hc1_0; have H2 := Az hr1_1; have D2 := Az hc1_1; have H3 := Az hr1_2; have D3 := Az hc1_2; clear hr0 hc0 hr1_0 hc1_0 hr1_1 hc1_1 hr1_2 hc1_2
 unfold impl_Take14.f at h
 obtain ⟨⟨d0, d1, d2⟩, hcp, h'⟩ := Option.bind_eq_some_iff.1 h; clear h; have h := h'; clear h'; dsimp only at h; obtain ⟨bl, hbl, h'⟩ := Option.bind_eq_some_iff.1 h; clear h; have h := h'; clear h'; obtain ⟨ba, hba, h'⟩ := Option.bind_eq_some_iff.1 h; clear h; have h := h'; clear h'; obtain ⟨bo, hbo, h'⟩ := Option.bind_eq_some_iff.1 h; clear h; have h := h'; clear h'; have CP := Az hcp; have BL := Az hbl; have BA := Az hba; have BO := Az hbo; clear hcp hbl hba hbo; have HH := Az h; clear h
 go_enter Try.func28, Try.ntmps28
 go_wp2_with (first | ((with_reducible refine gate_dst (N := 4) rfl ?_); refine box_event ?hg (N := 4) ?hd (cs := #[.slice A1_0 l1_0.length c1_0, .slice A1_1 l1_1.length c1_1, .slice A1_2 l1_2.length c1_2]) (t := 47) ?hr ?_; (case hd => rfl); (case hg => rfl); (case hr => first | (go_simp; done) | (go_simp; rfl)); intro g4 hg w4 hbox hb; have BK4 := Az hbox; have HB4 := Az hb; have HG4 := Az hg; clear hg hbox hb) | ((with_reducible refine gate_dst (N := 5) rfl ?_); refine box_event ?hg (N := 5) ?hd (cs := #[.string a2]) (t := 9) ?hr ?_; (case hd => rfl); (case hg => rfl); (case hr => first | (go_simp; done) | (go_simp; rfl)); intro g5 hg w5 hbox hb; have BK5 := Az hbox; have HB5 := Az hb; have HG5 := Az hg; clear hg hbox hb) | ((with_reducible refine gate_dst (N := 6) rfl ?_); refine box_event ?hg (N := 6) ?hd (cs := #[.slice none 0 0, .slice none 0 0, .slice none 0 0]) (t := 47) ?hr ?_; (case hd => rfl); (case hg => rfl); (case hr => first | (go_simp; done) | (go_simp; rfl)); intro g6 hg w6 hbox hb; have BK6 := Az hbox; have HB6 := Az hb; have HG6 := Az hg; clear hg hbox hb; have BK46 := Az (blk_below (blk_below BK4.out HB5.out) HB6.out); obtain ⟨x0, x1, x2⟩ := bc3 BK46.out) | (go_at_call 71; refine (impl_clonePanel.calls _ _ l1_0 _ _ l1_1 _ _ l1_2 d0 d1 d2 _ (Kd.C_below (Kd.C_below (Kd.C_below H1.out HB4.out) HB5.out) HB6.out) D1.out (Kd.C_below (Kd.C_below (Kd.C_below H2.out HB4.out) HB5.out) HB6.out) D2.out (Kd.C_below (Kd.C_below (Kd.C_below H3.out HB4.out) HB5.out) HB6.out) D3.out CP.out).mono ?_; rintro e w7 ⟨v0, v1, v2, rfl, ho0, ho1, ho2, hb⟩; have HO0 := Az ho0; have HO1 := Az ho1; have HO2 := Az ho2; have HB7 := Az hb; obtain ⟨p0, q0, rfl⟩ := Kd.R_slice ho0; obtain ⟨p1, q1, rfl⟩ := Kd.R_slice ho1; obtain ⟨p2, q2, rfl⟩ := Kd.R_slice ho2; clear ho0 ho1 ho2 hb; clear x0 x1 x2) | ((with_reducible refine gate_dst (N := 8) rfl ?_); refine box_event ?hg (N := 8) ?hd (cs := #[.slice none 0 0, .slice none 0 0, .slice none 0 0]) (t := 47) ?hr ?_; (case hd => rfl); (case hg => rfl); (case hr => first | (go_simp; done) | (go_simp; rfl)); intro g8 hg w8 hbox hb; have BK8 := Az hbox; have HB8 := Az hb; have HG8 := Az hg; clear hg hbox hb; obtain ⟨x0, x1, x2⟩ := bc3 BK8.out; obtain ⟨y0, y1, y2⟩ := bf3_ BK8.out))
 have hlt4 : g4 < w4.heap.size := blk_lt BK4.out; have hlt5 : g5 < w5.heap.size := blk_lt BK5.out; have hlt6 : g6 < w6.heap.size := blk_lt BK6.out; have z4 := HB4.out.size; have z5 := HB5.out.size; have z6 := HB6.out.size; have z7 := HB7.out.size; have z8 := HB8.out.size; have q4 := HG4.out; have q5 := HG5.out; have q6 := HG6.out; have q8 := HG8.out
 have n48 : g4 ≠ g8 := by omega
 have n58 : g5 ≠ g8 := by omega
 have n68 : g6 ≠ g8 := by omega
 have HI := Az (show impl_Take14.Inv w (((w8.setCell ⟨g8, 0, none⟩ (.slice p0 d0.length q0)).setCell ⟨g8, 1, none⟩ (.slice p1 d1.length q1)).setCell ⟨g8, 2, none⟩ (.slice p2 d2.length q2)) w6.heap.size g4 g5 g6 g8 _ _ _ a2 (.slice p0 d0.length q0) (.slice p1 d1.length q1) (.slice p2 d2.length q2) d0 d1 d2 from
  ⟨bf3 (blk_below (blk_below BK46.out HB7.out) HB8.out) n48, bf3 (blk_below (blk_below (blk_below BK5.out HB6.out) HB7.out) HB8.out) n58, bf3 (blk_below (blk_below BK6.out HB7.out) HB8.out) n68, impl_Take14.blk_put3 BK8.out,
   impl_Take14.below_put3 (below_then (below_then (below_then (below_then HB4.out z4 HB5.out) (by omega) HB6.out) (by omega) HB7.out) (by omega) HB8.out) (by omega),
   by omega, by omega, by omega, by omega, n48, n68, by omega, by omega, by simp; omega,
   rf3 (Kd.R_below HO0.out HB8.out) BK8.out (by decide), rf3 (Kd.R_below HO1.out HB8.out) BK8.out (by decide), rf3 (Kd.R_below HO2.out HB8.out) BK8.out (by decide)⟩)
 clear hlt4 hlt5 hlt6 z4 z5 z6 z7 z8 q4 q5 q6 q8 n48 n58 n68 x0 x1 x2 y0 y1 y2 BK4 BK5 BK46 BK6 BK8 HB4 HB5 HB6 HB7 HB8 HG4 HG5 HG6 HG8 HO0 HO1 HO2 CP; generalize (((w8.setCell ⟨g8, 0, none⟩ (.slice p0 d0.length q0)).setCell ⟨g8, 1, none⟩ (.slice p1 d1.length q1)).setCell ⟨g8, 2, none⟩ (.slice p2 d2.length q2)) = w9 at HI ⊢; generalize w6.heap.size = B at HI; refine start_ (n := 10) (S := fun w' => w'.cell? ⟨g4, 0, none⟩ = some (.slice A1_0 l1_0.length c1_0) ∧ w'.cell? ⟨g4, 1, none⟩ = some (.slice A1_1 l1_1.length c1_1) ∧ w'.cell? ⟨g5, 0, none⟩ = some (.string a2)) (ds := []) impl_Take14.M0 (by kernel_rfl) rfl rfl ⟨(blk_cell (blk_drew HI.out.b4) 0).trans rfl, (blk_cell (blk_drew HI.out.b4) 1).trans rfl, (blk_cell (blk_drew HI.out.b5) 0).trans rfl⟩ (fun hHeld => ?_); refine with_tabW impl_Take14.tab2 impl_Take14.bits2 (fun HT_ HW_ => ?_); replace HI := Az (HI.out.mv (below_drew1 (Below.refl _ _))); generalize w9.drew = w9 at HI hHeld ⊢; refine pz 0 13 impl_Take14.M1 HT_.out ?_; refine pz 4 17 impl_Take14.M2 HT_.out ?_; refine tz 1 14 impl_Take14.M3 HT_.out HW_.out hHeld ?_; refine tz 2 15 impl_Take14.M4 HT_.out HW_.out hHeld ?_; refine tz 5 18 impl_Take14.M5 HT_.out HW_.out hHeld ?_; refine tz 6 19 impl_Take14.M6 HT_.out HW_.out hHeld ?_; refine one_ (i := 3) (N := some 16) impl_Take14.M7 rfl rfl (one_of HT_.out (by kernel_rfl)) (by decide) (fun K hK => ?_); refine goes_ Try.func49 (by kernel_rfl) rfl #[.slice A1_1 l1_1.length c1_1, .string a2] (by rfl) rfl rfl (by (try simp only [List.map_toArray, List.map_cons, List.map_nil]); first | done | rfl) ?_; refine (slices_Contains_string_string.calls k _ _ l1_1 a2 bl _ (Kd.C_below H2.out HI.out.below) D2.out BL.out).mono ?_; rintro e w' ⟨rfl, ⟨nd, rfl⟩⟩; refine ⟨_, rfl, ?_⟩; replace HI := Az (HI.out.mv (pw_below_drewN (Below.refl _ _) nd)); generalize w9.drewN nd = w10 at HI ⊢; refine hK.out _ _ ⟨(blk_cell HI.out.b4 0).trans rfl, (blk_cell HI.out.b4 1).trans rfl, (blk_cell HI.out.b5 0).trans rfl⟩ (fun hHeld => ?_); clear hK K; refine norm_ (a' := ?_) ?_ ?_; rotate_left
 ·
  show Act.put _ (some 16) _ = _
  simp only [Act.put, sA, sB, sC, i64_w, i32_w]
  rfl
 refine one_ (i := 7) (N := some 20) impl_Take14.M8 rfl rfl (one_of HT_.out (by kernel_rfl)) (by decide) (fun K hK => ?_); refine goes_ Try.func49 (by kernel_rfl) rfl #[.slice A1_0 l1_0.length c1_0, .string a2] (by rfl) rfl rfl (by (try simp only [List.map_toArray, List.map_cons, List.map_nil]); first | done | rfl) ?_; refine (slices_Contains_string_string.calls k _ _ l1_0 a2 ba _ (Kd.C_below H1.out HI.out.below) D1.out BA.out).mono ?_; rintro e w' ⟨rfl, ⟨nd2, rfl⟩⟩; refine ⟨_, rfl, ?_⟩; replace HI := Az (HI.out.mv (pw_below_drewN (Below.refl _ _) nd2)); generalize w10.drewN nd2 = w11 at HI ⊢; refine hK.out _ _ ⟨(blk_cell HI.out.b4 0).trans rfl, (blk_cell HI.out.b4 1).trans rfl, (blk_cell HI.out.b5 0).trans rfl⟩ (fun hHeld => ?_); clear hK K; refine norm_ (a' := ?_) ?_ ?_; rotate_left
 ·
  show Act.put _ (some 20) _ = _
  simp only [Act.put, sA, sB, sC, i64_w, i32_w]
  rfl
 refine pz 8 9 impl_Take14.M9 HT_.out ?_; refine pz 9 10 impl_Take14.M10 HT_.out ?_; refine done_ (done_of HT_.out (by kernel_rfl)) ?_; clear HT_ HW_ hHeld BL BA; have PO : Aside0 (Calls Try.prog 58 #[.slice A0 l0.length c0, .agg #[.slice A1_0 l1_0.length c1_0, .slice A1_1 l1_1.length c1_1, .slice A1_2 l1_2.length c1_2]] w11 fun e w' => e = .returned (.bool bo) ∧ Below w11.heap.size w11 w') := Az (impl_panelOk.calls k _ _ l0 _ _ l1_0 _ _ l1_1 _ _ l1_2 bo w11 (Kd.C_below H0.out HI.out.below) D0.out (Kd.C_below H1.out HI.out.below) D1.out (Kd.C_below H2.out HI.out.below) D2.out (Kd.C_below H3.out HI.out.below) D3.out BO.out); clear BO H0 D0 H1 D1 H2 D2 H3 D3; obtain ⟨x0, x1, x2⟩ := bc3 HI.out.b4
 by_cases hc : (!bo || (!bl && !ba)) = true
 ·
  have hh := HH.out; rw [if_pos hc] at hh; simp only [Option.some.injEq, Prod.mk.injEq] at hh; obtain ⟨rfl, rfl, rfl, rfl⟩ := hh
  have hcs : bo = false ∨ (bo = true ∧ bl = false ∧ ba = false) := by revert hc; cases bo <;> cases bl <;> cases ba <;> decide
  clear HH hc
  rcases hcs with rfl | ⟨rfl, rfl, rfl⟩
  all_goals
   go_wp2_with (go_at_call 58; refine PO.out.mono ?_; rintro e w12 ⟨rfl, hb⟩; replace HI := Az (HI.out.mv hb); clear hb x0 x1 x2 PO; obtain ⟨x0, x1, x2⟩ := bc3 HI.out.b8; obtain ⟨y0, y1, y2⟩ := bc3 HI.out.b6; obtain ⟨z0, z1, z2⟩ := bf3_ HI.out.b6)
   refine bodyPost_ret (results_ct rfl _ _ g6 47 #[.slice p0 d0.length q0, .slice p1 d1.length q1, .slice p2 d2.length q2] (0, 0) _ rfl HI.out.fin.1 Try.underlying47 rfl (by kernel_rfl)) rfl ?_; exact ⟨_, _, _, rz, HI.out.fin.2⟩
 ·
  have hh := HH.out; rw [if_neg hc] at hh
  have hcs : bo = true ∧ (bl = true ∨ (bl = false ∧ ba = true)) := by revert hc; cases bo <;> cases bl <;> cases ba <;> decide
  obtain ⟨rfl, hcs⟩ := hcs; clear HH hc
  cases hba : ba
  ·
   rw [hba, if_neg (by decide)] at hh; simp only [Option.some.injEq, Prod.mk.injEq] at hh; obtain ⟨rfl, rfl, rfl, rfl⟩ := hh; subst hba
   have hl : bl = true := by rcases hcs with h | ⟨_, h⟩; exact h; cases h
   subst hl; clear hcs
   go_wp2_with (first | (go_at_call 58; refine PO.out.mono ?_; rintro e w12 ⟨rfl, hb⟩; replace HI := Az (HI.out.mv hb); clear hb x0 x1 x2 PO; obtain ⟨x0, x1, x2⟩ := bc3 HI.out.b8) | (go_at_call 72; refine (impl_Take14.del B _ p1 q1 d1 a2 g5 w12 w12 (Below.refl _ _) HI.out.hW HI.out.r1 HI.out.b5 HI.out.B5).mono ?_; rintro e w13 ⟨v, rfl, hR, _, hg, ho⟩; obtain ⟨pv, qv, rfl⟩ := Kd.R_slice hR; have HI2 := Az (HI.out.del hg hR ho); clear x0 x1 x2; obtain ⟨x0, x1, x2⟩ := bc3 (HI.out.k8 hg); obtain ⟨f0, f1, f2⟩ := bf3_ (HI.out.k8 hg); obtain ⟨y0, y1, y2⟩ := bc3 (HI.out.k6 hg); obtain ⟨z0, z1, z2⟩ := bf3_ (HI.out.k6 hg); have N1 := HI.out.n68; have N2 := HI.out.n68.symm; clear hR hg ho))
   refine bodyPost_ret (results_ct rfl _ _ g6 47 #[.slice p0 d0.length q0, .slice pv (impl_Take14.without d1 a2).length qv, .slice p2 d2.length q2] (0, 0) _ rfl HI2.out.fin.1 Try.underlying47 rfl (by kernel_rfl)) rfl ?_; exact ⟨_, _, _, rz, HI2.out.fin.2⟩
  ·
   subst hba; rw [if_pos rfl] at hh; obtain ⟨t, ht, hh⟩ := Option.bind_eq_some_iff.1 hh; simp only [Option.some.injEq, Prod.mk.injEq] at hh; obtain ⟨rfl, rfl, rfl, rfl⟩ := hh; have HT := Az ht; clear ht
   rcases hcs with rfl | ⟨rfl, _⟩
   all_goals
    go_wp2_with (first | (go_at_call 58; refine PO.out.mono ?_; rintro e w12 ⟨rfl, hb⟩; replace HI := Az (HI.out.mv hb); clear hb x0 x1 x2 PO; obtain ⟨x0, x1, x2⟩ := bc3 HI.out.b8) | (go_at_call 72; refine (impl_Take14.del B _ p1 q1 d1 a2 g5 w12 w12 (Below.refl _ _) HI.out.hW HI.out.r1 HI.out.b5 HI.out.B5).mono ?_; rintro e w13 ⟨v, rfl, hR, _, hg, ho⟩; obtain ⟨pv, qv, rfl⟩ := Kd.R_slice hR; have HI2 := Az (HI.out.del hg hR ho); clear x0 x1 x2; obtain ⟨x0, x1, x2⟩ := bc3 (HI.out.k8 hg); obtain ⟨f0, f1, f2⟩ := bf3_ (HI.out.k8 hg); obtain ⟨u0, u1⟩ := HI.out.k5 hg; have u2 := u1.symm; clear hR hg ho) | (go_at_call 70; refine (impl_Take14.with_ k B _ p2 q2 d2 a2 t _ _ (Below.refl _ _) HI2.out.hW HI2.out.r2 HT.out).mono ?_; rintro e w15 ⟨v, rfl, hR, hb⟩; obtain ⟨pt, qt, rfl⟩ := Kd.R_slice hR; have HI3 := Az (HI2.out.with_ hb hR); replace HI2 := Az (HI2.out.mv hb); clear x0 x1 x2 f0 f1 f2; obtain ⟨x0, x1, x2⟩ := bc3 HI2.out.b8; obtain ⟨f0, f1, f2⟩ := bf3_ HI2.out.b8; obtain ⟨y0, y1, y2⟩ := bc3 HI2.out.b6; obtain ⟨z0, z1, z2⟩ := bf3_ HI2.out.b6; have N1 := HI.out.n68; have N2 := HI.out.n68.symm; clear hR hb))
    refine bodyPost_ret (results_ct rfl _ _ g6 47 #[.slice p0 d0.length q0, .slice pv (impl_Take14.without d1 a2).length qv, .slice pt t.length qt] (0, 0) _ rfl HI3.out.fin.1 Try.underlying47 rfl (by kernel_rfl)) rfl ?_; exact ⟨_, _, _, rz, HI3.out.fin.2⟩

/-! ### laws_szStringS: function 14 -/
def laws_szStringS.l0 : Nat → List ByteArray → Int → Int → Option (Int)
 | 0, _, _, _ => none
 | k + 1, x0, x1, x5 => if x5 < (x0.length : Int) then (if 0 ≤ x5 then (if (wrap64 (x1 - ((rdOf ByteArray.empty x0 x5).size : Int))) < 0 then (some (-1)) else (laws_szStringS.l0 k x0 (wrap64 (x1 - ((rdOf ByteArray.empty x0 x5).size : Int))) (wrap64 (x5 + 1)))) else (none)) else (some x1)
def laws_szStringS.f (k : Nat) (l0 : List ByteArray) (a1 : Int) : Option (Int) := if (wrap64 (a1 - (l0.length : Int))) < 0 then (some (-1)) else (laws_szStringS.l0 k l0 (wrap64 (a1 - (l0.length : Int))) 0)
set_option maxHeartbeats 8000000 in
set_option maxRecDepth 100000 in
theorem laws_szStringS.calls (k : Nat) (A0 : Option Addr) (c0 : Nat) (l0 : List ByteArray) (a1 : Int) (r : Int) (w : World) (hr0 : Kd.C Kd.string w A0 l0.length l0) (hc0 : l0.length ≤ c0) (h : laws_szStringS.f k l0 a1 = some r) :
  Calls Try.prog 14 #[.slice A0 l0.length c0, .int .i64 a1] w fun e w' => e = .returned (.int .i64 r) ∧ Drawn0 w w' := by
 have HR0 := Az hr0; have HC0 := Az hc0; clear hr0 hc0; have H : (if (wrap64 (a1 - (l0.length : Int))) < 0 then (some (-1)) else (laws_szStringS.l0 k l0 (wrap64 (a1 - (l0.length : Int))) 0)) = some r := h; clear h
 by_cases c3 : (wrap64 (a1 - (l0.length : Int))) < 0
 ·
  rw [if_pos c3] at H; have c3b0 : decide ((wrap64 (a1 - (l0.length : Int))) < 0) = true := decide_eq_true c3; clear c3; obtain rfl := Option.some.inj H
  go_enter Try.func14, Try.ntmps14
  go_wp2
  go_ret
  exact ⟨by first | rfl | (simp; done) | (simp [*]; done), by repeat (first | exact Drawn0.refl _ | apply Drawn0.step)⟩
 ·
  rw [if_neg c3] at H; have c3b0 : decide ((wrap64 (a1 - (l0.length : Int))) < 0) = false := decide_eq_false c3; clear c3; have H' := Az H; clear H
  go_enter Try.func14, Try.ntmps14
  go_wp2
  go_loopg [1, 5] k (fun kq v1 v5 w' => ∃ (x1_1 : Int) (x5_1 : Int), v1 = .int .i64 x1_1 ∧ v5 = .int .i64 x5_1 ∧ Aside0 (laws_szStringS.l0 kq l0 x1_1 x5_1 = some r) ∧ Aside0 (kq ≤ k) ∧ Drawn0 w w')
  case atStart => exact ⟨(wrap64 (a1 - (l0.length : Int))), (0), (by first | rfl | (simp; done) | (simp [*]; done)), (by first | rfl | (simp; done) | (simp [*]; done)), H', ⟨Nat.le_refl _⟩, by repeat (first | exact Drawn0.refl _ | apply Drawn0.step)⟩
  case round =>
   clear H'; (try clear c1); (try clear p2); (try clear c3); (try clear c3b0); obtain ⟨x1_1, x5_1, rfl, rfl, HA, HK1, ⟨m1, rfl⟩⟩ := hrel
   cases gk with
   | zero => exact absurd HA.out (by simp [laws_szStringS.l0])
   | succ k1 =>
    have H := HA.out; clear HA; simp only [laws_szStringS.l0] at H
    by_cases c4 : x5_1 < (l0.length : Int)
    ·
     rw [if_pos c4] at H; have c4b0 : decide (x5_1 < (l0.length : Int)) = true := decide_eq_true c4; clear c4
     by_cases c5 : 0 ≤ x5_1
     ·
      rw [if_pos c5] at H; have c5b0 : decide (0 ≤ x5_1) = true := decide_eq_true c5; clear c5
      by_cases c6 : (wrap64 (x1_1 - ((rdOf ByteArray.empty l0 x5_1).size : Int))) < 0
      ·
       rw [if_pos c6] at H; have c6b0 : decide ((wrap64 (x1_1 - ((rdOf ByteArray.empty l0 x5_1).size : Int))) < 0) = true := decide_eq_true c6; clear c6; obtain rfl := Option.some.inj H; have p189 : 0 ≤ (x5_1 : Int) := oz; have q189 : x5_1 < (l0.length : Int) := oz; obtain ⟨ad189, e189, hx189_0⟩ := Kd.at_string HR0.out x5_1 p189 q189
       cases e189
       replace p189 := eq_true p189; replace q189 := eq_true q189
       go_wp2
       go_ret
       exact ⟨by first | rfl | (simp; done) | (simp [*]; done), by repeat (first | exact Drawn0.refl _ | apply Drawn0.step)⟩
      ·
       rw [if_neg c6] at H; have c6b0 : decide ((wrap64 (x1_1 - ((rdOf ByteArray.empty l0 x5_1).size : Int))) < 0) = false := decide_eq_false c6; clear c6; have H' := Az H; clear H; have p189 : 0 ≤ (x5_1 : Int) := oz; have q189 : x5_1 < (l0.length : Int) := oz; obtain ⟨ad189, e189, hx189_0⟩ := Kd.at_string HR0.out x5_1 p189 q189
       cases e189
       replace p189 := eq_true p189; replace q189 := eq_true q189
       go_wp2
       go_roundg k1
       case measure => have := HK1.out; omega
       case rel => exact ⟨(wrap64 (x1_1 - ((rdOf ByteArray.empty l0 x5_1).size : Int))), (wrap64 (x5_1 + 1)), (by first | rfl | (simp; done) | (simp [*]; done)), (by first | rfl | (simp; done) | (simp [*]; done)), H', ⟨by have := HK1.out; omega⟩, by repeat (first | exact Drawn0.refl _ | apply Drawn0.step)⟩
     ·
      rw [if_neg c5] at H; exact absurd H (by simp)
    ·
     rw [if_neg c4] at H; have c4b0 : decide (x5_1 < (l0.length : Int)) = false := decide_eq_false c4; clear c4; obtain rfl := Option.some.inj H
     go_wp2
     go_ret
     exact ⟨by first | rfl | (simp; done) | (simp [*]; done), by repeat (first | exact Drawn0.refl _ | apply Drawn0.step)⟩

/-! ### laws_szPanel: function 29 -/
def laws_szPanel.f (k : Nat) (l0_0 : List ByteArray) (l0_1 : List ByteArray) (l0_2 : List ByteArray) (a1 : Int) : Option (Int) := (laws_szStringS.f k l0_0 a1).bind fun t191 => (if t191 < 0 then (some (-1)) else ((laws_szStringS.f k l0_1 t191).bind fun t192 => (if t192 < 0 then (some (-1)) else ((laws_szStringS.f k l0_2 t192).bind fun t193 => (if t193 < 0 then (some (-1)) else (some t193))))))
set_option maxHeartbeats 8000000 in
set_option maxRecDepth 100000 in
theorem laws_szPanel.calls (k : Nat) (A0_0 : Option Addr) (c0_0 : Nat) (l0_0 : List ByteArray) (A0_1 : Option Addr) (c0_1 : Nat) (l0_1 : List ByteArray) (A0_2 : Option Addr) (c0_2 : Nat) (l0_2 : List ByteArray) (a1 : Int) (r : Int) (w : World) (hr0_0 : Kd.C Kd.string w A0_0 l0_0.length l0_0) (hc0_0 : l0_0.length ≤ c0_0) (hr0_1 : Kd.C Kd.string w A0_1 l0_1.length l0_1) (hc0_1 : l0_1.length ≤ c0_1) (hr0_2 : Kd.C Kd.string w A0_2 l0_2.length l0_2) (hc0_2 : l0_2.length ≤ c0_2) (h : laws_szPanel.f k l0_0 l0_1 l0_2 a1 = some r) :
  Calls Try.prog 29 #[.agg #[.slice A0_0 l0_0.length c0_0, .slice A0_1 l0_1.length c0_1, .slice A0_2 l0_2.length c0_2], .int .i64 a1] w fun e w' => e = .returned (.int .i64 r) ∧ Below w.heap.size w w' := by
 have hu53 := Try.underlying53; have HR0_0 := Az hr0_0; have HC0_0 := Az hc0_0; clear hr0_0 hc0_0; have HR0_1 := Az hr0_1; have HC0_1 := Az hc0_1; clear hr0_1 hc0_1; have HR0_2 := Az hr0_2; have HC0_2 := Az hc0_2; clear hr0_2 hc0_2; have HB := Az (Below.refl w.heap.size w); have H : ((laws_szStringS.f k l0_0 a1).bind fun t191 => (if t191 < 0 then (some (-1)) else ((laws_szStringS.f k l0_1 t191).bind fun t192 => (if t192 < 0 then (some (-1)) else ((laws_szStringS.f k l0_2 t192).bind fun t193 => (if t193 < 0 then (some (-1)) else (some t193))))))) = some r := h; clear h; replace H := Option.bind_eq_some_iff.mp H; obtain ⟨t191, A30, H⟩ := H; replace H : (if t191 < 0 then (some (-1)) else ((laws_szStringS.f k l0_1 t191).bind fun t192 => (if t192 < 0 then (some (-1)) else ((laws_szStringS.f k l0_2 t192).bind fun t193 => (if t193 < 0 then (some (-1)) else (some t193)))))) = some r := H; have A3 := Az A30; clear A30
 by_cases c4 : t191 < 0
 ·
  rw [if_pos c4] at H; have c4b0 : decide (t191 < 0) = true := decide_eq_true c4; clear c4; obtain rfl := Option.some.inj H
  go_enter Try.func29, Try.ntmps29
  go_wp2_with (first | ((with_reducible refine gate_dst (N := 2) rfl ?_); refine box_event ?hg (N := 2) ?hd (cs := #[.slice A0_0 l0_0.length c0_0, .slice A0_1 l0_1.length c0_1, .slice A0_2 l0_2.length c0_2]) (t := 53) ?hr ?_; (case hd => rfl); (case hg => rfl); (case hr => first | (go_simp; done) | (go_simp; rfl)); intro gb190 hg w5 hbox hb; have BK190 := Az (hbox); have GW190 := Az ((by rw [hg]; exact (below_size bz) : w.heap.size ≤ gb190)); replace HB := Az (below_step bz hb); have GE190 := GW190; clear hb hbox hg; obtain ⟨hcz6_0, hcz6_1, hcz6_2⟩ := bc3 BK190.out; obtain ⟨hfz6_0, hfz6_1, hfz6_2⟩ := bf3_ BK190.out) | ((with_reducible refine gate_callee (f := 14) rfl ?_); refine goesL_ (some 8) rfl rfl Try.func14 (by kernel_rfl) rfl #[.slice A0_0 l0_0.length c0_0, .int .i64 a1] rfl (by (try simp only [List.map_toArray, List.map_cons, List.map_nil]); first | done | rfl) ?_; (with_reducible refine (laws_szStringS.calls k _ _ l0_0 a1 t191 _ ?side1 ?side2 A3.out).mono ?_); (case side1 => exact cu HR0_0.out HB.out); (case side2 => exact HC0_0.out); rintro e w' ⟨rfl, ⟨nd, rfl⟩⟩; refine ⟨_, rfl, ?_⟩))
  go_ret
  exact ⟨rz, bz⟩
 ·
  rw [if_neg c4] at H; have c4b0 : decide (t191 < 0) = false := decide_eq_false c4; clear c4; replace H := Option.bind_eq_some_iff.mp H; obtain ⟨t192, A70, H⟩ := H; replace H : (if t192 < 0 then (some (-1)) else ((laws_szStringS.f k l0_2 t192).bind fun t193 => (if t193 < 0 then (some (-1)) else (some t193)))) = some r := H; have A7 := Az A70; clear A70
  by_cases c8 : t192 < 0
  ·
   rw [if_pos c8] at H; have c8b0 : decide (t192 < 0) = true := decide_eq_true c8; clear c8; obtain rfl := Option.some.inj H
   go_enter Try.func29, Try.ntmps29
   go_wp2_with (first | ((with_reducible refine gate_dst (N := 2) rfl ?_); refine box_event ?hg (N := 2) ?hd (cs := #[.slice A0_0 l0_0.length c0_0, .slice A0_1 l0_1.length c0_1, .slice A0_2 l0_2.length c0_2]) (t := 53) ?hr ?_; (case hd => rfl); (case hg => rfl); (case hr => first | (go_simp; done) | (go_simp; rfl)); intro gb190 hg w9 hbox hb; have BK190 := Az (hbox); have GW190 := Az ((by rw [hg]; exact (below_size bz) : w.heap.size ≤ gb190)); replace HB := Az (below_step bz hb); have GE190 := GW190; clear hb hbox hg; obtain ⟨hcz10_0, hcz10_1, hcz10_2⟩ := bc3 BK190.out; obtain ⟨hfz10_0, hfz10_1, hfz10_2⟩ := bf3_ BK190.out) | ((with_reducible refine gate_callee (f := 14) rfl ?_); refine goesL_ (some 8) rfl rfl Try.func14 (by kernel_rfl) rfl #[.slice A0_0 l0_0.length c0_0, .int .i64 a1] rfl (by (try simp only [List.map_toArray, List.map_cons, List.map_nil]); first | done | rfl) ?_; (with_reducible refine (laws_szStringS.calls k _ _ l0_0 a1 t191 _ ?side1 ?side2 A3.out).mono ?_); (case side1 => exact cu HR0_0.out HB.out); (case side2 => exact HC0_0.out); rintro e w' ⟨rfl, ⟨nd, rfl⟩⟩; refine ⟨_, rfl, ?_⟩) | ((with_reducible refine gate_callee (f := 14) rfl ?_); refine goesL_ (some 14) rfl rfl Try.func14 (by kernel_rfl) rfl #[.slice A0_1 l0_1.length c0_1, .int .i64 t191] rfl (by (try simp only [List.map_toArray, List.map_cons, List.map_nil]); first | done | rfl) ?_; (with_reducible refine (laws_szStringS.calls k _ _ l0_1 t191 t192 _ ?side1 ?side2 A7.out).mono ?_); (case side1 => repeat (first | exact (Kd.C_below HR0_1.out bz) | (with_reducible refine Kd.C_alloc ?_ _) | (with_reducible refine Kd.C_drewN ?_ _) | (with_reducible refine Kd.C_drew ?_))); (case side2 => exact HC0_1.out); rintro e w' ⟨rfl, ⟨nd, rfl⟩⟩; refine ⟨_, rfl, ?_⟩))
   go_ret
   exact ⟨rz, bz⟩
  ·
   rw [if_neg c8] at H; have c8b0 : decide (t192 < 0) = false := decide_eq_false c8; clear c8; replace H := Option.bind_eq_some_iff.mp H; obtain ⟨t193, A110, H⟩ := H; replace H : (if t193 < 0 then (some (-1)) else (some t193)) = some r := H; have A11 := Az A110; clear A110
   by_cases c12 : t193 < 0
   ·
    rw [if_pos c12] at H; have c12b0 : decide (t193 < 0) = true := decide_eq_true c12; clear c12; obtain rfl := Option.some.inj H
    go_enter Try.func29, Try.ntmps29
    go_wp2_with (first | ((with_reducible refine gate_dst (N := 2) rfl ?_); refine box_event ?hg (N := 2) ?hd (cs := #[.slice A0_0 l0_0.length c0_0, .slice A0_1 l0_1.length c0_1, .slice A0_2 l0_2.length c0_2]) (t := 53) ?hr ?_; (case hd => rfl); (case hg => rfl); (case hr => first | (go_simp; done) | (go_simp; rfl)); intro gb190 hg w13 hbox hb; have BK190 := Az (hbox); have GW190 := Az ((by rw [hg]; exact (below_size bz) : w.heap.size ≤ gb190)); replace HB := Az (below_step bz hb); have GE190 := GW190; clear hb hbox hg; obtain ⟨hcz14_0, hcz14_1, hcz14_2⟩ := bc3 BK190.out; obtain ⟨hfz14_0, hfz14_1, hfz14_2⟩ := bf3_ BK190.out) | ((with_reducible refine gate_callee (f := 14) rfl ?_); refine goesL_ (some 8) rfl rfl Try.func14 (by kernel_rfl) rfl #[.slice A0_0 l0_0.length c0_0, .int .i64 a1] rfl (by (try simp only [List.map_toArray, List.map_cons, List.map_nil]); first | done | rfl) ?_; (with_reducible refine (laws_szStringS.calls k _ _ l0_0 a1 t191 _ ?side1 ?side2 A3.out).mono ?_); (case side1 => exact cu HR0_0.out HB.out); (case side2 => exact HC0_0.out); rintro e w' ⟨rfl, ⟨nd, rfl⟩⟩; refine ⟨_, rfl, ?_⟩) | ((with_reducible refine gate_callee (f := 14) rfl ?_); refine goesL_ (some 14) rfl rfl Try.func14 (by kernel_rfl) rfl #[.slice A0_1 l0_1.length c0_1, .int .i64 t191] rfl (by (try simp only [List.map_toArray, List.map_cons, List.map_nil]); first | done | rfl) ?_; (with_reducible refine (laws_szStringS.calls k _ _ l0_1 t191 t192 _ ?side1 ?side2 A7.out).mono ?_); (case side1 => repeat (first | exact (Kd.C_below HR0_1.out bz) | (with_reducible refine Kd.C_alloc ?_ _) | (with_reducible refine Kd.C_drewN ?_ _) | (with_reducible refine Kd.C_drew ?_))); (case side2 => exact HC0_1.out); rintro e w' ⟨rfl, ⟨nd, rfl⟩⟩; refine ⟨_, rfl, ?_⟩) | ((with_reducible refine gate_callee (f := 14) rfl ?_); refine goesL_ (some 20) rfl rfl Try.func14 (by kernel_rfl) rfl #[.slice A0_2 l0_2.length c0_2, .int .i64 t192] rfl (by (try simp only [List.map_toArray, List.map_cons, List.map_nil]); first | done | rfl) ?_; (with_reducible refine (laws_szStringS.calls k _ _ l0_2 t192 t193 _ ?side1 ?side2 A11.out).mono ?_); (case side1 => repeat (first | exact (Kd.C_below HR0_2.out bz) | (with_reducible refine Kd.C_alloc ?_ _) | (with_reducible refine Kd.C_drewN ?_ _) | (with_reducible refine Kd.C_drew ?_))); (case side2 => exact HC0_2.out); rintro e w' ⟨rfl, ⟨nd, rfl⟩⟩; refine ⟨_, rfl, ?_⟩))
    go_ret
    exact ⟨rz, bz⟩
   ·
    rw [if_neg c12] at H; have c12b0 : decide (t193 < 0) = false := decide_eq_false c12; clear c12; obtain rfl := Option.some.inj H
    go_enter Try.func29, Try.ntmps29
    go_wp2_with (first | ((with_reducible refine gate_dst (N := 2) rfl ?_); refine box_event ?hg (N := 2) ?hd (cs := #[.slice A0_0 l0_0.length c0_0, .slice A0_1 l0_1.length c0_1, .slice A0_2 l0_2.length c0_2]) (t := 53) ?hr ?_; (case hd => rfl); (case hg => rfl); (case hr => first | (go_simp; done) | (go_simp; rfl)); intro gb190 hg w15 hbox hb; have BK190 := Az (hbox); have GW190 := Az ((by rw [hg]; exact (below_size bz) : w.heap.size ≤ gb190)); replace HB := Az (below_step bz hb); have GE190 := GW190; clear hb hbox hg; obtain ⟨hcz16_0, hcz16_1, hcz16_2⟩ := bc3 BK190.out; obtain ⟨hfz16_0, hfz16_1, hfz16_2⟩ := bf3_ BK190.out) | ((with_reducible refine gate_callee (f := 14) rfl ?_); refine goesL_ (some 8) rfl rfl Try.func14 (by kernel_rfl) rfl #[.slice A0_0 l0_0.length c0_0, .int .i64 a1] rfl (by (try simp only [List.map_toArray, List.map_cons, List.map_nil]); first | done | rfl) ?_; (with_reducible refine (laws_szStringS.calls k _ _ l0_0 a1 t191 _ ?side1 ?side2 A3.out).mono ?_); (case side1 => exact cu HR0_0.out HB.out); (case side2 => exact HC0_0.out); rintro e w' ⟨rfl, ⟨nd, rfl⟩⟩; refine ⟨_, rfl, ?_⟩) | ((with_reducible refine gate_callee (f := 14) rfl ?_); refine goesL_ (some 14) rfl rfl Try.func14 (by kernel_rfl) rfl #[.slice A0_1 l0_1.length c0_1, .int .i64 t191] rfl (by (try simp only [List.map_toArray, List.map_cons, List.map_nil]); first | done | rfl) ?_; (with_reducible refine (laws_szStringS.calls k _ _ l0_1 t191 t192 _ ?side1 ?side2 A7.out).mono ?_); (case side1 => repeat (first | exact (Kd.C_below HR0_1.out bz) | (with_reducible refine Kd.C_alloc ?_ _) | (with_reducible refine Kd.C_drewN ?_ _) | (with_reducible refine Kd.C_drew ?_))); (case side2 => exact HC0_1.out); rintro e w' ⟨rfl, ⟨nd, rfl⟩⟩; refine ⟨_, rfl, ?_⟩) | ((with_reducible refine gate_callee (f := 14) rfl ?_); refine goesL_ (some 20) rfl rfl Try.func14 (by kernel_rfl) rfl #[.slice A0_2 l0_2.length c0_2, .int .i64 t192] rfl (by (try simp only [List.map_toArray, List.map_cons, List.map_nil]); first | done | rfl) ?_; (with_reducible refine (laws_szStringS.calls k _ _ l0_2 t192 t193 _ ?side1 ?side2 A11.out).mono ?_); (case side1 => repeat (first | exact (Kd.C_below HR0_2.out bz) | (with_reducible refine Kd.C_alloc ?_ _) | (with_reducible refine Kd.C_drewN ?_ _) | (with_reducible refine Kd.C_drew ?_))); (case side2 => exact HC0_2.out); rintro e w' ⟨rfl, ⟨nd, rfl⟩⟩; refine ⟨_, rfl, ?_⟩))
    go_ret
    exact ⟨rz, bz⟩

/-! ### spec_l1In: function 38 -/
def spec_l1In.f (a0 : Int) (a1 : Int) (a2 : Int) : Option (Bool) := if a0 ≥ a1 then (some (decide (a0 ≤ a2))) else (some false)
set_option maxHeartbeats 8000000 in
set_option maxRecDepth 100000 in
theorem spec_l1In.calls (a0 : Int) (a1 : Int) (a2 : Int) (r : Bool) (w : World) (h : spec_l1In.f a0 a1 a2 = some r) :
  Calls Try.prog 38 #[.int .i64 a0, .int .i64 a1, .int .i64 a2] w fun e w' => e = .returned (.bool r) ∧ Drawn0 w w' := by
 have H : (if a0 ≥ a1 then (some (decide (a0 ≤ a2))) else (some false)) = some r := h; clear h
 by_cases c4 : a0 ≥ a1
 ·
  rw [if_pos c4] at H; have c4b0 : decide (a1 ≤ a0) = true := decide_eq_true c4; clear c4; obtain rfl := Option.some.inj H
  go_enter Try.func38, Try.ntmps38
  go_wp2
  go_ret
  exact ⟨by first | rfl | (simp; done) | (simp [*]; done), by repeat (first | exact Drawn0.refl _ | apply Drawn0.step)⟩
 ·
  rw [if_neg c4] at H; have c4b0 : decide (a1 ≤ a0) = false := decide_eq_false c4; clear c4; obtain rfl := Option.some.inj H
  go_enter Try.func38, Try.ntmps38
  go_wp2
  go_ret
  exact ⟨by first | rfl | (simp; done) | (simp [*]; done), by repeat (first | exact Drawn0.refl _ | apply Drawn0.step)⟩

end Go.Proofs.Ytjndpoofjidamaa.PFnExactTake14
