/- Walks of the functions named below, by a program of the session over the kit's printer. -/
import Derived.Test.YtadnhfdodcmlaaaDoorPFnExactLegReadx0
import Derived.Test.YtadnhfdodcmlaaaDoorPFnExactLegReadx1
import Derived.Test.YtadnhfdodcmlaaaDoorPFnExactLegReadx3
namespace Go.Proofs.YtadnhfdodcmlaaaDoor.PFnExactLegRead
open Go.RowKit Go.Proofs.YtadnhfdodcmlaaaDoorW.PrintWords Go.Proofs.YtadnhfdodcmlaaaDoorW.PrintLast Go.Proofs.YtadnhfdodcmlaaaDoorW.PrintMore
attribute [local go_sem] max2_int min2_int max_two min_two max_three min_three max_four min_four   -- for this text's walks alone
set_option linter.unusedVariables false
set_option linter.unusedSimpArgs false

/-! ### impl_readLeg: function 24, by hand -/
/-- The words' own texts. -/
def impl_readLeg.at_ (l0 : List ByteArray) (i : Int) : ByteArray := rdOf ByteArray.empty l0 i
def impl_readLeg.num (l0 : List ByteArray) (i : Int) : Int := strconv_Atoi.val (impl_readLeg.at_ l0 i)
def impl_readLeg.dirs : List ByteArray := [(⟨#[110]⟩ : ByteArray), (⟨#[110, 101]⟩ : ByteArray), (⟨#[101]⟩ : ByteArray), (⟨#[115, 101]⟩ : ByteArray), (⟨#[115]⟩ : ByteArray), (⟨#[115, 119]⟩ : ByteArray), (⟨#[119]⟩ : ByteArray), (⟨#[110, 119]⟩ : ByteArray)]
def impl_readLeg.f (l0 : List ByteArray) : Option (Int × Int × Int × Int) :=
  if (l0.all fun x => decide (x.size ≤ 281474976710656)) = true then
    if l0.length = 3 ∧ (impl_readLeg.at_ l0 0).toList = ([116, 111] : List UInt8) then some (1, impl_readLeg.num l0 1, impl_readLeg.num l0 2, 0)
    else if l0.length = 3 ∧ (impl_readLeg.at_ l0 0).toList = ([99, 111, 117, 114, 115, 101] : List UInt8) then (slices_Index_string_string.f 20 impl_readLeg.dirs (impl_readLeg.at_ l0 1)).bind fun i => some (2, i, 0, impl_readLeg.num l0 2)
    else if l0.length = 2 ∧ (impl_readLeg.at_ l0 0).toList = ([99, 108, 105, 109, 98] : List UInt8) then some (3, 0, 0, impl_readLeg.num l0 1)
    else if l0.length = 2 ∧ (impl_readLeg.at_ l0 0).toList = ([104, 111, 108, 100] : List UInt8) then some (4, 0, 0, impl_readLeg.num l0 1)
    else if l0.length = 3 ∧ (impl_readLeg.at_ l0 0).toList = ([116, 117, 114, 110] : List UInt8) then
      (if (impl_readLeg.at_ l0 2).toList = ([108, 101, 102, 116] : List UInt8) then (slices_Index_string_string.f 20 impl_readLeg.dirs (impl_readLeg.at_ l0 1)).bind fun i => some (5, i, -1, 0)
       else (slices_Index_string_string.f 20 impl_readLeg.dirs (impl_readLeg.at_ l0 1)).bind fun i => some (5, i, 1, 0))
    else some (0, 0, 0, 0)
  else none
set_option maxHeartbeats 2000000 in
set_option maxRecDepth 100000 in
/-- The closure n: Atoi of one of the words, through the captured variable. -/
theorem impl_readLeg.one (A0 : Option Addr) (c0 : Nat) (l0 : List ByteArray) (i : Int) (h0 : 0 ≤ i) (h1 : i < (l0.length : Int)) (B : Nat) (w0 W : World) (hr0 : Kd.C Kd.string w0 A0 l0.length l0) (hb : Below w0.heap.size w0 W) (hG : Ground W)
    (hcell : W.cell? ⟨B, 0, none⟩ = some (.slice A0 l0.length c0)) (hs : (impl_readLeg.at_ l0 i).size ≤ 281474976710656) :
    Calls Tryd.prog 39 #[.int .i64 i, .pointer (some ⟨B, 0, none⟩)] W fun e w' => e = .returned (.int .i64 (impl_readLeg.num l0 i)) ∧ Below W.heap.size W w' := by
  have hu := Tryd.underlying54
  obtain ⟨ad, e, hx⟩ := Kd.at_string hr0 i h0 h1
  subst e
  replace hx := (hb.cell (World.block_lt_of_cell? w0 _ hx)).trans hx
  have HC := Aside0.mk (strconv_Atoi.calls (impl_readLeg.at_ l0 i) W hs hG)
  unfold impl_readLeg.at_ at HC
  clear hG hs hb hr0
  replace h0 := eq_true h0
  replace h1 := eq_true h1
  go_enter Tryd.func39, Tryd.ntmps39
  go_wp2_with (go_at_call 40; refine HC.out.mono ?_; rintro e w' ⟨⟨ev, rfl⟩, hb'⟩)
  go_ret
  exact ⟨rfl, hb'⟩
set_option maxHeartbeats 8000000 in
set_option maxRecDepth 100000 in
theorem impl_readLeg.calls_to (A0 : Option Addr) (c0 : Nat) (a b c : ByteArray) (w : World) (hr0 : Kd.C Kd.string w A0 3 [a, b, c]) (hs : ∀ x ∈ [a, b, c], x.size ≤ 281474976710656) (h0 : (a.toList == ([116, 111] : List UInt8)) = true) (htab_ : Ground w) :
    Calls Tryd.prog 24 #[.slice A0 3 c0] w fun e w' => e = .returned (.agg #[.int .i64 1, .int .i64 (impl_readLeg.num [a, b, c] 1), .int .i64 (impl_readLeg.num [a, b, c] 2), .int .i64 0]) ∧ Below w.heap.size w w' := by
  have HTAB := Aside0.mk htab_
  clear htab_
  have HR := Aside0.mk hr0
  have HS := Aside0.mk hs
  obtain ⟨ad, e, X0⟩ := Kd.at_string hr0 0 (by decide) (by decide)
  subst e
  obtain ⟨ad_, e, X1⟩ := Kd.at_string hr0 1 (by decide) (by decide)
  cases e
  obtain ⟨ad_, e, X2⟩ := Kd.at_string hr0 2 (by decide) (by decide)
  cases e
  clear hr0 hs
  replace X0 : w.cell? ad = some (.string a) := X0
  replace X1 : w.cell? ⟨ad.block, ad.off + 1, none⟩ = some (.string b) := X1
  replace X2 : w.cell? ⟨ad.block, ad.off + 2, none⟩ = some (.string c) := X2
  replace X0 := Aside0.mk X0
  replace X1 := Aside0.mk X1
  replace X2 := Aside0.mk X2
  go_enter Tryd.func24, Tryd.ntmps24
  go_wp2_with (first | ((with_reducible refine gate_dst (N := 1) rfl ?_); refine box_event ?hg (N := 1) ?hd (cs := #[.slice (some ad) 3 c0]) (t := 54) ?hr ?_; (case hd => rfl); (case hg => rfl); (case hr => first | (go_simp; done) | (go_simp; rfl)); intro B hB_ w1 hbox_ hb1_; have y0 := (hb1_.cell (World.block_lt_of_cell? w _ X0.out)).trans X0.out; clear X0; have X0 := Aside0.mk y0; clear y0; have y1 := (hb1_.cell (World.block_lt_of_cell? w _ X1.out)).trans X1.out; clear X1; have X1 := Aside0.mk y1; clear y1; have y2 := (hb1_.cell (World.block_lt_of_cell? w _ X2.out)).trans X2.out; clear X2; have X2 := Aside0.mk y2; clear y2; have HB := Aside0.mk hb1_; have HG := Aside0.mk (HTAB.out.on hb1_); have y_ : w1.cell? ⟨B, 0, none⟩ = some (.slice (some ad) 3 c0) := (blk_cell hbox_ 0).trans rfl; have XB := Aside0.mk y_; clear y_ hb1_ hbox_ hB_) | ((with_reducible refine gate_dst (N := 2) rfl ?_); refine box_event ?hg (N := 2) ?hd (cs := #[.int .i64 0, .int .i64 0, .int .i64 0, .int .i64 0]) (t := 35) ?hr ?_; (case hd => rfl); (case hg => rfl); (case hr => first | (go_simp; done) | (go_simp; rfl)); intro R hR_ w2 hres_ hb2_; have y0 := (hb2_.cell (World.block_lt_of_cell? w1 _ X0.out)).trans X0.out; clear X0; have X0 := Aside0.mk y0; clear y0; have y1 := (hb2_.cell (World.block_lt_of_cell? w1 _ X1.out)).trans X1.out; clear X1; have X1 := Aside0.mk y1; clear y1; have y2 := (hb2_.cell (World.block_lt_of_cell? w1 _ X2.out)).trans X2.out; clear X2; have X2 := Aside0.mk y2; clear y2; have y_ := (hb2_.cell (World.block_lt_of_cell? w1 _ XB.out)).trans XB.out; clear XB; have XB := Aside0.mk y_; clear y_; have y_ := HG.out.on hb2_; clear HG; have HG := Aside0.mk y_; clear y_; have y_ := below_step HB.out hb2_; have GR := Aside0.mk (by rw [hR_]; exact HB.out.size : w.heap.size ≤ R); clear HB; have HB := Aside0.mk y_; clear y_; have XR := Aside0.mk hres_; clear hb2_ hres_ hR_; have z0 := X0.out; have z1 := X1.out; have z2 := X2.out; have zB := XB.out) | (go_at_call 39; refine (impl_readLeg.one (some ad) c0 [a, b, c] 1 (by decide) (by simp) B w w2 HR.out HB.out HG.out XB.out (HS.out _ (by simp [impl_readLeg.at_, rdOf]))).mono ?_; rintro e w3 ⟨rfl, hb_⟩; have y_ := (hb_.cell (World.block_lt_of_cell? w2 _ XB.out)).trans XB.out; clear XB; have XB := Aside0.mk y_; clear y_; have y_ := HG.out.on hb_; clear HG; have HG := Aside0.mk y_; clear y_; have y_ := below_step HB.out hb_; clear HB; have HB := Aside0.mk y_; clear y_; have y_ := blk_below XR.out hb_; clear XR; have XR := Aside0.mk y_; clear y_ hb_) | (go_at_call 39; refine (impl_readLeg.one (some ad) c0 [a, b, c] 2 (by decide) (by simp) B w w3 HR.out HB.out HG.out XB.out (HS.out _ (by simp [impl_readLeg.at_, rdOf]))).mono ?_; rintro e w4 ⟨rfl, hb_⟩; have y_ := (hb_.cell (World.block_lt_of_cell? w3 _ XB.out)).trans XB.out; clear XB; have XB := Aside0.mk y_; clear y_; have y_ := HG.out.on hb_; clear HG; have HG := Aside0.mk y_; clear y_; have y_ := below_step HB.out hb_; clear HB; have HB := Aside0.mk y_; clear y_; have y_ := blk_below XR.out hb_; clear XR; have XR := Aside0.mk y_; clear y_ hb_; have k0_ : w4.cell? ⟨R, 0, none⟩ = some (.int .i64 0) := (blk_cell XR.out 0).trans rfl; have f0_ : w4.frozen? ⟨R, 0, none⟩ = false := blk_frozen XR.out 0; have k1_ : w4.cell? ⟨R, 1, none⟩ = some (.int .i64 0) := (blk_cell XR.out 1).trans rfl; have f1_ : w4.frozen? ⟨R, 1, none⟩ = false := blk_frozen XR.out 1; have k2_ : w4.cell? ⟨R, 2, none⟩ = some (.int .i64 0) := (blk_cell XR.out 2).trans rfl; have f2_ : w4.frozen? ⟨R, 2, none⟩ = false := blk_frozen XR.out 2; have k3_ : w4.cell? ⟨R, 3, none⟩ = some (.int .i64 0) := (blk_cell XR.out 3).trans rfl; have f3_ : w4.frozen? ⟨R, 3, none⟩ = false := blk_frozen XR.out 3))
  have XF_ : Aside0 (((((w4.setCell ⟨R, 0, none⟩ (.int .i64 1)).setCell ⟨R, 1, none⟩ (.int .i64 (impl_readLeg.num [a, b, c] 1))).setCell ⟨R, 2, none⟩ (.int .i64 (impl_readLeg.num [a, b, c] 2))).setCell ⟨R, 3, none⟩ (.int .i64 0)).heap[R]? = some (.cells #[Value.int .i64 1, Value.int .i64 (impl_readLeg.num [a, b, c] 1), Value.int .i64 (impl_readLeg.num [a, b, c] 2), Value.int .i64 0] 35 (0, 0))) := ⟨blk_put (blk_put (blk_put (blk_put XR.out 0 _ rfl) 1 _ rfl) 2 _ rfl) 3 _ rfl⟩
  have BF_ : Aside0 (Below w.heap.size w ((((w4.setCell ⟨R, 0, none⟩ (.int .i64 1)).setCell ⟨R, 1, none⟩ (.int .i64 (impl_readLeg.num [a, b, c] 1))).setCell ⟨R, 2, none⟩ (.int .i64 (impl_readLeg.num [a, b, c] 2))).setCell ⟨R, 3, none⟩ (.int .i64 0))) := ⟨below_set (below_set (below_set (below_set HB.out GR.out) GR.out) GR.out) GR.out⟩
  clear XR HB XB HG k0_ k1_ k2_ k3_ f0_ f1_ f2_ f3_
  generalize ((((w4.setCell ⟨R, 0, none⟩ (.int .i64 1)).setCell ⟨R, 1, none⟩ (.int .i64 (impl_readLeg.num [a, b, c] 1))).setCell ⟨R, 2, none⟩ (.int .i64 (impl_readLeg.num [a, b, c] 2))).setCell ⟨R, 3, none⟩ (.int .i64 0)) = wf at XF_ BF_ ⊢
  refine bodyPost_ret (results_cell_row rfl _ _ R 35 #[Value.int .i64 1, Value.int .i64 (impl_readLeg.num [a, b, c] 1), Value.int .i64 (impl_readLeg.num [a, b, c] 2), Value.int .i64 0] (0, 0) _ rfl XF_.out Tryd.underlying35 rfl (by kernel_rfl)) rfl ?_
  exact ⟨rfl, BF_.out⟩

set_option maxHeartbeats 8000000 in
set_option maxRecDepth 100000 in
theorem impl_readLeg.calls_climb (A0 : Option Addr) (c0 : Nat) (a b : ByteArray) (w : World) (hr0 : Kd.C Kd.string w A0 2 [a, b]) (hs : ∀ x ∈ [a, b], x.size ≤ 281474976710656) (h0 : (a.toList == ([99, 108, 105, 109, 98] : List UInt8)) = true) (htab_ : Ground w) :
    Calls Tryd.prog 24 #[.slice A0 2 c0] w fun e w' => e = .returned (.agg #[.int .i64 3, .int .i64 0, .int .i64 0, .int .i64 (impl_readLeg.num [a, b] 1)]) ∧ Below w.heap.size w w' := by
  have HTAB := Aside0.mk htab_
  clear htab_
  have HR := Aside0.mk hr0
  have HS := Aside0.mk hs
  obtain ⟨ad, e, X0⟩ := Kd.at_string hr0 0 (by decide) (by decide)
  subst e
  obtain ⟨ad_, e, X1⟩ := Kd.at_string hr0 1 (by decide) (by decide)
  cases e
  clear hr0 hs
  replace X0 : w.cell? ad = some (.string a) := X0
  replace X1 : w.cell? ⟨ad.block, ad.off + 1, none⟩ = some (.string b) := X1
  replace X0 := Aside0.mk X0
  replace X1 := Aside0.mk X1
  go_enter Tryd.func24, Tryd.ntmps24
  go_wp2_with (first | ((with_reducible refine gate_dst (N := 1) rfl ?_); refine box_event ?hg (N := 1) ?hd (cs := #[.slice (some ad) 2 c0]) (t := 54) ?hr ?_; (case hd => rfl); (case hg => rfl); (case hr => first | (go_simp; done) | (go_simp; rfl)); intro B hB_ w1 hbox_ hb1_; have y0 := (hb1_.cell (World.block_lt_of_cell? w _ X0.out)).trans X0.out; clear X0; have X0 := Aside0.mk y0; clear y0; have y1 := (hb1_.cell (World.block_lt_of_cell? w _ X1.out)).trans X1.out; clear X1; have X1 := Aside0.mk y1; clear y1; have HB := Aside0.mk hb1_; have HG := Aside0.mk (HTAB.out.on hb1_); have y_ : w1.cell? ⟨B, 0, none⟩ = some (.slice (some ad) 2 c0) := (blk_cell hbox_ 0).trans rfl; have XB := Aside0.mk y_; clear y_ hb1_ hbox_ hB_) | ((with_reducible refine gate_dst (N := 2) rfl ?_); refine box_event ?hg (N := 2) ?hd (cs := #[.int .i64 0, .int .i64 0, .int .i64 0, .int .i64 0]) (t := 35) ?hr ?_; (case hd => rfl); (case hg => rfl); (case hr => first | (go_simp; done) | (go_simp; rfl)); intro R hR_ w2 hres_ hb2_; have y0 := (hb2_.cell (World.block_lt_of_cell? w1 _ X0.out)).trans X0.out; clear X0; have X0 := Aside0.mk y0; clear y0; have y1 := (hb2_.cell (World.block_lt_of_cell? w1 _ X1.out)).trans X1.out; clear X1; have X1 := Aside0.mk y1; clear y1; have y_ := (hb2_.cell (World.block_lt_of_cell? w1 _ XB.out)).trans XB.out; clear XB; have XB := Aside0.mk y_; clear y_; have y_ := HG.out.on hb2_; clear HG; have HG := Aside0.mk y_; clear y_; have y_ := below_step HB.out hb2_; have GR := Aside0.mk (by rw [hR_]; exact HB.out.size : w.heap.size ≤ R); clear HB; have HB := Aside0.mk y_; clear y_; have XR := Aside0.mk hres_; clear hb2_ hres_ hR_; have z0 := X0.out; have z1 := X1.out; have zB := XB.out) | (go_at_call 39; refine (impl_readLeg.one (some ad) c0 [a, b] 1 (by decide) (by simp) B w w2 HR.out HB.out HG.out XB.out (HS.out _ (by simp [impl_readLeg.at_, rdOf]))).mono ?_; rintro e w3 ⟨rfl, hb_⟩; have y_ := (hb_.cell (World.block_lt_of_cell? w2 _ XB.out)).trans XB.out; clear XB; have XB := Aside0.mk y_; clear y_; have y_ := HG.out.on hb_; clear HG; have HG := Aside0.mk y_; clear y_; have y_ := below_step HB.out hb_; clear HB; have HB := Aside0.mk y_; clear y_; have y_ := blk_below XR.out hb_; clear XR; have XR := Aside0.mk y_; clear y_ hb_; have k0_ : w3.cell? ⟨R, 0, none⟩ = some (.int .i64 0) := (blk_cell XR.out 0).trans rfl; have f0_ : w3.frozen? ⟨R, 0, none⟩ = false := blk_frozen XR.out 0; have k1_ : w3.cell? ⟨R, 1, none⟩ = some (.int .i64 0) := (blk_cell XR.out 1).trans rfl; have f1_ : w3.frozen? ⟨R, 1, none⟩ = false := blk_frozen XR.out 1; have k2_ : w3.cell? ⟨R, 2, none⟩ = some (.int .i64 0) := (blk_cell XR.out 2).trans rfl; have f2_ : w3.frozen? ⟨R, 2, none⟩ = false := blk_frozen XR.out 2; have k3_ : w3.cell? ⟨R, 3, none⟩ = some (.int .i64 0) := (blk_cell XR.out 3).trans rfl; have f3_ : w3.frozen? ⟨R, 3, none⟩ = false := blk_frozen XR.out 3))
  have XF_ : Aside0 (((((w3.setCell ⟨R, 0, none⟩ (.int .i64 3)).setCell ⟨R, 1, none⟩ (.int .i64 0)).setCell ⟨R, 2, none⟩ (.int .i64 0)).setCell ⟨R, 3, none⟩ (.int .i64 (impl_readLeg.num [a, b] 1))).heap[R]? = some (.cells #[Value.int .i64 3, Value.int .i64 0, Value.int .i64 0, Value.int .i64 (impl_readLeg.num [a, b] 1)] 35 (0, 0))) := ⟨blk_put (blk_put (blk_put (blk_put XR.out 0 _ rfl) 1 _ rfl) 2 _ rfl) 3 _ rfl⟩
  have BF_ : Aside0 (Below w.heap.size w ((((w3.setCell ⟨R, 0, none⟩ (.int .i64 3)).setCell ⟨R, 1, none⟩ (.int .i64 0)).setCell ⟨R, 2, none⟩ (.int .i64 0)).setCell ⟨R, 3, none⟩ (.int .i64 (impl_readLeg.num [a, b] 1)))) := ⟨below_set (below_set (below_set (below_set HB.out GR.out) GR.out) GR.out) GR.out⟩
  clear XR HB XB HG k0_ k1_ k2_ k3_ f0_ f1_ f2_ f3_
  generalize ((((w3.setCell ⟨R, 0, none⟩ (.int .i64 3)).setCell ⟨R, 1, none⟩ (.int .i64 0)).setCell ⟨R, 2, none⟩ (.int .i64 0)).setCell ⟨R, 3, none⟩ (.int .i64 (impl_readLeg.num [a, b] 1))) = wf at XF_ BF_ ⊢
  refine bodyPost_ret (results_cell_row rfl _ _ R 35 #[Value.int .i64 3, Value.int .i64 0, Value.int .i64 0, Value.int .i64 (impl_readLeg.num [a, b] 1)] (0, 0) _ rfl XF_.out Tryd.underlying35 rfl (by kernel_rfl)) rfl ?_
  exact ⟨rfl, BF_.out⟩

set_option maxHeartbeats 8000000 in
set_option maxRecDepth 100000 in
theorem impl_readLeg.calls_hold (A0 : Option Addr) (c0 : Nat) (a b : ByteArray) (w : World) (hr0 : Kd.C Kd.string w A0 2 [a, b]) (hs : ∀ x ∈ [a, b], x.size ≤ 281474976710656) (h0 : (a.toList == ([99, 108, 105, 109, 98] : List UInt8)) = false) (h1 : (a.toList == ([104, 111, 108, 100] : List UInt8)) = true) (htab_ : Ground w) :
    Calls Tryd.prog 24 #[.slice A0 2 c0] w fun e w' => e = .returned (.agg #[.int .i64 4, .int .i64 0, .int .i64 0, .int .i64 (impl_readLeg.num [a, b] 1)]) ∧ Below w.heap.size w w' := by
  have HTAB := Aside0.mk htab_
  clear htab_
  have HR := Aside0.mk hr0
  have HS := Aside0.mk hs
  obtain ⟨ad, e, X0⟩ := Kd.at_string hr0 0 (by decide) (by decide)
  subst e
  obtain ⟨ad_, e, X1⟩ := Kd.at_string hr0 1 (by decide) (by decide)
  cases e
  clear hr0 hs
  replace X0 : w.cell? ad = some (.string a) := X0
  replace X1 : w.cell? ⟨ad.block, ad.off + 1, none⟩ = some (.string b) := X1
  replace X0 := Aside0.mk X0
  replace X1 := Aside0.mk X1
  go_enter Tryd.func24, Tryd.ntmps24
  go_wp2_with (first | ((with_reducible refine gate_dst (N := 1) rfl ?_); refine box_event ?hg (N := 1) ?hd (cs := #[.slice (some ad) 2 c0]) (t := 54) ?hr ?_; (case hd => rfl); (case hg => rfl); (case hr => first | (go_simp; done) | (go_simp; rfl)); intro B hB_ w1 hbox_ hb1_; have y0 := (hb1_.cell (World.block_lt_of_cell? w _ X0.out)).trans X0.out; clear X0; have X0 := Aside0.mk y0; clear y0; have y1 := (hb1_.cell (World.block_lt_of_cell? w _ X1.out)).trans X1.out; clear X1; have X1 := Aside0.mk y1; clear y1; have HB := Aside0.mk hb1_; have HG := Aside0.mk (HTAB.out.on hb1_); have y_ : w1.cell? ⟨B, 0, none⟩ = some (.slice (some ad) 2 c0) := (blk_cell hbox_ 0).trans rfl; have XB := Aside0.mk y_; clear y_ hb1_ hbox_ hB_) | ((with_reducible refine gate_dst (N := 2) rfl ?_); refine box_event ?hg (N := 2) ?hd (cs := #[.int .i64 0, .int .i64 0, .int .i64 0, .int .i64 0]) (t := 35) ?hr ?_; (case hd => rfl); (case hg => rfl); (case hr => first | (go_simp; done) | (go_simp; rfl)); intro R hR_ w2 hres_ hb2_; have y0 := (hb2_.cell (World.block_lt_of_cell? w1 _ X0.out)).trans X0.out; clear X0; have X0 := Aside0.mk y0; clear y0; have y1 := (hb2_.cell (World.block_lt_of_cell? w1 _ X1.out)).trans X1.out; clear X1; have X1 := Aside0.mk y1; clear y1; have y_ := (hb2_.cell (World.block_lt_of_cell? w1 _ XB.out)).trans XB.out; clear XB; have XB := Aside0.mk y_; clear y_; have y_ := HG.out.on hb2_; clear HG; have HG := Aside0.mk y_; clear y_; have y_ := below_step HB.out hb2_; have GR := Aside0.mk (by rw [hR_]; exact HB.out.size : w.heap.size ≤ R); clear HB; have HB := Aside0.mk y_; clear y_; have XR := Aside0.mk hres_; clear hb2_ hres_ hR_; have z0 := X0.out; have z1 := X1.out; have zB := XB.out) | (go_at_call 39; refine (impl_readLeg.one (some ad) c0 [a, b] 1 (by decide) (by simp) B w w2 HR.out HB.out HG.out XB.out (HS.out _ (by simp [impl_readLeg.at_, rdOf]))).mono ?_; rintro e w3 ⟨rfl, hb_⟩; have y_ := (hb_.cell (World.block_lt_of_cell? w2 _ XB.out)).trans XB.out; clear XB; have XB := Aside0.mk y_; clear y_; have y_ := HG.out.on hb_; clear HG; have HG := Aside0.mk y_; clear y_; have y_ := below_step HB.out hb_; clear HB; have HB := Aside0.mk y_; clear y_; have y_ := blk_below XR.out hb_; clear XR; have XR := Aside0.mk y_; clear y_ hb_; have k0_ : w3.cell? ⟨R, 0, none⟩ = some (.int .i64 0) := (blk_cell XR.out 0).trans rfl; have f0_ : w3.frozen? ⟨R, 0, none⟩ = false := blk_frozen XR.out 0; have k1_ : w3.cell? ⟨R, 1, none⟩ = some (.int .i64 0) := (blk_cell XR.out 1).trans rfl; have f1_ : w3.frozen? ⟨R, 1, none⟩ = false := blk_frozen XR.out 1; have k2_ : w3.cell? ⟨R, 2, none⟩ = some (.int .i64 0) := (blk_cell XR.out 2).trans rfl; have f2_ : w3.frozen? ⟨R, 2, none⟩ = false := blk_frozen XR.out 2; have k3_ : w3.cell? ⟨R, 3, none⟩ = some (.int .i64 0) := (blk_cell XR.out 3).trans rfl; have f3_ : w3.frozen? ⟨R, 3, none⟩ = false := blk_frozen XR.out 3))
  have XF_ : Aside0 (((((w3.setCell ⟨R, 0, none⟩ (.int .i64 4)).setCell ⟨R, 1, none⟩ (.int .i64 0)).setCell ⟨R, 2, none⟩ (.int .i64 0)).setCell ⟨R, 3, none⟩ (.int .i64 (impl_readLeg.num [a, b] 1))).heap[R]? = some (.cells #[Value.int .i64 4, Value.int .i64 0, Value.int .i64 0, Value.int .i64 (impl_readLeg.num [a, b] 1)] 35 (0, 0))) := ⟨blk_put (blk_put (blk_put (blk_put XR.out 0 _ rfl) 1 _ rfl) 2 _ rfl) 3 _ rfl⟩
  have BF_ : Aside0 (Below w.heap.size w ((((w3.setCell ⟨R, 0, none⟩ (.int .i64 4)).setCell ⟨R, 1, none⟩ (.int .i64 0)).setCell ⟨R, 2, none⟩ (.int .i64 0)).setCell ⟨R, 3, none⟩ (.int .i64 (impl_readLeg.num [a, b] 1)))) := ⟨below_set (below_set (below_set (below_set HB.out GR.out) GR.out) GR.out) GR.out⟩
  clear XR HB XB HG k0_ k1_ k2_ k3_ f0_ f1_ f2_ f3_
  generalize ((((w3.setCell ⟨R, 0, none⟩ (.int .i64 4)).setCell ⟨R, 1, none⟩ (.int .i64 0)).setCell ⟨R, 2, none⟩ (.int .i64 0)).setCell ⟨R, 3, none⟩ (.int .i64 (impl_readLeg.num [a, b] 1))) = wf at XF_ BF_ ⊢
  refine bodyPost_ret (results_cell_row rfl _ _ R 35 #[Value.int .i64 4, Value.int .i64 0, Value.int .i64 0, Value.int .i64 (impl_readLeg.num [a, b] 1)] (0, 0) _ rfl XF_.out Tryd.underlying35 rfl (by kernel_rfl)) rfl ?_
  exact ⟨rfl, BF_.out⟩

set_option maxHeartbeats 8000000 in
set_option maxRecDepth 100000 in
theorem impl_readLeg.calls_none2 (A0 : Option Addr) (c0 : Nat) (a b : ByteArray) (w : World) (hr0 : Kd.C Kd.string w A0 2 [a, b]) (hs : ∀ x ∈ [a, b], x.size ≤ 281474976710656) (h0 : (a.toList == ([99, 108, 105, 109, 98] : List UInt8)) = false) (h1 : (a.toList == ([104, 111, 108, 100] : List UInt8)) = false) (htab_ : Ground w) :
    Calls Tryd.prog 24 #[.slice A0 2 c0] w fun e w' => e = .returned (.agg #[.int .i64 0, .int .i64 0, .int .i64 0, .int .i64 0]) ∧ Below w.heap.size w w' := by
  have HTAB := Aside0.mk htab_
  clear htab_
  have HR := Aside0.mk hr0
  have HS := Aside0.mk hs
  obtain ⟨ad, e, X0⟩ := Kd.at_string hr0 0 (by decide) (by decide)
  subst e
  obtain ⟨ad_, e, X1⟩ := Kd.at_string hr0 1 (by decide) (by decide)
  cases e
  clear hr0 hs
  replace X0 : w.cell? ad = some (.string a) := X0
  replace X1 : w.cell? ⟨ad.block, ad.off + 1, none⟩ = some (.string b) := X1
  replace X0 := Aside0.mk X0
  replace X1 := Aside0.mk X1
  go_enter Tryd.func24, Tryd.ntmps24
  go_wp2_with (first | ((with_reducible refine gate_dst (N := 1) rfl ?_); refine box_event ?hg (N := 1) ?hd (cs := #[.slice (some ad) 2 c0]) (t := 54) ?hr ?_; (case hd => rfl); (case hg => rfl); (case hr => first | (go_simp; done) | (go_simp; rfl)); intro B hB_ w1 hbox_ hb1_; have y0 := (hb1_.cell (World.block_lt_of_cell? w _ X0.out)).trans X0.out; clear X0; have X0 := Aside0.mk y0; clear y0; have y1 := (hb1_.cell (World.block_lt_of_cell? w _ X1.out)).trans X1.out; clear X1; have X1 := Aside0.mk y1; clear y1; have HB := Aside0.mk hb1_; have HG := Aside0.mk (HTAB.out.on hb1_); have y_ : w1.cell? ⟨B, 0, none⟩ = some (.slice (some ad) 2 c0) := (blk_cell hbox_ 0).trans rfl; have XB := Aside0.mk y_; clear y_ hb1_ hbox_ hB_) | ((with_reducible refine gate_dst (N := 2) rfl ?_); refine box_event ?hg (N := 2) ?hd (cs := #[.int .i64 0, .int .i64 0, .int .i64 0, .int .i64 0]) (t := 35) ?hr ?_; (case hd => rfl); (case hg => rfl); (case hr => first | (go_simp; done) | (go_simp; rfl)); intro R hR_ w2 hres_ hb2_; have y0 := (hb2_.cell (World.block_lt_of_cell? w1 _ X0.out)).trans X0.out; clear X0; have X0 := Aside0.mk y0; clear y0; have y1 := (hb2_.cell (World.block_lt_of_cell? w1 _ X1.out)).trans X1.out; clear X1; have X1 := Aside0.mk y1; clear y1; have y_ := (hb2_.cell (World.block_lt_of_cell? w1 _ XB.out)).trans XB.out; clear XB; have XB := Aside0.mk y_; clear y_; have y_ := HG.out.on hb2_; clear HG; have HG := Aside0.mk y_; clear y_; have y_ := below_step HB.out hb2_; have GR := Aside0.mk (by rw [hR_]; exact HB.out.size : w.heap.size ≤ R); clear HB; have HB := Aside0.mk y_; clear y_; have XR := Aside0.mk hres_; clear hb2_ hres_ hR_; have z0 := X0.out; have z1 := X1.out; have zB := XB.out; have k0_ : w2.cell? ⟨R, 0, none⟩ = some (.int .i64 0) := (blk_cell XR.out 0).trans rfl; have f0_ : w2.frozen? ⟨R, 0, none⟩ = false := blk_frozen XR.out 0; have k1_ : w2.cell? ⟨R, 1, none⟩ = some (.int .i64 0) := (blk_cell XR.out 1).trans rfl; have f1_ : w2.frozen? ⟨R, 1, none⟩ = false := blk_frozen XR.out 1; have k2_ : w2.cell? ⟨R, 2, none⟩ = some (.int .i64 0) := (blk_cell XR.out 2).trans rfl; have f2_ : w2.frozen? ⟨R, 2, none⟩ = false := blk_frozen XR.out 2; have k3_ : w2.cell? ⟨R, 3, none⟩ = some (.int .i64 0) := (blk_cell XR.out 3).trans rfl; have f3_ : w2.frozen? ⟨R, 3, none⟩ = false := blk_frozen XR.out 3))
  have XF_ : Aside0 (((((w2.setCell ⟨R, 0, none⟩ (.int .i64 0)).setCell ⟨R, 1, none⟩ (.int .i64 0)).setCell ⟨R, 2, none⟩ (.int .i64 0)).setCell ⟨R, 3, none⟩ (.int .i64 0)).heap[R]? = some (.cells #[Value.int .i64 0, Value.int .i64 0, Value.int .i64 0, Value.int .i64 0] 35 (0, 0))) := ⟨blk_put (blk_put (blk_put (blk_put XR.out 0 _ rfl) 1 _ rfl) 2 _ rfl) 3 _ rfl⟩
  have BF_ : Aside0 (Below w.heap.size w ((((w2.setCell ⟨R, 0, none⟩ (.int .i64 0)).setCell ⟨R, 1, none⟩ (.int .i64 0)).setCell ⟨R, 2, none⟩ (.int .i64 0)).setCell ⟨R, 3, none⟩ (.int .i64 0))) := ⟨below_set (below_set (below_set (below_set HB.out GR.out) GR.out) GR.out) GR.out⟩
  clear XR HB XB HG k0_ k1_ k2_ k3_ f0_ f1_ f2_ f3_
  generalize ((((w2.setCell ⟨R, 0, none⟩ (.int .i64 0)).setCell ⟨R, 1, none⟩ (.int .i64 0)).setCell ⟨R, 2, none⟩ (.int .i64 0)).setCell ⟨R, 3, none⟩ (.int .i64 0)) = wf at XF_ BF_ ⊢
  refine bodyPost_ret (results_cell_row rfl _ _ R 35 #[Value.int .i64 0, Value.int .i64 0, Value.int .i64 0, Value.int .i64 0] (0, 0) _ rfl XF_.out Tryd.underlying35 rfl (by kernel_rfl)) rfl ?_
  exact ⟨rfl, BF_.out⟩

set_option maxHeartbeats 8000000 in
set_option maxRecDepth 100000 in
theorem impl_readLeg.calls_none3 (A0 : Option Addr) (c0 : Nat) (a b c : ByteArray) (w : World) (hr0 : Kd.C Kd.string w A0 3 [a, b, c]) (hs : ∀ x ∈ [a, b, c], x.size ≤ 281474976710656) (h0 : (a.toList == ([116, 111] : List UInt8)) = false) (h1 : (a.toList == ([99, 111, 117, 114, 115, 101] : List UInt8)) = false) (h2 : (a.toList == ([116, 117, 114, 110] : List UInt8)) = false) (htab_ : Ground w) :
    Calls Tryd.prog 24 #[.slice A0 3 c0] w fun e w' => e = .returned (.agg #[.int .i64 0, .int .i64 0, .int .i64 0, .int .i64 0]) ∧ Below w.heap.size w w' := by
  have HTAB := Aside0.mk htab_
  clear htab_
  have HR := Aside0.mk hr0
  have HS := Aside0.mk hs
  obtain ⟨ad, e, X0⟩ := Kd.at_string hr0 0 (by decide) (by decide)
  subst e
  obtain ⟨ad_, e, X1⟩ := Kd.at_string hr0 1 (by decide) (by decide)
  cases e
  obtain ⟨ad_, e, X2⟩ := Kd.at_string hr0 2 (by decide) (by decide)
  cases e
  clear hr0 hs
  replace X0 : w.cell? ad = some (.string a) := X0
  replace X1 : w.cell? ⟨ad.block, ad.off + 1, none⟩ = some (.string b) := X1
  replace X2 : w.cell? ⟨ad.block, ad.off + 2, none⟩ = some (.string c) := X2
  replace X0 := Aside0.mk X0
  replace X1 := Aside0.mk X1
  replace X2 := Aside0.mk X2
  go_enter Tryd.func24, Tryd.ntmps24
  go_wp2_with (first | ((with_reducible refine gate_dst (N := 1) rfl ?_); refine box_event ?hg (N := 1) ?hd (cs := #[.slice (some ad) 3 c0]) (t := 54) ?hr ?_; (case hd => rfl); (case hg => rfl); (case hr => first | (go_simp; done) | (go_simp; rfl)); intro B hB_ w1 hbox_ hb1_; have y0 := (hb1_.cell (World.block_lt_of_cell? w _ X0.out)).trans X0.out; clear X0; have X0 := Aside0.mk y0; clear y0; have y1 := (hb1_.cell (World.block_lt_of_cell? w _ X1.out)).trans X1.out; clear X1; have X1 := Aside0.mk y1; clear y1; have y2 := (hb1_.cell (World.block_lt_of_cell? w _ X2.out)).trans X2.out; clear X2; have X2 := Aside0.mk y2; clear y2; have HB := Aside0.mk hb1_; have HG := Aside0.mk (HTAB.out.on hb1_); have y_ : w1.cell? ⟨B, 0, none⟩ = some (.slice (some ad) 3 c0) := (blk_cell hbox_ 0).trans rfl; have XB := Aside0.mk y_; clear y_ hb1_ hbox_ hB_) | ((with_reducible refine gate_dst (N := 2) rfl ?_); refine box_event ?hg (N := 2) ?hd (cs := #[.int .i64 0, .int .i64 0, .int .i64 0, .int .i64 0]) (t := 35) ?hr ?_; (case hd => rfl); (case hg => rfl); (case hr => first | (go_simp; done) | (go_simp; rfl)); intro R hR_ w2 hres_ hb2_; have y0 := (hb2_.cell (World.block_lt_of_cell? w1 _ X0.out)).trans X0.out; clear X0; have X0 := Aside0.mk y0; clear y0; have y1 := (hb2_.cell (World.block_lt_of_cell? w1 _ X1.out)).trans X1.out; clear X1; have X1 := Aside0.mk y1; clear y1; have y2 := (hb2_.cell (World.block_lt_of_cell? w1 _ X2.out)).trans X2.out; clear X2; have X2 := Aside0.mk y2; clear y2; have y_ := (hb2_.cell (World.block_lt_of_cell? w1 _ XB.out)).trans XB.out; clear XB; have XB := Aside0.mk y_; clear y_; have y_ := HG.out.on hb2_; clear HG; have HG := Aside0.mk y_; clear y_; have y_ := below_step HB.out hb2_; have GR := Aside0.mk (by rw [hR_]; exact HB.out.size : w.heap.size ≤ R); clear HB; have HB := Aside0.mk y_; clear y_; have XR := Aside0.mk hres_; clear hb2_ hres_ hR_; have z0 := X0.out; have z1 := X1.out; have z2 := X2.out; have zB := XB.out; have k0_ : w2.cell? ⟨R, 0, none⟩ = some (.int .i64 0) := (blk_cell XR.out 0).trans rfl; have f0_ : w2.frozen? ⟨R, 0, none⟩ = false := blk_frozen XR.out 0; have k1_ : w2.cell? ⟨R, 1, none⟩ = some (.int .i64 0) := (blk_cell XR.out 1).trans rfl; have f1_ : w2.frozen? ⟨R, 1, none⟩ = false := blk_frozen XR.out 1; have k2_ : w2.cell? ⟨R, 2, none⟩ = some (.int .i64 0) := (blk_cell XR.out 2).trans rfl; have f2_ : w2.frozen? ⟨R, 2, none⟩ = false := blk_frozen XR.out 2; have k3_ : w2.cell? ⟨R, 3, none⟩ = some (.int .i64 0) := (blk_cell XR.out 3).trans rfl; have f3_ : w2.frozen? ⟨R, 3, none⟩ = false := blk_frozen XR.out 3))
  have XF_ : Aside0 (((((w2.setCell ⟨R, 0, none⟩ (.int .i64 0)).setCell ⟨R, 1, none⟩ (.int .i64 0)).setCell ⟨R, 2, none⟩ (.int .i64 0)).setCell ⟨R, 3, none⟩ (.int .i64 0)).heap[R]? = some (.cells #[Value.int .i64 0, Value.int .i64 0, Value.int .i64 0, Value.int .i64 0] 35 (0, 0))) := ⟨blk_put (blk_put (blk_put (blk_put XR.out 0 _ rfl) 1 _ rfl) 2 _ rfl) 3 _ rfl⟩
  have BF_ : Aside0 (Below w.heap.size w ((((w2.setCell ⟨R, 0, none⟩ (.int .i64 0)).setCell ⟨R, 1, none⟩ (.int .i64 0)).setCell ⟨R, 2, none⟩ (.int .i64 0)).setCell ⟨R, 3, none⟩ (.int .i64 0))) := ⟨below_set (below_set (below_set (below_set HB.out GR.out) GR.out) GR.out) GR.out⟩
  clear XR HB XB HG k0_ k1_ k2_ k3_ f0_ f1_ f2_ f3_
  generalize ((((w2.setCell ⟨R, 0, none⟩ (.int .i64 0)).setCell ⟨R, 1, none⟩ (.int .i64 0)).setCell ⟨R, 2, none⟩ (.int .i64 0)).setCell ⟨R, 3, none⟩ (.int .i64 0)) = wf at XF_ BF_ ⊢
  refine bodyPost_ret (results_cell_row rfl _ _ R 35 #[Value.int .i64 0, Value.int .i64 0, Value.int .i64 0, Value.int .i64 0] (0, 0) _ rfl XF_.out Tryd.underlying35 rfl (by kernel_rfl)) rfl ?_
  exact ⟨rfl, BF_.out⟩

set_option maxHeartbeats 8000000 in
set_option maxRecDepth 100000 in
theorem impl_readLeg.calls_none (A0 : Option Addr) (n c0 : Nat) (w : World) (h3 : ((n : Int) == 3) = false) (h2 : ((n : Int) == 2) = false) (htab_ : Ground w) :
    Calls Tryd.prog 24 #[.slice A0 n c0] w fun e w' => e = .returned (.agg #[.int .i64 0, .int .i64 0, .int .i64 0, .int .i64 0]) ∧ Below w.heap.size w w' := by
  have HTAB := Aside0.mk htab_
  clear htab_
  go_enter Tryd.func24, Tryd.ntmps24
  go_wp2_with (first | ((with_reducible refine gate_dst (N := 1) rfl ?_); refine box_event ?hg (N := 1) ?hd (cs := #[.slice A0 n c0]) (t := 54) ?hr ?_; (case hd => rfl); (case hg => rfl); (case hr => first | (go_simp; done) | (go_simp; rfl)); intro B hB_ w1 hbox_ hb1_; have HB := Aside0.mk hb1_; have HG := Aside0.mk (HTAB.out.on hb1_); have y_ : w1.cell? ⟨B, 0, none⟩ = some (.slice A0 n c0) := (blk_cell hbox_ 0).trans rfl; have XB := Aside0.mk y_; clear y_ hb1_ hbox_ hB_) | ((with_reducible refine gate_dst (N := 2) rfl ?_); refine box_event ?hg (N := 2) ?hd (cs := #[.int .i64 0, .int .i64 0, .int .i64 0, .int .i64 0]) (t := 35) ?hr ?_; (case hd => rfl); (case hg => rfl); (case hr => first | (go_simp; done) | (go_simp; rfl)); intro R hR_ w2 hres_ hb2_; have y_ := (hb2_.cell (World.block_lt_of_cell? w1 _ XB.out)).trans XB.out; clear XB; have XB := Aside0.mk y_; clear y_; have y_ := HG.out.on hb2_; clear HG; have HG := Aside0.mk y_; clear y_; have y_ := below_step HB.out hb2_; have GR := Aside0.mk (by rw [hR_]; exact HB.out.size : w.heap.size ≤ R); clear HB; have HB := Aside0.mk y_; clear y_; have XR := Aside0.mk hres_; clear hb2_ hres_ hR_; have zB := XB.out; have k0_ : w2.cell? ⟨R, 0, none⟩ = some (.int .i64 0) := (blk_cell XR.out 0).trans rfl; have f0_ : w2.frozen? ⟨R, 0, none⟩ = false := blk_frozen XR.out 0; have k1_ : w2.cell? ⟨R, 1, none⟩ = some (.int .i64 0) := (blk_cell XR.out 1).trans rfl; have f1_ : w2.frozen? ⟨R, 1, none⟩ = false := blk_frozen XR.out 1; have k2_ : w2.cell? ⟨R, 2, none⟩ = some (.int .i64 0) := (blk_cell XR.out 2).trans rfl; have f2_ : w2.frozen? ⟨R, 2, none⟩ = false := blk_frozen XR.out 2; have k3_ : w2.cell? ⟨R, 3, none⟩ = some (.int .i64 0) := (blk_cell XR.out 3).trans rfl; have f3_ : w2.frozen? ⟨R, 3, none⟩ = false := blk_frozen XR.out 3))
  have XF_ : Aside0 (((((w2.setCell ⟨R, 0, none⟩ (.int .i64 0)).setCell ⟨R, 1, none⟩ (.int .i64 0)).setCell ⟨R, 2, none⟩ (.int .i64 0)).setCell ⟨R, 3, none⟩ (.int .i64 0)).heap[R]? = some (.cells #[Value.int .i64 0, Value.int .i64 0, Value.int .i64 0, Value.int .i64 0] 35 (0, 0))) := ⟨blk_put (blk_put (blk_put (blk_put XR.out 0 _ rfl) 1 _ rfl) 2 _ rfl) 3 _ rfl⟩
  have BF_ : Aside0 (Below w.heap.size w ((((w2.setCell ⟨R, 0, none⟩ (.int .i64 0)).setCell ⟨R, 1, none⟩ (.int .i64 0)).setCell ⟨R, 2, none⟩ (.int .i64 0)).setCell ⟨R, 3, none⟩ (.int .i64 0))) := ⟨below_set (below_set (below_set (below_set HB.out GR.out) GR.out) GR.out) GR.out⟩
  clear XR HB XB HG k0_ k1_ k2_ k3_ f0_ f1_ f2_ f3_
  generalize ((((w2.setCell ⟨R, 0, none⟩ (.int .i64 0)).setCell ⟨R, 1, none⟩ (.int .i64 0)).setCell ⟨R, 2, none⟩ (.int .i64 0)).setCell ⟨R, 3, none⟩ (.int .i64 0)) = wf at XF_ BF_ ⊢
  refine bodyPost_ret (results_cell_row rfl _ _ R 35 #[Value.int .i64 0, Value.int .i64 0, Value.int .i64 0, Value.int .i64 0] (0, 0) _ rfl XF_.out Tryd.underlying35 rfl (by kernel_rfl)) rfl ?_
  exact ⟨rfl, BF_.out⟩

set_option maxHeartbeats 8000000 in
set_option maxRecDepth 100000 in
theorem impl_readLeg.calls_course (A0 : Option Addr) (c0 : Nat) (a b c : ByteArray) (i : Int) (w : World) (hr0 : Kd.C Kd.string w A0 3 [a, b, c]) (hs : ∀ x ∈ [a, b, c], x.size ≤ 281474976710656) (h0 : (a.toList == ([116, 111] : List UInt8)) = false) (h1 : (a.toList == ([99, 111, 117, 114, 115, 101] : List UInt8)) = true) (h2 : slices_Index_string_string.f 20 impl_readLeg.dirs b = some i) (htab_ : Ground w) :
    Calls Tryd.prog 24 #[.slice A0 3 c0] w fun e w' => e = .returned (.agg #[.int .i64 2, .int .i64 i, .int .i64 0, .int .i64 (impl_readLeg.num [a, b, c] 2)]) ∧ Below w.heap.size w w' := by
  have HTAB := Aside0.mk htab_
  clear htab_
  have HR := Aside0.mk hr0
  have HS := Aside0.mk hs
  obtain ⟨ad, e, X0⟩ := Kd.at_string hr0 0 (by decide) (by decide)
  subst e
  obtain ⟨ad_, e, X1⟩ := Kd.at_string hr0 1 (by decide) (by decide)
  cases e
  obtain ⟨ad_, e, X2⟩ := Kd.at_string hr0 2 (by decide) (by decide)
  cases e
  clear hr0 hs
  replace X0 : w.cell? ad = some (.string a) := X0
  replace X1 : w.cell? ⟨ad.block, ad.off + 1, none⟩ = some (.string b) := X1
  replace X2 : w.cell? ⟨ad.block, ad.off + 2, none⟩ = some (.string c) := X2
  replace X0 := Aside0.mk X0
  replace X1 := Aside0.mk X1
  replace X2 := Aside0.mk X2
  go_enter Tryd.func24, Tryd.ntmps24
  have HI := Aside0.mk h2
  clear h2
  go_wp2_with (first | ((with_reducible refine gate_dst (N := 1) rfl ?_); refine box_event ?hg (N := 1) ?hd (cs := #[.slice (some ad) 3 c0]) (t := 54) ?hr ?_; (case hd => rfl); (case hg => rfl); (case hr => first | (go_simp; done) | (go_simp; rfl)); intro B hB_ w1 hbox_ hb1_; have y0 := (hb1_.cell (World.block_lt_of_cell? w _ X0.out)).trans X0.out; clear X0; have X0 := Aside0.mk y0; clear y0; have y1 := (hb1_.cell (World.block_lt_of_cell? w _ X1.out)).trans X1.out; clear X1; have X1 := Aside0.mk y1; clear y1; have y2 := (hb1_.cell (World.block_lt_of_cell? w _ X2.out)).trans X2.out; clear X2; have X2 := Aside0.mk y2; clear y2; have HB := Aside0.mk hb1_; have HG := Aside0.mk (HTAB.out.on hb1_); have y_ : w1.cell? ⟨B, 0, none⟩ = some (.slice (some ad) 3 c0) := (blk_cell hbox_ 0).trans rfl; have XB := Aside0.mk y_; clear y_ hb1_ hbox_ hB_) | ((with_reducible refine gate_dst (N := 2) rfl ?_); refine box_event ?hg (N := 2) ?hd (cs := #[.int .i64 0, .int .i64 0, .int .i64 0, .int .i64 0]) (t := 35) ?hr ?_; (case hd => rfl); (case hg => rfl); (case hr => first | (go_simp; done) | (go_simp; rfl)); intro R hR_ w2 hres_ hb2_; have y0 := (hb2_.cell (World.block_lt_of_cell? w1 _ X0.out)).trans X0.out; clear X0; have X0 := Aside0.mk y0; clear y0; have y1 := (hb2_.cell (World.block_lt_of_cell? w1 _ X1.out)).trans X1.out; clear X1; have X1 := Aside0.mk y1; clear y1; have y2 := (hb2_.cell (World.block_lt_of_cell? w1 _ X2.out)).trans X2.out; clear X2; have X2 := Aside0.mk y2; clear y2; have y_ := (hb2_.cell (World.block_lt_of_cell? w1 _ XB.out)).trans XB.out; clear XB; have XB := Aside0.mk y_; clear y_; have y_ := HG.out.on hb2_; clear HG; have HG := Aside0.mk y_; clear y_; have y_ := below_step HB.out hb2_; have GR := Aside0.mk (by rw [hR_]; exact HB.out.size : w.heap.size ≤ R); clear HB; have HB := Aside0.mk y_; clear y_; have XR := Aside0.mk hres_; clear hb2_ hres_ hR_; have z0 := X0.out; have z1 := X1.out; have z2 := X2.out; have zB := XB.out))
  have y_ := below_drew1 HB.out
  clear HB
  have HB := Aside0.mk y_
  clear y_
  have y_ := HG.out.on (below_drew1 (Below.refl w2.heap.size w2))
  clear HG
  have HG := Aside0.mk y_
  clear y_
  have y_ := blk_drew XR.out
  clear XR
  have XR := Aside0.mk y_
  clear y_
  clear z0 z1 z2 zB
  refine start_ (n := 9) (S := fun w' => w'.cell? ⟨B, 0, none⟩ = some (.slice (some ad) 3 c0) ∧ w'.cell? ⟨ad.block, ad.off + 1, none⟩ = some (.string b)) (ds := [8]) #[false, false, false, false, false, false, false, false, false] (by kernel_rfl) rfl rfl ⟨XB.out, X1.out⟩ (fun hHeld => ?_)
  clear XB X0 X1 X2
  generalize w2.drew = w3 at XR HB HG hHeld ⊢
  refine pure_ (i := 5) (N := some 35) (v := ?_) (a' := ?_) #[false, false, false, false, false, true, false, false, false] rfl rfl (by kernel_rfl) (fun _ _ _ h => h) (Or.inl ⟨by rfl, ?_⟩) ?_ ?_
  rotate_left
  · intro w'
    go_simp
    with_reducible rfl
  rotate_left
  · simp only [Act.put, List.setIfInBounds_toArray, List.set_cons_zero, List.set_cons_succ, i64_w, i32_w]
    rfl
  refine take_ (i := 1) (N := some 31) (v := ?_) (a' := ?_) #[false, true, false, false, false, true, false, false, false] rfl rfl (by kernel_rfl) (fun _ _ _ h => h) (Or.inl ⟨by rfl, ?_⟩) hHeld ?_ ?_
  rotate_left
  · rintro w' ⟨s0, s1⟩
    go_simp
    with_reducible rfl
  rotate_left
  · simp only [Act.put, List.setIfInBounds_toArray, List.set_cons_zero, List.set_cons_succ, i64_w, i32_w]
    rfl
  refine pure_ (i := 2) (N := some 32) (v := ?_) (a' := ?_) #[false, true, true, false, false, true, false, false, false] rfl rfl (by kernel_rfl) (fun _ _ _ h => h) (Or.inl ⟨by rfl, ?_⟩) ?_ ?_
  rotate_left
  · intro w'
    go_simp
    with_reducible rfl
  rotate_left
  · simp only [Act.put, List.setIfInBounds_toArray, List.set_cons_zero, List.set_cons_succ, i64_w, i32_w]
    rfl
  refine take_ (i := 3) (N := some 33) (v := ?_) (a' := ?_) #[false, true, true, true, false, true, false, false, false] rfl rfl (by kernel_rfl) (fun _ _ _ h => h) (Or.inl ⟨by rfl, ?_⟩) hHeld ?_ ?_
  rotate_left
  · rintro w' ⟨s0, s1⟩
    go_simp
    with_reducible rfl
  rotate_left
  · simp only [Act.put, List.setIfInBounds_toArray, List.set_cons_zero, List.set_cons_succ, i64_w, i32_w]
    rfl
  refine one_ (i := 0) (N := some 30) #[true, true, true, true, false, true, false, false, false] rfl rfl (by kernel_rfl) (by decide) (fun K hK => ?_)
  refine goes_ Tryd.func38 (by kernel_rfl) rfl #[] (by rfl) rfl rfl (by (try simp only [List.map_toArray, List.map_cons, List.map_nil]); first | done | rfl) ?_
  refine (impl_dirNames.calls impl_readLeg.dirs _ rfl).mono ?_
  rintro e w4 ⟨v_, rfl, ho0, hb⟩
  refine ⟨_, rfl, ?_⟩
  have s0_ := (hb.cell (World.block_lt_of_cell? _ _ hHeld.1)).trans hHeld.1
  have s1_ := (hb.cell (World.block_lt_of_cell? _ _ hHeld.2)).trans hHeld.2
  have y_ := below_step HB.out hb
  clear HB
  have HB := Aside0.mk y_
  clear y_
  have y_ := HG.out.on hb
  clear HG
  have HG := Aside0.mk y_
  clear y_
  have y_ := blk_below XR.out hb
  clear XR
  have XR := Aside0.mk y_
  clear y_
  have HO := Aside0.mk ho0
  clear ho0 hb
  obtain ⟨Ao, co, eo⟩ := Kd.R_slice HO.out
  subst eo
  refine hK.out _ _ ⟨s0_, s1_⟩ (fun hHeld => ?_)
  clear hK K s0_ s1_
  refine norm_ (a' := ?_) ?_ ?_
  rotate_left
  · show Act.put _ (some 30) _ = _
    simp only [Act.put, List.setIfInBounds_toArray, List.set_cons_zero, List.set_cons_succ, i64_w, i32_w]
    rfl
  refine one_ (i := 4) (N := some 34) #[true, true, true, true, true, true, false, false, false] rfl rfl (by kernel_rfl) (by decide) (fun K hK => ?_)
  refine goes_ Tryd.func41 (by kernel_rfl) rfl #[.slice Ao impl_readLeg.dirs.length co, .string b] (by rfl) rfl rfl (by (try simp only [List.map_toArray, List.map_cons, List.map_nil]); first | done | rfl) ?_
  refine (slices_Index_string_string.calls 20 Ao co impl_readLeg.dirs b i _ (Kd.R_reads' HO.out).2.2 (Kd.R_reads' HO.out).2.1 HI.out).mono ?_
  rintro e w5 ⟨rfl, ⟨nd, rfl⟩⟩
  refine ⟨_, rfl, ?_⟩
  clear HO
  have HB' := Aside0.mk (pw_below_drewN HB.out nd)
  have HG' := Aside0.mk (HG.out.on (pw_below_drewN (Below.refl w4.heap.size w4) nd))
  have XR' := Aside0.mk (blk_drewN XR.out nd)
  refine hK.out _ _ ⟨hHeld.1, hHeld.2⟩ (fun hHeld => ?_)
  clear hK K HB HG XR
  generalize w4.drewN nd = w5 at HB' HG' XR' hHeld ⊢
  have HB := Aside0.mk HB'.out
  have HG := Aside0.mk HG'.out
  have XR := Aside0.mk XR'.out
  clear HB' HG' XR'
  refine norm_ (a' := ?_) ?_ ?_
  rotate_left
  · show Act.put _ (some 34) _ = _
    simp only [Act.put, List.setIfInBounds_toArray, List.set_cons_zero, List.set_cons_succ, i64_w, i32_w]
    rfl
  refine one_ (i := 6) (N := some 36) #[true, true, true, true, true, true, true, false, false] rfl rfl (by kernel_rfl) (by decide) (fun K hK => ?_)
  refine call_ 39 #[.int .i64 2, .pointer (some ⟨B, 0, none⟩)] rfl rfl (by first | (go_simp; done) | (go_simp; rfl)) ?_
  refine (impl_readLeg.one (some ad) c0 [a, b, c] 2 (by decide) (by simp) B w w5 HR.out HB.out HG.out hHeld.1 (HS.out _ (by simp [impl_readLeg.at_, rdOf]))).mono ?_
  rintro e w6 ⟨rfl, hb⟩
  refine ⟨_, rfl, ?_⟩
  have s0_ := (hb.cell (World.block_lt_of_cell? _ _ hHeld.1)).trans hHeld.1
  have s1_ := (hb.cell (World.block_lt_of_cell? _ _ hHeld.2)).trans hHeld.2
  have y_ := below_step HB.out hb
  clear HB
  have HB := Aside0.mk y_
  clear y_
  have y_ := HG.out.on hb
  clear HG
  have HG := Aside0.mk y_
  clear y_
  have y_ := blk_below XR.out hb
  clear XR
  have XR := Aside0.mk y_
  clear y_ hb
  refine hK.out _ _ ⟨s0_, s1_⟩ (fun hHeld => ?_)
  clear hK K s0_ s1_
  refine norm_ (a' := ?_) ?_ ?_
  rotate_left
  · show Act.put _ (some 36) _ = _
    simp only [Act.put, List.setIfInBounds_toArray, List.set_cons_zero, List.set_cons_succ, i64_w, i32_w]
    rfl
  refine pure_ (i := 7) (N := some 37) (v := ?_) (a' := ?_) #[true, true, true, true, true, true, true, true, false] rfl rfl (by kernel_rfl) (fun _ _ _ h => h) (Or.inl ⟨by rfl, ?_⟩) ?_ ?_
  rotate_left
  · intro w'
    go_simp
    with_reducible rfl
  rotate_left
  · simp only [Act.put, List.setIfInBounds_toArray, List.set_cons_zero, List.set_cons_succ, i64_w, i32_w]
    rfl
  have k0_ : w6.cell? ⟨R, 0, none⟩ = some (.int .i64 0) := (blk_cell XR.out 0).trans rfl
  have f0_ : w6.frozen? ⟨R, 0, none⟩ = false := blk_frozen XR.out 0
  have k1_ : w6.cell? ⟨R, 1, none⟩ = some (.int .i64 0) := (blk_cell XR.out 1).trans rfl
  have f1_ : w6.frozen? ⟨R, 1, none⟩ = false := blk_frozen XR.out 1
  have k2_ : w6.cell? ⟨R, 2, none⟩ = some (.int .i64 0) := (blk_cell XR.out 2).trans rfl
  have f2_ : w6.frozen? ⟨R, 2, none⟩ = false := blk_frozen XR.out 2
  have k3_ : w6.cell? ⟨R, 3, none⟩ = some (.int .i64 0) := (blk_cell XR.out 3).trans rfl
  have f3_ : w6.frozen? ⟨R, 3, none⟩ = false := blk_frozen XR.out 3

  refine last_ (i := 8) (N := none) #[true, true, true, true, true, true, true, true, true] rfl rfl (by kernel_rfl) (by decide) (fun K hK => ?_)
  refine skip_ (w1 := ?_) (by rfl) rfl ?_ ?_
  rotate_left
  · go_simp
    rfl
  refine hK.out _ _ ?_
  clear hK K
  refine done_ (by kernel_rfl) ?_
  try go_wp2
  have XF_ : Aside0 (((((w6.setCell ⟨R, 0, none⟩ (.int .i64 2)).setCell ⟨R, 1, none⟩ (.int .i64 i)).setCell ⟨R, 2, none⟩ (.int .i64 0)).setCell ⟨R, 3, none⟩ (.int .i64 (impl_readLeg.num [a, b, c] 2))).heap[R]? = some (.cells #[Value.int .i64 2, Value.int .i64 i, Value.int .i64 0, Value.int .i64 (impl_readLeg.num [a, b, c] 2)] 35 (0, 0))) := ⟨blk_put (blk_put (blk_put (blk_put XR.out 0 _ rfl) 1 _ rfl) 2 _ rfl) 3 _ rfl⟩
  have BF_ : Aside0 (Below w.heap.size w ((((w6.setCell ⟨R, 0, none⟩ (.int .i64 2)).setCell ⟨R, 1, none⟩ (.int .i64 i)).setCell ⟨R, 2, none⟩ (.int .i64 0)).setCell ⟨R, 3, none⟩ (.int .i64 (impl_readLeg.num [a, b, c] 2)))) := ⟨below_set (below_set (below_set (below_set HB.out GR.out) GR.out) GR.out) GR.out⟩
  clear XR HB HG k0_ k1_ k2_ k3_ f0_ f1_ f2_ f3_
  generalize ((((w6.setCell ⟨R, 0, none⟩ (.int .i64 2)).setCell ⟨R, 1, none⟩ (.int .i64 i)).setCell ⟨R, 2, none⟩ (.int .i64 0)).setCell ⟨R, 3, none⟩ (.int .i64 (impl_readLeg.num [a, b, c] 2))) = wf at XF_ BF_ ⊢
  refine bodyPost_ret (results_cell_row rfl _ _ R 35 #[Value.int .i64 2, Value.int .i64 i, Value.int .i64 0, Value.int .i64 (impl_readLeg.num [a, b, c] 2)] (0, 0) _ rfl XF_.out Tryd.underlying35 rfl (by kernel_rfl)) rfl ?_
  exact ⟨rfl, BF_.out⟩

set_option maxHeartbeats 8000000 in
set_option maxRecDepth 100000 in
theorem impl_readLeg.calls_left (A0 : Option Addr) (c0 : Nat) (a b c : ByteArray) (i : Int) (w : World) (hr0 : Kd.C Kd.string w A0 3 [a, b, c]) (hs : ∀ x ∈ [a, b, c], x.size ≤ 281474976710656) (h0 : (a.toList == ([116, 111] : List UInt8)) = false) (h1 : (a.toList == ([99, 111, 117, 114, 115, 101] : List UInt8)) = false) (h2 : (a.toList == ([116, 117, 114, 110] : List UInt8)) = true) (h3 : (c.toList == ([108, 101, 102, 116] : List UInt8)) = true) (h4 : slices_Index_string_string.f 20 impl_readLeg.dirs b = some i) (htab_ : Ground w) :
    Calls Tryd.prog 24 #[.slice A0 3 c0] w fun e w' => e = .returned (.agg #[.int .i64 5, .int .i64 i, .int .i64 (-1), .int .i64 0]) ∧ Below w.heap.size w w' := by
  have HTAB := Aside0.mk htab_
  clear htab_
  have HR := Aside0.mk hr0
  have HS := Aside0.mk hs
  obtain ⟨ad, e, X0⟩ := Kd.at_string hr0 0 (by decide) (by decide)
  subst e
  obtain ⟨ad_, e, X1⟩ := Kd.at_string hr0 1 (by decide) (by decide)
  cases e
  obtain ⟨ad_, e, X2⟩ := Kd.at_string hr0 2 (by decide) (by decide)
  cases e
  clear hr0 hs
  replace X0 : w.cell? ad = some (.string a) := X0
  replace X1 : w.cell? ⟨ad.block, ad.off + 1, none⟩ = some (.string b) := X1
  replace X2 : w.cell? ⟨ad.block, ad.off + 2, none⟩ = some (.string c) := X2
  replace X0 := Aside0.mk X0
  replace X1 := Aside0.mk X1
  replace X2 := Aside0.mk X2
  go_enter Tryd.func24, Tryd.ntmps24
  have HI := Aside0.mk h4
  clear h4
  go_wp2_with (first | ((with_reducible refine gate_dst (N := 1) rfl ?_); refine box_event ?hg (N := 1) ?hd (cs := #[.slice (some ad) 3 c0]) (t := 54) ?hr ?_; (case hd => rfl); (case hg => rfl); (case hr => first | (go_simp; done) | (go_simp; rfl)); intro B hB_ w1 hbox_ hb1_; have y0 := (hb1_.cell (World.block_lt_of_cell? w _ X0.out)).trans X0.out; clear X0; have X0 := Aside0.mk y0; clear y0; have y1 := (hb1_.cell (World.block_lt_of_cell? w _ X1.out)).trans X1.out; clear X1; have X1 := Aside0.mk y1; clear y1; have y2 := (hb1_.cell (World.block_lt_of_cell? w _ X2.out)).trans X2.out; clear X2; have X2 := Aside0.mk y2; clear y2; have HB := Aside0.mk hb1_; have HG := Aside0.mk (HTAB.out.on hb1_); have y_ : w1.cell? ⟨B, 0, none⟩ = some (.slice (some ad) 3 c0) := (blk_cell hbox_ 0).trans rfl; have XB := Aside0.mk y_; clear y_ hb1_ hbox_ hB_) | ((with_reducible refine gate_dst (N := 2) rfl ?_); refine box_event ?hg (N := 2) ?hd (cs := #[.int .i64 0, .int .i64 0, .int .i64 0, .int .i64 0]) (t := 35) ?hr ?_; (case hd => rfl); (case hg => rfl); (case hr => first | (go_simp; done) | (go_simp; rfl)); intro R hR_ w2 hres_ hb2_; have y0 := (hb2_.cell (World.block_lt_of_cell? w1 _ X0.out)).trans X0.out; clear X0; have X0 := Aside0.mk y0; clear y0; have y1 := (hb2_.cell (World.block_lt_of_cell? w1 _ X1.out)).trans X1.out; clear X1; have X1 := Aside0.mk y1; clear y1; have y2 := (hb2_.cell (World.block_lt_of_cell? w1 _ X2.out)).trans X2.out; clear X2; have X2 := Aside0.mk y2; clear y2; have y_ := (hb2_.cell (World.block_lt_of_cell? w1 _ XB.out)).trans XB.out; clear XB; have XB := Aside0.mk y_; clear y_; have y_ := HG.out.on hb2_; clear HG; have HG := Aside0.mk y_; clear y_; have y_ := below_step HB.out hb2_; have GR := Aside0.mk (by rw [hR_]; exact HB.out.size : w.heap.size ≤ R); clear HB; have HB := Aside0.mk y_; clear y_; have XR := Aside0.mk hres_; clear hb2_ hres_ hR_; have z0 := X0.out; have z1 := X1.out; have z2 := X2.out; have zB := XB.out))
  have y_ := below_drew1 HB.out
  clear HB
  have HB := Aside0.mk y_
  clear y_
  have y_ := HG.out.on (below_drew1 (Below.refl w2.heap.size w2))
  clear HG
  have HG := Aside0.mk y_
  clear y_
  have y_ := blk_drew XR.out
  clear XR
  have XR := Aside0.mk y_
  clear y_
  clear z0 z1 z2 zB
  refine start_ (n := 7) (S := fun w' => w'.cell? ⟨B, 0, none⟩ = some (.slice (some ad) 3 c0) ∧ w'.cell? ⟨ad.block, ad.off + 1, none⟩ = some (.string b)) (ds := [6]) #[false, false, false, false, false, false, false] (by kernel_rfl) rfl rfl ⟨XB.out, X1.out⟩ (fun hHeld => ?_)
  clear XB X0 X1 X2
  generalize w2.drew = w3 at XR HB HG hHeld ⊢
  refine take_ (i := 1) (N := some 81) (v := ?_) (a' := ?_) #[false, true, false, false, false, false, false] rfl rfl (by kernel_rfl) (fun _ _ _ h => h) (Or.inl ⟨by rfl, ?_⟩) hHeld ?_ ?_
  rotate_left
  · rintro w' ⟨s0, s1⟩
    go_simp
    with_reducible rfl
  rotate_left
  · simp only [Act.put, List.setIfInBounds_toArray, List.set_cons_zero, List.set_cons_succ, i64_w, i32_w]
    rfl
  refine pure_ (i := 2) (N := some 82) (v := ?_) (a' := ?_) #[false, true, true, false, false, false, false] rfl rfl (by kernel_rfl) (fun _ _ _ h => h) (Or.inl ⟨by rfl, ?_⟩) ?_ ?_
  rotate_left
  · intro w'
    go_simp
    with_reducible rfl
  rotate_left
  · simp only [Act.put, List.setIfInBounds_toArray, List.set_cons_zero, List.set_cons_succ, i64_w, i32_w]
    rfl
  refine take_ (i := 3) (N := some 83) (v := ?_) (a' := ?_) #[false, true, true, true, false, false, false] rfl rfl (by kernel_rfl) (fun _ _ _ h => h) (Or.inl ⟨by rfl, ?_⟩) hHeld ?_ ?_
  rotate_left
  · rintro w' ⟨s0, s1⟩
    go_simp
    with_reducible rfl
  rotate_left
  · simp only [Act.put, List.setIfInBounds_toArray, List.set_cons_zero, List.set_cons_succ, i64_w, i32_w]
    rfl
  refine one_ (i := 0) (N := some 80) #[true, true, true, true, false, false, false] rfl rfl (by kernel_rfl) (by decide) (fun K hK => ?_)
  refine goes_ Tryd.func38 (by kernel_rfl) rfl #[] (by rfl) rfl rfl (by (try simp only [List.map_toArray, List.map_cons, List.map_nil]); first | done | rfl) ?_
  refine (impl_dirNames.calls impl_readLeg.dirs _ rfl).mono ?_
  rintro e w4 ⟨v_, rfl, ho0, hb⟩
  refine ⟨_, rfl, ?_⟩
  have s0_ := (hb.cell (World.block_lt_of_cell? _ _ hHeld.1)).trans hHeld.1
  have s1_ := (hb.cell (World.block_lt_of_cell? _ _ hHeld.2)).trans hHeld.2
  have y_ := below_step HB.out hb
  clear HB
  have HB := Aside0.mk y_
  clear y_
  have y_ := HG.out.on hb
  clear HG
  have HG := Aside0.mk y_
  clear y_
  have y_ := blk_below XR.out hb
  clear XR
  have XR := Aside0.mk y_
  clear y_
  have HO := Aside0.mk ho0
  clear ho0 hb
  obtain ⟨Ao, co, eo⟩ := Kd.R_slice HO.out
  subst eo
  refine hK.out _ _ ⟨s0_, s1_⟩ (fun hHeld => ?_)
  clear hK K s0_ s1_
  refine norm_ (a' := ?_) ?_ ?_
  rotate_left
  · show Act.put _ (some 80) _ = _
    simp only [Act.put, List.setIfInBounds_toArray, List.set_cons_zero, List.set_cons_succ, i64_w, i32_w]
    rfl
  refine one_ (i := 4) (N := some 84) #[true, true, true, true, true, false, false] rfl rfl (by kernel_rfl) (by decide) (fun K hK => ?_)
  refine goes_ Tryd.func41 (by kernel_rfl) rfl #[.slice Ao impl_readLeg.dirs.length co, .string b] (by rfl) rfl rfl (by (try simp only [List.map_toArray, List.map_cons, List.map_nil]); first | done | rfl) ?_
  refine (slices_Index_string_string.calls 20 Ao co impl_readLeg.dirs b i _ (Kd.R_reads' HO.out).2.2 (Kd.R_reads' HO.out).2.1 HI.out).mono ?_
  rintro e w5 ⟨rfl, ⟨nd, rfl⟩⟩
  refine ⟨_, rfl, ?_⟩
  clear HO
  have HB' := Aside0.mk (pw_below_drewN HB.out nd)
  have HG' := Aside0.mk (HG.out.on (pw_below_drewN (Below.refl w4.heap.size w4) nd))
  have XR' := Aside0.mk (blk_drewN XR.out nd)
  refine hK.out _ _ ⟨hHeld.1, hHeld.2⟩ (fun hHeld => ?_)
  clear hK K HB HG XR
  generalize w4.drewN nd = w5 at HB' HG' XR' hHeld ⊢
  have HB := Aside0.mk HB'.out
  have HG := Aside0.mk HG'.out
  have XR := Aside0.mk XR'.out
  clear HB' HG' XR'
  refine norm_ (a' := ?_) ?_ ?_
  rotate_left
  · show Act.put _ (some 84) _ = _
    simp only [Act.put, List.setIfInBounds_toArray, List.set_cons_zero, List.set_cons_succ, i64_w, i32_w]
    rfl
  refine pure_ (i := 5) (N := some 85) (v := ?_) (a' := ?_) #[true, true, true, true, true, true, false] rfl rfl (by kernel_rfl) (fun _ _ _ h => h) (Or.inl ⟨by rfl, ?_⟩) ?_ ?_
  rotate_left
  · intro w'
    go_simp
    with_reducible rfl
  rotate_left
  · simp only [Act.put, List.setIfInBounds_toArray, List.set_cons_zero, List.set_cons_succ, i64_w, i32_w]
    rfl
  have k0_ : w5.cell? ⟨R, 0, none⟩ = some (.int .i64 0) := (blk_cell XR.out 0).trans rfl
  have f0_ : w5.frozen? ⟨R, 0, none⟩ = false := blk_frozen XR.out 0
  have k1_ : w5.cell? ⟨R, 1, none⟩ = some (.int .i64 0) := (blk_cell XR.out 1).trans rfl
  have f1_ : w5.frozen? ⟨R, 1, none⟩ = false := blk_frozen XR.out 1
  have k2_ : w5.cell? ⟨R, 2, none⟩ = some (.int .i64 0) := (blk_cell XR.out 2).trans rfl
  have f2_ : w5.frozen? ⟨R, 2, none⟩ = false := blk_frozen XR.out 2
  have k3_ : w5.cell? ⟨R, 3, none⟩ = some (.int .i64 0) := (blk_cell XR.out 3).trans rfl
  have f3_ : w5.frozen? ⟨R, 3, none⟩ = false := blk_frozen XR.out 3

  refine last_ (i := 6) (N := none) #[true, true, true, true, true, true, true] rfl rfl (by kernel_rfl) (by decide) (fun K hK => ?_)
  refine skip_ (w1 := ?_) (by rfl) rfl ?_ ?_
  rotate_left
  · go_simp
    rfl
  refine hK.out _ _ ?_
  clear hK K
  refine done_ (by kernel_rfl) ?_
  try go_wp2
  have XF_ : Aside0 (((((w5.setCell ⟨R, 0, none⟩ (.int .i64 5)).setCell ⟨R, 1, none⟩ (.int .i64 i)).setCell ⟨R, 2, none⟩ (.int .i64 (-1))).setCell ⟨R, 3, none⟩ (.int .i64 0)).heap[R]? = some (.cells #[Value.int .i64 5, Value.int .i64 i, Value.int .i64 (-1), Value.int .i64 0] 35 (0, 0))) := ⟨blk_put (blk_put (blk_put (blk_put XR.out 0 _ rfl) 1 _ rfl) 2 _ rfl) 3 _ rfl⟩
  have BF_ : Aside0 (Below w.heap.size w ((((w5.setCell ⟨R, 0, none⟩ (.int .i64 5)).setCell ⟨R, 1, none⟩ (.int .i64 i)).setCell ⟨R, 2, none⟩ (.int .i64 (-1))).setCell ⟨R, 3, none⟩ (.int .i64 0))) := ⟨below_set (below_set (below_set (below_set HB.out GR.out) GR.out) GR.out) GR.out⟩
  clear XR HB HG k0_ k1_ k2_ k3_ f0_ f1_ f2_ f3_
  generalize ((((w5.setCell ⟨R, 0, none⟩ (.int .i64 5)).setCell ⟨R, 1, none⟩ (.int .i64 i)).setCell ⟨R, 2, none⟩ (.int .i64 (-1))).setCell ⟨R, 3, none⟩ (.int .i64 0)) = wf at XF_ BF_ ⊢
  refine bodyPost_ret (results_cell_row rfl _ _ R 35 #[Value.int .i64 5, Value.int .i64 i, Value.int .i64 (-1), Value.int .i64 0] (0, 0) _ rfl XF_.out Tryd.underlying35 rfl (by kernel_rfl)) rfl ?_
  exact ⟨rfl, BF_.out⟩

set_option maxHeartbeats 8000000 in
set_option maxRecDepth 100000 in
theorem impl_readLeg.calls_right (A0 : Option Addr) (c0 : Nat) (a b c : ByteArray) (i : Int) (w : World) (hr0 : Kd.C Kd.string w A0 3 [a, b, c]) (hs : ∀ x ∈ [a, b, c], x.size ≤ 281474976710656) (h0 : (a.toList == ([116, 111] : List UInt8)) = false) (h1 : (a.toList == ([99, 111, 117, 114, 115, 101] : List UInt8)) = false) (h2 : (a.toList == ([116, 117, 114, 110] : List UInt8)) = true) (h3 : (c.toList == ([108, 101, 102, 116] : List UInt8)) = false) (h4 : slices_Index_string_string.f 20 impl_readLeg.dirs b = some i) (htab_ : Ground w) :
    Calls Tryd.prog 24 #[.slice A0 3 c0] w fun e w' => e = .returned (.agg #[.int .i64 5, .int .i64 i, .int .i64 1, .int .i64 0]) ∧ Below w.heap.size w w' := by
  have HTAB := Aside0.mk htab_
  clear htab_
  have HR := Aside0.mk hr0
  have HS := Aside0.mk hs
  obtain ⟨ad, e, X0⟩ := Kd.at_string hr0 0 (by decide) (by decide)
  subst e
  obtain ⟨ad_, e, X1⟩ := Kd.at_string hr0 1 (by decide) (by decide)
  cases e
  obtain ⟨ad_, e, X2⟩ := Kd.at_string hr0 2 (by decide) (by decide)
  cases e
  clear hr0 hs
  replace X0 : w.cell? ad = some (.string a) := X0
  replace X1 : w.cell? ⟨ad.block, ad.off + 1, none⟩ = some (.string b) := X1
  replace X2 : w.cell? ⟨ad.block, ad.off + 2, none⟩ = some (.string c) := X2
  replace X0 := Aside0.mk X0
  replace X1 := Aside0.mk X1
  replace X2 := Aside0.mk X2
  go_enter Tryd.func24, Tryd.ntmps24
  have HI := Aside0.mk h4
  clear h4
  go_wp2_with (first | ((with_reducible refine gate_dst (N := 1) rfl ?_); refine box_event ?hg (N := 1) ?hd (cs := #[.slice (some ad) 3 c0]) (t := 54) ?hr ?_; (case hd => rfl); (case hg => rfl); (case hr => first | (go_simp; done) | (go_simp; rfl)); intro B hB_ w1 hbox_ hb1_; have y0 := (hb1_.cell (World.block_lt_of_cell? w _ X0.out)).trans X0.out; clear X0; have X0 := Aside0.mk y0; clear y0; have y1 := (hb1_.cell (World.block_lt_of_cell? w _ X1.out)).trans X1.out; clear X1; have X1 := Aside0.mk y1; clear y1; have y2 := (hb1_.cell (World.block_lt_of_cell? w _ X2.out)).trans X2.out; clear X2; have X2 := Aside0.mk y2; clear y2; have HB := Aside0.mk hb1_; have HG := Aside0.mk (HTAB.out.on hb1_); have y_ : w1.cell? ⟨B, 0, none⟩ = some (.slice (some ad) 3 c0) := (blk_cell hbox_ 0).trans rfl; have XB := Aside0.mk y_; clear y_ hb1_ hbox_ hB_) | ((with_reducible refine gate_dst (N := 2) rfl ?_); refine box_event ?hg (N := 2) ?hd (cs := #[.int .i64 0, .int .i64 0, .int .i64 0, .int .i64 0]) (t := 35) ?hr ?_; (case hd => rfl); (case hg => rfl); (case hr => first | (go_simp; done) | (go_simp; rfl)); intro R hR_ w2 hres_ hb2_; have y0 := (hb2_.cell (World.block_lt_of_cell? w1 _ X0.out)).trans X0.out; clear X0; have X0 := Aside0.mk y0; clear y0; have y1 := (hb2_.cell (World.block_lt_of_cell? w1 _ X1.out)).trans X1.out; clear X1; have X1 := Aside0.mk y1; clear y1; have y2 := (hb2_.cell (World.block_lt_of_cell? w1 _ X2.out)).trans X2.out; clear X2; have X2 := Aside0.mk y2; clear y2; have y_ := (hb2_.cell (World.block_lt_of_cell? w1 _ XB.out)).trans XB.out; clear XB; have XB := Aside0.mk y_; clear y_; have y_ := HG.out.on hb2_; clear HG; have HG := Aside0.mk y_; clear y_; have y_ := below_step HB.out hb2_; have GR := Aside0.mk (by rw [hR_]; exact HB.out.size : w.heap.size ≤ R); clear HB; have HB := Aside0.mk y_; clear y_; have XR := Aside0.mk hres_; clear hb2_ hres_ hR_; have z0 := X0.out; have z1 := X1.out; have z2 := X2.out; have zB := XB.out))
  have y_ := below_drew1 HB.out
  clear HB
  have HB := Aside0.mk y_
  clear y_
  have y_ := HG.out.on (below_drew1 (Below.refl w2.heap.size w2))
  clear HG
  have HG := Aside0.mk y_
  clear y_
  have y_ := blk_drew XR.out
  clear XR
  have XR := Aside0.mk y_
  clear y_
  clear z0 z1 z2 zB
  refine start_ (n := 7) (S := fun w' => w'.cell? ⟨B, 0, none⟩ = some (.slice (some ad) 3 c0) ∧ w'.cell? ⟨ad.block, ad.off + 1, none⟩ = some (.string b)) (ds := [6]) #[false, false, false, false, false, false, false] (by kernel_rfl) rfl rfl ⟨XB.out, X1.out⟩ (fun hHeld => ?_)
  clear XB X0 X1 X2
  generalize w2.drew = w3 at XR HB HG hHeld ⊢
  refine take_ (i := 1) (N := some 97) (v := ?_) (a' := ?_) #[false, true, false, false, false, false, false] rfl rfl (by kernel_rfl) (fun _ _ _ h => h) (Or.inl ⟨by rfl, ?_⟩) hHeld ?_ ?_
  rotate_left
  · rintro w' ⟨s0, s1⟩
    go_simp
    with_reducible rfl
  rotate_left
  · simp only [Act.put, List.setIfInBounds_toArray, List.set_cons_zero, List.set_cons_succ, i64_w, i32_w]
    rfl
  refine pure_ (i := 2) (N := some 98) (v := ?_) (a' := ?_) #[false, true, true, false, false, false, false] rfl rfl (by kernel_rfl) (fun _ _ _ h => h) (Or.inl ⟨by rfl, ?_⟩) ?_ ?_
  rotate_left
  · intro w'
    go_simp
    with_reducible rfl
  rotate_left
  · simp only [Act.put, List.setIfInBounds_toArray, List.set_cons_zero, List.set_cons_succ, i64_w, i32_w]
    rfl
  refine take_ (i := 3) (N := some 99) (v := ?_) (a' := ?_) #[false, true, true, true, false, false, false] rfl rfl (by kernel_rfl) (fun _ _ _ h => h) (Or.inl ⟨by rfl, ?_⟩) hHeld ?_ ?_
  rotate_left
  · rintro w' ⟨s0, s1⟩
    go_simp
    with_reducible rfl
  rotate_left
  · simp only [Act.put, List.setIfInBounds_toArray, List.set_cons_zero, List.set_cons_succ, i64_w, i32_w]
    rfl
  refine one_ (i := 0) (N := some 96) #[true, true, true, true, false, false, false] rfl rfl (by kernel_rfl) (by decide) (fun K hK => ?_)
  refine goes_ Tryd.func38 (by kernel_rfl) rfl #[] (by rfl) rfl rfl (by (try simp only [List.map_toArray, List.map_cons, List.map_nil]); first | done | rfl) ?_
  refine (impl_dirNames.calls impl_readLeg.dirs _ rfl).mono ?_
  rintro e w4 ⟨v_, rfl, ho0, hb⟩
  refine ⟨_, rfl, ?_⟩
  have s0_ := (hb.cell (World.block_lt_of_cell? _ _ hHeld.1)).trans hHeld.1
  have s1_ := (hb.cell (World.block_lt_of_cell? _ _ hHeld.2)).trans hHeld.2
  have y_ := below_step HB.out hb
  clear HB
  have HB := Aside0.mk y_
  clear y_
  have y_ := HG.out.on hb
  clear HG
  have HG := Aside0.mk y_
  clear y_
  have y_ := blk_below XR.out hb
  clear XR
  have XR := Aside0.mk y_
  clear y_
  have HO := Aside0.mk ho0
  clear ho0 hb
  obtain ⟨Ao, co, eo⟩ := Kd.R_slice HO.out
  subst eo
  refine hK.out _ _ ⟨s0_, s1_⟩ (fun hHeld => ?_)
  clear hK K s0_ s1_
  refine norm_ (a' := ?_) ?_ ?_
  rotate_left
  · show Act.put _ (some 96) _ = _
    simp only [Act.put, List.setIfInBounds_toArray, List.set_cons_zero, List.set_cons_succ, i64_w, i32_w]
    rfl
  refine one_ (i := 4) (N := some 100) #[true, true, true, true, true, false, false] rfl rfl (by kernel_rfl) (by decide) (fun K hK => ?_)
  refine goes_ Tryd.func41 (by kernel_rfl) rfl #[.slice Ao impl_readLeg.dirs.length co, .string b] (by rfl) rfl rfl (by (try simp only [List.map_toArray, List.map_cons, List.map_nil]); first | done | rfl) ?_
  refine (slices_Index_string_string.calls 20 Ao co impl_readLeg.dirs b i _ (Kd.R_reads' HO.out).2.2 (Kd.R_reads' HO.out).2.1 HI.out).mono ?_
  rintro e w5 ⟨rfl, ⟨nd, rfl⟩⟩
  refine ⟨_, rfl, ?_⟩
  clear HO
  have HB' := Aside0.mk (pw_below_drewN HB.out nd)
  have HG' := Aside0.mk (HG.out.on (pw_below_drewN (Below.refl w4.heap.size w4) nd))
  have XR' := Aside0.mk (blk_drewN XR.out nd)
  refine hK.out _ _ ⟨hHeld.1, hHeld.2⟩ (fun hHeld => ?_)
  clear hK K HB HG XR
  generalize w4.drewN nd = w5 at HB' HG' XR' hHeld ⊢
  have HB := Aside0.mk HB'.out
  have HG := Aside0.mk HG'.out
  have XR := Aside0.mk XR'.out
  clear HB' HG' XR'
  refine norm_ (a' := ?_) ?_ ?_
  rotate_left
  · show Act.put _ (some 100) _ = _
    simp only [Act.put, List.setIfInBounds_toArray, List.set_cons_zero, List.set_cons_succ, i64_w, i32_w]
    rfl
  refine pure_ (i := 5) (N := some 101) (v := ?_) (a' := ?_) #[true, true, true, true, true, true, false] rfl rfl (by kernel_rfl) (fun _ _ _ h => h) (Or.inl ⟨by rfl, ?_⟩) ?_ ?_
  rotate_left
  · intro w'
    go_simp
    with_reducible rfl
  rotate_left
  · simp only [Act.put, List.setIfInBounds_toArray, List.set_cons_zero, List.set_cons_succ, i64_w, i32_w]
    rfl
  have k0_ : w5.cell? ⟨R, 0, none⟩ = some (.int .i64 0) := (blk_cell XR.out 0).trans rfl
  have f0_ : w5.frozen? ⟨R, 0, none⟩ = false := blk_frozen XR.out 0
  have k1_ : w5.cell? ⟨R, 1, none⟩ = some (.int .i64 0) := (blk_cell XR.out 1).trans rfl
  have f1_ : w5.frozen? ⟨R, 1, none⟩ = false := blk_frozen XR.out 1
  have k2_ : w5.cell? ⟨R, 2, none⟩ = some (.int .i64 0) := (blk_cell XR.out 2).trans rfl
  have f2_ : w5.frozen? ⟨R, 2, none⟩ = false := blk_frozen XR.out 2
  have k3_ : w5.cell? ⟨R, 3, none⟩ = some (.int .i64 0) := (blk_cell XR.out 3).trans rfl
  have f3_ : w5.frozen? ⟨R, 3, none⟩ = false := blk_frozen XR.out 3

  refine last_ (i := 6) (N := none) #[true, true, true, true, true, true, true] rfl rfl (by kernel_rfl) (by decide) (fun K hK => ?_)
  refine skip_ (w1 := ?_) (by rfl) rfl ?_ ?_
  rotate_left
  · go_simp
    rfl
  refine hK.out _ _ ?_
  clear hK K
  refine done_ (by kernel_rfl) ?_
  try go_wp2
  have XF_ : Aside0 (((((w5.setCell ⟨R, 0, none⟩ (.int .i64 5)).setCell ⟨R, 1, none⟩ (.int .i64 i)).setCell ⟨R, 2, none⟩ (.int .i64 1)).setCell ⟨R, 3, none⟩ (.int .i64 0)).heap[R]? = some (.cells #[Value.int .i64 5, Value.int .i64 i, Value.int .i64 1, Value.int .i64 0] 35 (0, 0))) := ⟨blk_put (blk_put (blk_put (blk_put XR.out 0 _ rfl) 1 _ rfl) 2 _ rfl) 3 _ rfl⟩
  have BF_ : Aside0 (Below w.heap.size w ((((w5.setCell ⟨R, 0, none⟩ (.int .i64 5)).setCell ⟨R, 1, none⟩ (.int .i64 i)).setCell ⟨R, 2, none⟩ (.int .i64 1)).setCell ⟨R, 3, none⟩ (.int .i64 0))) := ⟨below_set (below_set (below_set (below_set HB.out GR.out) GR.out) GR.out) GR.out⟩
  clear XR HB HG k0_ k1_ k2_ k3_ f0_ f1_ f2_ f3_
  generalize ((((w5.setCell ⟨R, 0, none⟩ (.int .i64 5)).setCell ⟨R, 1, none⟩ (.int .i64 i)).setCell ⟨R, 2, none⟩ (.int .i64 1)).setCell ⟨R, 3, none⟩ (.int .i64 0)) = wf at XF_ BF_ ⊢
  refine bodyPost_ret (results_cell_row rfl _ _ R 35 #[Value.int .i64 5, Value.int .i64 i, Value.int .i64 1, Value.int .i64 0] (0, 0) _ rfl XF_.out Tryd.underlying35 rfl (by kernel_rfl)) rfl ?_
  exact ⟨rfl, BF_.out⟩

theorem impl_readLeg.calls (A0 : Option Addr) (c0 : Nat) (l0 : List ByteArray) (r1 : Int) (r2 : Int) (r3 : Int) (r4 : Int) (w : World) (hr0 : Kd.C Kd.string w A0 l0.length l0) (hc0 : l0.length ≤ c0) (h : impl_readLeg.f l0 = some (r1, r2, r3, r4)) (htab_ : Ground w := by exact Ground.on HTAB.out (by repeat (first | (with_reducible first | exact HB.out | apply below_alloc | apply pw_below_drewN | apply below_drew1 | refine below_set ?_ (Aside0.out (by assumption))) | exact HB.out))) :
    Calls Tryd.prog 24 #[.slice A0 l0.length c0] w fun e w' => e = .returned (.agg #[.int .i64 r1, .int .i64 r2, .int .i64 r3, .int .i64 r4]) ∧ Below w.heap.size w w' := by
  unfold impl_readLeg.f at h
  by_cases hall : (l0.all fun x => decide (x.size ≤ 281474976710656)) = true
  · rw [if_pos hall] at h
    have hs : ∀ x ∈ l0, x.size ≤ 281474976710656 := fun x hx => of_decide_eq_true (List.all_eq_true.1 hall x hx)
    clear hall
    by_cases n3 : l0.length = 3
    · obtain ⟨a, b, c, rfl⟩ : ∃ a b c, l0 = [a, b, c] := by
        match l0, n3 with
        | [a, b, c], _ => exact ⟨a, b, c, rfl⟩
      have n2 : ¬ [a, b, c].length = 2 := by simp
      by_cases ha : a.toList = ([116, 111] : List UInt8)
      · rw [if_pos (And.intro n3 (show (impl_readLeg.at_ [a, b, c] 0).toList = ([116, 111] : List UInt8) from ha))] at h
        simp only [Option.some.injEq, Prod.mk.injEq] at h
        obtain ⟨rfl, rfl, rfl, rfl⟩ := h
        exact impl_readLeg.calls_to A0 c0 a b c w hr0 hs (beq_iff_eq.2 ha) htab_
      rw [if_neg (show ¬ ([a, b, c].length = 3 ∧ (impl_readLeg.at_ [a, b, c] 0).toList = ([116, 111] : List UInt8)) from fun g => ha g.2)] at h
      by_cases hb : a.toList = ([99, 111, 117, 114, 115, 101] : List UInt8)
      · rw [if_pos (And.intro n3 (show (impl_readLeg.at_ [a, b, c] 0).toList = ([99, 111, 117, 114, 115, 101] : List UInt8) from hb))] at h
        obtain ⟨i, hi, h⟩ := Option.bind_eq_some_iff.1 h
        simp only [Option.some.injEq, Prod.mk.injEq] at h
        obtain ⟨rfl, rfl, rfl, rfl⟩ := h
        exact impl_readLeg.calls_course A0 c0 a b c _ w hr0 hs (beq_eq_false_iff_ne.2 ha) (beq_iff_eq.2 hb) hi htab_
      rw [if_neg (show ¬ ([a, b, c].length = 3 ∧ (impl_readLeg.at_ [a, b, c] 0).toList = ([99, 111, 117, 114, 115, 101] : List UInt8)) from fun g => hb g.2), if_neg (show ¬ ([a, b, c].length = 2 ∧ (impl_readLeg.at_ [a, b, c] 0).toList = ([99, 108, 105, 109, 98] : List UInt8)) from fun g => n2 g.1),
        if_neg (show ¬ ([a, b, c].length = 2 ∧ (impl_readLeg.at_ [a, b, c] 0).toList = ([104, 111, 108, 100] : List UInt8)) from fun g => n2 g.1)] at h
      by_cases ht : a.toList = ([116, 117, 114, 110] : List UInt8)
      · rw [if_pos (And.intro n3 (show (impl_readLeg.at_ [a, b, c] 0).toList = ([116, 117, 114, 110] : List UInt8) from ht))] at h
        by_cases hl : c.toList = ([108, 101, 102, 116] : List UInt8)
        · rw [if_pos (show (impl_readLeg.at_ [a, b, c] 2).toList = ([108, 101, 102, 116] : List UInt8) from hl)] at h
          obtain ⟨i, hi, h⟩ := Option.bind_eq_some_iff.1 h
          simp only [Option.some.injEq, Prod.mk.injEq] at h
          obtain ⟨rfl, rfl, rfl, rfl⟩ := h
          exact impl_readLeg.calls_left A0 c0 a b c _ w hr0 hs (beq_eq_false_iff_ne.2 ha) (beq_eq_false_iff_ne.2 hb) (beq_iff_eq.2 ht) (beq_iff_eq.2 hl) hi htab_
        · rw [if_neg (show ¬ (impl_readLeg.at_ [a, b, c] 2).toList = ([108, 101, 102, 116] : List UInt8) from hl)] at h
          obtain ⟨i, hi, h⟩ := Option.bind_eq_some_iff.1 h
          simp only [Option.some.injEq, Prod.mk.injEq] at h
          obtain ⟨rfl, rfl, rfl, rfl⟩ := h
          exact impl_readLeg.calls_right A0 c0 a b c _ w hr0 hs (beq_eq_false_iff_ne.2 ha) (beq_eq_false_iff_ne.2 hb) (beq_iff_eq.2 ht) (beq_eq_false_iff_ne.2 hl) hi htab_
      · rw [if_neg (show ¬ ([a, b, c].length = 3 ∧ (impl_readLeg.at_ [a, b, c] 0).toList = ([116, 117, 114, 110] : List UInt8)) from fun g => ht g.2)] at h
        simp only [Option.some.injEq, Prod.mk.injEq] at h
        obtain ⟨rfl, rfl, rfl, rfl⟩ := h
        exact impl_readLeg.calls_none3 A0 c0 a b c w hr0 hs (beq_eq_false_iff_ne.2 ha) (beq_eq_false_iff_ne.2 hb) (beq_eq_false_iff_ne.2 ht) htab_
    · rw [if_neg (fun g => n3 g.1), if_neg (fun g => n3 g.1)] at h
      by_cases n2 : l0.length = 2
      · obtain ⟨a, b, rfl⟩ : ∃ a b, l0 = [a, b] := by
          match l0, n2 with
          | [a, b], _ => exact ⟨a, b, rfl⟩
        by_cases ha : a.toList = ([99, 108, 105, 109, 98] : List UInt8)
        · rw [if_pos (And.intro n2 (show (impl_readLeg.at_ [a, b] 0).toList = ([99, 108, 105, 109, 98] : List UInt8) from ha))] at h
          simp only [Option.some.injEq, Prod.mk.injEq] at h
          obtain ⟨rfl, rfl, rfl, rfl⟩ := h
          exact impl_readLeg.calls_climb A0 c0 a b w hr0 hs (beq_iff_eq.2 ha) htab_
        rw [if_neg (show ¬ ([a, b].length = 2 ∧ (impl_readLeg.at_ [a, b] 0).toList = ([99, 108, 105, 109, 98] : List UInt8)) from fun g => ha g.2)] at h
        by_cases hb : a.toList = ([104, 111, 108, 100] : List UInt8)
        · rw [if_pos (And.intro n2 (show (impl_readLeg.at_ [a, b] 0).toList = ([104, 111, 108, 100] : List UInt8) from hb))] at h
          simp only [Option.some.injEq, Prod.mk.injEq] at h
          obtain ⟨rfl, rfl, rfl, rfl⟩ := h
          exact impl_readLeg.calls_hold A0 c0 a b w hr0 hs (beq_eq_false_iff_ne.2 ha) (beq_iff_eq.2 hb) htab_
        rw [if_neg (show ¬ ([a, b].length = 2 ∧ (impl_readLeg.at_ [a, b] 0).toList = ([104, 111, 108, 100] : List UInt8)) from fun g => hb g.2), if_neg (fun g => n3 g.1)] at h
        simp only [Option.some.injEq, Prod.mk.injEq] at h
        obtain ⟨rfl, rfl, rfl, rfl⟩ := h
        exact impl_readLeg.calls_none2 A0 c0 a b w hr0 hs (beq_eq_false_iff_ne.2 ha) (beq_eq_false_iff_ne.2 hb) htab_
      · rw [if_neg (fun g => n2 g.1), if_neg (fun g => n2 g.1), if_neg (fun g => n3 g.1)] at h
        simp only [Option.some.injEq, Prod.mk.injEq] at h
        obtain ⟨rfl, rfl, rfl, rfl⟩ := h
        exact impl_readLeg.calls_none A0 l0.length c0 w (beq_eq_false_iff_ne.2 (by omega)) (beq_eq_false_iff_ne.2 (by omega)) htab_
  · rw [if_neg hall] at h
    cases h

/-! ### strings_Split: function 25, by hand -/
def strings_Split.ren : Go.Shelf.Ren := ⟨fun | 146 => 25 | 221 => 42 | 268 => 50 | 138 => 51 | 143 => 52 | 195 => 61 | 197 => 62 | 218 => 63 | 219 => 64 | 260 => 72 | 217 => 73 | 225 => 74 | 224 => 75 | 267 => 76 | 266 => 84 | 314 => 85 | n => n, fun | 9 => 9 | 31 => 54 | 3 => 3 | 4 => 4 | 0 => 0 | 105 => 93 | 21 => 21 | 5 => 5 | 46 => 79 | 119 => 120 | 139 => 123 | 138 => 122 | 146 => 124 | 51 => 112 | n => n, fun | 1 => 2 | 3 => 4 | 4 => 5 | n => n⟩
theorem strings_Split.lays : LaysM.n146 Tryd.prog strings_Split.ren := {
  mixed := by kernel_rfl,
  f138 := Tryd.func51.trans (congrArg some (by kernel_rfl)),
  f143 := Tryd.func52.trans (congrArg some (by kernel_rfl)),
  f146 := Tryd.func25.trans (congrArg some (by kernel_rfl)),
  f195 := Tryd.func61.trans (congrArg some (by kernel_rfl)),
  f197 := Tryd.func62.trans (congrArg some (by kernel_rfl)),
  f217 := Tryd.func73.trans (congrArg some (by kernel_rfl)),
  f218 := Tryd.func63.trans (congrArg some (by kernel_rfl)),
  f219 := Tryd.func64.trans (congrArg some (by kernel_rfl)),
  f221 := Tryd.func42.trans (congrArg some (by kernel_rfl)),
  f224 := Tryd.func75.trans (congrArg some (by kernel_rfl)),
  f225 := Tryd.func74.trans (congrArg some (by kernel_rfl)),
  f260 := Tryd.func72.trans (congrArg some (by kernel_rfl)),
  f266 := Tryd.func84.trans (congrArg some (by kernel_rfl)),
  f267 := Tryd.func76.trans (congrArg some (by kernel_rfl)),
  f268 := Tryd.func50.trans (congrArg some (by kernel_rfl)),
  f314 := Tryd.func85.trans (congrArg some (by kernel_rfl)),
  t0 := Tryd.underlying0,
  a0 := Tryd.isAgg0,
  z0 := Tryd.sizeOf0,
  v0 := Tryd.zeroValue0,
  t3 := Tryd.underlying3,
  a3 := Tryd.isAgg3,
  z3 := Tryd.sizeOf3,
  v3 := Tryd.zeroValue3,
  t4 := Tryd.underlying4,
  a4 := Tryd.isAgg4,
  z4 := Tryd.sizeOf4,
  v4 := Tryd.zeroValue4,
  t5 := Tryd.underlying5,
  a5 := Tryd.isAgg5,
  z5 := Tryd.sizeOf5,
  v5 := Tryd.zeroValue5,
  t9 := Tryd.underlying9,
  a9 := Tryd.isAgg9,
  z9 := Tryd.sizeOf9,
  v9 := Tryd.zeroValue9,
  t21 := Tryd.underlying21,
  a21 := Tryd.isAgg21,
  z21 := Tryd.sizeOf21,
  v21 := Tryd.zeroValue21,
  t31 := Tryd.underlying54,
  a31 := Tryd.isAgg54,
  z31 := Tryd.sizeOf54,
  v31 := Tryd.zeroValue54,
  t46 := Tryd.underlying79,
  a46 := Tryd.isAgg79,
  z46 := Tryd.sizeOf79,
  v46 := Tryd.zeroValue79,
  t51 := Tryd.underlying112,
  a51 := Tryd.isAgg112,
  z51 := Tryd.sizeOf112,
  v51 := Tryd.zeroValue112,
  t105 := Tryd.underlying93,
  a105 := Tryd.isAgg93,
  z105 := Tryd.sizeOf93,
  v105 := Tryd.zeroValue93,
  t119 := Tryd.underlying120,
  a119 := Tryd.isAgg120,
  z119 := Tryd.sizeOf120,
  t138 := Tryd.underlying122,
  a138 := Tryd.isAgg122,
  z138 := Tryd.sizeOf122,
  v138 := Tryd.zeroValue122,
  t139 := Tryd.underlying123,
  a139 := Tryd.isAgg123,
  z139 := Tryd.sizeOf123,
  v139 := Tryd.zeroValue123,
  t146 := Tryd.underlying124,
  a146 := Tryd.isAgg124,
  z146 := Tryd.sizeOf124,
  v146 := Tryd.zeroValue124,
  g1 := by kernel_rfl,
  g3 := by kernel_rfl,
  g4 := by kernel_rfl,
  i0 := by kernel_rfl,
  i3 := by kernel_rfl,
  i4 := by kernel_rfl,
  i5 := by kernel_rfl,
  i9 := by kernel_rfl,
  i21 := by kernel_rfl,
  i31 := by kernel_rfl,
  i46 := by kernel_rfl,
  i51 := by kernel_rfl,
  i105 := by kernel_rfl,
  i138 := by kernel_rfl,
  i139 := by kernel_rfl,
  i146 := by kernel_rfl,
  m1 := by kernel_rfl,
  s1_3 := fun w h => Go.Proofs.cell_of_shapedOpen_int (zero := #[.int .i64 0]) (t := 3) h (of_decide_eq_true (by kernel_rfl)) (by kernel_rfl) rfl (by kernel_rfl) (by kernel_rfl) Tryd.underlying3,
  m3 := by kernel_rfl,
  m4 := by kernel_rfl }
def strings_Split.f (a0 : ByteArray) (a1 : ByteArray) : Option (List ByteArray) := if a0.size < 4294967281 ∧ 1 ≤ a1.size then some (Lib.splitB a1 0 (Lib.countB a0 a1) a0) else none
theorem strings_Split.calls (a0 : ByteArray) (a1 : ByteArray) (r : List ByteArray) (w : World) (h : strings_Split.f a0 a1 = some r) (htab_ : Ground w := by exact Ground.on HTAB.out (by repeat (first | (with_reducible first | exact HB.out | apply below_alloc | apply pw_below_drewN | apply below_drew1 | refine below_set ?_ (Aside0.out (by assumption))) | exact HB.out))) :
    Calls Tryd.prog 25 #[.string a0, .string a1] w fun e w' => ∃ v0_ : Value, e = .returned (v0_) ∧ Kd.R Kd.string 9 w' w.heap.size (fun _ => True) v0_ r ∧ Below w.heap.size w w' := by
  unfold strings_Split.f at h
  split at h
  · rename_i hb
    obtain rfl := Option.some.inj h
    obtain ⟨_, ⟨m, hm⟩, _⟩ := htab_
    have hlen := Lib.splitB_all a1 hb.2 0 _ a0 rfl
    refine (Any.strings_Split { strings_Split.lays with } strings_Split.lays.i9 a0 a1 m w hb.1 hm hb.2).mono ?_
    rintro e w' ⟨rfl, rfl⟩
    refine ⟨_, rfl, ?_, (Below.refl w.heap.size w).alloc (Nat.le_refl _) _⟩
    have ho := World.ownsRow_lit (base := w.heap.size) (e := 9) (size := 1) w ((Lib.splitB a1 0 (Lib.countB a0 a1) a0).map Value.string).toArray (Lib.countB a0 a1 + 1) (Nat.le_refl _) (by
      have hc := Lib.countB_le a1 hb.2 a0.size a0 (Nat.le_refl _)
      unfold maxLen
      omega) (by simp [hlen])
    exact Kd.R_of_own (by rw [hlen]; exact ho) (fun _ _ => trivial)
  · cases h

end Go.Proofs.YtadnhfdodcmlaaaDoor.PFnExactLegRead
