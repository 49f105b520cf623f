/- Walks of the functions named below, by a program of the session over the kit's printer. -/
import Derived.Test.YtadnhfdodcmlaaaPFnExactFlyRoutex0
import Derived.Test.YtadnhfdodcmlaaaPFnExactFlyRoutex6
namespace Go.Proofs.Ytadnhfdodcmlaaa.PFnExactFlyRoute
open Go.RowKit Go.Proofs.YtadnhfdodcmlaaaW.PrintWords Go.Proofs.YtadnhfdodcmlaaaW.PrintLast Go.Proofs.YtadnhfdodcmlaaaW.PrintMore
attribute [local go_sem] max2_int min2_int max_two min_two max_three min_three max_four min_four   -- for this text's walks alone
set_option linter.unusedVariables false
set_option linter.unusedSimpArgs false
abbrev t7 : Bool := true
abbrev f7 : Bool := false
abbrev A7_0 : Array Bool := #[f7, f7, f7, f7, f7, f7, f7, f7, f7, f7, f7, f7, f7, f7, f7, f7, f7, f7, f7, f7, f7, f7, f7, f7]
abbrev A7_1 : Array Bool := #[t7, f7, f7, f7, f7, f7, f7, f7, f7, f7, f7, f7, f7, f7, f7, f7, f7, f7, f7, f7, f7, f7, f7, f7]
abbrev A7_2 : Array Bool := #[t7, t7, f7, f7, f7, f7, f7, f7, f7, f7, f7, f7, f7, f7, f7, f7, f7, f7, f7, f7, f7, f7, f7, f7]
abbrev A7_3 : Array Bool := #[t7, t7, t7, f7, f7, f7, f7, f7, f7, f7, f7, f7, f7, f7, f7, f7, f7, f7, f7, f7, f7, f7, f7, f7]
abbrev A7_4 : Array Bool := #[t7, t7, t7, t7, f7, f7, f7, f7, f7, f7, f7, f7, f7, f7, f7, f7, f7, f7, f7, f7, f7, f7, f7, f7]
abbrev A7_5 : Array Bool := #[t7, t7, t7, t7, t7, f7, f7, f7, f7, f7, f7, f7, f7, f7, f7, f7, f7, f7, f7, f7, f7, f7, f7, f7]
abbrev A7_6 : Array Bool := #[t7, t7, t7, t7, t7, t7, f7, f7, f7, f7, f7, f7, f7, f7, f7, f7, f7, f7, f7, f7, f7, f7, f7, f7]
abbrev A7_7 : Array Bool := #[t7, t7, t7, t7, t7, t7, f7, t7, f7, f7, f7, f7, f7, f7, f7, f7, f7, f7, f7, f7, f7, f7, f7, f7]
abbrev A7_8 : Array Bool := #[t7, t7, t7, t7, t7, t7, f7, t7, f7, t7, f7, f7, f7, f7, f7, f7, f7, f7, f7, f7, f7, f7, f7, f7]
abbrev A7_9 : Array Bool := #[t7, t7, t7, t7, t7, t7, f7, t7, f7, t7, t7, f7, f7, f7, f7, f7, f7, f7, f7, f7, f7, f7, f7, f7]
abbrev A7_10 : Array Bool := #[t7, t7, t7, t7, t7, t7, f7, t7, f7, t7, t7, t7, f7, f7, f7, f7, f7, f7, f7, f7, f7, f7, f7, f7]
abbrev A7_11 : Array Bool := #[t7, t7, t7, t7, t7, t7, f7, t7, f7, t7, t7, t7, t7, f7, f7, f7, f7, f7, f7, f7, f7, f7, f7, f7]
abbrev A7_12 : Array Bool := #[t7, t7, t7, t7, t7, t7, f7, t7, f7, t7, t7, t7, t7, f7, t7, f7, f7, f7, f7, f7, f7, f7, f7, f7]
abbrev A7_13 : Array Bool := #[t7, t7, t7, t7, t7, t7, t7, t7, f7, t7, t7, t7, t7, f7, t7, f7, f7, f7, f7, f7, f7, f7, f7, f7]
abbrev A7_14 : Array Bool := #[t7, t7, t7, t7, t7, t7, t7, t7, t7, t7, t7, t7, t7, f7, t7, f7, f7, f7, f7, f7, f7, f7, f7, f7]
abbrev A7_15 : Array Bool := #[t7, t7, t7, t7, t7, t7, t7, t7, t7, t7, t7, t7, t7, t7, t7, f7, f7, f7, f7, f7, f7, f7, f7, f7]
abbrev A7_16 : Array Bool := #[t7, t7, t7, t7, t7, t7, t7, t7, t7, t7, t7, t7, t7, t7, t7, t7, f7, f7, f7, f7, f7, f7, f7, f7]
abbrev A7_17 : Array Bool := #[t7, t7, t7, t7, t7, t7, t7, t7, t7, t7, t7, t7, t7, t7, t7, t7, t7, f7, f7, f7, f7, f7, f7, f7]
abbrev A7_18 : Array Bool := #[t7, t7, t7, t7, t7, t7, t7, t7, t7, t7, t7, t7, t7, t7, t7, t7, t7, t7, f7, f7, f7, f7, f7, f7]
abbrev A7_19 : Array Bool := #[t7, t7, t7, t7, t7, t7, t7, t7, t7, t7, t7, t7, t7, t7, t7, t7, t7, t7, t7, f7, f7, f7, f7, f7]
abbrev A7_20 : Array Bool := #[t7, t7, t7, t7, t7, t7, t7, t7, t7, t7, t7, t7, t7, t7, t7, t7, t7, t7, t7, t7, f7, f7, f7, f7]
abbrev A7_21 : Array Bool := #[t7, t7, t7, t7, t7, t7, t7, t7, t7, t7, t7, t7, t7, t7, t7, t7, t7, t7, t7, t7, t7, f7, f7, f7]
abbrev A7_22 : Array Bool := #[t7, t7, t7, t7, t7, t7, t7, t7, t7, t7, t7, t7, t7, t7, t7, t7, t7, t7, t7, t7, t7, t7, f7, f7]
abbrev A7_23 : Array Bool := #[t7, t7, t7, t7, t7, t7, t7, t7, t7, t7, t7, t7, t7, t7, t7, t7, t7, t7, t7, t7, t7, t7, t7, f7]
abbrev A7_24 : Array Bool := #[t7, t7, t7, t7, t7, t7, t7, t7, t7, t7, t7, t7, t7, t7, t7, t7, t7, t7, t7, t7, t7, t7, t7, t7]
abbrev A7_25 : Array Bool := #[f7, f7, f7, f7, f7, f7, f7, f7, f7, f7, f7, f7, f7, f7, f7, f7, f7]
abbrev A7_26 : Array Bool := #[t7, f7, f7, f7, f7, f7, f7, f7, f7, f7, f7, f7, f7, f7, f7, f7, f7]
abbrev A7_27 : Array Bool := #[t7, t7, f7, f7, f7, f7, f7, f7, f7, f7, f7, f7, f7, f7, f7, f7, f7]
abbrev A7_28 : Array Bool := #[t7, t7, t7, f7, f7, f7, f7, f7, f7, f7, f7, f7, f7, f7, f7, f7, f7]
abbrev A7_29 : Array Bool := #[t7, t7, t7, t7, f7, f7, f7, f7, f7, f7, f7, f7, f7, f7, f7, f7, f7]
abbrev A7_30 : Array Bool := #[t7, t7, t7, t7, t7, f7, f7, f7, f7, f7, f7, f7, f7, f7, f7, f7, f7]
abbrev A7_31 : Array Bool := #[t7, t7, t7, t7, t7, f7, t7, f7, f7, f7, f7, f7, f7, f7, f7, f7, f7]
abbrev A7_32 : Array Bool := #[t7, t7, t7, t7, t7, f7, t7, t7, f7, f7, f7, f7, f7, f7, f7, f7, f7]
abbrev A7_33 : Array Bool := #[t7, t7, t7, t7, t7, f7, t7, t7, t7, f7, f7, f7, f7, f7, f7, f7, f7]
abbrev A7_34 : Array Bool := #[t7, t7, t7, t7, t7, f7, t7, t7, t7, t7, f7, f7, f7, f7, f7, f7, f7]
abbrev A7_35 : Array Bool := #[t7, t7, t7, t7, t7, t7, t7, t7, t7, t7, f7, f7, f7, f7, f7, f7, f7]
abbrev A7_36 : Array Bool := #[t7, t7, t7, t7, t7, t7, t7, t7, t7, t7, t7, f7, f7, f7, f7, f7, f7]
abbrev A7_37 : Array Bool := #[t7, t7, t7, t7, t7, t7, t7, t7, t7, t7, t7, t7, f7, f7, f7, f7, f7]
abbrev A7_38 : Array Bool := #[t7, t7, t7, t7, t7, t7, t7, t7, t7, t7, t7, t7, t7, f7, f7, f7, f7]
abbrev A7_39 : Array Bool := #[t7, t7, t7, t7, t7, t7, t7, t7, t7, t7, t7, t7, t7, t7, f7, f7, f7]
abbrev A7_40 : Array Bool := #[t7, t7, t7, t7, t7, t7, t7, t7, t7, t7, t7, t7, t7, t7, t7, f7, f7]
abbrev A7_41 : Array Bool := #[t7, t7, t7, t7, t7, t7, t7, t7, t7, t7, t7, t7, t7, t7, t7, t7, f7]
abbrev A7_42 : Array Bool := #[t7, t7, t7, t7, t7, t7, t7, t7, t7, t7, t7, t7, t7, t7, t7, t7, t7]

/-- A state of type 55 at block g of W; what its slices lead to came in by w0. -/
def IsS55 (w0 W : World) (g : Nat) (f0 : Int) (f1 : Int) (f2 : Int) (f3 : Int) (f4 : Int) (f5 : Int) (f6 : Bool) : Prop := W.heap[g]? = some (.cells #[.int .i64 f0, .int .i64 f1, .int .i64 f2, .int .i64 f3, .int .i64 f4, .int .i64 f5, .bool f6] 55 (0, 0)) ∧ w0.heap.size ≤ g
theorem IsS55.grown {w0 W : World} {g : Nat} {f0 : Int} {f1 : Int} {f2 : Int} {f3 : Int} {f4 : Int} {f5 : Int} {f6 : Bool} {W1 : World} {row : Option Nat} (h : IsS55 w0 W g f0 f1 f2 f3 f4 f5 f6) (hw : W.grownBy W1 row) (hne : some g ≠ row) : IsS55 w0 W1 g f0 f1 f2 f3 f4 f5 f6 := by
 obtain ⟨hb, hg⟩ := h
 exact ⟨blk_grown hb hw hne, hg⟩
theorem IsS55.own_neN {w0 W : World} {g : Nat} {f0 : Int} {f1 : Int} {f2 : Int} {f3 : Int} {f4 : Int} {f5 : Int} {f6 : Bool} {α : Type} {d : Kd α} {e : Nat} {base : Nat} {ok : Nat → Prop} {v : Value} {xs : List α} (h : IsS55 w0 W g f0 f1 f2 f3 f4 f5 f6) (ho : Kd.N d e W base ok v xs) (ht : e ≠ 55) : some g ≠ v.ownBlock := by
 obtain ⟨hb, hg⟩ := h
 exact Kd.N_ne ho hb ht
theorem IsS55.fresh {w0 W : World} {g : Nat} {f0 : Int} {f1 : Int} {f2 : Int} {f3 : Int} {f4 : Int} {f5 : Int} {f6 : Bool} (h : IsS55 w0 W g f0 f1 f2 f3 f4 f5 f6) : ∀ k, W.heap.size ≤ k → k ≠ g := by
 obtain ⟨hb, hg⟩ := h
 exact Kd.freshB hb
theorem IsS55.kept {w0 W : World} {g : Nat} {f0 : Int} {f1 : Int} {f2 : Int} {f3 : Int} {f4 : Int} {f5 : Int} {f6 : Bool} {W1 : World} {S : Nat → Prop} (h : IsS55 w0 W g f0 f1 f2 f3 f4 f5 f6) (hk : Kept W W1 S) (hne : ¬ S g) : IsS55 w0 W1 g f0 f1 f2 f3 f4 f5 f6 := by
 obtain ⟨hb, hg⟩ := h
 exact ⟨blk_kept hb hk hne, hg⟩
theorem IsS55.below {w0 W : World} {g : Nat} {f0 : Int} {f1 : Int} {f2 : Int} {f3 : Int} {f4 : Int} {f5 : Int} {f6 : Bool} {W1 : World} (h : IsS55 w0 W g f0 f1 f2 f3 f4 f5 f6) (hw : Below W.heap.size W W1) : IsS55 w0 W1 g f0 f1 f2 f3 f4 f5 f6 := h.grown (grown_of_below hw none) (by simp)
theorem IsS55.alloc {w0 W : World} {g : Nat} {f0 : Int} {f1 : Int} {f2 : Int} {f3 : Int} {f4 : Int} {f5 : Int} {f6 : Bool} (h : IsS55 w0 W g f0 f1 f2 f3 f4 f5 f6) (o : Obj) : IsS55 w0 (W.alloc o) g f0 f1 f2 f3 f4 f5 f6 := h.below (below_alloc (Below.refl _ _) o)
theorem IsS55.drewN {w0 W : World} {g : Nat} {f0 : Int} {f1 : Int} {f2 : Int} {f3 : Int} {f4 : Int} {f5 : Int} {f6 : Bool} (h : IsS55 w0 W g f0 f1 f2 f3 f4 f5 f6) (m : Nat) : IsS55 w0 (W.drewN m) g f0 f1 f2 f3 f4 f5 f6 := h
theorem IsS55.drew {w0 W : World} {g : Nat} {f0 : Int} {f1 : Int} {f2 : Int} {f3 : Int} {f4 : Int} {f5 : Int} {f6 : Bool} (h : IsS55 w0 W g f0 f1 f2 f3 f4 f5 f6) : IsS55 w0 W.drew g f0 f1 f2 f3 f4 f5 f6 := h
theorem IsS55.at_ {w0 W : World} {g : Nat} {f0 : Int} {f1 : Int} {f2 : Int} {f3 : Int} {f4 : Int} {f5 : Int} {f6 : Bool} {w' : World} {m : Nat} (hq : W.drewN m = w') (h : IsS55 w0 W g f0 f1 f2 f3 f4 f5 f6) : IsS55 w0 w' g f0 f1 f2 f3 f4 f5 f6 := by subst hq; exact IsS55.drewN h m
theorem IsS55.apart {w0 W : World} {g : Nat} {f0 : Int} {f1 : Int} {f2 : Int} {f3 : Int} {f4 : Int} {f5 : Int} {f6 : Bool} {α : Type} {d : Kd α} {e : Nat} {base : Nat} {ok : Nat → Prop} {v : Value} {xs : List α} (h : IsS55 w0 W g f0 f1 f2 f3 f4 f5 f6) (ho : d.R e W base ok v xs) (ht : ∀ q, q ∈ e :: d.E → q ≠ 55) : d.R e W base (fun k => ok k ∧ k ≠ g) v xs := by
 obtain ⟨hb, hg⟩ := h
 exact Kd.R_types ho hb ht
theorem IsS55.own_ne {w0 W : World} {g : Nat} {f0 : Int} {f1 : Int} {f2 : Int} {f3 : Int} {f4 : Int} {f5 : Int} {f6 : Bool} {α : Type} {d : Kd α} {e : Nat} {base : Nat} {ok : Nat → Prop} {v : Value} {xs : List α} (h : IsS55 w0 W g f0 f1 f2 f3 f4 f5 f6) (ho : d.R e W base ok v xs) (ht : e ≠ 55) : some g ≠ v.ownBlock := by
 obtain ⟨hb, hg⟩ := h
 exact Kd.R_ne ho hb ht
theorem IsS55.apartQ {w0 W : World} {g : Nat} {f0 : Int} {f1 : Int} {f2 : Int} {f3 : Int} {f4 : Int} {f5 : Int} {f6 : Bool} {α : Type} {d : Kd α} {e : Nat} {base : Nat} {ok : Nat → Prop} {v : Value} {xs : List α} (h : IsS55 w0 W g f0 f1 f2 f3 f4 f5 f6) (ho : d.Q e W base ok v xs) (ht : ∀ q, q ∈ e :: d.E → q ≠ 55) : d.Q e W base (fun k => ok k ∧ k ≠ g) v xs := by
 obtain ⟨hb, hg⟩ := h
 exact Kd.Q_types ho hb ht
theorem IsS55.own_neQ {w0 W : World} {g : Nat} {f0 : Int} {f1 : Int} {f2 : Int} {f3 : Int} {f4 : Int} {f5 : Int} {f6 : Bool} {α : Type} {d : Kd α} {e : Nat} {base : Nat} {ok : Nat → Prop} {v : Value} {xs : List α} (h : IsS55 w0 W g f0 f1 f2 f3 f4 f5 f6) (ho : d.Q e W base ok v xs) (ht : e ≠ 55) : some g ≠ v.ownBlock := by
 obtain ⟨hb, hg⟩ := h
 exact Kd.Q_ne ho hb ht
theorem IsS55.apartS {w0 W : World} {g : Nat} {f0 : Int} {f1 : Int} {f2 : Int} {f3 : Int} {f4 : Int} {f5 : Int} {f6 : Bool} {α : Type} {d : Kd α} {e : Nat} {base : Nat} {ok : Nat → Prop} {v : Value} {xs : List α} (h : IsS55 w0 W g f0 f1 f2 f3 f4 f5 f6) (ho : d.S e W base ok v xs) (ht : ∀ q, q ∈ e :: d.E → q ≠ 55) : d.S e W base (fun k => ok k ∧ k ≠ g) v xs := by
 obtain ⟨hb, hg⟩ := h
 exact Kd.S_types ho hb ht
theorem IsS55.own_neS {w0 W : World} {g : Nat} {f0 : Int} {f1 : Int} {f2 : Int} {f3 : Int} {f4 : Int} {f5 : Int} {f6 : Bool} {α : Type} {d : Kd α} {e : Nat} {base : Nat} {ok : Nat → Prop} {v : Value} {xs : List α} (h : IsS55 w0 W g f0 f1 f2 f3 f4 f5 f6) (ho : d.S e W base ok v xs) (ht : e ≠ 55) : some g ≠ v.ownBlock := by
 obtain ⟨hb, hg⟩ := h
 exact Kd.S_ne ho hb ht
theorem IsS55.lt {w0 W : World} {g : Nat} {f0 : Int} {f1 : Int} {f2 : Int} {f3 : Int} {f4 : Int} {f5 : Int} {f6 : Bool} (h : IsS55 w0 W g f0 f1 f2 f3 f4 f5 f6) : g < W.heap.size := by
 obtain ⟨hb, hg⟩ := h
 exact blk_lt hb
theorem IsS55.ge {w0 W : World} {g : Nat} {f0 : Int} {f1 : Int} {f2 : Int} {f3 : Int} {f4 : Int} {f5 : Int} {f6 : Bool} (h : IsS55 w0 W g f0 f1 f2 f3 f4 f5 f6) : w0.heap.size ≤ g := by
 obtain ⟨hb, hg⟩ := h
 exact hg
theorem IsS55.ne_blk {w0 W : World} {g : Nat} {f0 : Int} {f1 : Int} {f2 : Int} {f3 : Int} {f4 : Int} {f5 : Int} {f6 : Bool} {a : Nat} {cs : Array Value} {t : TypeId} {fr : Nat × Nat} (h : IsS55 w0 W g f0 f1 f2 f3 f4 f5 f6) (hb2 : W.heap[a]? = some (.cells cs t fr)) (ht : t ≠ 55) : g ≠ a := by
 obtain ⟨hb, hg⟩ := h
 rintro rfl
 rw [hb] at hb2
 injection hb2 with hb2
 injection hb2 with _ ht2
 exact ht ht2.symm
theorem IsS55.far {w0 W : World} {g : Nat} {f0 : Int} {f1 : Int} {f2 : Int} {f3 : Int} {f4 : Int} {f5 : Int} {f6 : Bool} {p : Addr} (h : IsS55 w0 W g f0 f1 f2 f3 f4 f5 f6) (hne : g ≠ p.block) (u : Value) : IsS55 w0 (W.setCell p u) g f0 f1 f2 f3 f4 f5 f6 := by
 obtain ⟨hb, hg⟩ := h
 exact ⟨blk_far hb hne u, hg⟩
theorem cellS55_0 {W : World} {g : Nat} {f0 : Int} {f1 : Int} {f2 : Int} {f3 : Int} {f4 : Int} {f5 : Int} {f6 : Bool} (h : W.heap[g]? = some (.cells #[.int .i64 f0, .int .i64 f1, .int .i64 f2, .int .i64 f3, .int .i64 f4, .int .i64 f5, .bool f6] 55 (0, 0))) : W.cell? ⟨g, 0, none⟩ = some (.int .i64 f0) := (blk_cell h 0).trans rfl
theorem IsS55.set_0 {w0 W : World} {g : Nat} {f0 : Int} {f1 : Int} {f2 : Int} {f3 : Int} {f4 : Int} {f5 : Int} {f6 : Bool} (h : IsS55 w0 W g f0 f1 f2 f3 f4 f5 f6) (x : Int) : IsS55 w0 (W.setCell ⟨g, 0, none⟩ (.int .i64 x)) g x f1 f2 f3 f4 f5 f6 := by
 obtain ⟨hb, hg⟩ := h
 exact ⟨by simpa using blk_set hb 0 (.int .i64 x), hg⟩
theorem cellS55_1 {W : World} {g : Nat} {f0 : Int} {f1 : Int} {f2 : Int} {f3 : Int} {f4 : Int} {f5 : Int} {f6 : Bool} (h : W.heap[g]? = some (.cells #[.int .i64 f0, .int .i64 f1, .int .i64 f2, .int .i64 f3, .int .i64 f4, .int .i64 f5, .bool f6] 55 (0, 0))) : W.cell? ⟨g, 1, none⟩ = some (.int .i64 f1) := (blk_cell h 1).trans rfl
theorem IsS55.set_1 {w0 W : World} {g : Nat} {f0 : Int} {f1 : Int} {f2 : Int} {f3 : Int} {f4 : Int} {f5 : Int} {f6 : Bool} (h : IsS55 w0 W g f0 f1 f2 f3 f4 f5 f6) (x : Int) : IsS55 w0 (W.setCell ⟨g, 1, none⟩ (.int .i64 x)) g f0 x f2 f3 f4 f5 f6 := by
 obtain ⟨hb, hg⟩ := h
 exact ⟨by simpa using blk_set hb 1 (.int .i64 x), hg⟩
theorem cellS55_2 {W : World} {g : Nat} {f0 : Int} {f1 : Int} {f2 : Int} {f3 : Int} {f4 : Int} {f5 : Int} {f6 : Bool} (h : W.heap[g]? = some (.cells #[.int .i64 f0, .int .i64 f1, .int .i64 f2, .int .i64 f3, .int .i64 f4, .int .i64 f5, .bool f6] 55 (0, 0))) : W.cell? ⟨g, 2, none⟩ = some (.int .i64 f2) := (blk_cell h 2).trans rfl
theorem IsS55.set_2 {w0 W : World} {g : Nat} {f0 : Int} {f1 : Int} {f2 : Int} {f3 : Int} {f4 : Int} {f5 : Int} {f6 : Bool} (h : IsS55 w0 W g f0 f1 f2 f3 f4 f5 f6) (x : Int) : IsS55 w0 (W.setCell ⟨g, 2, none⟩ (.int .i64 x)) g f0 f1 x f3 f4 f5 f6 := by
 obtain ⟨hb, hg⟩ := h
 exact ⟨by simpa using blk_set hb 2 (.int .i64 x), hg⟩
theorem cellS55_3 {W : World} {g : Nat} {f0 : Int} {f1 : Int} {f2 : Int} {f3 : Int} {f4 : Int} {f5 : Int} {f6 : Bool} (h : W.heap[g]? = some (.cells #[.int .i64 f0, .int .i64 f1, .int .i64 f2, .int .i64 f3, .int .i64 f4, .int .i64 f5, .bool f6] 55 (0, 0))) : W.cell? ⟨g, 3, none⟩ = some (.int .i64 f3) := (blk_cell h 3).trans rfl
theorem IsS55.set_3 {w0 W : World} {g : Nat} {f0 : Int} {f1 : Int} {f2 : Int} {f3 : Int} {f4 : Int} {f5 : Int} {f6 : Bool} (h : IsS55 w0 W g f0 f1 f2 f3 f4 f5 f6) (x : Int) : IsS55 w0 (W.setCell ⟨g, 3, none⟩ (.int .i64 x)) g f0 f1 f2 x f4 f5 f6 := by
 obtain ⟨hb, hg⟩ := h
 exact ⟨by simpa using blk_set hb 3 (.int .i64 x), hg⟩
theorem cellS55_4 {W : World} {g : Nat} {f0 : Int} {f1 : Int} {f2 : Int} {f3 : Int} {f4 : Int} {f5 : Int} {f6 : Bool} (h : W.heap[g]? = some (.cells #[.int .i64 f0, .int .i64 f1, .int .i64 f2, .int .i64 f3, .int .i64 f4, .int .i64 f5, .bool f6] 55 (0, 0))) : W.cell? ⟨g, 4, none⟩ = some (.int .i64 f4) := (blk_cell h 4).trans rfl
theorem IsS55.set_4 {w0 W : World} {g : Nat} {f0 : Int} {f1 : Int} {f2 : Int} {f3 : Int} {f4 : Int} {f5 : Int} {f6 : Bool} (h : IsS55 w0 W g f0 f1 f2 f3 f4 f5 f6) (x : Int) : IsS55 w0 (W.setCell ⟨g, 4, none⟩ (.int .i64 x)) g f0 f1 f2 f3 x f5 f6 := by
 obtain ⟨hb, hg⟩ := h
 exact ⟨by simpa using blk_set hb 4 (.int .i64 x), hg⟩
theorem cellS55_5 {W : World} {g : Nat} {f0 : Int} {f1 : Int} {f2 : Int} {f3 : Int} {f4 : Int} {f5 : Int} {f6 : Bool} (h : W.heap[g]? = some (.cells #[.int .i64 f0, .int .i64 f1, .int .i64 f2, .int .i64 f3, .int .i64 f4, .int .i64 f5, .bool f6] 55 (0, 0))) : W.cell? ⟨g, 5, none⟩ = some (.int .i64 f5) := (blk_cell h 5).trans rfl
theorem IsS55.set_5 {w0 W : World} {g : Nat} {f0 : Int} {f1 : Int} {f2 : Int} {f3 : Int} {f4 : Int} {f5 : Int} {f6 : Bool} (h : IsS55 w0 W g f0 f1 f2 f3 f4 f5 f6) (x : Int) : IsS55 w0 (W.setCell ⟨g, 5, none⟩ (.int .i64 x)) g f0 f1 f2 f3 f4 x f6 := by
 obtain ⟨hb, hg⟩ := h
 exact ⟨by simpa using blk_set hb 5 (.int .i64 x), hg⟩
theorem cellS55_6 {W : World} {g : Nat} {f0 : Int} {f1 : Int} {f2 : Int} {f3 : Int} {f4 : Int} {f5 : Int} {f6 : Bool} (h : W.heap[g]? = some (.cells #[.int .i64 f0, .int .i64 f1, .int .i64 f2, .int .i64 f3, .int .i64 f4, .int .i64 f5, .bool f6] 55 (0, 0))) : W.cell? ⟨g, 6, none⟩ = some (.bool f6) := (blk_cell h 6).trans rfl
theorem IsS55.set_6 {w0 W : World} {g : Nat} {f0 : Int} {f1 : Int} {f2 : Int} {f3 : Int} {f4 : Int} {f5 : Int} {f6 : Bool} (h : IsS55 w0 W g f0 f1 f2 f3 f4 f5 f6) (x : Bool) : IsS55 w0 (W.setCell ⟨g, 6, none⟩ (.bool x)) g f0 f1 f2 f3 f4 f5 x := by
 obtain ⟨hb, hg⟩ := h
 exact ⟨by simpa using blk_set hb 6 (.bool x), hg⟩
theorem IsS55.new (w0 W : World) (f0 : Int) (f1 : Int) (f2 : Int) (f3 : Int) (f4 : Int) (f5 : Int) (f6 : Bool) (hB : Below w0.heap.size w0 W) : IsS55 w0 (W.alloc (.cells #[.int .i64 f0, .int .i64 f1, .int .i64 f2, .int .i64 f3, .int .i64 f4, .int .i64 f5, .bool f6] 55)) W.heap.size f0 f1 f2 f3 f4 f5 f6 := ⟨by simpa using heap_alloc_new W _, hB.size⟩

/-! ### impl_flight_step: function 36 -/
def impl_flight_step.f (s0_0 : Int) (s0_1 : Int) (s0_2 : Int) (s0_3 : Int) (s0_4 : Int) (s0_5 : Int) (s0_6 : Bool) : Option (Int × Int × Int × Int × Int × Int × Bool) := (impl_way.f s0_2).bind fun bt241 => ((impl_held.f (wrap64 (s0_3 + s0_4)) 0 2000).bind fun t243 => (if s0_6 = true then (some (wrap64 (s0_0 + bt241.1), wrap64 (s0_1 + bt241.2), s0_2, t243, s0_4, wrap64 (s0_5 + 1), true)) else ((impl_in.f (wrap64 (s0_0 + bt241.1)) (-1000) 1000).bind fun t244 => (if t244 = true then ((impl_in.f (wrap64 (s0_1 + bt241.2)) (-1000) 1000).bind fun t245 => (some (wrap64 (s0_0 + bt241.1), wrap64 (s0_1 + bt241.2), s0_2, t243, s0_4, wrap64 (s0_5 + 1), !t245))) else (some (wrap64 (s0_0 + bt241.1), wrap64 (s0_1 + bt241.2), s0_2, t243, s0_4, wrap64 (s0_5 + 1), true))))))
def impl_flight_step.T1 : Bool × List (List Nat × List Nat) := (true, [([], []), ([], []), ([], []), ([2], [2]), ([3], [3]), ([4], [4]), ([5], [5]), ([], []), ([6, 7], [6, 7]), ([], []), ([9], [9]), ([10], [10]), ([11], [11]), ([12], [12]), ([], []), ([13, 14], [13, 14]), ([0, 0, 2, 3, 4, 5, 6, 7, 8, 13], [0]), ([16, 0, 2, 3, 4, 5, 6, 7, 8, 13], [16]), ([17, 0, 2, 3, 4, 5, 6, 7, 8, 13], [17]), ([18, 8, 0, 2, 3, 4, 5, 6, 7, 8, 13], [8, 18]), ([1, 0, 1, 2, 3, 4, 5, 6, 7, 8, 9, 10, 11, 12, 13, 14, 15, 16, 17, 18, 19], [1]), ([20, 0, 1, 2, 3, 4, 5, 6, 7, 8, 9, 10, 11, 12, 13, 14, 15, 16, 17, 18, 19], [20]), ([21, 0, 1, 2, 3, 4, 5, 6, 7, 8, 9, 10, 11, 12, 13, 14, 15, 16, 17, 18, 19], [21]), ([22, 15, 19, 0, 1, 2, 3, 4, 5, 6, 7, 8, 9, 10, 11, 12, 13, 14, 15, 16, 17, 18, 19], [15, 22])])
def impl_flight_step.B1 : List Nat := [0, 0, 0, 4, 12, 28, 60, 0, 252, 0, 512, 1536, 3584, 7680, 0, 32256, 16381, 81917, 212989, 475133, 1048575, 2097151, 4194303, 8388607]
theorem impl_flight_step.tab1 : rtab .any (opsOf Try.f36 1) = impl_flight_step.T1 := by kernel_rfl
theorem impl_flight_step.bits1 : waitsOk impl_flight_step.T1.2 impl_flight_step.B1 = true := by kernel_rfl
def impl_flight_step.T2 : Bool × List (List Nat × List Nat) := (true, [([], []), ([], []), ([1], [1]), ([2], [2]), ([3], [3]), ([4], [4]), ([], []), ([6], [6]), ([7], [7]), ([8], [8]), ([9], [9]), ([5, 10], [5, 10]), ([11], [11]), ([0, 0, 1, 2, 3, 4, 5, 6, 7, 8, 9, 10, 11, 12], [0]), ([13, 0, 1, 2, 3, 4, 5, 6, 7, 8, 9, 10, 11, 12], [13]), ([14, 0, 1, 2, 3, 4, 5, 6, 7, 8, 9, 10, 11, 12], [14]), ([15, 12, 12, 0, 1, 2, 3, 4, 5, 6, 7, 8, 9, 10, 11, 12], [12, 15])])
def impl_flight_step.B2 : List Nat := [0, 0, 2, 6, 14, 30, 0, 64, 192, 448, 960, 2046, 4094, 8191, 16383, 32767, 65535]
theorem impl_flight_step.tab2 : rtab .any (opsOf Try.f36 2) = impl_flight_step.T2 := by kernel_rfl
theorem impl_flight_step.bits2 : waitsOk impl_flight_step.T2.2 impl_flight_step.B2 = true := by kernel_rfl
set_option maxHeartbeats 8000000 in
set_option maxRecDepth 100000 in
theorem impl_flight_step.calls (g : Nat) (s0_0 : Int) (s0_1 : Int) (s0_2 : Int) (s0_3 : Int) (s0_4 : Int) (s0_5 : Int) (s0_6 : Bool) (r1 : Int) (r2 : Int) (r3 : Int) (r4 : Int) (r5 : Int) (r6 : Int) (r7 : Bool) (w0 w : World) (hI : IsS55 w0 w g s0_0 s0_1 s0_2 s0_3 s0_4 s0_5 s0_6) (hB : Below w0.heap.size w0 w) (h : impl_flight_step.f s0_0 s0_1 s0_2 s0_3 s0_4 s0_5 s0_6 = some (r1, r2, r3, r4, r5, r6, r7)) :
  Calls Try.prog 36 #[.pointer (some ⟨g, 0, none⟩)] w fun e w' => e = .returned (.tuple #[]) ∧ IsS55 w0 w' g r1 r2 r3 r4 r5 r6 r7 ∧ Below w0.heap.size w0 w' ∧ KeepBut w w' g none := by
 have HI0 := Aside0.mk hI
 have HK := Aside0.mk (KeepBut.refl w g none)
 have HL := Aside0.mk hB.size
 clear hI
 have HW0 := Aside0.mk hB.size
 have HB := Aside0.mk hB
 clear hB
 have H : ((impl_way.f s0_2).bind fun bt241 => ((impl_held.f (wrap64 (s0_3 + s0_4)) 0 2000).bind fun t243 => (if s0_6 = true then (some (wrap64 (s0_0 + bt241.1), wrap64 (s0_1 + bt241.2), s0_2, t243, s0_4, wrap64 (s0_5 + 1), true)) else ((impl_in.f (wrap64 (s0_0 + bt241.1)) (-1000) 1000).bind fun t244 => (if t244 = true then ((impl_in.f (wrap64 (s0_1 + bt241.2)) (-1000) 1000).bind fun t245 => (some (wrap64 (s0_0 + bt241.1), wrap64 (s0_1 + bt241.2), s0_2, t243, s0_4, wrap64 (s0_5 + 1), !t245))) else (some (wrap64 (s0_0 + bt241.1), wrap64 (s0_1 + bt241.2), s0_2, t243, s0_4, wrap64 (s0_5 + 1), true))))))) = some (r1, r2, r3, r4, r5, r6, r7) := h
 clear h
 replace H := Option.bind_eq_some_iff.mp H
 obtain ⟨⟨t241, t242⟩, A20, H⟩ := H
 replace H : ((impl_held.f (wrap64 (s0_3 + s0_4)) 0 2000).bind fun t243 => (if s0_6 = true then (some (wrap64 (s0_0 + t241), wrap64 (s0_1 + t242), s0_2, t243, s0_4, wrap64 (s0_5 + 1), true)) else ((impl_in.f (wrap64 (s0_0 + t241)) (-1000) 1000).bind fun t244 => (if t244 = true then ((impl_in.f (wrap64 (s0_1 + t242)) (-1000) 1000).bind fun t245 => (some (wrap64 (s0_0 + t241), wrap64 (s0_1 + t242), s0_2, t243, s0_4, wrap64 (s0_5 + 1), !t245))) else (some (wrap64 (s0_0 + t241), wrap64 (s0_1 + t242), s0_2, t243, s0_4, wrap64 (s0_5 + 1), true)))))) = some (r1, r2, r3, r4, r5, r6, r7) := H
 have A2 := Aside0.mk A20
 clear A20
 replace H := Option.bind_eq_some_iff.mp H
 obtain ⟨t243, A30, H⟩ := H
 replace H : (if s0_6 = true then (some (wrap64 (s0_0 + t241), wrap64 (s0_1 + t242), s0_2, t243, s0_4, wrap64 (s0_5 + 1), true)) else ((impl_in.f (wrap64 (s0_0 + t241)) (-1000) 1000).bind fun t244 => (if t244 = true then ((impl_in.f (wrap64 (s0_1 + t242)) (-1000) 1000).bind fun t245 => (some (wrap64 (s0_0 + t241), wrap64 (s0_1 + t242), s0_2, t243, s0_4, wrap64 (s0_5 + 1), !t245))) else (some (wrap64 (s0_0 + t241), wrap64 (s0_1 + t242), s0_2, t243, s0_4, wrap64 (s0_5 + 1), true))))) = some (r1, r2, r3, r4, r5, r6, r7) := H
 have A3 := Aside0.mk A30
 clear A30
 by_cases c4 : s0_6 = true
 ·
  subst c4
  have H1 : (some (wrap64 (s0_0 + t241), wrap64 (s0_1 + t242), s0_2, t243, s0_4, wrap64 (s0_5 + 1), true)) = some (r1, r2, r3, r4, r5, r6, r7) := by rw [if_pos rfl] at H; exact H
  clear H
  have H := H1
  clear H1
  simp only [Option.some.injEq, Prod.mk.injEq] at H
  obtain ⟨rfl, rfl, rfl, rfl, rfl, rfl, rfl⟩ := H
  obtain ⟨HGz5, hgz5⟩ := HI0.out
  have hcz5_0 := cellS55_0 HGz5
  have hcz5_1 := cellS55_1 HGz5
  have hcz5_2 := cellS55_2 HGz5
  have hcz5_3 := cellS55_3 HGz5
  have hcz5_4 := cellS55_4 HGz5
  have hcz5_5 := cellS55_5 HGz5
  have hcz5_6 := cellS55_6 HGz5
  have hfz5_0 := blk_frozen HGz5 0
  have hfz5_1 := blk_frozen HGz5 1
  have hfz5_2 := blk_frozen HGz5 2
  have hfz5_3 := blk_frozen HGz5 3
  have hfz5_4 := blk_frozen HGz5 4
  have hfz5_5 := blk_frozen HGz5 5
  have hfz5_6 := blk_frozen HGz5 6
  clear HGz5 hgz5
  go_enter Try.func36, Try.ntmps36
  try go_wp2_with (first | ((with_reducible refine gate_callee (f := 40) rfl ?_); refine goesL_ (some 10) rfl rfl Try.func40 (by kernel_rfl) rfl #[.int .i64 s0_2] rfl (by (try simp only [List.map_toArray, List.map_cons, List.map_nil]); first | done | rfl) ?_; (with_reducible refine (impl_way.calls s0_2 t241 t242 _ A2.out).mono ?_); rintro e w6 ⟨rfl, hb⟩; refine ⟨_, rfl, ?_⟩; have n0_ := Aside0.mk (IsS55.below (by repeat (first | (with_reducible first | exact HI0.out | apply IsS55.alloc | apply IsS55.drewN | apply IsS55.drew | apply IsS55.set_0 | apply IsS55.set_1 | apply IsS55.set_2 | apply IsS55.set_3 | apply IsS55.set_4 | apply IsS55.set_5 | apply IsS55.set_6) | exact HI0.out)) hb); have n1_ := Aside0.mk (KeepBut.trans (by repeat (first | (with_reducible first | exact HK.out | apply KeepBut.set_ | apply keep_drewN | apply keep_drew | apply keep_alloc) | exact HK.out)) (KeepBut.of_below hb g none) (.inl rfl)); have n2_ := Aside0.mk (below_step (by repeat (first | (with_reducible first | exact HB.out | apply ba | apply bn | apply bd | refine bt ?_ (IsS55.ge HI0.out)) | exact HB.out)) hb); clear HI0; clear HK; clear HB; have HI0 := n0_; have HK := n1_; have HB := n2_; clear n0_ n1_ n2_; (try clear hb); (try clear hb2); (try clear hk); (try clear hi)))
  have n0_ := Aside0.mk (IsS55.drew HI0.out)
  have n1_ := Aside0.mk (keep_drew HK.out)
  have n2_ := Aside0.mk (below_drew1 HB.out)
  clear HI0
  clear HK
  clear HB
  have HI0 := n0_
  have HK := n1_
  have HB := n2_
  clear n0_ n1_ n2_
  refine start_ (n := 24) (S := fun w' => w'.cell? ⟨g, 0, none⟩ = some (.int .i64 s0_0) ∧ w'.cell? ⟨g, 1, none⟩ = some (.int .i64 s0_1) ∧ w'.cell? ⟨g, 2, none⟩ = some (.int .i64 s0_2) ∧ w'.cell? ⟨g, 3, none⟩ = some (.int .i64 s0_3) ∧ w'.cell? ⟨g, 4, none⟩ = some (.int .i64 s0_4) ∧ w'.cell? ⟨g, 5, none⟩ = some (.int .i64 s0_5) ∧ w'.cell? ⟨g, 6, none⟩ = some (.bool true)) (ds := [19, 23]) A7_0 (by kernel_rfl) rfl rfl ⟨(by obtain ⟨HG_, hg_⟩ := HI0.out; exact cellS55_0 HG_), (by obtain ⟨HG_, hg_⟩ := HI0.out; exact cellS55_1 HG_), (by obtain ⟨HG_, hg_⟩ := HI0.out; exact cellS55_2 HG_), (by obtain ⟨HG_, hg_⟩ := HI0.out; exact cellS55_3 HG_), (by obtain ⟨HG_, hg_⟩ := HI0.out; exact cellS55_4 HG_), (by obtain ⟨HG_, hg_⟩ := HI0.out; exact cellS55_5 HG_), (by obtain ⟨HG_, hg_⟩ := HI0.out; exact cellS55_6 HG_)⟩ (fun hHeld => ?_); refine with_tabW impl_flight_step.tab1 impl_flight_step.bits1 (fun HT_ HW_ => ?_)
  generalize w6.drew = w7 at HI0 HK HB hHeld ⊢
  refine pure_ (i := 0) (N := some 13) (v := ?_) (a' := ?_) A7_1 rfl rfl (any_of HT_.out (by kernel_rfl)) (fun _ _ _ h => h) (Or.inl ⟨by rfl, ?_⟩) ?_ ?_
  (rotate_left; (intro w'; go_simp; with_reducible rfl); rotate_left; (simp only [Act.put, List.setIfInBounds_toArray, List.set_cons_zero, List.set_cons_succ, i64_w, i32_w]; rfl))
  refine pure_ (i := 1) (N := some 14) (v := ?_) (a' := ?_) A7_2 rfl rfl (any_of HT_.out (by kernel_rfl)) (fun _ _ _ h => h) (Or.inl ⟨by rfl, ?_⟩) ?_ ?_
  (rotate_left; (intro w'; go_simp; with_reducible rfl); rotate_left; (simp only [Act.put, List.setIfInBounds_toArray, List.set_cons_zero, List.set_cons_succ, i64_w, i32_w]; rfl))
  refine pure_ (i := 2) (N := some 15) (v := ?_) (a' := ?_) A7_3 rfl rfl (any_of HT_.out (by kernel_rfl)) (fun _ _ _ h => h) (Or.inl ⟨by rfl, ?_⟩) ?_ ?_
  (rotate_left; (intro w'; go_simp; with_reducible rfl); rotate_left; (simp only [Act.put, List.setIfInBounds_toArray, List.set_cons_zero, List.set_cons_succ, i64_w, i32_w]; rfl))
  refine pure_ (i := 3) (N := some 16) (v := ?_) (a' := ?_) A7_4 rfl rfl (any_of HT_.out (by kernel_rfl)) (fun _ _ _ h => h) (Or.inl ⟨by rfl, ?_⟩) ?_ ?_
  (rotate_left; (intro w'; go_simp; with_reducible rfl); rotate_left; (simp only [Act.put, List.setIfInBounds_toArray, List.set_cons_zero, List.set_cons_succ, i64_w, i32_w]; rfl))
  refine pure_ (i := 4) (N := some 17) (v := ?_) (a' := ?_) A7_5 rfl rfl (any_of HT_.out (by kernel_rfl)) (fun _ _ _ h => h) (Or.inl ⟨by rfl, ?_⟩) ?_ ?_
  (rotate_left; (intro w'; go_simp; with_reducible rfl); rotate_left; (simp only [Act.put, List.setIfInBounds_toArray, List.set_cons_zero, List.set_cons_succ, i64_w, i32_w]; rfl))
  refine pure_ (i := 5) (N := some 18) (v := ?_) (a' := ?_) A7_6 rfl rfl (any_of HT_.out (by kernel_rfl)) (fun _ _ _ h => h) (Or.inl ⟨by rfl, ?_⟩) ?_ ?_
  (rotate_left; (intro w'; go_simp; with_reducible rfl); rotate_left; (simp only [Act.put, List.setIfInBounds_toArray, List.set_cons_zero, List.set_cons_succ, i64_w, i32_w]; rfl))
  refine pure_ (i := 7) (N := some 20) (v := ?_) (a' := ?_) A7_7 rfl rfl (any_of HT_.out (by kernel_rfl)) (fun _ _ _ h => h) (Or.inl ⟨by rfl, ?_⟩) ?_ ?_
  (rotate_left; (intro w'; go_simp; with_reducible rfl); rotate_left; (simp only [Act.put, List.setIfInBounds_toArray, List.set_cons_zero, List.set_cons_succ, i64_w, i32_w]; rfl))
  refine pure_ (i := 9) (N := some 22) (v := ?_) (a' := ?_) A7_8 rfl rfl (any_of HT_.out (by kernel_rfl)) (fun _ _ _ h => h) (Or.inl ⟨by rfl, ?_⟩) ?_ ?_
  (rotate_left; (intro w'; go_simp; with_reducible rfl); rotate_left; (simp only [Act.put, List.setIfInBounds_toArray, List.set_cons_zero, List.set_cons_succ, i64_w, i32_w]; rfl))
  refine pure_ (i := 10) (N := some 23) (v := ?_) (a' := ?_) A7_9 rfl rfl (any_of HT_.out (by kernel_rfl)) (fun _ _ _ h => h) (Or.inl ⟨by rfl, ?_⟩) ?_ ?_
  (rotate_left; (intro w'; go_simp; with_reducible rfl); rotate_left; (simp only [Act.put, List.setIfInBounds_toArray, List.set_cons_zero, List.set_cons_succ, i64_w, i32_w]; rfl))
  refine pure_ (i := 11) (N := some 24) (v := ?_) (a' := ?_) A7_10 rfl rfl (any_of HT_.out (by kernel_rfl)) (fun _ _ _ h => h) (Or.inl ⟨by rfl, ?_⟩) ?_ ?_
  (rotate_left; (intro w'; go_simp; with_reducible rfl); rotate_left; (simp only [Act.put, List.setIfInBounds_toArray, List.set_cons_zero, List.set_cons_succ, i64_w, i32_w]; rfl))
  refine pure_ (i := 12) (N := some 25) (v := ?_) (a' := ?_) A7_11 rfl rfl (any_of HT_.out (by kernel_rfl)) (fun _ _ _ h => h) (Or.inl ⟨by rfl, ?_⟩) ?_ ?_
  (rotate_left; (intro w'; go_simp; with_reducible rfl); rotate_left; (simp only [Act.put, List.setIfInBounds_toArray, List.set_cons_zero, List.set_cons_succ, i64_w, i32_w]; rfl))
  refine pure_ (i := 14) (N := some 27) (v := ?_) (a' := ?_) A7_12 rfl rfl (any_of HT_.out (by kernel_rfl)) (fun _ _ _ h => h) (Or.inl ⟨by rfl, ?_⟩) ?_ ?_
  (rotate_left; (intro w'; go_simp; with_reducible rfl); rotate_left; (simp only [Act.put, List.setIfInBounds_toArray, List.set_cons_zero, List.set_cons_succ, i64_w, i32_w]; rfl))
  refine take_ (i := 6) (N := some 19) (v := ?_) (a' := ?_) A7_13 rfl rfl (take_ofW HT_.out HW_.out (by kernel_rfl)) (fun _ _ _ h => h) (Or.inl ⟨by rfl, ?_⟩) hHeld ?_ ?_
  rotate_left
  ·
   rintro w' ⟨s0, s1, s2, s3, s4, s5, s6⟩
   go_simp
   with_reducible rfl
  rotate_left
  ·
   simp only [Act.put, List.setIfInBounds_toArray, List.set_cons_zero, List.set_cons_succ, i64_w, i32_w]
   rfl
  refine pure_ (i := 8) (N := some 21) (v := ?_) (a' := ?_) A7_14 rfl rfl (any_of HT_.out (by kernel_rfl)) (fun _ _ _ h => h) (Or.inl ⟨by rfl, ?_⟩) ?_ ?_
  (rotate_left; (intro w'; go_simp; with_reducible rfl); rotate_left; (simp only [Act.put, List.setIfInBounds_toArray, List.set_cons_zero, List.set_cons_succ, i64_w, i32_w]; rfl))
  refine take_ (i := 13) (N := some 26) (v := ?_) (a' := ?_) A7_15 rfl rfl (take_ofW HT_.out HW_.out (by kernel_rfl)) (fun _ _ _ h => h) (Or.inl ⟨by rfl, ?_⟩) hHeld ?_ ?_
  rotate_left
  ·
   rintro w' ⟨s0, s1, s2, s3, s4, s5, s6⟩
   go_simp
   with_reducible rfl
  rotate_left
  ·
   simp only [Act.put, List.setIfInBounds_toArray, List.set_cons_zero, List.set_cons_succ, i64_w, i32_w]
   rfl
  refine pure_ (i := 15) (N := some 28) (v := ?_) (a' := ?_) A7_16 rfl rfl (any_of HT_.out (by kernel_rfl)) (fun _ _ _ h => h) (Or.inl ⟨by rfl, ?_⟩) ?_ ?_
  (rotate_left; (intro w'; go_simp; with_reducible rfl); rotate_left; (simp only [Act.put, List.setIfInBounds_toArray, List.set_cons_zero, List.set_cons_succ, i64_w, i32_w]; rfl))
  refine pure_ (i := 16) (N := some 29) (v := ?_) (a' := ?_) A7_17 rfl rfl (any_of HT_.out (by kernel_rfl)) (fun _ _ _ h => h) (Or.inl ⟨by rfl, ?_⟩) ?_ ?_
  (rotate_left; (intro w'; go_simp; with_reducible rfl); rotate_left; (simp only [Act.put, List.setIfInBounds_toArray, List.set_cons_zero, List.set_cons_succ, i64_w, i32_w]; rfl))
  refine pure_ (i := 17) (N := some 30) (v := ?_) (a' := ?_) A7_18 rfl rfl (any_of HT_.out (by kernel_rfl)) (fun _ _ _ h => h) (Or.inl ⟨by rfl, ?_⟩) ?_ ?_
  (rotate_left; (intro w'; go_simp; with_reducible rfl); rotate_left; (simp only [Act.put, List.setIfInBounds_toArray, List.set_cons_zero, List.set_cons_succ, i64_w, i32_w]; rfl))
  refine pure_ (i := 18) (N := some 31) (v := ?_) (a' := ?_) A7_19 rfl rfl (any_of HT_.out (by kernel_rfl)) (fun _ _ _ h => h) (Or.inl ⟨by rfl, ?_⟩) ?_ ?_
  (rotate_left; (intro w'; go_simp; with_reducible rfl); rotate_left; (simp only [Act.put, List.setIfInBounds_toArray, List.set_cons_zero, List.set_cons_succ, i64_w, i32_w]; rfl))
  refine last_ (i := 19) (N := none) A7_20 rfl rfl (one_of HT_.out (by kernel_rfl)) (by decide) (fun K hK => ?_)
  have hs8 := (by obtain ⟨HG_, hg_⟩ := HI0.out; exact cellS55_0 HG_ : w7.cell? ⟨g, 0, none⟩ = some _)
  have hfs8 := (by obtain ⟨HG_, hg_⟩ := HI0.out; exact blk_frozen HG_ 0 : w7.frozen? ⟨g, 0, none⟩ = false)
  refine skip_ (w1 := ?_) (by rfl) rfl ?_ ?_
  rotate_left
  ·
   go_simp
   rfl
  refine hK.out _ _ ?_
  clear hK K
  refine pure_ (i := 20) (N := some 32) (v := ?_) (a' := ?_) A7_21 rfl rfl (any_of HT_.out (by kernel_rfl)) (fun _ _ _ h => h) (Or.inl ⟨by rfl, ?_⟩) ?_ ?_
  (rotate_left; (intro w'; go_simp; with_reducible rfl); rotate_left; (simp only [Act.put, List.setIfInBounds_toArray, List.set_cons_zero, List.set_cons_succ, i64_w, i32_w]; rfl))
  refine pure_ (i := 21) (N := some 33) (v := ?_) (a' := ?_) A7_22 rfl rfl (any_of HT_.out (by kernel_rfl)) (fun _ _ _ h => h) (Or.inl ⟨by rfl, ?_⟩) ?_ ?_
  (rotate_left; (intro w'; go_simp; with_reducible rfl); rotate_left; (simp only [Act.put, List.setIfInBounds_toArray, List.set_cons_zero, List.set_cons_succ, i64_w, i32_w]; rfl))
  refine pure_ (i := 22) (N := some 34) (v := ?_) (a' := ?_) A7_23 rfl rfl (any_of HT_.out (by kernel_rfl)) (fun _ _ _ h => h) (Or.inl ⟨by rfl, ?_⟩) ?_ ?_
  (rotate_left; (intro w'; go_simp; with_reducible rfl); rotate_left; (simp only [Act.put, List.setIfInBounds_toArray, List.set_cons_zero, List.set_cons_succ, i64_w, i32_w]; rfl))
  refine last_ (i := 23) (N := none) A7_24 rfl rfl (one_of HT_.out (by kernel_rfl)) (by decide) (fun K hK => ?_)
  have hs9 := (by obtain ⟨HG_, hg_⟩ := HI0.out; exact cellS55_1 HG_ : w7.cell? ⟨g, 1, none⟩ = some _)
  have hfs9 := (by obtain ⟨HG_, hg_⟩ := HI0.out; exact blk_frozen HG_ 1 : w7.frozen? ⟨g, 1, none⟩ = false)
  refine skip_ (w1 := ?_) (by rfl) rfl ?_ ?_
  rotate_left
  ·
   go_simp
   rfl
  refine hK.out _ _ ?_
  clear hK K
  refine done_ (done_of HT_.out (by kernel_rfl)) ?_
  try go_wp2
  have n0_ : Aside0 (IsS55 w0 ((w7.setCell ⟨g, 0, none⟩ (.int .i64 (wrap64 (s0_0 + t241)))).setCell ⟨g, 1, none⟩ (.int .i64 (wrap64 (s0_1 + t242)))) g (wrap64 (s0_0 + t241)) (wrap64 (s0_1 + t242)) s0_2 s0_3 s0_4 s0_5 true) := ⟨by repeat (first | (with_reducible first | exact HI0.out | apply IsS55.alloc | apply IsS55.drewN | apply IsS55.drew | apply IsS55.set_0 | apply IsS55.set_1 | apply IsS55.set_2 | apply IsS55.set_3 | apply IsS55.set_4 | apply IsS55.set_5 | apply IsS55.set_6) | exact HI0.out)⟩
  have n1_ : Aside0 (KeepBut w ((w7.setCell ⟨g, 0, none⟩ (.int .i64 (wrap64 (s0_0 + t241)))).setCell ⟨g, 1, none⟩ (.int .i64 (wrap64 (s0_1 + t242)))) g none) := ⟨by repeat (first | (with_reducible first | exact HK.out | apply KeepBut.set_ | apply keep_drewN | apply keep_drew | apply keep_alloc) | exact HK.out)⟩
  have n2_ : Aside0 (Below w0.heap.size w0 ((w7.setCell ⟨g, 0, none⟩ (.int .i64 (wrap64 (s0_0 + t241)))).setCell ⟨g, 1, none⟩ (.int .i64 (wrap64 (s0_1 + t242))))) := ⟨by repeat (first | (with_reducible first | exact HB.out | apply ba | apply bn | apply bd | refine bt ?_ (IsS55.ge HI0.out)) | exact HB.out)⟩
  (try (have hsd_ : ∀ (W_ : World) (n_ : Nat) (a_ : Addr) (v_ : Value), (W_.drewN n_).setCell a_ v_ = (W_.setCell a_ v_).drewN n_ := fun _ _ _ _ => rfl); simp only [hsd_]; clear hsd_)
  (try clear HI0)
  (try clear HK)
  (try clear HB)
  generalize ((w7.setCell ⟨g, 0, none⟩ (.int .i64 (wrap64 (s0_0 + t241)))).setCell ⟨g, 1, none⟩ (.int .i64 (wrap64 (s0_1 + t242)))) = w10 at n0_ n1_ n2_ ⊢
  have HI0 := n0_
  have HK := n1_
  have HB := n2_
  clear n0_ n1_ n2_
  have n0_ := Aside0.mk (IsS55.drew HI0.out)
  have n1_ := Aside0.mk (keep_drew HK.out)
  have n2_ := Aside0.mk (below_drew1 HB.out)
  clear HI0
  clear HK
  clear HB
  have HI0 := n0_
  have HK := n1_
  have HB := n2_
  clear n0_ n1_ n2_
  refine start_ (n := 17) (S := fun w' => w'.cell? ⟨g, 0, none⟩ = some (.int .i64 (wrap64 (s0_0 + t241))) ∧ w'.cell? ⟨g, 1, none⟩ = some (.int .i64 (wrap64 (s0_1 + t242))) ∧ w'.cell? ⟨g, 2, none⟩ = some (.int .i64 s0_2) ∧ w'.cell? ⟨g, 3, none⟩ = some (.int .i64 s0_3) ∧ w'.cell? ⟨g, 4, none⟩ = some (.int .i64 s0_4) ∧ w'.cell? ⟨g, 5, none⟩ = some (.int .i64 s0_5) ∧ w'.cell? ⟨g, 6, none⟩ = some (.bool true)) (ds := [16]) A7_25 (by kernel_rfl) rfl rfl ⟨(by obtain ⟨HG_, hg_⟩ := HI0.out; exact cellS55_0 HG_), (by obtain ⟨HG_, hg_⟩ := HI0.out; exact cellS55_1 HG_), (by obtain ⟨HG_, hg_⟩ := HI0.out; exact cellS55_2 HG_), (by obtain ⟨HG_, hg_⟩ := HI0.out; exact cellS55_3 HG_), (by obtain ⟨HG_, hg_⟩ := HI0.out; exact cellS55_4 HG_), (by obtain ⟨HG_, hg_⟩ := HI0.out; exact cellS55_5 HG_), (by obtain ⟨HG_, hg_⟩ := HI0.out; exact cellS55_6 HG_)⟩ (fun hHeld => ?_); refine with_tabW impl_flight_step.tab2 impl_flight_step.bits2 (fun HT_ HW_ => ?_)
  generalize w10.drew = w11 at HI0 HK HB hHeld ⊢
  refine pure_ (i := 0) (N := some 35) (v := ?_) (a' := ?_) A7_26 rfl rfl (any_of HT_.out (by kernel_rfl)) (fun _ _ _ h => h) (Or.inl ⟨by rfl, ?_⟩) ?_ ?_
  (rotate_left; (intro w'; go_simp; with_reducible rfl); rotate_left; (simp only [Act.put, List.setIfInBounds_toArray, List.set_cons_zero, List.set_cons_succ, i64_w, i32_w]; rfl))
  refine pure_ (i := 1) (N := some 36) (v := ?_) (a' := ?_) A7_27 rfl rfl (any_of HT_.out (by kernel_rfl)) (fun _ _ _ h => h) (Or.inl ⟨by rfl, ?_⟩) ?_ ?_
  (rotate_left; (intro w'; go_simp; with_reducible rfl); rotate_left; (simp only [Act.put, List.setIfInBounds_toArray, List.set_cons_zero, List.set_cons_succ, i64_w, i32_w]; rfl))
  refine pure_ (i := 2) (N := some 37) (v := ?_) (a' := ?_) A7_28 rfl rfl (any_of HT_.out (by kernel_rfl)) (fun _ _ _ h => h) (Or.inl ⟨by rfl, ?_⟩) ?_ ?_
  (rotate_left; (intro w'; go_simp; with_reducible rfl); rotate_left; (simp only [Act.put, List.setIfInBounds_toArray, List.set_cons_zero, List.set_cons_succ, i64_w, i32_w]; rfl))
  refine pure_ (i := 3) (N := some 38) (v := ?_) (a' := ?_) A7_29 rfl rfl (any_of HT_.out (by kernel_rfl)) (fun _ _ _ h => h) (Or.inl ⟨by rfl, ?_⟩) ?_ ?_
  (rotate_left; (intro w'; go_simp; with_reducible rfl); rotate_left; (simp only [Act.put, List.setIfInBounds_toArray, List.set_cons_zero, List.set_cons_succ, i64_w, i32_w]; rfl))
  refine pure_ (i := 4) (N := some 39) (v := ?_) (a' := ?_) A7_30 rfl rfl (any_of HT_.out (by kernel_rfl)) (fun _ _ _ h => h) (Or.inl ⟨by rfl, ?_⟩) ?_ ?_
  (rotate_left; (intro w'; go_simp; with_reducible rfl); rotate_left; (simp only [Act.put, List.setIfInBounds_toArray, List.set_cons_zero, List.set_cons_succ, i64_w, i32_w]; rfl))
  refine pure_ (i := 6) (N := some 41) (v := ?_) (a' := ?_) A7_31 rfl rfl (any_of HT_.out (by kernel_rfl)) (fun _ _ _ h => h) (Or.inl ⟨by rfl, ?_⟩) ?_ ?_
  (rotate_left; (intro w'; go_simp; with_reducible rfl); rotate_left; (simp only [Act.put, List.setIfInBounds_toArray, List.set_cons_zero, List.set_cons_succ, i64_w, i32_w]; rfl))
  refine pure_ (i := 7) (N := some 42) (v := ?_) (a' := ?_) A7_32 rfl rfl (any_of HT_.out (by kernel_rfl)) (fun _ _ _ h => h) (Or.inl ⟨by rfl, ?_⟩) ?_ ?_
  (rotate_left; (intro w'; go_simp; with_reducible rfl); rotate_left; (simp only [Act.put, List.setIfInBounds_toArray, List.set_cons_zero, List.set_cons_succ, i64_w, i32_w]; rfl))
  refine pure_ (i := 8) (N := some 43) (v := ?_) (a' := ?_) A7_33 rfl rfl (any_of HT_.out (by kernel_rfl)) (fun _ _ _ h => h) (Or.inl ⟨by rfl, ?_⟩) ?_ ?_
  (rotate_left; (intro w'; go_simp; with_reducible rfl); rotate_left; (simp only [Act.put, List.setIfInBounds_toArray, List.set_cons_zero, List.set_cons_succ, i64_w, i32_w]; rfl))
  refine pure_ (i := 9) (N := some 44) (v := ?_) (a' := ?_) A7_34 rfl rfl (any_of HT_.out (by kernel_rfl)) (fun _ _ _ h => h) (Or.inl ⟨by rfl, ?_⟩) ?_ ?_
  (rotate_left; (intro w'; go_simp; with_reducible rfl); rotate_left; (simp only [Act.put, List.setIfInBounds_toArray, List.set_cons_zero, List.set_cons_succ, i64_w, i32_w]; rfl))
  refine take_ (i := 5) (N := some 40) (v := ?_) (a' := ?_) A7_35 rfl rfl (take_ofW HT_.out HW_.out (by kernel_rfl)) (fun _ _ _ h => h) (Or.inl ⟨by rfl, ?_⟩) hHeld ?_ ?_
  rotate_left
  ·
   rintro w' ⟨s0, s1, s2, s3, s4, s5, s6⟩
   go_simp
   with_reducible rfl
  rotate_left
  ·
   simp only [Act.put, List.setIfInBounds_toArray, List.set_cons_zero, List.set_cons_succ, i64_w, i32_w]
   rfl
  refine take_ (i := 10) (N := some 45) (v := ?_) (a' := ?_) A7_36 rfl rfl (take_ofW HT_.out HW_.out (by kernel_rfl)) (fun _ _ _ h => h) (Or.inl ⟨by rfl, ?_⟩) hHeld ?_ ?_
  rotate_left
  ·
   rintro w' ⟨s0, s1, s2, s3, s4, s5, s6⟩
   go_simp
   with_reducible rfl
  rotate_left
  ·
   simp only [Act.put, List.setIfInBounds_toArray, List.set_cons_zero, List.set_cons_succ, i64_w, i32_w]
   rfl
  refine pure_ (i := 11) (N := some 46) (v := ?_) (a' := ?_) A7_37 rfl rfl (any_of HT_.out (by kernel_rfl)) (fun _ _ _ h => h) (Or.inl ⟨by rfl, ?_⟩) ?_ ?_
  (rotate_left; (intro w'; go_simp; with_reducible rfl); rotate_left; (simp only [Act.put, List.setIfInBounds_toArray, List.set_cons_zero, List.set_cons_succ, i64_w, i32_w]; rfl))
  refine one_ (i := 12) (N := some 47) A7_38 rfl rfl (one_of HT_.out (by kernel_rfl)) (by decide) (fun K hK => ?_)
  refine goes_ Try.func41 (by kernel_rfl) rfl #[.int .i64 (wrap64 (s0_3 + s0_4)), .int .i64 0, .int .i64 2000] (by rfl) rfl rfl (by (try simp only [List.map_toArray, List.map_cons, List.map_nil]); first | done | rfl) ?_
  with_reducible refine (impl_held.calls (wrap64 (s0_3 + s0_4)) 0 2000 t243 _ A3.out).mono ?_
  rintro e w12 ⟨rfl, hb⟩
  refine ⟨_, rfl, ?_⟩
  have n0_ := Aside0.mk (IsS55.below (by repeat (first | (with_reducible first | exact HI0.out | apply IsS55.alloc | apply IsS55.drewN | apply IsS55.drew | apply IsS55.set_0 | apply IsS55.set_1 | apply IsS55.set_2 | apply IsS55.set_3 | apply IsS55.set_4 | apply IsS55.set_5 | apply IsS55.set_6) | exact HI0.out)) hb)
  have n1_ := Aside0.mk (KeepBut.trans (by repeat (first | (with_reducible first | exact HK.out | apply KeepBut.set_ | apply keep_drewN | apply keep_drew | apply keep_alloc) | exact HK.out)) (KeepBut.of_below hb g none) (.inl rfl))
  have n2_ := Aside0.mk (below_step (by repeat (first | (with_reducible first | exact HB.out | apply ba | apply bn | apply bd | refine bt ?_ (IsS55.ge HI0.out)) | exact HB.out)) hb)
  clear HI0
  clear HK
  clear HB
  have HI0 := n0_
  have HK := n1_
  have HB := n2_
  clear n0_ n1_ n2_
  (try clear hb)
  (try clear hb2)
  (try clear hk)
  (try clear hi)
  refine hK.out _ _ ⟨(by obtain ⟨HG_, hg_⟩ := HI0.out; exact cellS55_0 HG_), (by obtain ⟨HG_, hg_⟩ := HI0.out; exact cellS55_1 HG_), (by obtain ⟨HG_, hg_⟩ := HI0.out; exact cellS55_2 HG_), (by obtain ⟨HG_, hg_⟩ := HI0.out; exact cellS55_3 HG_), (by obtain ⟨HG_, hg_⟩ := HI0.out; exact cellS55_4 HG_), (by obtain ⟨HG_, hg_⟩ := HI0.out; exact cellS55_5 HG_), (by obtain ⟨HG_, hg_⟩ := HI0.out; exact cellS55_6 HG_)⟩ (fun hHeld => ?_)
  clear hK K
  refine norm_ (a' := ?_) ?_ ?_
  rotate_left
  ·
   show Act.put _ (some 47) _ = _
   simp only [Act.put, List.setIfInBounds_toArray, List.set_cons_zero, List.set_cons_succ, i64_w, i32_w]
   rfl
  refine pure_ (i := 13) (N := some 48) (v := ?_) (a' := ?_) A7_39 rfl rfl (any_of HT_.out (by kernel_rfl)) (fun _ _ _ h => h) (Or.inl ⟨by rfl, ?_⟩) ?_ ?_
  (rotate_left; (intro w'; go_simp; with_reducible rfl); rotate_left; (simp only [Act.put, List.setIfInBounds_toArray, List.set_cons_zero, List.set_cons_succ, i64_w, i32_w]; rfl))
  refine pure_ (i := 14) (N := some 49) (v := ?_) (a' := ?_) A7_40 rfl rfl (any_of HT_.out (by kernel_rfl)) (fun _ _ _ h => h) (Or.inl ⟨by rfl, ?_⟩) ?_ ?_
  (rotate_left; (intro w'; go_simp; with_reducible rfl); rotate_left; (simp only [Act.put, List.setIfInBounds_toArray, List.set_cons_zero, List.set_cons_succ, i64_w, i32_w]; rfl))
  refine pure_ (i := 15) (N := some 50) (v := ?_) (a' := ?_) A7_41 rfl rfl (any_of HT_.out (by kernel_rfl)) (fun _ _ _ h => h) (Or.inl ⟨by rfl, ?_⟩) ?_ ?_
  (rotate_left; (intro w'; go_simp; with_reducible rfl); rotate_left; (simp only [Act.put, List.setIfInBounds_toArray, List.set_cons_zero, List.set_cons_succ, i64_w, i32_w]; rfl))
  refine last_ (i := 16) (N := none) A7_42 rfl rfl (one_of HT_.out (by kernel_rfl)) (by decide) (fun K hK => ?_)
  have hs13 := (by obtain ⟨HG_, hg_⟩ := HI0.out; exact cellS55_3 HG_ : w12.cell? ⟨g, 3, none⟩ = some _)
  have hfs13 := (by obtain ⟨HG_, hg_⟩ := HI0.out; exact blk_frozen HG_ 3 : w12.frozen? ⟨g, 3, none⟩ = false)
  refine skip_ (w1 := ?_) (by rfl) rfl ?_ ?_
  rotate_left
  ·
   go_simp
   rfl
  refine hK.out _ _ ?_
  clear hK K
  refine done_ (done_of HT_.out (by kernel_rfl)) ?_
  obtain ⟨HGz14, hgz14⟩ := HI0.out
  have hcz14_0 := cellS55_0 HGz14
  have hcz14_1 := cellS55_1 HGz14
  have hcz14_2 := cellS55_2 HGz14
  have hcz14_3 := cellS55_3 HGz14
  have hcz14_4 := cellS55_4 HGz14
  have hcz14_5 := cellS55_5 HGz14
  have hcz14_6 := cellS55_6 HGz14
  have hfz14_0 := blk_frozen HGz14 0
  have hfz14_1 := blk_frozen HGz14 1
  have hfz14_2 := blk_frozen HGz14 2
  have hfz14_3 := blk_frozen HGz14 3
  have hfz14_4 := blk_frozen HGz14 4
  have hfz14_5 := blk_frozen HGz14 5
  have hfz14_6 := blk_frozen HGz14 6
  clear HGz14 hgz14
  try go_wp2
  first | go_end0 | ((try simp only [Exit.inBlock, Exit.then]); refine bodyPost_ret (results_none rfl _ _ _) rfl ?_)
  exact ⟨by first | rfl | (simp [errW_none, errW_some] <;> rfl) | (simp [*, errW_none, errW_some] <;> rfl), by repeat (first | (with_reducible first | exact HI0.out | apply IsS55.alloc | apply IsS55.drewN | apply IsS55.drew | apply IsS55.set_0 | apply IsS55.set_1 | apply IsS55.set_2 | apply IsS55.set_3 | apply IsS55.set_4 | apply IsS55.set_5 | apply IsS55.set_6) | exact HI0.out), by repeat (first | (with_reducible first | exact HB.out | apply ba | apply bn | apply bd | refine bt ?_ (IsS55.ge HI0.out)) | exact HB.out), by repeat (first | (with_reducible first | exact HK.out | apply KeepBut.set_ | apply keep_drewN | apply keep_drew | apply keep_alloc) | exact HK.out)⟩
 ·
  replace c4 := Bool.eq_false_iff.mpr c4
  subst c4
  have H1 : ((impl_in.f (wrap64 (s0_0 + t241)) (-1000) 1000).bind fun t244 => (if t244 = true then ((impl_in.f (wrap64 (s0_1 + t242)) (-1000) 1000).bind fun t245 => (some (wrap64 (s0_0 + t241), wrap64 (s0_1 + t242), s0_2, t243, s0_4, wrap64 (s0_5 + 1), !t245))) else (some (wrap64 (s0_0 + t241), wrap64 (s0_1 + t242), s0_2, t243, s0_4, wrap64 (s0_5 + 1), true)))) = some (r1, r2, r3, r4, r5, r6, r7) := by rw [if_neg (show ¬ (false = true) by decide)] at H; exact H
  clear H
  have H := H1
  clear H1
  replace H := Option.bind_eq_some_iff.mp H
  obtain ⟨t244, A150, H⟩ := H
  replace H : (if t244 = true then ((impl_in.f (wrap64 (s0_1 + t242)) (-1000) 1000).bind fun t245 => (some (wrap64 (s0_0 + t241), wrap64 (s0_1 + t242), s0_2, t243, s0_4, wrap64 (s0_5 + 1), !t245))) else (some (wrap64 (s0_0 + t241), wrap64 (s0_1 + t242), s0_2, t243, s0_4, wrap64 (s0_5 + 1), true))) = some (r1, r2, r3, r4, r5, r6, r7) := H
  have A15 := Aside0.mk A150
  clear A150
  by_cases c16 : t244 = true
  ·
   subst c16
   have H1 : ((impl_in.f (wrap64 (s0_1 + t242)) (-1000) 1000).bind fun t245 => (some (wrap64 (s0_0 + t241), wrap64 (s0_1 + t242), s0_2, t243, s0_4, wrap64 (s0_5 + 1), !t245))) = some (r1, r2, r3, r4, r5, r6, r7) := by rw [if_pos rfl] at H; exact H
   clear H
   have H := H1
   clear H1
   replace H := Option.bind_eq_some_iff.mp H
   obtain ⟨t245, A170, H⟩ := H
   replace H : (some (wrap64 (s0_0 + t241), wrap64 (s0_1 + t242), s0_2, t243, s0_4, wrap64 (s0_5 + 1), !t245)) = some (r1, r2, r3, r4, r5, r6, r7) := H
   have A17 := Aside0.mk A170
   clear A170
   simp only [Option.some.injEq, Prod.mk.injEq] at H
   obtain ⟨rfl, rfl, rfl, rfl, rfl, rfl, rfl⟩ := H
   obtain ⟨HGz18, hgz18⟩ := HI0.out
   have hcz18_0 := cellS55_0 HGz18
   have hcz18_1 := cellS55_1 HGz18
   have hcz18_2 := cellS55_2 HGz18
   have hcz18_3 := cellS55_3 HGz18
   have hcz18_4 := cellS55_4 HGz18
   have hcz18_5 := cellS55_5 HGz18
   have hcz18_6 := cellS55_6 HGz18
   have hfz18_0 := blk_frozen HGz18 0
   have hfz18_1 := blk_frozen HGz18 1
   have hfz18_2 := blk_frozen HGz18 2
   have hfz18_3 := blk_frozen HGz18 3
   have hfz18_4 := blk_frozen HGz18 4
   have hfz18_5 := blk_frozen HGz18 5
   have hfz18_6 := blk_frozen HGz18 6
   clear HGz18 hgz18
   go_enter Try.func36, Try.ntmps36
   try go_wp2_with (first | ((with_reducible refine gate_callee (f := 40) rfl ?_); refine goesL_ (some 10) rfl rfl Try.func40 (by kernel_rfl) rfl #[.int .i64 s0_2] rfl (by (try simp only [List.map_toArray, List.map_cons, List.map_nil]); first | done | rfl) ?_; (with_reducible refine (impl_way.calls s0_2 t241 t242 _ A2.out).mono ?_); rintro e w19 ⟨rfl, hb⟩; refine ⟨_, rfl, ?_⟩; have n0_ := Aside0.mk (IsS55.below (by repeat (first | (with_reducible first | exact HI0.out | apply IsS55.alloc | apply IsS55.drewN | apply IsS55.drew | apply IsS55.set_0 | apply IsS55.set_1 | apply IsS55.set_2 | apply IsS55.set_3 | apply IsS55.set_4 | apply IsS55.set_5 | apply IsS55.set_6) | exact HI0.out)) hb); have n1_ := Aside0.mk (KeepBut.trans (by repeat (first | (with_reducible first | exact HK.out | apply KeepBut.set_ | apply keep_drewN | apply keep_drew | apply keep_alloc) | exact HK.out)) (KeepBut.of_below hb g none) (.inl rfl)); have n2_ := Aside0.mk (below_step (by repeat (first | (with_reducible first | exact HB.out | apply ba | apply bn | apply bd | refine bt ?_ (IsS55.ge HI0.out)) | exact HB.out)) hb); clear HI0; clear HK; clear HB; have HI0 := n0_; have HK := n1_; have HB := n2_; clear n0_ n1_ n2_; (try clear hb); (try clear hb2); (try clear hk); (try clear hi)))
   have n0_ := Aside0.mk (IsS55.drew HI0.out)
   have n1_ := Aside0.mk (keep_drew HK.out)
   have n2_ := Aside0.mk (below_drew1 HB.out)
   clear HI0
   clear HK
   clear HB
   have HI0 := n0_
   have HK := n1_
   have HB := n2_
   clear n0_ n1_ n2_
   refine start_ (n := 24) (S := fun w' => w'.cell? ⟨g, 0, none⟩ = some (.int .i64 s0_0) ∧ w'.cell? ⟨g, 1, none⟩ = some (.int .i64 s0_1) ∧ w'.cell? ⟨g, 2, none⟩ = some (.int .i64 s0_2) ∧ w'.cell? ⟨g, 3, none⟩ = some (.int .i64 s0_3) ∧ w'.cell? ⟨g, 4, none⟩ = some (.int .i64 s0_4) ∧ w'.cell? ⟨g, 5, none⟩ = some (.int .i64 s0_5) ∧ w'.cell? ⟨g, 6, none⟩ = some (.bool false)) (ds := [19, 23]) A7_0 (by kernel_rfl) rfl rfl ⟨(by obtain ⟨HG_, hg_⟩ := HI0.out; exact cellS55_0 HG_), (by obtain ⟨HG_, hg_⟩ := HI0.out; exact cellS55_1 HG_), (by obtain ⟨HG_, hg_⟩ := HI0.out; exact cellS55_2 HG_), (by obtain ⟨HG_, hg_⟩ := HI0.out; exact cellS55_3 HG_), (by obtain ⟨HG_, hg_⟩ := HI0.out; exact cellS55_4 HG_), (by obtain ⟨HG_, hg_⟩ := HI0.out; exact cellS55_5 HG_), (by obtain ⟨HG_, hg_⟩ := HI0.out; exact cellS55_6 HG_)⟩ (fun hHeld => ?_); refine with_tabW impl_flight_step.tab1 impl_flight_step.bits1 (fun HT_ HW_ => ?_)
   generalize w19.drew = w20 at HI0 HK HB hHeld ⊢
   refine pure_ (i := 0) (N := some 13) (v := ?_) (a' := ?_) A7_1 rfl rfl (any_of HT_.out (by kernel_rfl)) (fun _ _ _ h => h) (Or.inl ⟨by rfl, ?_⟩) ?_ ?_
   (rotate_left; (intro w'; go_simp; with_reducible rfl); rotate_left; (simp only [Act.put, List.setIfInBounds_toArray, List.set_cons_zero, List.set_cons_succ, i64_w, i32_w]; rfl))
   refine pure_ (i := 1) (N := some 14) (v := ?_) (a' := ?_) A7_2 rfl rfl (any_of HT_.out (by kernel_rfl)) (fun _ _ _ h => h) (Or.inl ⟨by rfl, ?_⟩) ?_ ?_
   (rotate_left; (intro w'; go_simp; with_reducible rfl); rotate_left; (simp only [Act.put, List.setIfInBounds_toArray, List.set_cons_zero, List.set_cons_succ, i64_w, i32_w]; rfl))
   refine pure_ (i := 2) (N := some 15) (v := ?_) (a' := ?_) A7_3 rfl rfl (any_of HT_.out (by kernel_rfl)) (fun _ _ _ h => h) (Or.inl ⟨by rfl, ?_⟩) ?_ ?_
   (rotate_left; (intro w'; go_simp; with_reducible rfl); rotate_left; (simp only [Act.put, List.setIfInBounds_toArray, List.set_cons_zero, List.set_cons_succ, i64_w, i32_w]; rfl))
   refine pure_ (i := 3) (N := some 16) (v := ?_) (a' := ?_) A7_4 rfl rfl (any_of HT_.out (by kernel_rfl)) (fun _ _ _ h => h) (Or.inl ⟨by rfl, ?_⟩) ?_ ?_
   (rotate_left; (intro w'; go_simp; with_reducible rfl); rotate_left; (simp only [Act.put, List.setIfInBounds_toArray, List.set_cons_zero, List.set_cons_succ, i64_w, i32_w]; rfl))
   refine pure_ (i := 4) (N := some 17) (v := ?_) (a' := ?_) A7_5 rfl rfl (any_of HT_.out (by kernel_rfl)) (fun _ _ _ h => h) (Or.inl ⟨by rfl, ?_⟩) ?_ ?_
   (rotate_left; (intro w'; go_simp; with_reducible rfl); rotate_left; (simp only [Act.put, List.setIfInBounds_toArray, List.set_cons_zero, List.set_cons_succ, i64_w, i32_w]; rfl))
   refine pure_ (i := 5) (N := some 18) (v := ?_) (a' := ?_) A7_6 rfl rfl (any_of HT_.out (by kernel_rfl)) (fun _ _ _ h => h) (Or.inl ⟨by rfl, ?_⟩) ?_ ?_
   (rotate_left; (intro w'; go_simp; with_reducible rfl); rotate_left; (simp only [Act.put, List.setIfInBounds_toArray, List.set_cons_zero, List.set_cons_succ, i64_w, i32_w]; rfl))
   refine pure_ (i := 7) (N := some 20) (v := ?_) (a' := ?_) A7_7 rfl rfl (any_of HT_.out (by kernel_rfl)) (fun _ _ _ h => h) (Or.inl ⟨by rfl, ?_⟩) ?_ ?_
   (rotate_left; (intro w'; go_simp; with_reducible rfl); rotate_left; (simp only [Act.put, List.setIfInBounds_toArray, List.set_cons_zero, List.set_cons_succ, i64_w, i32_w]; rfl))
   refine pure_ (i := 9) (N := some 22) (v := ?_) (a' := ?_) A7_8 rfl rfl (any_of HT_.out (by kernel_rfl)) (fun _ _ _ h => h) (Or.inl ⟨by rfl, ?_⟩) ?_ ?_
   (rotate_left; (intro w'; go_simp; with_reducible rfl); rotate_left; (simp only [Act.put, List.setIfInBounds_toArray, List.set_cons_zero, List.set_cons_succ, i64_w, i32_w]; rfl))
   refine pure_ (i := 10) (N := some 23) (v := ?_) (a' := ?_) A7_9 rfl rfl (any_of HT_.out (by kernel_rfl)) (fun _ _ _ h => h) (Or.inl ⟨by rfl, ?_⟩) ?_ ?_
   (rotate_left; (intro w'; go_simp; with_reducible rfl); rotate_left; (simp only [Act.put, List.setIfInBounds_toArray, List.set_cons_zero, List.set_cons_succ, i64_w, i32_w]; rfl))
   refine pure_ (i := 11) (N := some 24) (v := ?_) (a' := ?_) A7_10 rfl rfl (any_of HT_.out (by kernel_rfl)) (fun _ _ _ h => h) (Or.inl ⟨by rfl, ?_⟩) ?_ ?_
   (rotate_left; (intro w'; go_simp; with_reducible rfl); rotate_left; (simp only [Act.put, List.setIfInBounds_toArray, List.set_cons_zero, List.set_cons_succ, i64_w, i32_w]; rfl))
   refine pure_ (i := 12) (N := some 25) (v := ?_) (a' := ?_) A7_11 rfl rfl (any_of HT_.out (by kernel_rfl)) (fun _ _ _ h => h) (Or.inl ⟨by rfl, ?_⟩) ?_ ?_
   (rotate_left; (intro w'; go_simp; with_reducible rfl); rotate_left; (simp only [Act.put, List.setIfInBounds_toArray, List.set_cons_zero, List.set_cons_succ, i64_w, i32_w]; rfl))
   refine pure_ (i := 14) (N := some 27) (v := ?_) (a' := ?_) A7_12 rfl rfl (any_of HT_.out (by kernel_rfl)) (fun _ _ _ h => h) (Or.inl ⟨by rfl, ?_⟩) ?_ ?_
   (rotate_left; (intro w'; go_simp; with_reducible rfl); rotate_left; (simp only [Act.put, List.setIfInBounds_toArray, List.set_cons_zero, List.set_cons_succ, i64_w, i32_w]; rfl))
   refine take_ (i := 6) (N := some 19) (v := ?_) (a' := ?_) A7_13 rfl rfl (take_ofW HT_.out HW_.out (by kernel_rfl)) (fun _ _ _ h => h) (Or.inl ⟨by rfl, ?_⟩) hHeld ?_ ?_
   rotate_left
   ·
    rintro w' ⟨s0, s1, s2, s3, s4, s5, s6⟩
    go_simp
    with_reducible rfl
   rotate_left
   ·
    simp only [Act.put, List.setIfInBounds_toArray, List.set_cons_zero, List.set_cons_succ, i64_w, i32_w]
    rfl
   refine pure_ (i := 8) (N := some 21) (v := ?_) (a' := ?_) A7_14 rfl rfl (any_of HT_.out (by kernel_rfl)) (fun _ _ _ h => h) (Or.inl ⟨by rfl, ?_⟩) ?_ ?_
   (rotate_left; (intro w'; go_simp; with_reducible rfl); rotate_left; (simp only [Act.put, List.setIfInBounds_toArray, List.set_cons_zero, List.set_cons_succ, i64_w, i32_w]; rfl))
   refine take_ (i := 13) (N := some 26) (v := ?_) (a' := ?_) A7_15 rfl rfl (take_ofW HT_.out HW_.out (by kernel_rfl)) (fun _ _ _ h => h) (Or.inl ⟨by rfl, ?_⟩) hHeld ?_ ?_
   rotate_left
   ·
    rintro w' ⟨s0, s1, s2, s3, s4, s5, s6⟩
    go_simp
    with_reducible rfl
   rotate_left
   ·
    simp only [Act.put, List.setIfInBounds_toArray, List.set_cons_zero, List.set_cons_succ, i64_w, i32_w]
    rfl
   refine pure_ (i := 15) (N := some 28) (v := ?_) (a' := ?_) A7_16 rfl rfl (any_of HT_.out (by kernel_rfl)) (fun _ _ _ h => h) (Or.inl ⟨by rfl, ?_⟩) ?_ ?_
   (rotate_left; (intro w'; go_simp; with_reducible rfl); rotate_left; (simp only [Act.put, List.setIfInBounds_toArray, List.set_cons_zero, List.set_cons_succ, i64_w, i32_w]; rfl))
   refine pure_ (i := 16) (N := some 29) (v := ?_) (a' := ?_) A7_17 rfl rfl (any_of HT_.out (by kernel_rfl)) (fun _ _ _ h => h) (Or.inl ⟨by rfl, ?_⟩) ?_ ?_
   (rotate_left; (intro w'; go_simp; with_reducible rfl); rotate_left; (simp only [Act.put, List.setIfInBounds_toArray, List.set_cons_zero, List.set_cons_succ, i64_w, i32_w]; rfl))
   refine pure_ (i := 17) (N := some 30) (v := ?_) (a' := ?_) A7_18 rfl rfl (any_of HT_.out (by kernel_rfl)) (fun _ _ _ h => h) (Or.inl ⟨by rfl, ?_⟩) ?_ ?_
   (rotate_left; (intro w'; go_simp; with_reducible rfl); rotate_left; (simp only [Act.put, List.setIfInBounds_toArray, List.set_cons_zero, List.set_cons_succ, i64_w, i32_w]; rfl))
   refine pure_ (i := 18) (N := some 31) (v := ?_) (a' := ?_) A7_19 rfl rfl (any_of HT_.out (by kernel_rfl)) (fun _ _ _ h => h) (Or.inl ⟨by rfl, ?_⟩) ?_ ?_
   (rotate_left; (intro w'; go_simp; with_reducible rfl); rotate_left; (simp only [Act.put, List.setIfInBounds_toArray, List.set_cons_zero, List.set_cons_succ, i64_w, i32_w]; rfl))
   refine last_ (i := 19) (N := none) A7_20 rfl rfl (one_of HT_.out (by kernel_rfl)) (by decide) (fun K hK => ?_)
   have hs21 := (by obtain ⟨HG_, hg_⟩ := HI0.out; exact cellS55_0 HG_ : w20.cell? ⟨g, 0, none⟩ = some _)
   have hfs21 := (by obtain ⟨HG_, hg_⟩ := HI0.out; exact blk_frozen HG_ 0 : w20.frozen? ⟨g, 0, none⟩ = false)
   refine skip_ (w1 := ?_) (by rfl) rfl ?_ ?_
   rotate_left
   ·
    go_simp
    rfl
   refine hK.out _ _ ?_
   clear hK K
   refine pure_ (i := 20) (N := some 32) (v := ?_) (a' := ?_) A7_21 rfl rfl (any_of HT_.out (by kernel_rfl)) (fun _ _ _ h => h) (Or.inl ⟨by rfl, ?_⟩) ?_ ?_
   (rotate_left; (intro w'; go_simp; with_reducible rfl); rotate_left; (simp only [Act.put, List.setIfInBounds_toArray, List.set_cons_zero, List.set_cons_succ, i64_w, i32_w]; rfl))
   refine pure_ (i := 21) (N := some 33) (v := ?_) (a' := ?_) A7_22 rfl rfl (any_of HT_.out (by kernel_rfl)) (fun _ _ _ h => h) (Or.inl ⟨by rfl, ?_⟩) ?_ ?_
   (rotate_left; (intro w'; go_simp; with_reducible rfl); rotate_left; (simp only [Act.put, List.setIfInBounds_toArray, List.set_cons_zero, List.set_cons_succ, i64_w, i32_w]; rfl))
   refine pure_ (i := 22) (N := some 34) (v := ?_) (a' := ?_) A7_23 rfl rfl (any_of HT_.out (by kernel_rfl)) (fun _ _ _ h => h) (Or.inl ⟨by rfl, ?_⟩) ?_ ?_
   (rotate_left; (intro w'; go_simp; with_reducible rfl); rotate_left; (simp only [Act.put, List.setIfInBounds_toArray, List.set_cons_zero, List.set_cons_succ, i64_w, i32_w]; rfl))
   refine last_ (i := 23) (N := none) A7_24 rfl rfl (one_of HT_.out (by kernel_rfl)) (by decide) (fun K hK => ?_)
   have hs22 := (by obtain ⟨HG_, hg_⟩ := HI0.out; exact cellS55_1 HG_ : w20.cell? ⟨g, 1, none⟩ = some _)
   have hfs22 := (by obtain ⟨HG_, hg_⟩ := HI0.out; exact blk_frozen HG_ 1 : w20.frozen? ⟨g, 1, none⟩ = false)
   refine skip_ (w1 := ?_) (by rfl) rfl ?_ ?_
   rotate_left
   ·
    go_simp
    rfl
   refine hK.out _ _ ?_
   clear hK K
   refine done_ (done_of HT_.out (by kernel_rfl)) ?_
   try go_wp2
   have n0_ : Aside0 (IsS55 w0 ((w20.setCell ⟨g, 0, none⟩ (.int .i64 (wrap64 (s0_0 + t241)))).setCell ⟨g, 1, none⟩ (.int .i64 (wrap64 (s0_1 + t242)))) g (wrap64 (s0_0 + t241)) (wrap64 (s0_1 + t242)) s0_2 s0_3 s0_4 s0_5 false) := ⟨by repeat (first | (with_reducible first | exact HI0.out | apply IsS55.alloc | apply IsS55.drewN | apply IsS55.drew | apply IsS55.set_0 | apply IsS55.set_1 | apply IsS55.set_2 | apply IsS55.set_3 | apply IsS55.set_4 | apply IsS55.set_5 | apply IsS55.set_6) | exact HI0.out)⟩
   have n1_ : Aside0 (KeepBut w ((w20.setCell ⟨g, 0, none⟩ (.int .i64 (wrap64 (s0_0 + t241)))).setCell ⟨g, 1, none⟩ (.int .i64 (wrap64 (s0_1 + t242)))) g none) := ⟨by repeat (first | (with_reducible first | exact HK.out | apply KeepBut.set_ | apply keep_drewN | apply keep_drew | apply keep_alloc) | exact HK.out)⟩
   have n2_ : Aside0 (Below w0.heap.size w0 ((w20.setCell ⟨g, 0, none⟩ (.int .i64 (wrap64 (s0_0 + t241)))).setCell ⟨g, 1, none⟩ (.int .i64 (wrap64 (s0_1 + t242))))) := ⟨by repeat (first | (with_reducible first | exact HB.out | apply ba | apply bn | apply bd | refine bt ?_ (IsS55.ge HI0.out)) | exact HB.out)⟩
   (try (have hsd_ : ∀ (W_ : World) (n_ : Nat) (a_ : Addr) (v_ : Value), (W_.drewN n_).setCell a_ v_ = (W_.setCell a_ v_).drewN n_ := fun _ _ _ _ => rfl); simp only [hsd_]; clear hsd_)
   (try clear HI0)
   (try clear HK)
   (try clear HB)
   generalize ((w20.setCell ⟨g, 0, none⟩ (.int .i64 (wrap64 (s0_0 + t241)))).setCell ⟨g, 1, none⟩ (.int .i64 (wrap64 (s0_1 + t242)))) = w23 at n0_ n1_ n2_ ⊢
   have HI0 := n0_
   have HK := n1_
   have HB := n2_
   clear n0_ n1_ n2_
   have n0_ := Aside0.mk (IsS55.drew HI0.out)
   have n1_ := Aside0.mk (keep_drew HK.out)
   have n2_ := Aside0.mk (below_drew1 HB.out)
   clear HI0
   clear HK
   clear HB
   have HI0 := n0_
   have HK := n1_
   have HB := n2_
   clear n0_ n1_ n2_
   refine start_ (n := 17) (S := fun w' => w'.cell? ⟨g, 0, none⟩ = some (.int .i64 (wrap64 (s0_0 + t241))) ∧ w'.cell? ⟨g, 1, none⟩ = some (.int .i64 (wrap64 (s0_1 + t242))) ∧ w'.cell? ⟨g, 2, none⟩ = some (.int .i64 s0_2) ∧ w'.cell? ⟨g, 3, none⟩ = some (.int .i64 s0_3) ∧ w'.cell? ⟨g, 4, none⟩ = some (.int .i64 s0_4) ∧ w'.cell? ⟨g, 5, none⟩ = some (.int .i64 s0_5) ∧ w'.cell? ⟨g, 6, none⟩ = some (.bool false)) (ds := [16]) A7_25 (by kernel_rfl) rfl rfl ⟨(by obtain ⟨HG_, hg_⟩ := HI0.out; exact cellS55_0 HG_), (by obtain ⟨HG_, hg_⟩ := HI0.out; exact cellS55_1 HG_), (by obtain ⟨HG_, hg_⟩ := HI0.out; exact cellS55_2 HG_), (by obtain ⟨HG_, hg_⟩ := HI0.out; exact cellS55_3 HG_), (by obtain ⟨HG_, hg_⟩ := HI0.out; exact cellS55_4 HG_), (by obtain ⟨HG_, hg_⟩ := HI0.out; exact cellS55_5 HG_), (by obtain ⟨HG_, hg_⟩ := HI0.out; exact cellS55_6 HG_)⟩ (fun hHeld => ?_); refine with_tabW impl_flight_step.tab2 impl_flight_step.bits2 (fun HT_ HW_ => ?_)
   generalize w23.drew = w24 at HI0 HK HB hHeld ⊢
   refine pure_ (i := 0) (N := some 35) (v := ?_) (a' := ?_) A7_26 rfl rfl (any_of HT_.out (by kernel_rfl)) (fun _ _ _ h => h) (Or.inl ⟨by rfl, ?_⟩) ?_ ?_
   (rotate_left; (intro w'; go_simp; with_reducible rfl); rotate_left; (simp only [Act.put, List.setIfInBounds_toArray, List.set_cons_zero, List.set_cons_succ, i64_w, i32_w]; rfl))
   refine pure_ (i := 1) (N := some 36) (v := ?_) (a' := ?_) A7_27 rfl rfl (any_of HT_.out (by kernel_rfl)) (fun _ _ _ h => h) (Or.inl ⟨by rfl, ?_⟩) ?_ ?_
   (rotate_left; (intro w'; go_simp; with_reducible rfl); rotate_left; (simp only [Act.put, List.setIfInBounds_toArray, List.set_cons_zero, List.set_cons_succ, i64_w, i32_w]; rfl))
   refine pure_ (i := 2) (N := some 37) (v := ?_) (a' := ?_) A7_28 rfl rfl (any_of HT_.out (by kernel_rfl)) (fun _ _ _ h => h) (Or.inl ⟨by rfl, ?_⟩) ?_ ?_
   (rotate_left; (intro w'; go_simp; with_reducible rfl); rotate_left; (simp only [Act.put, List.setIfInBounds_toArray, List.set_cons_zero, List.set_cons_succ, i64_w, i32_w]; rfl))
   refine pure_ (i := 3) (N := some 38) (v := ?_) (a' := ?_) A7_29 rfl rfl (any_of HT_.out (by kernel_rfl)) (fun _ _ _ h => h) (Or.inl ⟨by rfl, ?_⟩) ?_ ?_
   (rotate_left; (intro w'; go_simp; with_reducible rfl); rotate_left; (simp only [Act.put, List.setIfInBounds_toArray, List.set_cons_zero, List.set_cons_succ, i64_w, i32_w]; rfl))
   refine pure_ (i := 4) (N := some 39) (v := ?_) (a' := ?_) A7_30 rfl rfl (any_of HT_.out (by kernel_rfl)) (fun _ _ _ h => h) (Or.inl ⟨by rfl, ?_⟩) ?_ ?_
   (rotate_left; (intro w'; go_simp; with_reducible rfl); rotate_left; (simp only [Act.put, List.setIfInBounds_toArray, List.set_cons_zero, List.set_cons_succ, i64_w, i32_w]; rfl))
   refine pure_ (i := 6) (N := some 41) (v := ?_) (a' := ?_) A7_31 rfl rfl (any_of HT_.out (by kernel_rfl)) (fun _ _ _ h => h) (Or.inl ⟨by rfl, ?_⟩) ?_ ?_
   (rotate_left; (intro w'; go_simp; with_reducible rfl); rotate_left; (simp only [Act.put, List.setIfInBounds_toArray, List.set_cons_zero, List.set_cons_succ, i64_w, i32_w]; rfl))
   refine pure_ (i := 7) (N := some 42) (v := ?_) (a' := ?_) A7_32 rfl rfl (any_of HT_.out (by kernel_rfl)) (fun _ _ _ h => h) (Or.inl ⟨by rfl, ?_⟩) ?_ ?_
   (rotate_left; (intro w'; go_simp; with_reducible rfl); rotate_left; (simp only [Act.put, List.setIfInBounds_toArray, List.set_cons_zero, List.set_cons_succ, i64_w, i32_w]; rfl))
   refine pure_ (i := 8) (N := some 43) (v := ?_) (a' := ?_) A7_33 rfl rfl (any_of HT_.out (by kernel_rfl)) (fun _ _ _ h => h) (Or.inl ⟨by rfl, ?_⟩) ?_ ?_
   (rotate_left; (intro w'; go_simp; with_reducible rfl); rotate_left; (simp only [Act.put, List.setIfInBounds_toArray, List.set_cons_zero, List.set_cons_succ, i64_w, i32_w]; rfl))
   refine pure_ (i := 9) (N := some 44) (v := ?_) (a' := ?_) A7_34 rfl rfl (any_of HT_.out (by kernel_rfl)) (fun _ _ _ h => h) (Or.inl ⟨by rfl, ?_⟩) ?_ ?_
   (rotate_left; (intro w'; go_simp; with_reducible rfl); rotate_left; (simp only [Act.put, List.setIfInBounds_toArray, List.set_cons_zero, List.set_cons_succ, i64_w, i32_w]; rfl))
   refine take_ (i := 5) (N := some 40) (v := ?_) (a' := ?_) A7_35 rfl rfl (take_ofW HT_.out HW_.out (by kernel_rfl)) (fun _ _ _ h => h) (Or.inl ⟨by rfl, ?_⟩) hHeld ?_ ?_
   rotate_left
   ·
    rintro w' ⟨s0, s1, s2, s3, s4, s5, s6⟩
    go_simp
    with_reducible rfl
   rotate_left
   ·
    simp only [Act.put, List.setIfInBounds_toArray, List.set_cons_zero, List.set_cons_succ, i64_w, i32_w]
    rfl
   refine take_ (i := 10) (N := some 45) (v := ?_) (a' := ?_) A7_36 rfl rfl (take_ofW HT_.out HW_.out (by kernel_rfl)) (fun _ _ _ h => h) (Or.inl ⟨by rfl, ?_⟩) hHeld ?_ ?_
   rotate_left
   ·
    rintro w' ⟨s0, s1, s2, s3, s4, s5, s6⟩
    go_simp
    with_reducible rfl
   rotate_left
   ·
    simp only [Act.put, List.setIfInBounds_toArray, List.set_cons_zero, List.set_cons_succ, i64_w, i32_w]
    rfl
   refine pure_ (i := 11) (N := some 46) (v := ?_) (a' := ?_) A7_37 rfl rfl (any_of HT_.out (by kernel_rfl)) (fun _ _ _ h => h) (Or.inl ⟨by rfl, ?_⟩) ?_ ?_
   (rotate_left; (intro w'; go_simp; with_reducible rfl); rotate_left; (simp only [Act.put, List.setIfInBounds_toArray, List.set_cons_zero, List.set_cons_succ, i64_w, i32_w]; rfl))
   refine one_ (i := 12) (N := some 47) A7_38 rfl rfl (one_of HT_.out (by kernel_rfl)) (by decide) (fun K hK => ?_)
   refine goes_ Try.func41 (by kernel_rfl) rfl #[.int .i64 (wrap64 (s0_3 + s0_4)), .int .i64 0, .int .i64 2000] (by rfl) rfl rfl (by (try simp only [List.map_toArray, List.map_cons, List.map_nil]); first | done | rfl) ?_
   with_reducible refine (impl_held.calls (wrap64 (s0_3 + s0_4)) 0 2000 t243 _ A3.out).mono ?_
   rintro e w25 ⟨rfl, hb⟩
   refine ⟨_, rfl, ?_⟩
   have n0_ := Aside0.mk (IsS55.below (by repeat (first | (with_reducible first | exact HI0.out | apply IsS55.alloc | apply IsS55.drewN | apply IsS55.drew | apply IsS55.set_0 | apply IsS55.set_1 | apply IsS55.set_2 | apply IsS55.set_3 | apply IsS55.set_4 | apply IsS55.set_5 | apply IsS55.set_6) | exact HI0.out)) hb)
   have n1_ := Aside0.mk (KeepBut.trans (by repeat (first | (with_reducible first | exact HK.out | apply KeepBut.set_ | apply keep_drewN | apply keep_drew | apply keep_alloc) | exact HK.out)) (KeepBut.of_below hb g none) (.inl rfl))
   have n2_ := Aside0.mk (below_step (by repeat (first | (with_reducible first | exact HB.out | apply ba | apply bn | apply bd | refine bt ?_ (IsS55.ge HI0.out)) | exact HB.out)) hb)
   clear HI0
   clear HK
   clear HB
   have HI0 := n0_
   have HK := n1_
   have HB := n2_
   clear n0_ n1_ n2_
   (try clear hb)
   (try clear hb2)
   (try clear hk)
   (try clear hi)
   refine hK.out _ _ ⟨(by obtain ⟨HG_, hg_⟩ := HI0.out; exact cellS55_0 HG_), (by obtain ⟨HG_, hg_⟩ := HI0.out; exact cellS55_1 HG_), (by obtain ⟨HG_, hg_⟩ := HI0.out; exact cellS55_2 HG_), (by obtain ⟨HG_, hg_⟩ := HI0.out; exact cellS55_3 HG_), (by obtain ⟨HG_, hg_⟩ := HI0.out; exact cellS55_4 HG_), (by obtain ⟨HG_, hg_⟩ := HI0.out; exact cellS55_5 HG_), (by obtain ⟨HG_, hg_⟩ := HI0.out; exact cellS55_6 HG_)⟩ (fun hHeld => ?_)
   clear hK K
   refine norm_ (a' := ?_) ?_ ?_
   rotate_left
   ·
    show Act.put _ (some 47) _ = _
    simp only [Act.put, List.setIfInBounds_toArray, List.set_cons_zero, List.set_cons_succ, i64_w, i32_w]
    rfl
   refine pure_ (i := 13) (N := some 48) (v := ?_) (a' := ?_) A7_39 rfl rfl (any_of HT_.out (by kernel_rfl)) (fun _ _ _ h => h) (Or.inl ⟨by rfl, ?_⟩) ?_ ?_
   (rotate_left; (intro w'; go_simp; with_reducible rfl); rotate_left; (simp only [Act.put, List.setIfInBounds_toArray, List.set_cons_zero, List.set_cons_succ, i64_w, i32_w]; rfl))
   refine pure_ (i := 14) (N := some 49) (v := ?_) (a' := ?_) A7_40 rfl rfl (any_of HT_.out (by kernel_rfl)) (fun _ _ _ h => h) (Or.inl ⟨by rfl, ?_⟩) ?_ ?_
   (rotate_left; (intro w'; go_simp; with_reducible rfl); rotate_left; (simp only [Act.put, List.setIfInBounds_toArray, List.set_cons_zero, List.set_cons_succ, i64_w, i32_w]; rfl))
   refine pure_ (i := 15) (N := some 50) (v := ?_) (a' := ?_) A7_41 rfl rfl (any_of HT_.out (by kernel_rfl)) (fun _ _ _ h => h) (Or.inl ⟨by rfl, ?_⟩) ?_ ?_
   (rotate_left; (intro w'; go_simp; with_reducible rfl); rotate_left; (simp only [Act.put, List.setIfInBounds_toArray, List.set_cons_zero, List.set_cons_succ, i64_w, i32_w]; rfl))
   refine last_ (i := 16) (N := none) A7_42 rfl rfl (one_of HT_.out (by kernel_rfl)) (by decide) (fun K hK => ?_)
   have hs26 := (by obtain ⟨HG_, hg_⟩ := HI0.out; exact cellS55_3 HG_ : w25.cell? ⟨g, 3, none⟩ = some _)
   have hfs26 := (by obtain ⟨HG_, hg_⟩ := HI0.out; exact blk_frozen HG_ 3 : w25.frozen? ⟨g, 3, none⟩ = false)
   refine skip_ (w1 := ?_) (by rfl) rfl ?_ ?_
   rotate_left
   ·
    go_simp
    rfl
   refine hK.out _ _ ?_
   clear hK K
   refine done_ (done_of HT_.out (by kernel_rfl)) ?_
   obtain ⟨HGz27, hgz27⟩ := HI0.out
   have hcz27_0 := cellS55_0 HGz27
   have hcz27_1 := cellS55_1 HGz27
   have hcz27_2 := cellS55_2 HGz27
   have hcz27_3 := cellS55_3 HGz27
   have hcz27_4 := cellS55_4 HGz27
   have hcz27_5 := cellS55_5 HGz27
   have hcz27_6 := cellS55_6 HGz27
   have hfz27_0 := blk_frozen HGz27 0
   have hfz27_1 := blk_frozen HGz27 1
   have hfz27_2 := blk_frozen HGz27 2
   have hfz27_3 := blk_frozen HGz27 3
   have hfz27_4 := blk_frozen HGz27 4
   have hfz27_5 := blk_frozen HGz27 5
   have hfz27_6 := blk_frozen HGz27 6
   clear HGz27 hgz27
   try go_wp2_with (first | (go_at_call 26; (with_reducible refine (impl_in.calls (wrap64 (s0_0 + t241)) (-1000) 1000 true _ A15.out).mono ?_); rintro e w' ⟨rfl, ⟨nd, rfl⟩⟩) | (go_at_call 26; (with_reducible refine (impl_in.calls (wrap64 (s0_1 + t242)) (-1000) 1000 t245 _ A17.out).mono ?_); rintro e w' ⟨rfl, ⟨nd, rfl⟩⟩))
   first | go_end0 | ((try simp only [Exit.inBlock, Exit.then]); refine bodyPost_ret (results_none rfl _ _ _) rfl ?_)
   exact ⟨by first | rfl | (simp [errW_none, errW_some] <;> rfl) | (simp [*, errW_none, errW_some] <;> rfl), by repeat (first | (with_reducible first | exact HI0.out | apply IsS55.alloc | apply IsS55.drewN | apply IsS55.drew | apply IsS55.set_0 | apply IsS55.set_1 | apply IsS55.set_2 | apply IsS55.set_3 | apply IsS55.set_4 | apply IsS55.set_5 | apply IsS55.set_6) | exact HI0.out), by repeat (first | (with_reducible first | exact HB.out | apply ba | apply bn | apply bd | refine bt ?_ (IsS55.ge HI0.out)) | exact HB.out), by repeat (first | (with_reducible first | exact HK.out | apply KeepBut.set_ | apply keep_drewN | apply keep_drew | apply keep_alloc) | exact HK.out)⟩
  ·
   replace c16 := Bool.eq_false_iff.mpr c16
   subst c16
   have H1 : (some (wrap64 (s0_0 + t241), wrap64 (s0_1 + t242), s0_2, t243, s0_4, wrap64 (s0_5 + 1), true)) = some (r1, r2, r3, r4, r5, r6, r7) := by rw [if_neg (show ¬ (false = true) by decide)] at H; exact H
   clear H
   have H := H1
   clear H1
   simp only [Option.some.injEq, Prod.mk.injEq] at H
   obtain ⟨rfl, rfl, rfl, rfl, rfl, rfl, rfl⟩ := H
   obtain ⟨HGz28, hgz28⟩ := HI0.out
   have hcz28_0 := cellS55_0 HGz28
   have hcz28_1 := cellS55_1 HGz28
   have hcz28_2 := cellS55_2 HGz28
   have hcz28_3 := cellS55_3 HGz28
   have hcz28_4 := cellS55_4 HGz28
   have hcz28_5 := cellS55_5 HGz28
   have hcz28_6 := cellS55_6 HGz28
   have hfz28_0 := blk_frozen HGz28 0
   have hfz28_1 := blk_frozen HGz28 1
   have hfz28_2 := blk_frozen HGz28 2
   have hfz28_3 := blk_frozen HGz28 3
   have hfz28_4 := blk_frozen HGz28 4
   have hfz28_5 := blk_frozen HGz28 5
   have hfz28_6 := blk_frozen HGz28 6
   clear HGz28 hgz28
   go_enter Try.func36, Try.ntmps36
   try go_wp2_with (first | ((with_reducible refine gate_callee (f := 40) rfl ?_); refine goesL_ (some 10) rfl rfl Try.func40 (by kernel_rfl) rfl #[.int .i64 s0_2] rfl (by (try simp only [List.map_toArray, List.map_cons, List.map_nil]); first | done | rfl) ?_; (with_reducible refine (impl_way.calls s0_2 t241 t242 _ A2.out).mono ?_); rintro e w29 ⟨rfl, hb⟩; refine ⟨_, rfl, ?_⟩; have n0_ := Aside0.mk (IsS55.below (by repeat (first | (with_reducible first | exact HI0.out | apply IsS55.alloc | apply IsS55.drewN | apply IsS55.drew | apply IsS55.set_0 | apply IsS55.set_1 | apply IsS55.set_2 | apply IsS55.set_3 | apply IsS55.set_4 | apply IsS55.set_5 | apply IsS55.set_6) | exact HI0.out)) hb); have n1_ := Aside0.mk (KeepBut.trans (by repeat (first | (with_reducible first | exact HK.out | apply KeepBut.set_ | apply keep_drewN | apply keep_drew | apply keep_alloc) | exact HK.out)) (KeepBut.of_below hb g none) (.inl rfl)); have n2_ := Aside0.mk (below_step (by repeat (first | (with_reducible first | exact HB.out | apply ba | apply bn | apply bd | refine bt ?_ (IsS55.ge HI0.out)) | exact HB.out)) hb); clear HI0; clear HK; clear HB; have HI0 := n0_; have HK := n1_; have HB := n2_; clear n0_ n1_ n2_; (try clear hb); (try clear hb2); (try clear hk); (try clear hi)))
   have n0_ := Aside0.mk (IsS55.drew HI0.out)
   have n1_ := Aside0.mk (keep_drew HK.out)
   have n2_ := Aside0.mk (below_drew1 HB.out)
   clear HI0
   clear HK
   clear HB
   have HI0 := n0_
   have HK := n1_
   have HB := n2_
   clear n0_ n1_ n2_
   refine start_ (n := 24) (S := fun w' => w'.cell? ⟨g, 0, none⟩ = some (.int .i64 s0_0) ∧ w'.cell? ⟨g, 1, none⟩ = some (.int .i64 s0_1) ∧ w'.cell? ⟨g, 2, none⟩ = some (.int .i64 s0_2) ∧ w'.cell? ⟨g, 3, none⟩ = some (.int .i64 s0_3) ∧ w'.cell? ⟨g, 4, none⟩ = some (.int .i64 s0_4) ∧ w'.cell? ⟨g, 5, none⟩ = some (.int .i64 s0_5) ∧ w'.cell? ⟨g, 6, none⟩ = some (.bool false)) (ds := [19, 23]) A7_0 (by kernel_rfl) rfl rfl ⟨(by obtain ⟨HG_, hg_⟩ := HI0.out; exact cellS55_0 HG_), (by obtain ⟨HG_, hg_⟩ := HI0.out; exact cellS55_1 HG_), (by obtain ⟨HG_, hg_⟩ := HI0.out; exact cellS55_2 HG_), (by obtain ⟨HG_, hg_⟩ := HI0.out; exact cellS55_3 HG_), (by obtain ⟨HG_, hg_⟩ := HI0.out; exact cellS55_4 HG_), (by obtain ⟨HG_, hg_⟩ := HI0.out; exact cellS55_5 HG_), (by obtain ⟨HG_, hg_⟩ := HI0.out; exact cellS55_6 HG_)⟩ (fun hHeld => ?_); refine with_tabW impl_flight_step.tab1 impl_flight_step.bits1 (fun HT_ HW_ => ?_)
   generalize w29.drew = w30 at HI0 HK HB hHeld ⊢
   refine pure_ (i := 0) (N := some 13) (v := ?_) (a' := ?_) A7_1 rfl rfl (any_of HT_.out (by kernel_rfl)) (fun _ _ _ h => h) (Or.inl ⟨by rfl, ?_⟩) ?_ ?_
   (rotate_left; (intro w'; go_simp; with_reducible rfl); rotate_left; (simp only [Act.put, List.setIfInBounds_toArray, List.set_cons_zero, List.set_cons_succ, i64_w, i32_w]; rfl))
   refine pure_ (i := 1) (N := some 14) (v := ?_) (a' := ?_) A7_2 rfl rfl (any_of HT_.out (by kernel_rfl)) (fun _ _ _ h => h) (Or.inl ⟨by rfl, ?_⟩) ?_ ?_
   (rotate_left; (intro w'; go_simp; with_reducible rfl); rotate_left; (simp only [Act.put, List.setIfInBounds_toArray, List.set_cons_zero, List.set_cons_succ, i64_w, i32_w]; rfl))
   refine pure_ (i := 2) (N := some 15) (v := ?_) (a' := ?_) A7_3 rfl rfl (any_of HT_.out (by kernel_rfl)) (fun _ _ _ h => h) (Or.inl ⟨by rfl, ?_⟩) ?_ ?_
   (rotate_left; (intro w'; go_simp; with_reducible rfl); rotate_left; (simp only [Act.put, List.setIfInBounds_toArray, List.set_cons_zero, List.set_cons_succ, i64_w, i32_w]; rfl))
   refine pure_ (i := 3) (N := some 16) (v := ?_) (a' := ?_) A7_4 rfl rfl (any_of HT_.out (by kernel_rfl)) (fun _ _ _ h => h) (Or.inl ⟨by rfl, ?_⟩) ?_ ?_
   (rotate_left; (intro w'; go_simp; with_reducible rfl); rotate_left; (simp only [Act.put, List.setIfInBounds_toArray, List.set_cons_zero, List.set_cons_succ, i64_w, i32_w]; rfl))
   refine pure_ (i := 4) (N := some 17) (v := ?_) (a' := ?_) A7_5 rfl rfl (any_of HT_.out (by kernel_rfl)) (fun _ _ _ h => h) (Or.inl ⟨by rfl, ?_⟩) ?_ ?_
   (rotate_left; (intro w'; go_simp; with_reducible rfl); rotate_left; (simp only [Act.put, List.setIfInBounds_toArray, List.set_cons_zero, List.set_cons_succ, i64_w, i32_w]; rfl))
   refine pure_ (i := 5) (N := some 18) (v := ?_) (a' := ?_) A7_6 rfl rfl (any_of HT_.out (by kernel_rfl)) (fun _ _ _ h => h) (Or.inl ⟨by rfl, ?_⟩) ?_ ?_
   (rotate_left; (intro w'; go_simp; with_reducible rfl); rotate_left; (simp only [Act.put, List.setIfInBounds_toArray, List.set_cons_zero, List.set_cons_succ, i64_w, i32_w]; rfl))
   refine pure_ (i := 7) (N := some 20) (v := ?_) (a' := ?_) A7_7 rfl rfl (any_of HT_.out (by kernel_rfl)) (fun _ _ _ h => h) (Or.inl ⟨by rfl, ?_⟩) ?_ ?_
   (rotate_left; (intro w'; go_simp; with_reducible rfl); rotate_left; (simp only [Act.put, List.setIfInBounds_toArray, List.set_cons_zero, List.set_cons_succ, i64_w, i32_w]; rfl))
   refine pure_ (i := 9) (N := some 22) (v := ?_) (a' := ?_) A7_8 rfl rfl (any_of HT_.out (by kernel_rfl)) (fun _ _ _ h => h) (Or.inl ⟨by rfl, ?_⟩) ?_ ?_
   (rotate_left; (intro w'; go_simp; with_reducible rfl); rotate_left; (simp only [Act.put, List.setIfInBounds_toArray, List.set_cons_zero, List.set_cons_succ, i64_w, i32_w]; rfl))
   refine pure_ (i := 10) (N := some 23) (v := ?_) (a' := ?_) A7_9 rfl rfl (any_of HT_.out (by kernel_rfl)) (fun _ _ _ h => h) (Or.inl ⟨by rfl, ?_⟩) ?_ ?_
   (rotate_left; (intro w'; go_simp; with_reducible rfl); rotate_left; (simp only [Act.put, List.setIfInBounds_toArray, List.set_cons_zero, List.set_cons_succ, i64_w, i32_w]; rfl))
   refine pure_ (i := 11) (N := some 24) (v := ?_) (a' := ?_) A7_10 rfl rfl (any_of HT_.out (by kernel_rfl)) (fun _ _ _ h => h) (Or.inl ⟨by rfl, ?_⟩) ?_ ?_
   (rotate_left; (intro w'; go_simp; with_reducible rfl); rotate_left; (simp only [Act.put, List.setIfInBounds_toArray, List.set_cons_zero, List.set_cons_succ, i64_w, i32_w]; rfl))
   refine pure_ (i := 12) (N := some 25) (v := ?_) (a' := ?_) A7_11 rfl rfl (any_of HT_.out (by kernel_rfl)) (fun _ _ _ h => h) (Or.inl ⟨by rfl, ?_⟩) ?_ ?_
   (rotate_left; (intro w'; go_simp; with_reducible rfl); rotate_left; (simp only [Act.put, List.setIfInBounds_toArray, List.set_cons_zero, List.set_cons_succ, i64_w, i32_w]; rfl))
   refine pure_ (i := 14) (N := some 27) (v := ?_) (a' := ?_) A7_12 rfl rfl (any_of HT_.out (by kernel_rfl)) (fun _ _ _ h => h) (Or.inl ⟨by rfl, ?_⟩) ?_ ?_
   (rotate_left; (intro w'; go_simp; with_reducible rfl); rotate_left; (simp only [Act.put, List.setIfInBounds_toArray, List.set_cons_zero, List.set_cons_succ, i64_w, i32_w]; rfl))
   refine take_ (i := 6) (N := some 19) (v := ?_) (a' := ?_) A7_13 rfl rfl (take_ofW HT_.out HW_.out (by kernel_rfl)) (fun _ _ _ h => h) (Or.inl ⟨by rfl, ?_⟩) hHeld ?_ ?_
   rotate_left
   ·
    rintro w' ⟨s0, s1, s2, s3, s4, s5, s6⟩
    go_simp
    with_reducible rfl
   rotate_left
   ·
    simp only [Act.put, List.setIfInBounds_toArray, List.set_cons_zero, List.set_cons_succ, i64_w, i32_w]
    rfl
   refine pure_ (i := 8) (N := some 21) (v := ?_) (a' := ?_) A7_14 rfl rfl (any_of HT_.out (by kernel_rfl)) (fun _ _ _ h => h) (Or.inl ⟨by rfl, ?_⟩) ?_ ?_
   (rotate_left; (intro w'; go_simp; with_reducible rfl); rotate_left; (simp only [Act.put, List.setIfInBounds_toArray, List.set_cons_zero, List.set_cons_succ, i64_w, i32_w]; rfl))
   refine take_ (i := 13) (N := some 26) (v := ?_) (a' := ?_) A7_15 rfl rfl (take_ofW HT_.out HW_.out (by kernel_rfl)) (fun _ _ _ h => h) (Or.inl ⟨by rfl, ?_⟩) hHeld ?_ ?_
   rotate_left
   ·
    rintro w' ⟨s0, s1, s2, s3, s4, s5, s6⟩
    go_simp
    with_reducible rfl
   rotate_left
   ·
    simp only [Act.put, List.setIfInBounds_toArray, List.set_cons_zero, List.set_cons_succ, i64_w, i32_w]
    rfl
   refine pure_ (i := 15) (N := some 28) (v := ?_) (a' := ?_) A7_16 rfl rfl (any_of HT_.out (by kernel_rfl)) (fun _ _ _ h => h) (Or.inl ⟨by rfl, ?_⟩) ?_ ?_
   (rotate_left; (intro w'; go_simp; with_reducible rfl); rotate_left; (simp only [Act.put, List.setIfInBounds_toArray, List.set_cons_zero, List.set_cons_succ, i64_w, i32_w]; rfl))
   refine pure_ (i := 16) (N := some 29) (v := ?_) (a' := ?_) A7_17 rfl rfl (any_of HT_.out (by kernel_rfl)) (fun _ _ _ h => h) (Or.inl ⟨by rfl, ?_⟩) ?_ ?_
   (rotate_left; (intro w'; go_simp; with_reducible rfl); rotate_left; (simp only [Act.put, List.setIfInBounds_toArray, List.set_cons_zero, List.set_cons_succ, i64_w, i32_w]; rfl))
   refine pure_ (i := 17) (N := some 30) (v := ?_) (a' := ?_) A7_18 rfl rfl (any_of HT_.out (by kernel_rfl)) (fun _ _ _ h => h) (Or.inl ⟨by rfl, ?_⟩) ?_ ?_
   (rotate_left; (intro w'; go_simp; with_reducible rfl); rotate_left; (simp only [Act.put, List.setIfInBounds_toArray, List.set_cons_zero, List.set_cons_succ, i64_w, i32_w]; rfl))
   refine pure_ (i := 18) (N := some 31) (v := ?_) (a' := ?_) A7_19 rfl rfl (any_of HT_.out (by kernel_rfl)) (fun _ _ _ h => h) (Or.inl ⟨by rfl, ?_⟩) ?_ ?_
   (rotate_left; (intro w'; go_simp; with_reducible rfl); rotate_left; (simp only [Act.put, List.setIfInBounds_toArray, List.set_cons_zero, List.set_cons_succ, i64_w, i32_w]; rfl))
   refine last_ (i := 19) (N := none) A7_20 rfl rfl (one_of HT_.out (by kernel_rfl)) (by decide) (fun K hK => ?_)
   have hs31 := (by obtain ⟨HG_, hg_⟩ := HI0.out; exact cellS55_0 HG_ : w30.cell? ⟨g, 0, none⟩ = some _)
   have hfs31 := (by obtain ⟨HG_, hg_⟩ := HI0.out; exact blk_frozen HG_ 0 : w30.frozen? ⟨g, 0, none⟩ = false)
   refine skip_ (w1 := ?_) (by rfl) rfl ?_ ?_
   rotate_left
   ·
    go_simp
    rfl
   refine hK.out _ _ ?_
   clear hK K
   refine pure_ (i := 20) (N := some 32) (v := ?_) (a' := ?_) A7_21 rfl rfl (any_of HT_.out (by kernel_rfl)) (fun _ _ _ h => h) (Or.inl ⟨by rfl, ?_⟩) ?_ ?_
   (rotate_left; (intro w'; go_simp; with_reducible rfl); rotate_left; (simp only [Act.put, List.setIfInBounds_toArray, List.set_cons_zero, List.set_cons_succ, i64_w, i32_w]; rfl))
   refine pure_ (i := 21) (N := some 33) (v := ?_) (a' := ?_) A7_22 rfl rfl (any_of HT_.out (by kernel_rfl)) (fun _ _ _ h => h) (Or.inl ⟨by rfl, ?_⟩) ?_ ?_
   (rotate_left; (intro w'; go_simp; with_reducible rfl); rotate_left; (simp only [Act.put, List.setIfInBounds_toArray, List.set_cons_zero, List.set_cons_succ, i64_w, i32_w]; rfl))
   refine pure_ (i := 22) (N := some 34) (v := ?_) (a' := ?_) A7_23 rfl rfl (any_of HT_.out (by kernel_rfl)) (fun _ _ _ h => h) (Or.inl ⟨by rfl, ?_⟩) ?_ ?_
   (rotate_left; (intro w'; go_simp; with_reducible rfl); rotate_left; (simp only [Act.put, List.setIfInBounds_toArray, List.set_cons_zero, List.set_cons_succ, i64_w, i32_w]; rfl))
   refine last_ (i := 23) (N := none) A7_24 rfl rfl (one_of HT_.out (by kernel_rfl)) (by decide) (fun K hK => ?_)
   have hs32 := (by obtain ⟨HG_, hg_⟩ := HI0.out; exact cellS55_1 HG_ : w30.cell? ⟨g, 1, none⟩ = some _)
   have hfs32 := (by obtain ⟨HG_, hg_⟩ := HI0.out; exact blk_frozen HG_ 1 : w30.frozen? ⟨g, 1, none⟩ = false)
   refine skip_ (w1 := ?_) (by rfl) rfl ?_ ?_
   rotate_left
   ·
    go_simp
    rfl
   refine hK.out _ _ ?_
   clear hK K
   refine done_ (done_of HT_.out (by kernel_rfl)) ?_
   try go_wp2
   have n0_ : Aside0 (IsS55 w0 ((w30.setCell ⟨g, 0, none⟩ (.int .i64 (wrap64 (s0_0 + t241)))).setCell ⟨g, 1, none⟩ (.int .i64 (wrap64 (s0_1 + t242)))) g (wrap64 (s0_0 + t241)) (wrap64 (s0_1 + t242)) s0_2 s0_3 s0_4 s0_5 false) := ⟨by repeat (first | (with_reducible first | exact HI0.out | apply IsS55.alloc | apply IsS55.drewN | apply IsS55.drew | apply IsS55.set_0 | apply IsS55.set_1 | apply IsS55.set_2 | apply IsS55.set_3 | apply IsS55.set_4 | apply IsS55.set_5 | apply IsS55.set_6) | exact HI0.out)⟩
   have n1_ : Aside0 (KeepBut w ((w30.setCell ⟨g, 0, none⟩ (.int .i64 (wrap64 (s0_0 + t241)))).setCell ⟨g, 1, none⟩ (.int .i64 (wrap64 (s0_1 + t242)))) g none) := ⟨by repeat (first | (with_reducible first | exact HK.out | apply KeepBut.set_ | apply keep_drewN | apply keep_drew | apply keep_alloc) | exact HK.out)⟩
   have n2_ : Aside0 (Below w0.heap.size w0 ((w30.setCell ⟨g, 0, none⟩ (.int .i64 (wrap64 (s0_0 + t241)))).setCell ⟨g, 1, none⟩ (.int .i64 (wrap64 (s0_1 + t242))))) := ⟨by repeat (first | (with_reducible first | exact HB.out | apply ba | apply bn | apply bd | refine bt ?_ (IsS55.ge HI0.out)) | exact HB.out)⟩
   (try (have hsd_ : ∀ (W_ : World) (n_ : Nat) (a_ : Addr) (v_ : Value), (W_.drewN n_).setCell a_ v_ = (W_.setCell a_ v_).drewN n_ := fun _ _ _ _ => rfl); simp only [hsd_]; clear hsd_)
   (try clear HI0)
   (try clear HK)
   (try clear HB)
   generalize ((w30.setCell ⟨g, 0, none⟩ (.int .i64 (wrap64 (s0_0 + t241)))).setCell ⟨g, 1, none⟩ (.int .i64 (wrap64 (s0_1 + t242)))) = w33 at n0_ n1_ n2_ ⊢
   have HI0 := n0_
   have HK := n1_
   have HB := n2_
   clear n0_ n1_ n2_
   have n0_ := Aside0.mk (IsS55.drew HI0.out)
   have n1_ := Aside0.mk (keep_drew HK.out)
   have n2_ := Aside0.mk (below_drew1 HB.out)
   clear HI0
   clear HK
   clear HB
   have HI0 := n0_
   have HK := n1_
   have HB := n2_
   clear n0_ n1_ n2_
   refine start_ (n := 17) (S := fun w' => w'.cell? ⟨g, 0, none⟩ = some (.int .i64 (wrap64 (s0_0 + t241))) ∧ w'.cell? ⟨g, 1, none⟩ = some (.int .i64 (wrap64 (s0_1 + t242))) ∧ w'.cell? ⟨g, 2, none⟩ = some (.int .i64 s0_2) ∧ w'.cell? ⟨g, 3, none⟩ = some (.int .i64 s0_3) ∧ w'.cell? ⟨g, 4, none⟩ = some (.int .i64 s0_4) ∧ w'.cell? ⟨g, 5, none⟩ = some (.int .i64 s0_5) ∧ w'.cell? ⟨g, 6, none⟩ = some (.bool false)) (ds := [16]) A7_25 (by kernel_rfl) rfl rfl ⟨(by obtain ⟨HG_, hg_⟩ := HI0.out; exact cellS55_0 HG_), (by obtain ⟨HG_, hg_⟩ := HI0.out; exact cellS55_1 HG_), (by obtain ⟨HG_, hg_⟩ := HI0.out; exact cellS55_2 HG_), (by obtain ⟨HG_, hg_⟩ := HI0.out; exact cellS55_3 HG_), (by obtain ⟨HG_, hg_⟩ := HI0.out; exact cellS55_4 HG_), (by obtain ⟨HG_, hg_⟩ := HI0.out; exact cellS55_5 HG_), (by obtain ⟨HG_, hg_⟩ := HI0.out; exact cellS55_6 HG_)⟩ (fun hHeld => ?_); refine with_tabW impl_flight_step.tab2 impl_flight_step.bits2 (fun HT_ HW_ => ?_)
   generalize w33.drew = w34 at HI0 HK HB hHeld ⊢
   refine pure_ (i := 0) (N := some 35) (v := ?_) (a' := ?_) A7_26 rfl rfl (any_of HT_.out (by kernel_rfl)) (fun _ _ _ h => h) (Or.inl ⟨by rfl, ?_⟩) ?_ ?_
   (rotate_left; (intro w'; go_simp; with_reducible rfl); rotate_left; (simp only [Act.put, List.setIfInBounds_toArray, List.set_cons_zero, List.set_cons_succ, i64_w, i32_w]; rfl))
   refine pure_ (i := 1) (N := some 36) (v := ?_) (a' := ?_) A7_27 rfl rfl (any_of HT_.out (by kernel_rfl)) (fun _ _ _ h => h) (Or.inl ⟨by rfl, ?_⟩) ?_ ?_
   (rotate_left; (intro w'; go_simp; with_reducible rfl); rotate_left; (simp only [Act.put, List.setIfInBounds_toArray, List.set_cons_zero, List.set_cons_succ, i64_w, i32_w]; rfl))
   refine pure_ (i := 2) (N := some 37) (v := ?_) (a' := ?_) A7_28 rfl rfl (any_of HT_.out (by kernel_rfl)) (fun _ _ _ h => h) (Or.inl ⟨by rfl, ?_⟩) ?_ ?_
   (rotate_left; (intro w'; go_simp; with_reducible rfl); rotate_left; (simp only [Act.put, List.setIfInBounds_toArray, List.set_cons_zero, List.set_cons_succ, i64_w, i32_w]; rfl))
   refine pure_ (i := 3) (N := some 38) (v := ?_) (a' := ?_) A7_29 rfl rfl (any_of HT_.out (by kernel_rfl)) (fun _ _ _ h => h) (Or.inl ⟨by rfl, ?_⟩) ?_ ?_
   (rotate_left; (intro w'; go_simp; with_reducible rfl); rotate_left; (simp only [Act.put, List.setIfInBounds_toArray, List.set_cons_zero, List.set_cons_succ, i64_w, i32_w]; rfl))
   refine pure_ (i := 4) (N := some 39) (v := ?_) (a' := ?_) A7_30 rfl rfl (any_of HT_.out (by kernel_rfl)) (fun _ _ _ h => h) (Or.inl ⟨by rfl, ?_⟩) ?_ ?_
   (rotate_left; (intro w'; go_simp; with_reducible rfl); rotate_left; (simp only [Act.put, List.setIfInBounds_toArray, List.set_cons_zero, List.set_cons_succ, i64_w, i32_w]; rfl))
   refine pure_ (i := 6) (N := some 41) (v := ?_) (a' := ?_) A7_31 rfl rfl (any_of HT_.out (by kernel_rfl)) (fun _ _ _ h => h) (Or.inl ⟨by rfl, ?_⟩) ?_ ?_
   (rotate_left; (intro w'; go_simp; with_reducible rfl); rotate_left; (simp only [Act.put, List.setIfInBounds_toArray, List.set_cons_zero, List.set_cons_succ, i64_w, i32_w]; rfl))
   refine pure_ (i := 7) (N := some 42) (v := ?_) (a' := ?_) A7_32 rfl rfl (any_of HT_.out (by kernel_rfl)) (fun _ _ _ h => h) (Or.inl ⟨by rfl, ?_⟩) ?_ ?_
   (rotate_left; (intro w'; go_simp; with_reducible rfl); rotate_left; (simp only [Act.put, List.setIfInBounds_toArray, List.set_cons_zero, List.set_cons_succ, i64_w, i32_w]; rfl))
   refine pure_ (i := 8) (N := some 43) (v := ?_) (a' := ?_) A7_33 rfl rfl (any_of HT_.out (by kernel_rfl)) (fun _ _ _ h => h) (Or.inl ⟨by rfl, ?_⟩) ?_ ?_
   (rotate_left; (intro w'; go_simp; with_reducible rfl); rotate_left; (simp only [Act.put, List.setIfInBounds_toArray, List.set_cons_zero, List.set_cons_succ, i64_w, i32_w]; rfl))
   refine pure_ (i := 9) (N := some 44) (v := ?_) (a' := ?_) A7_34 rfl rfl (any_of HT_.out (by kernel_rfl)) (fun _ _ _ h => h) (Or.inl ⟨by rfl, ?_⟩) ?_ ?_
   (rotate_left; (intro w'; go_simp; with_reducible rfl); rotate_left; (simp only [Act.put, List.setIfInBounds_toArray, List.set_cons_zero, List.set_cons_succ, i64_w, i32_w]; rfl))
   refine take_ (i := 5) (N := some 40) (v := ?_) (a' := ?_) A7_35 rfl rfl (take_ofW HT_.out HW_.out (by kernel_rfl)) (fun _ _ _ h => h) (Or.inl ⟨by rfl, ?_⟩) hHeld ?_ ?_
   rotate_left
   ·
    rintro w' ⟨s0, s1, s2, s3, s4, s5, s6⟩
    go_simp
    with_reducible rfl
   rotate_left
   ·
    simp only [Act.put, List.setIfInBounds_toArray, List.set_cons_zero, List.set_cons_succ, i64_w, i32_w]
    rfl
   refine take_ (i := 10) (N := some 45) (v := ?_) (a' := ?_) A7_36 rfl rfl (take_ofW HT_.out HW_.out (by kernel_rfl)) (fun _ _ _ h => h) (Or.inl ⟨by rfl, ?_⟩) hHeld ?_ ?_
   rotate_left
   ·
    rintro w' ⟨s0, s1, s2, s3, s4, s5, s6⟩
    go_simp
    with_reducible rfl
   rotate_left
   ·
    simp only [Act.put, List.setIfInBounds_toArray, List.set_cons_zero, List.set_cons_succ, i64_w, i32_w]
    rfl
   refine pure_ (i := 11) (N := some 46) (v := ?_) (a' := ?_) A7_37 rfl rfl (any_of HT_.out (by kernel_rfl)) (fun _ _ _ h => h) (Or.inl ⟨by rfl, ?_⟩) ?_ ?_
   (rotate_left; (intro w'; go_simp; with_reducible rfl); rotate_left; (simp only [Act.put, List.setIfInBounds_toArray, List.set_cons_zero, List.set_cons_succ, i64_w, i32_w]; rfl))
   refine one_ (i := 12) (N := some 47) A7_38 rfl rfl (one_of HT_.out (by kernel_rfl)) (by decide) (fun K hK => ?_)
   refine goes_ Try.func41 (by kernel_rfl) rfl #[.int .i64 (wrap64 (s0_3 + s0_4)), .int .i64 0, .int .i64 2000] (by rfl) rfl rfl (by (try simp only [List.map_toArray, List.map_cons, List.map_nil]); first | done | rfl) ?_
   with_reducible refine (impl_held.calls (wrap64 (s0_3 + s0_4)) 0 2000 t243 _ A3.out).mono ?_
   rintro e w35 ⟨rfl, hb⟩
   refine ⟨_, rfl, ?_⟩
   have n0_ := Aside0.mk (IsS55.below (by repeat (first | (with_reducible first | exact HI0.out | apply IsS55.alloc | apply IsS55.drewN | apply IsS55.drew | apply IsS55.set_0 | apply IsS55.set_1 | apply IsS55.set_2 | apply IsS55.set_3 | apply IsS55.set_4 | apply IsS55.set_5 | apply IsS55.set_6) | exact HI0.out)) hb)
   have n1_ := Aside0.mk (KeepBut.trans (by repeat (first | (with_reducible first | exact HK.out | apply KeepBut.set_ | apply keep_drewN | apply keep_drew | apply keep_alloc) | exact HK.out)) (KeepBut.of_below hb g none) (.inl rfl))
   have n2_ := Aside0.mk (below_step (by repeat (first | (with_reducible first | exact HB.out | apply ba | apply bn | apply bd | refine bt ?_ (IsS55.ge HI0.out)) | exact HB.out)) hb)
   clear HI0
   clear HK
   clear HB
   have HI0 := n0_
   have HK := n1_
   have HB := n2_
   clear n0_ n1_ n2_
   (try clear hb)
   (try clear hb2)
   (try clear hk)
   (try clear hi)
   refine hK.out _ _ ⟨(by obtain ⟨HG_, hg_⟩ := HI0.out; exact cellS55_0 HG_), (by obtain ⟨HG_, hg_⟩ := HI0.out; exact cellS55_1 HG_), (by obtain ⟨HG_, hg_⟩ := HI0.out; exact cellS55_2 HG_), (by obtain ⟨HG_, hg_⟩ := HI0.out; exact cellS55_3 HG_), (by obtain ⟨HG_, hg_⟩ := HI0.out; exact cellS55_4 HG_), (by obtain ⟨HG_, hg_⟩ := HI0.out; exact cellS55_5 HG_), (by obtain ⟨HG_, hg_⟩ := HI0.out; exact cellS55_6 HG_)⟩ (fun hHeld => ?_)
   clear hK K
   refine norm_ (a' := ?_) ?_ ?_
   rotate_left
   ·
    show Act.put _ (some 47) _ = _
    simp only [Act.put, List.setIfInBounds_toArray, List.set_cons_zero, List.set_cons_succ, i64_w, i32_w]
    rfl
   refine pure_ (i := 13) (N := some 48) (v := ?_) (a' := ?_) A7_39 rfl rfl (any_of HT_.out (by kernel_rfl)) (fun _ _ _ h => h) (Or.inl ⟨by rfl, ?_⟩) ?_ ?_
   (rotate_left; (intro w'; go_simp; with_reducible rfl); rotate_left; (simp only [Act.put, List.setIfInBounds_toArray, List.set_cons_zero, List.set_cons_succ, i64_w, i32_w]; rfl))
   refine pure_ (i := 14) (N := some 49) (v := ?_) (a' := ?_) A7_40 rfl rfl (any_of HT_.out (by kernel_rfl)) (fun _ _ _ h => h) (Or.inl ⟨by rfl, ?_⟩) ?_ ?_
   (rotate_left; (intro w'; go_simp; with_reducible rfl); rotate_left; (simp only [Act.put, List.setIfInBounds_toArray, List.set_cons_zero, List.set_cons_succ, i64_w, i32_w]; rfl))
   refine pure_ (i := 15) (N := some 50) (v := ?_) (a' := ?_) A7_41 rfl rfl (any_of HT_.out (by kernel_rfl)) (fun _ _ _ h => h) (Or.inl ⟨by rfl, ?_⟩) ?_ ?_
   (rotate_left; (intro w'; go_simp; with_reducible rfl); rotate_left; (simp only [Act.put, List.setIfInBounds_toArray, List.set_cons_zero, List.set_cons_succ, i64_w, i32_w]; rfl))
   refine last_ (i := 16) (N := none) A7_42 rfl rfl (one_of HT_.out (by kernel_rfl)) (by decide) (fun K hK => ?_)
   have hs36 := (by obtain ⟨HG_, hg_⟩ := HI0.out; exact cellS55_3 HG_ : w35.cell? ⟨g, 3, none⟩ = some _)
   have hfs36 := (by obtain ⟨HG_, hg_⟩ := HI0.out; exact blk_frozen HG_ 3 : w35.frozen? ⟨g, 3, none⟩ = false)
   refine skip_ (w1 := ?_) (by rfl) rfl ?_ ?_
   rotate_left
   ·
    go_simp
    rfl
   refine hK.out _ _ ?_
   clear hK K
   refine done_ (done_of HT_.out (by kernel_rfl)) ?_
   obtain ⟨HGz37, hgz37⟩ := HI0.out
   have hcz37_0 := cellS55_0 HGz37
   have hcz37_1 := cellS55_1 HGz37
   have hcz37_2 := cellS55_2 HGz37
   have hcz37_3 := cellS55_3 HGz37
   have hcz37_4 := cellS55_4 HGz37
   have hcz37_5 := cellS55_5 HGz37
   have hcz37_6 := cellS55_6 HGz37
   have hfz37_0 := blk_frozen HGz37 0
   have hfz37_1 := blk_frozen HGz37 1
   have hfz37_2 := blk_frozen HGz37 2
   have hfz37_3 := blk_frozen HGz37 3
   have hfz37_4 := blk_frozen HGz37 4
   have hfz37_5 := blk_frozen HGz37 5
   have hfz37_6 := blk_frozen HGz37 6
   clear HGz37 hgz37
   try go_wp2_with (first | (go_at_call 26; (with_reducible refine (impl_in.calls (wrap64 (s0_0 + t241)) (-1000) 1000 false _ A15.out).mono ?_); rintro e w' ⟨rfl, ⟨nd, rfl⟩⟩))
   first | go_end0 | ((try simp only [Exit.inBlock, Exit.then]); refine bodyPost_ret (results_none rfl _ _ _) rfl ?_)
   exact ⟨by first | rfl | (simp [errW_none, errW_some] <;> rfl) | (simp [*, errW_none, errW_some] <;> rfl), by repeat (first | (with_reducible first | exact HI0.out | apply IsS55.alloc | apply IsS55.drewN | apply IsS55.drew | apply IsS55.set_0 | apply IsS55.set_1 | apply IsS55.set_2 | apply IsS55.set_3 | apply IsS55.set_4 | apply IsS55.set_5 | apply IsS55.set_6) | exact HI0.out), by repeat (first | (with_reducible first | exact HB.out | apply ba | apply bn | apply bd | refine bt ?_ (IsS55.ge HI0.out)) | exact HB.out), by repeat (first | (with_reducible first | exact HK.out | apply KeepBut.set_ | apply keep_drewN | apply keep_drew | apply keep_alloc) | exact HK.out)⟩

end Go.Proofs.Ytadnhfdodcmlaaa.PFnExactFlyRoute
