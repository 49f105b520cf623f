/- Walks of the functions named below, by a program of the session over the kit's printer. -/
import Derived.Test.YtfjpmakmgcngiaaProg
import Derived.Shelf.Spec.SlicesGrow
import Derived.Below
import Derived.Lib.SliceRun
import Derived.Deep.Draws
import Derived.Deep.AppendLies
import Derived.Maps.AppendAt
import Derived.OwnWalk
import Derived.Laws.BytesArg
import Derived.Laws.MakeOwn
import Derived.Laws.OwnMore
import Derived.Deep.OwnRows
import Derived.Tactics
import Derived.Lib.ConvBytes
import Derived.Laws.Slices
import Derived.WalkKit
import Derived.KernelRfl
import Derived.RowKit3
import Derived.Deep.LoopGhost
import Derived.Deep.QuietTactic
import Derived.BigQuiet
import Derived.WideLaws
import Derived.Deep.DeepCutAuto
import Derived.Deep.CutBlock
import Derived.Deep.RegionHeld3
import Derived.Laws.Rows
import Derived.Lib.AppendStr
import Derived.ArgAppend
import Derived.Laws.IdiomCopy
import Derived.OrdersHeld
import Derived.Laws.BitsLemmas
import Derived.RowKit
import Derived.Test.YtfjpmakmgcngiaaWWords
import Derived.Test.YtfjpmakmgcngiaaWLast
import Derived.Test.YtfjpmakmgcngiaaWTab
import Derived.Test.YtfjpmakmgcngiaaWFour
import Derived.Test.YtfjpmakmgcngiaaWQPut
import Derived.Test.YtfjpmakmgcngiaaWApart
import Derived.Test.YtfjpmakmgcngiaaWArr
import Derived.Test.YtfjpmakmgcngiaaWZeros
import Derived.Test.YtfjpmakmgcngiaaWFoot
import Derived.Test.YtfjpmakmgcngiaaWKept
import Derived.Test.YtfjpmakmgcngiaaWShare
import Derived.Test.YtfjpmakmgcngiaaWN
import Derived.Test.YtfjpmakmgcngiaaWFootNe
import Derived.Test.YtfjpmakmgcngiaaWAt
import Derived.Test.YtfjpmakmgcngiaaWEqStruct
import Derived.Test.YtfjpmakmgcngiaaWRepsOne
import Derived.Test.YtfjpmakmgcngiaaWInv
import Derived.Test.YtfjpmakmgcngiaaWInvWords
import Derived.Test.YtfjpmakmgcngiaaWGuard
import Derived.Test.YtfjpmakmgcngiaaWNEv
import Derived.Test.YtfjpmakmgcngiaaWMore
import Derived.Test.YtfjpmakmgcngiaaTwo
namespace Go.Proofs.Ytfjpmakmgcngiaa.PFnInertial
open Go.RowKit Go.Proofs.YtfjpmakmgcngiaaW.PrintWords Go.Proofs.YtfjpmakmgcngiaaW.PrintLast Go.Proofs.YtfjpmakmgcngiaaW.PrintMore
attribute [local go_sem] max2_int min2_int max_two min_two max_three min_three max_four min_four   -- for this text's walks alone
set_option linter.unusedVariables false
set_option linter.unusedSimpArgs false
class Bw (W : World) (V : outParam World) : Prop where b : Below V.heap.size V W
instance (priority := low) bw0 (W : World) : Bw W W := ⟨Below.refl _ _⟩
instance bwN (W V : World) (n : Nat) [h : Bw W V] : Bw (W.drewN n) V := ⟨pw_below_drewN h.b n⟩
instance bwD (W V : World) [h : Bw W V] : Bw W.drew V := ⟨below_drew1 h.b⟩
instance bwA (W V : World) (o : Obj) [h : Bw W V] : Bw (W.alloc o) V := ⟨below_alloc h.b o⟩
theorem bu {W V : World} [k : Bw W V] {g : Nat} {o : Obj} (h : V.heap[g]? = some o) : W.heap[g]? = some o := blk_below h k.b
theorem ba {w W : World} (h : Below w.heap.size w W) (o : Obj) : Below w.heap.size w (W.alloc o) := below_alloc h o
theorem bn {B : Nat} {w W : World} (h : Below B w W) (n : Nat) : Below B w (W.drewN n) := pw_below_drewN h n
theorem bd {B : Nat} {w W : World} (h : Below B w W) : Below B w W.drew := below_drew1 h
theorem bt {w W : World} {g j : Nat} {v : Value} (h : Below w.heap.size w W) (hg : w.heap.size ≤ g) : Below w.heap.size w (W.setCell ⟨g, j, none⟩ v) := below_set h hg
theorem ru {α : Type} {d : Kd α} {e base : Nat} {ok : Nat → Prop} {W V : World} {v : Value} {xs : List α} [k : Bw W V] (h : d.R e V base ok v xs) : d.R e W base ok v xs := Kd.R_below h k.b



def errW : Option Int → Value
  | none => .nilIface
  | some c => .iface 0 (.int .i64 c)
theorem errW_none : errW none = .nilIface := rfl
theorem errW_some (c : Int) : errW (some c) = .iface 0 (.int .i64 c) := rfl

theorem info3 : (Try.prog.info? 3).map (fun i => (i.zero, i.size, i.bytes)) = some (some (.int .i64 0), 1, 8) := by kernel_rfl
theorem info48 : (Try.prog.info? 48).map (fun i => (i.zero, i.size, i.bytes)) = some (some (.agg #[(.int .i64 0), (.int .i64 0)]), 2, 16) := by kernel_rfl
-- the values' own types
/-! #### struct type 48 -/
structure S48 where
  f0 : Int
  f1 : Int
def z48 : S48 := ⟨(0 : Int), (0 : Int)⟩
def k48 : Kd S48 := Kd.iso (Kd.pair (Kd.int .i64) (Kd.int .i64)) (fun x : S48 => (x.f0, x.f1))
theorem k48_open {w : World} {x : S48} {cs : List Value} (h : k48.K w x cs) : cs = [.int .i64 x.f0, .int .i64 x.f1] := by
  obtain ⟨_, _, rfl, rfl, rfl⟩ := h
  exact rfl
theorem k48_openM {w : World} {base : Nat} {ok : Nat → Prop} {x : S48} {cs : List Value} (h : k48.M w base ok x cs) : cs = [.int .i64 x.f0, .int .i64 x.f1] := by
  obtain ⟨_, _, rfl, rfl, rfl⟩ := h
  exact rfl
theorem k48_mk (w : World) (x : S48)  : k48.K w x [.int .i64 x.f0, .int .i64 x.f1] := ⟨[.int .i64 x.f0], [.int .i64 x.f1], rfl, rfl, rfl⟩
theorem k48_mkM (w : World) (base : Nat) (ok : Nat → Prop) (x : S48)  : k48.M w base ok x [.int .i64 x.f0, .int .i64 x.f1] := ⟨[.int .i64 x.f0], [.int .i64 x.f1], rfl, rfl, rfl⟩
def rd_T48 (xs : List S48) (i : Int) : S48 := xs.getD i.toNat z48
theorem at_T48 {w : World} {A : Option Addr} {n : Nat} {xs : List S48} (h : Kd.C k48 w A n xs) (i : Int) (h0 : 0 ≤ i) (h1 : i < n) : ∃ ad , A = some ad ∧ w.cell? (ad.add (i.toNat * 2)) = some (.int .i64 (rd_T48 xs i).f0) ∧ w.cell? ⟨(ad.add (i.toNat * 2)).block, (ad.add (i.toNat * 2)).off + 1, none⟩ = some (.int .i64 (rd_T48 xs i).f1) := by
  obtain ⟨ad, c, e, _, hK, hc0⟩ := Kd.C_get h z48 i h0 h1
  have hc : ∀ j u, c[j]? = some u → w.cell? (ad.add (i.toNat * 2 + j)) = some u := hc0
  obtain rfl := k48_open hK
  exact ⟨ad, e, hc 0 _ rfl, by rw [← add_field _ _ 1 (by omega)]; exact hc 1 _ rfl⟩

end Go.Proofs.Ytfjpmakmgcngiaa.PFnInertial
