/- The functions that the law reaches, and that the Go text comes to their answers (lines first written by print.sh, turned by a program of ours). -/
import Derived.Test.YtdalboofhckobaaDoorProg
import Derived.Below
import Derived.Deep.Draws
import Derived.Deep.AppendLies
import Derived.Maps.AppendAt
import Derived.OwnWalk
import Derived.Laws.BytesArg
import Derived.Laws.MakeOwn
import Derived.Laws.OwnMore
import Derived.Deep.OwnRows
import Derived.Tactics
import Derived.Lib.ConvBytes
import Derived.Laws.Slices
import Derived.WalkKit
import Derived.KernelRfl
import Derived.RowKit3
import Derived.Deep.LoopGhost
import Derived.Deep.QuietTactic
import Derived.BigQuiet
import Derived.WideLaws
import Derived.Deep.DeepCutAuto
import Derived.Deep.CutBlock
import Derived.Deep.RegionHeld3
import Derived.Laws.Rows
import Derived.Lib.AppendStr
import Derived.ArgAppend
import Derived.Laws.IdiomCopy
import Derived.OrdersHeld
import Derived.Laws.BitsLemmas
import Derived.RowKit
import Derived.Test.YtdalboofhckobaaDoorWWords
import Derived.Test.YtdalboofhckobaaDoorWLast
import Derived.Test.YtdalboofhckobaaDoorWTab
import Derived.Test.YtdalboofhckobaaDoorWFour
import Derived.Test.YtdalboofhckobaaDoorWQPut
import Derived.Test.YtdalboofhckobaaDoorWApart
import Derived.Test.YtdalboofhckobaaDoorWArr
import Derived.Test.YtdalboofhckobaaDoorWZeros
import Derived.Test.YtdalboofhckobaaDoorWFoot
import Derived.Test.YtdalboofhckobaaDoorWKept
import Derived.Test.YtdalboofhckobaaDoorWShare
import Derived.Test.YtdalboofhckobaaDoorWN
import Derived.Test.YtdalboofhckobaaDoorWFootNe
import Derived.Test.YtdalboofhckobaaDoorWAt
import Derived.Test.YtdalboofhckobaaDoorWEqStruct
import Derived.Test.YtdalboofhckobaaDoorWRepsOne
import Derived.Test.YtdalboofhckobaaDoorWInv
import Derived.Test.YtdalboofhckobaaDoorWInvWords
import Derived.Test.YtdalboofhckobaaDoorWGuard
import Derived.Test.YtdalboofhckobaaDoorWNEv
import Derived.Test.YtdalboofhckobaaDoorWMore
namespace Go.Proofs.YtdalboofhckobaaDoor.QBusPlays
open Go.RowKit Go.Proofs.YtdalboofhckobaaDoorW.PrintWords Go.Proofs.YtdalboofhckobaaDoorW.PrintLast Go.Proofs.YtdalboofhckobaaDoorW.PrintMore
attribute [local go_sem] max2_int min2_int max_two min_two max_three min_three max_four min_four   -- for this text's walks alone
set_option linter.unusedVariables false
set_option linter.unusedSimpArgs false



def errW : Option Int → Value
  | none => .nilIface
  | some c => .iface 0 (.int .i64 c)
theorem errW_none : errW none = .nilIface := rfl
theorem errW_some (c : Int) : errW (some c) = .iface 0 (.int .i64 c) := rfl

theorem info5 : (Tryd.prog.info? 5).map (fun i => (i.zero, i.size, i.bytes)) = some (some (.int .u8 0), 1, 1) := by kernel_rfl
-- the values' own types
/-! #### struct type 90 -/
structure S90 where
  f0 : Int
  f1 : Int
def z90 : S90 := ⟨(0 : Int), (0 : Int)⟩
def k90 : Kd S90 := Kd.iso (Kd.pair (Kd.int .u64) (Kd.int .u8)) (fun x : S90 => (x.f0, x.f1))
theorem k90_open {w : World} {x : S90} {cs : List Value} (h : k90.K w x cs) : cs = [.int .u64 x.f0, .int .u8 x.f1] := by
  obtain ⟨_, _, rfl, rfl, rfl⟩ := h
  exact rfl
theorem k90_openM {w : World} {base : Nat} {ok : Nat → Prop} {x : S90} {cs : List Value} (h : k90.M w base ok x cs) : cs = [.int .u64 x.f0, .int .u8 x.f1] := by
  obtain ⟨_, _, rfl, rfl, rfl⟩ := h
  exact rfl
theorem k90_mk (w : World) (x : S90)  : k90.K w x [.int .u64 x.f0, .int .u8 x.f1] := ⟨[.int .u64 x.f0], [.int .u8 x.f1], rfl, rfl, rfl⟩
theorem k90_mkM (w : World) (base : Nat) (ok : Nat → Prop) (x : S90)  : k90.M w base ok x [.int .u64 x.f0, .int .u8 x.f1] := ⟨[.int .u64 x.f0], [.int .u8 x.f1], rfl, rfl, rfl⟩
theorem k90_mkF (W : World) (ok : Nat → Prop) (x : S90) : Kd.FK k90 W ok x [.int .u64 x.f0, .int .u8 x.f1] := fun W2 _ => k90_mk W2 x
def rd_T90 (xs : List S90) (i : Int) : S90 := xs.getD i.toNat z90
theorem at_T90 {w : World} {A : Option Addr} {n : Nat} {xs : List S90} (h : Kd.C k90 w A n xs) (i : Int) (h0 : 0 ≤ i) (h1 : i < n) : ∃ ad , A = some ad ∧ w.cell? (ad.add (i.toNat * 2)) = some (.int .u64 (rd_T90 xs i).f0) ∧ w.cell? ⟨(ad.add (i.toNat * 2)).block, (ad.add (i.toNat * 2)).off + 1, none⟩ = some (.int .u8 (rd_T90 xs i).f1) := by
  obtain ⟨ad, c, e, _, hK, hc0⟩ := Kd.C_get h z90 i h0 h1
  have hc : ∀ j u, c[j]? = some u → w.cell? (ad.add (i.toNat * 2 + j)) = some u := hc0
  obtain rfl := k90_open hK
  exact ⟨ad, e, hc 0 _ rfl, by rw [← add_field _ _ 1 (by omega)]; exact hc 1 _ rfl⟩

end Go.Proofs.YtdalboofhckobaaDoor.QBusPlays
