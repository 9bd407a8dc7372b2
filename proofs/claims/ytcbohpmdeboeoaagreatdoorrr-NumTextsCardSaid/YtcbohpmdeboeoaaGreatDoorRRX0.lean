-- Printed by xprint.py, this session's own program (wip/tool), out of the translation. Lean checks it.
import Derived.Test.YtcbohpmdeboeoaaGreatDoorRRZ
import Derived.Test.YtcbohpmdeboeoaaGreatDoorRRProg
import Derived.Below
import Derived.Deep.Draws
import Derived.Deep.AppendLies
import Derived.Maps.AppendAt
import Derived.OwnWalk
import Derived.Laws.BytesArg
import Derived.Laws.MakeOwn
import Derived.Laws.OwnMore
import Derived.Deep.OwnRows
import Derived.Tactics
import Derived.Lib.ConvBytes
import Derived.Laws.Slices
import Derived.WalkKit
import Derived.KernelRfl
import Derived.RowKit3
import Derived.Deep.LoopGhost
import Derived.Deep.QuietTactic
import Derived.BigQuiet
import Derived.WideLaws
import Derived.Deep.DeepCutAuto
import Derived.Deep.CutBlock
import Derived.Deep.RegionHeld3
import Derived.Laws.Rows
import Derived.Lib.AppendStr
import Derived.ArgAppend
import Derived.Laws.IdiomCopy
import Derived.OrdersHeld
import Derived.Laws.BitsLemmas
import Derived.RowKit
import Derived.Test.YtcbohpmdeboeoaaGreatDoorRRXLib
import Derived.Test.YtcbohpmdeboeoaaGreatDoorRRWWords
import Derived.Test.YtcbohpmdeboeoaaGreatDoorRRWLast
import Derived.Test.YtcbohpmdeboeoaaGreatDoorRRWTab
import Derived.Test.YtcbohpmdeboeoaaGreatDoorRRWFour
import Derived.Test.YtcbohpmdeboeoaaGreatDoorRRWQPut
import Derived.Test.YtcbohpmdeboeoaaGreatDoorRRWApart
import Derived.Test.YtcbohpmdeboeoaaGreatDoorRRWArr
import Derived.Test.YtcbohpmdeboeoaaGreatDoorRRWZeros
import Derived.Test.YtcbohpmdeboeoaaGreatDoorRRWFoot
import Derived.Test.YtcbohpmdeboeoaaGreatDoorRRWKept
import Derived.Test.YtcbohpmdeboeoaaGreatDoorRRWShare
import Derived.Test.YtcbohpmdeboeoaaGreatDoorRRWN
import Derived.Test.YtcbohpmdeboeoaaGreatDoorRRWFootNe
import Derived.Test.YtcbohpmdeboeoaaGreatDoorRRWAt
import Derived.Test.YtcbohpmdeboeoaaGreatDoorRRWEqStruct
import Derived.Test.YtcbohpmdeboeoaaGreatDoorRRWRepsOne
import Derived.Test.YtcbohpmdeboeoaaGreatDoorRRWInv
import Derived.Test.YtcbohpmdeboeoaaGreatDoorRRWInvWords
import Derived.Test.YtcbohpmdeboeoaaGreatDoorRRWGuard
import Derived.Test.YtcbohpmdeboeoaaGreatDoorRRWNEv
import Derived.Test.YtcbohpmdeboeoaaGreatDoorRRWMore
import Derived.Test.YtcbohpmdeboeoaaGreatDoorRRXWords
namespace Go.Proofs.YtcbohpmdeboeoaaGreatDoorRR.X
open Go.Proofs.YtcbohpmdeboeoaaGreatDoorRR.Z
open Go.RowKit Go.Proofs.YtcbohpmdeboeoaaGreatDoorRRW.PrintWords Go.Proofs.YtcbohpmdeboeoaaGreatDoorRRW.PrintLast Go.Proofs.YtcbohpmdeboeoaaGreatDoorRRW.PrintMore
open List renaming setIfInBounds_toArray → sA, set_cons_zero → sZ, set_cons_succ → sS
open Aside0 renaming mk → am
open Bool renaming true → tt, false → ff
set_option maxHeartbeats 8000000
set_option maxRecDepth 100000
attribute [local go_sem] max2_int min2_int max_two min_two max_three min_three max_four min_four   -- for this text's walks alone
set_option linter.unusedVariables false
set_option linter.unusedSimpArgs false



def errW : Option Int→Value
 | none=>.nilIface
 | some c=>.iface 0 (.int .i64 c)
theorem errW_none : errW none = .nilIface:=rfl
theorem errW_some (c : Int) : errW (some c) = .iface 0 (.int .i64 c):=rfl

theorem info5 : (Tryz.prog.info? 5).map (fun i=>(i.zero,i.size,i.bytes)) = some (some (.int .u8 0),1,1):=by kernel_rfl
theorem info59 : (Tryz.prog.info? 59).map (fun i=>(i.zero,i.size,i.bytes)) = some (some (.int .u64 0),1,8):=by kernel_rfl
theorem info60 : (Tryz.prog.info? 60).map (fun i=>(i.zero,i.size,i.bytes)) = some (some (.int .u32 0),1,4):=by kernel_rfl
-- the values' own types
def rd_L3 (xs : List (List Int)) (i : Int) : (List Int):=xs.getD i.toNat ([] : List Int)
theorem at_L3 {w : World} {A : Option Addr} {n : Nat} {xs : List (List Int)} (h : Kd.C (Kd.slice 60 (Kd.int .u32)) w A n xs) (i : Int) (h0 : 0≤i) (h1 : i < n) : ∃ ad A0 c0,A = some ad∧w.cell? (ad.add i.toNat) = some (.slice A0 (rd_L3 xs i).length c0)∧(rd_L3 xs i).length≤c0∧(Kd.int .u32).C w A0 (rd_L3 xs i).length (rd_L3 xs i):=by
 obtain⟨ad,c,e,_,hK,hc0⟩:=Kd.C_get h ([] : List Int) i h0 h1
 have hc : ∀ j u,c[j]? = some u→w.cell? (ad.add (i.toNat * 1 + j)) = some u:=hc0
 obtain⟨A0,c0,rfl,l0,g0⟩:=hK
 exact⟨ad,A0,c0,e,by have hq:=hc 0 _ rfl;rwa [Nat.mul_one,Nat.add_zero] at hq,l0,g0⟩

/-! #### struct type 25 -/
structure S25 where
 f0 : Bool
 f1 : (List Int)
def z25 : S25:=⟨false,([] : List Int)⟩
def k25 : Kd S25:=Kd.iso (Kd.pair Kd.bool (Kd.slice 60 (Kd.int .u32))) (fun x : S25=>(x.f0,x.f1))
theorem k25_open {w : World} {x : S25} {cs : List Value} (h : k25.K w x cs) : ∃ A1 c1,cs = [.bool x.f0,.slice A1 x.f1.length c1]∧x.f1.length≤c1∧(Kd.int .u32).C w A1 x.f1.length x.f1:=by
 obtain⟨_,_,rfl,rfl,⟨A1,c1,rfl,l1,g1⟩⟩:=h
 exact⟨A1,c1,rfl,l1,g1⟩
theorem k25_mk (w : World) (x : S25) {A1 : Option Addr} {c1 : Nat} (l1 : x.f1.length≤c1) (g1 : (Kd.int .u32).C w A1 x.f1.length x.f1) : k25.K w x [.bool x.f0,.slice A1 x.f1.length c1]:=⟨[.bool x.f0],[.slice A1 x.f1.length c1],rfl,rfl,⟨A1,c1,rfl,l1,g1⟩⟩
theorem k25_mkF (W : World) (ok : Nat→Prop) (x : S25) {A1 : Option Addr} {c1 : Nat} (l1 : x.f1.length≤c1) (g1 : Kd.F (Kd.int .u32) W ok A1 x.f1.length x.f1) : Kd.FK k25 W ok x [.bool x.f0,.slice A1 x.f1.length c1]:=fun W2 hW=>k25_mk W2 x l1 (g1 W2 hW)
def rd_T25 (xs : List S25) (i : Int) : S25:=xs.getD i.toNat z25
theorem at_T25 {w : World} {A : Option Addr} {n : Nat} {xs : List S25} (h : Kd.C k25 w A n xs) (i : Int) (h0 : 0≤i) (h1 : i < n) : ∃ ad A1 c1,A = some ad∧w.cell? (ad.add (i.toNat * 2)) = some (.bool (rd_T25 xs i).f0)∧w.cell? ⟨(ad.add (i.toNat * 2)).block,(ad.add (i.toNat * 2)).off + 1,none⟩ = some (.slice A1 (rd_T25 xs i).f1.length c1)∧(rd_T25 xs i).f1.length≤c1∧(Kd.int .u32).C w A1 (rd_T25 xs i).f1.length (rd_T25 xs i).f1:=by
 obtain⟨ad,c,e,_,hK,hc0⟩:=Kd.C_get h z25 i h0 h1
 have hc : ∀ j u,c[j]? = some u→w.cell? (ad.add (i.toNat * 2 + j)) = some u:=hc0
 obtain⟨A1,c1,rfl,l1,g1⟩:=k25_open hK
 exact⟨ad,A1,c1,e,hc 0 _ rfl,by rw [← add_field _ _ 1 (by omega)];exact hc 1 _ rfl,l1,g1⟩

end Go.Proofs.YtcbohpmdeboeoaaGreatDoorRR.X
