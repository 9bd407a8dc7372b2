/- Closings and steps that the printed texts use often: each is told once, its script as a default of an argument. -/
import Derived.Below
import Derived.Deep.Draws
import Derived.Deep.AppendLies
import Derived.Maps.AppendAt
import Derived.OwnWalk
import Derived.Laws.BytesArg
import Derived.Laws.MakeOwn
import Derived.Laws.OwnMore
import Derived.Deep.OwnRows
import Derived.Tactics
import Derived.Lib.ConvBytes
import Derived.Laws.Slices
import Derived.WalkKit
import Derived.KernelRfl
import Derived.RowKit3
import Derived.Deep.LoopGhost
import Derived.Deep.QuietTactic
import Derived.BigQuiet
import Derived.WideLaws
import Derived.Deep.DeepCutAuto
import Derived.Deep.CutBlock
import Derived.Deep.RegionHeld3
import Derived.Laws.Rows
import Derived.Lib.AppendStr
import Derived.ArgAppend
import Derived.Laws.IdiomCopy
import Derived.OrdersHeld
import Derived.Laws.BitsLemmas
import Derived.RowKit
import Derived.Test.YtnkkndninilciaaDoorXLib
import Derived.Test.YtnkkndninilciaaDoorWWords
import Derived.Test.YtnkkndninilciaaDoorWLast
import Derived.Test.YtnkkndninilciaaDoorWTab
import Derived.Test.YtnkkndninilciaaDoorWFour
import Derived.Test.YtnkkndninilciaaDoorWQPut
import Derived.Test.YtnkkndninilciaaDoorWApart
import Derived.Test.YtnkkndninilciaaDoorWArr
import Derived.Test.YtnkkndninilciaaDoorWZeros
import Derived.Test.YtnkkndninilciaaDoorWFoot
import Derived.Test.YtnkkndninilciaaDoorWKept
import Derived.Test.YtnkkndninilciaaDoorWShare
import Derived.Test.YtnkkndninilciaaDoorWN
import Derived.Test.YtnkkndninilciaaDoorWFootNe
import Derived.Test.YtnkkndninilciaaDoorWAt
import Derived.Test.YtnkkndninilciaaDoorWEqStruct
import Derived.Test.YtnkkndninilciaaDoorWRepsOne
import Derived.Test.YtnkkndninilciaaDoorWInv
import Derived.Test.YtnkkndninilciaaDoorWInvWords
import Derived.Test.YtnkkndninilciaaDoorWGuard
import Derived.Test.YtnkkndninilciaaDoorWNEv
import Derived.Test.YtnkkndninilciaaDoorWMore
import Derived.Test.YtnkkndninilciaaDoorXWords
namespace Go.Proofs.YtnkkndninilciaaDoor.Z
open Go Go.RowKit Go.Proofs.YtnkkndninilciaaDoorW.PrintWords Go.Proofs.YtnkkndninilciaaDoorW.PrintLast Go.Proofs.YtnkkndninilciaaDoorW.PrintMore
theorem zb {p : Prop} (h : p := by repeat (first | (with_reducible first | exact HB.out | apply below_alloc | apply pw_below_drewN | apply below_drew1 | refine below_set ?_ (Aside0.out (by assumption))) | exact HB.out)) : p := h
theorem zk {p q : Prop} (h : p) (f : p → q := by intro z_; (with_reducible repeat (first | refine blk_drewN ?_ _ | refine blk_drew ?_ | refine blk_alloc ?_ _)); exact z_) : q := f h
theorem zR {p q : Prop} (h : p) (f : p → q := by intro z_; (with_reducible repeat (first | apply Kd.R_alloc | apply Kd.R_drewN | apply Kd.R_drew)); exact z_) : q := f h
theorem zV {p q : Prop} (h : p) (f : p → q := by intro z_; (with_reducible repeat (first | apply Kd.V_alloc | apply Kd.V_drewN | apply Kd.V_drew)); exact z_) : q := f h
theorem zN {p q : Prop} (h : p) (f : p → q := by intro z_; (with_reducible repeat (first | apply Kd.N_alloc | apply Kd.N_drewN | apply Kd.N_drew)); exact z_) : q := f h
theorem zC {p q : Prop} (h : p) (f : p → q := by intro z_; repeat (first | exact z_ | (with_reducible refine Kd.C_alloc ?_ _) | (with_reducible refine Kd.C_drewN ?_ _) | (with_reducible refine Kd.C_drew ?_))) : q := f h
theorem zl {p : Prop} (h : p := by (try simp only [List.map_toArray, List.map_cons, List.map_nil]); first | done | rfl | (simp only [List.length_drop, List.length_take]; rfl)) : p := h
theorem zp {p : Prop} (h : p := by first | (simp only [putAll, Act.put, List.setIfInBounds_toArray, List.set_cons_zero, List.set_cons_succ]; done) | (simp only [putAll, Act.put, List.setIfInBounds_toArray, List.set_cons_zero, List.set_cons_succ]; rfl)) : p := h
theorem za {p : Prop} (h : p := by first | (with_reducible assumption) | assumption) : p := h
theorem zf {p : Prop} (h : p := by first | rfl | (simp [errW_none, errW_some] <;> rfl) | (simp [*, errW_none, errW_some] <;> rfl)) : p := h
theorem ze {p : Prop} (h : p := by first | rfl | (simp; done) | (simp [*]; done)) : p := h
theorem zo {p : Prop} (h : p := by first | omega | exact Nat.le_refl _) : p := h
theorem zh {p : Prop} (h : p := by first | (go_simp; done) | (go_simp; rfl)) : p := h
theorem kb {w w1 w2 : World} {g : Nat} {o : Obj} (h : Aside0 (w.heap[g]? = some o)) (hb : Below w1.heap.size w1 w2) (f : w.heap[g]? = some o → w1.heap[g]? = some o := by intro z_; (with_reducible repeat (first | refine blk_drewN ?_ _ | refine blk_drew ?_ | refine blk_alloc ?_ _)); exact z_) : Aside0 (w2.heap[g]? = some o) := ⟨blk_below (f h.out) hb⟩
theorem nl {w w1 : World} {g g2 : Nat} {o : Obj} (h : Aside0 (w.heap[g]? = some o)) (hg : g2 = w1.heap.size) (f : w.heap[g]? = some o → w1.heap[g]? = some o := by intro z_; (with_reducible repeat (first | refine blk_drewN ?_ _ | refine blk_drew ?_ | refine blk_alloc ?_ _)); exact z_) : Aside0 (g ≠ g2) := ⟨by rw [hg]; exact Nat.ne_of_lt (blk_lt (f h.out))⟩
theorem nr {w w1 : World} {g g2 : Nat} {o : Obj} (h : Aside0 (w.heap[g]? = some o)) (hg : g2 = w1.heap.size) (f : w.heap[g]? = some o → w1.heap[g]? = some o := by intro z_; (with_reducible repeat (first | refine blk_drewN ?_ _ | refine blk_drew ?_ | refine blk_alloc ?_ _)); exact z_) : Aside0 (g2 ≠ g) := ⟨by rw [hg]; exact Nat.ne_of_gt (blk_lt (f h.out))⟩
theorem gw (w : World) {w1 : World} {g : Nat} (hg : g = w1.heap.size) (h : Below w.heap.size w w1 := by repeat (first | (with_reducible first | exact HB.out | apply below_alloc | apply pw_below_drewN | apply below_drew1 | refine below_set ?_ (Aside0.out (by assumption))) | exact HB.out)) : Aside0 (w.heap.size ≤ g) := ⟨by rw [hg]; exact below_size h⟩
theorem pu {P : Program} {ops : Array Oper} {Q : Exit → Act → World → Prop} {md : Region.Mode} {S : World → Prop} {ds : List Nat} {i : Nat} {N : Option Tmp} {oi : Oper} {v : Value} {fuel : Nat} {l : Array Bool} {a : Act} {w : World} (l' : Array Bool) {a' : Act} (hc : anyB md ops l l' i = true) (h : wpAnyLast P md ops Q S ds fuel l' a' w) (hi : ops[i]? = some oi := by exact rfl) (hN : oi.dst = N := by exact rfl) (hQ : ∀ c a w, Q (.panic c) (a.put oi.dst v) w → Q (.panic c) a w := by exact fun _ _ _ h => h) (hy : Yields P ops oi v a := by exact Or.inl ⟨by rfl, by intro w'; go_simp; with_reducible rfl⟩) (ha : a.put N v = a' := by first | (simp only [Act.put, List.setIfInBounds_toArray, List.set_cons_zero, List.set_cons_succ, i64_w, i32_w]; rfl) | rfl) : wpAnyLast P md ops Q S ds (fuel + 1) l a w := pure_ l' hi hN hc hQ hy ha h
section
variable {α : Type} {d : Kd α} {e : Nat} {w w1 w2 : World} {base : Nat} {ok : Nat → Prop} {v u : Value} {xs : List α}
theorem rb (h : Aside0 (Kd.R d e w base ok v xs)) (hb : Below w1.heap.size w1 w2) (f : Kd.R d e w base ok v xs → Kd.R d e w1 base ok v xs := by intro z_; (with_reducible repeat (first | apply Kd.R_alloc | apply Kd.R_drewN | apply Kd.R_drew)); exact z_) : Aside0 (Kd.R d e w2 base ok v xs) := ⟨Kd.R_below (f h.out) hb⟩
theorem vb (h : Aside0 (Kd.V d e w base ok v xs)) (hb : Below w1.heap.size w1 w2) (f : Kd.V d e w base ok v xs → Kd.V d e w1 base ok v xs := by intro z_; (with_reducible repeat (first | apply Kd.V_alloc | apply Kd.V_drewN | apply Kd.V_drew)); exact z_) : Aside0 (Kd.V d e w2 base ok v xs) := ⟨Kd.V_below (f h.out) hb⟩
theorem nb (h : Aside0 (Kd.N d e w base ok v xs)) (hb : Below w1.heap.size w1 w2) (f : Kd.N d e w base ok v xs → Kd.N d e w1 base ok v xs := by intro z_; (with_reducible repeat (first | apply Kd.N_alloc | apply Kd.N_drewN | apply Kd.N_drew)); exact z_) : Aside0 (Kd.N d e w2 base ok v xs) := ⟨Kd.N_below (f h.out) hb⟩
theorem re (h : Aside0 (Kd.R d e w base ok v xs)) (hv : ∀ k, u.ownBlock = some k → w1.heap.size ≤ k) (hb : Below w1.heap.size w1 w2) (f : Kd.R d e w base ok v xs → Kd.R d e w1 base ok v xs := by intro z_; (with_reducible repeat (first | apply Kd.R_alloc | apply Kd.R_drewN | apply Kd.R_drew)); exact z_) : Aside0 (Kd.R d e w2 base (fun k => ok k ∧ some k ≠ u.ownBlock) v xs) := ⟨Kd.R_elder' (f h.out) hv hb⟩
theorem ve (h : Aside0 (Kd.V d e w base ok v xs)) (hv : ∀ k, u.ownBlock = some k → w1.heap.size ≤ k) (hb : Below w1.heap.size w1 w2) (f : Kd.V d e w base ok v xs → Kd.V d e w1 base ok v xs := by intro z_; (with_reducible repeat (first | apply Kd.V_alloc | apply Kd.V_drewN | apply Kd.V_drew)); exact z_) : Aside0 (Kd.V d e w2 base (fun k => ok k ∧ some k ≠ u.ownBlock) v xs) := ⟨Kd.V_elder' (f h.out) hv hb⟩
end
end Go.Proofs.YtnkkndninilciaaDoor.Z
