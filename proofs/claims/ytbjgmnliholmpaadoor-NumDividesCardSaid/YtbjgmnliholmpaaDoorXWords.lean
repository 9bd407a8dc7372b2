/- The words that the printed texts of this seat use beside the kit's: a make with a capacity, a call of a function value, what the laid table reads as. -/
import Derived.Test.YtbjgmnliholmpaaDoorProg
import Derived.Test.YtbjgmnliholmpaaDoorWWords
import Derived.Test.YtbjgmnliholmpaaDoorWLast
import Derived.Test.YtbjgmnliholmpaaDoorWMore
import Derived.Lib.LaidTab
import Derived.Lib.AppendIntMem
import Derived.Lib.ItoaMem
namespace Go.Proofs.YtbjgmnliholmpaaDoorW.PrintWords
open Go.RowKit Go.Proofs.YtbjgmnliholmpaaDoorW.PrintWords Go.Proofs.YtbjgmnliholmpaaDoorW.PrintLast

/-- What the laid package variables read as: the table of the powers of ten. -/
def GW (w : World) : Prop := Lib.TabIs Tryd.prog w "internal/strconv.uint64pow10" .u64 Lib.pow10Tab
theorem GW.below {w w' : World} (h : GW w) (hb : Below w.heap.size w w') : GW w' := Lib.tabBelow_of_tabIs h w' hb

section
variable {P : Program} {ops : Array Oper} {rest : List Oper} {o : Oper} {a : Act} {Q : Exit → Act → World → Prop} {α : Type}
/-- make([]T, 0, n): an empty row, with room. -/
theorem X_make0 (d : Kd α) {w0 W : World} (base e : Nat) (hgd : o.guard = none) {N : Tmp} (_hd : o.dst = some N) (t : TypeId) (x y : Operand) (ho : o.op = .makeSlice t x y) (n : Int) (hx : a.eval x = .int .i64 0) (hy : a.eval y = .int .i64 n)
    (ht : P.underlying t = some (.slice e)) (z : Value) (bytes : Nat) (hinfo : (P.info? e).map (fun i => (i.zero, i.size, i.bytes)) = some (some z, d.sz, bytes)) (_hz : z.cells.size = d.sz) (_hs0 : 0 < d.sz) (hb0 : 0 < bytes)
    {ok : Nat → Prop} (hfresh : ok W.heap.size) (h0 : 0 ≤ n) (hl : n.toNat * bytes ≤ 281474976710656) (HB : Below base w0 W) (hbase : base ≤ W.heap.size)
    (h : ∀ v1 w1, d.R e w1 base ok v1 ([] : List α) → Below base w0 w1 → W.grownBy w1 none → (∃ b, v1.ownBlock = some b ∧ W.heap.size ≤ b) → wpList P ops Q rest (a.put o.dst v1) w1) : wpList P ops Q (o :: rest) a W := by
  obtain ⟨m, rfl⟩ := Int.eq_ofNat_of_zero_le h0
  simp only [Int.toNat_natCast] at hl
  obtain ⟨i0, hi, hzz⟩ := Option.map_eq_some_iff.1 hinfo
  simp only [Prod.mk.injEq] at hzz
  obtain ⟨hz0, hz1, hz2⟩ := hzz
  have hm : m ≤ 281474976710656 := Nat.le_trans (Nat.le_mul_of_pos_right _ hb0) hl
  have hr := run_make (P := P) W t e i0 z ht hi hz0 .i64 .i64 0 (m : Int) (by omega) (by omega)
    (by
      have h3 : ((i0.bytes * m : Nat) : Int) ≤ 281474976710656 := by rw [hz2, Nat.mul_comm]; omega
      rwa [Int.natCast_mul] at h3) (by omega)
  simp only [Int.toNat_natCast] at hr
  rw [hz1] at hr
  refine Kd.event_run hgd (v := .slice (some ⟨W.heap.size, 0, none⟩) 0 m) (w1 := W.alloc (.cells (madeCells z.cells (m * d.sz)) e)) ?_ (h _ _ ⟨fun k hk => ?_, [], ?_, ?_⟩ (HB.alloc hbase _) (World.grownBy_alloc W _ none) ⟨W.heap.size, by simp [Value.ownBlock], Nat.le_refl _⟩)
  · simp only [execOp, ho, hx, hy]
    have hr' : (Instr.makeSlice t (.int .i64 0) (.int .i64 (m : Int))).run P W = .ok (.slice (some ⟨W.heap.size, 0, none⟩) 0 m) (W.alloc (.cells (madeCells z.cells (m * d.sz)) e)) := by simpa using hr
    simp [hr']
  · have : W.heap.size = k := by simpa [Value.ownBlock] using hk
    subst this
    exact hfresh
  · exact World.ownsRow_made (base := base) (e := e) (size := d.sz) W _ m hbase (by simp [maxLen]; omega) (size_madeCells _ _)
  · exact Reps.none _ _

/-- A call of what is known to be a function, in a region that draws its order. -/
theorem goesV_ {oi : Oper} {N : Option Tmp} {w : World} {K : Act → World → Prop} {f : FuncId} {fn : Func} {xs : Array Operand} {ts : Array TypeId} (hf : P.funcs[f]? = some fn) (hname : (fn.name == "runtime.NumGoroutine") = false) (hb : fn.body.isSome = true) (args : Array Value)
    (hw : Region.wanted oi (yielded ops a.tmps) = true) (hN : oi.dst = N) (hop : ∃ x, oi.op = .call { callee := .value x, args := xs, argTypes := ts } ∧ a.eval x = .func (.func f) #[] #[]) (hargs : xs.map a.eval = args)
    (h : Calls P f args w fun e w' => ∃ v, e = .returned v ∧ K (a.put N v) w') : if Region.wanted oi (yielded ops a.tmps) = true then Oper.wp P oi a w K Q else K (a.put N undef) w := by
  obtain ⟨x, hop, hx⟩ := hop
  refine call_ f args hw hN ?_ h
  have he := enters_ hf hname hb args w
  unfold execOp
  simp [hop, resolve, hx, Deferred.ofValue, invoke, hargs, he]
/-- The same, in a plain region. -/
theorem goesLV_ {oi : Oper} {w : World} (N : Option Tmp) (hd : oi.dst = N) (hg : oi.guard = none) {f : FuncId} {fn : Func} {xs : Array Operand} {ts : Array TypeId} (hf : P.funcs[f]? = some fn) (hname : (fn.name == "runtime.NumGoroutine") = false) (hb : fn.body.isSome = true) (args : Array Value)
    (hop : ∃ x, oi.op = .call { callee := .value x, args := xs, argTypes := ts } ∧ a.eval x = .func (.func f) #[] #[]) (hargs : xs.map a.eval = args)
    (h : Calls P f args w fun e w' => ∃ v, e = .returned v ∧ wpList P ops Q rest (a.put N v) w') : wpList P ops Q (oi :: rest) a w := by
  obtain ⟨x, hop, hx⟩ := hop
  refine wpList_plain hg fun K hK => ?_
  have he := enters_ hf hname hb args w
  have hrun : (execOp a.eval oi).run P w = .ok (.enter f args) w := by
    unfold execOp
    simp [hop, resolve, hx, Deferred.ofValue, invoke, hargs, he]
  unfold Oper.wp
  rw [hrun, Oper.upon_enter]
  refine h.mono fun e w'' hh => ?_
  obtain ⟨v, rfl, hk⟩ := hh
  subst hd
  exact hK _ _ hk
end
/-- A row of whole numbers, told apart anew. -/
theorem R_re {ik : IntKind} {e : Nat} {w : World} {base : Nat} {ok ok' : Nat → Prop} {v : Value} {xs : List Int} (h : (Kd.int ik).R e w base ok v xs) (h' : ∀ k, v.ownBlock = some k → ok' k) : (Kd.int ik).R e w base ok' v xs := ⟨h', h.2⟩
/-- Of what is known, less. -/
theorem zD {p q : Prop} (hk : p) (f : p → q := by intro hk; (repeat' apply And.intro) <;> first | trivial | exact hk | exact hk.1 | exact hk.2 | exact hk.1.1 | exact hk.1.2 | exact hk.2.1 | exact hk.2.2 | exact hk.1.1.1 | exact hk.1.1.2 | exact hk.1.2.1 | exact hk.1.2.2 | exact hk.2.1.1 | exact hk.2.1.2 | exact hk.2.2.1 | exact hk.2.2.2 | exact hk.1.1.1.1 | exact hk.1.1.1.2 | exact hk.1.1.2.1 | exact hk.1.1.2.2 | exact hk.1.2.1.1 | exact hk.1.2.1.2 | exact hk.1.2.2.1 | exact hk.1.2.2.2 | exact hk.2.1.1.1 | exact hk.2.1.1.2 | exact hk.2.1.2.1 | exact hk.2.1.2.2 | exact hk.2.2.1.1 | exact hk.2.2.1.2 | exact hk.2.2.2.1 | exact hk.2.2.2.2 | exact hk.1.1.1.1.1 | exact hk.1.1.1.1.2 | exact hk.1.1.1.2.1 | exact hk.1.1.1.2.2 | exact hk.1.1.2.1.1 | exact hk.1.1.2.1.2 | exact hk.1.1.2.2.1 | exact hk.1.1.2.2.2 | exact hk.1.2.1.1.1 | exact hk.1.2.1.1.2 | exact hk.1.2.1.2.1 | exact hk.1.2.1.2.2 | exact hk.1.2.2.1.1 | exact hk.1.2.2.1.2 | exact hk.1.2.2.2.1 | exact hk.1.2.2.2.2 | exact hk.2.1.1.1.1 | exact hk.2.1.1.1.2 | exact hk.2.1.1.2.1 | exact hk.2.1.1.2.2 | exact hk.2.1.2.1.1 | exact hk.2.1.2.1.2 | exact hk.2.1.2.2.1 | exact hk.2.1.2.2.2 | exact hk.2.2.1.1.1 | exact hk.2.2.1.1.2 | exact hk.2.2.1.2.1 | exact hk.2.2.1.2.2 | exact hk.2.2.2.1.1 | exact hk.2.2.2.1.2 | exact hk.2.2.2.2.1 | exact hk.2.2.2.2.2 | exact hk.1.1.1.1.1.1 | exact hk.1.1.1.1.1.2 | exact hk.1.1.1.1.2.1 | exact hk.1.1.1.1.2.2 | exact hk.1.1.1.2.1.1 | exact hk.1.1.1.2.1.2 | exact hk.1.1.1.2.2.1 | exact hk.1.1.1.2.2.2 | exact hk.1.1.2.1.1.1 | exact hk.1.1.2.1.1.2 | exact hk.1.1.2.1.2.1 | exact hk.1.1.2.1.2.2 | exact hk.1.1.2.2.1.1 | exact hk.1.1.2.2.1.2 | exact hk.1.1.2.2.2.1 | exact hk.1.1.2.2.2.2 | exact hk.1.2.1.1.1.1 | exact hk.1.2.1.1.1.2 | exact hk.1.2.1.1.2.1 | exact hk.1.2.1.1.2.2 | exact hk.1.2.1.2.1.1 | exact hk.1.2.1.2.1.2 | exact hk.1.2.1.2.2.1 | exact hk.1.2.1.2.2.2 | exact hk.1.2.2.1.1.1 | exact hk.1.2.2.1.1.2 | exact hk.1.2.2.1.2.1 | exact hk.1.2.2.1.2.2 | exact hk.1.2.2.2.1.1 | exact hk.1.2.2.2.1.2 | exact hk.1.2.2.2.2.1 | exact hk.1.2.2.2.2.2 | exact hk.2.1.1.1.1.1 | exact hk.2.1.1.1.1.2 | exact hk.2.1.1.1.2.1 | exact hk.2.1.1.1.2.2 | exact hk.2.1.1.2.1.1 | exact hk.2.1.1.2.1.2 | exact hk.2.1.1.2.2.1 | exact hk.2.1.1.2.2.2 | exact hk.2.1.2.1.1.1 | exact hk.2.1.2.1.1.2 | exact hk.2.1.2.1.2.1 | exact hk.2.1.2.1.2.2 | exact hk.2.1.2.2.1.1 | exact hk.2.1.2.2.1.2 | exact hk.2.1.2.2.2.1 | exact hk.2.1.2.2.2.2 | exact hk.2.2.1.1.1.1 | exact hk.2.2.1.1.1.2 | exact hk.2.2.1.1.2.1 | exact hk.2.2.1.1.2.2 | exact hk.2.2.1.2.1.1 | exact hk.2.2.1.2.1.2 | exact hk.2.2.1.2.2.1 | exact hk.2.2.1.2.2.2 | exact hk.2.2.2.1.1.1 | exact hk.2.2.2.1.1.2 | exact hk.2.2.2.1.2.1 | exact hk.2.2.2.1.2.2 | exact hk.2.2.2.2.1.1 | exact hk.2.2.2.2.1.2 | exact hk.2.2.2.2.2.1 | exact hk.2.2.2.2.2.2 | exact hk.1.1.1.1.1.1.1 | exact hk.1.1.1.1.1.1.2 | exact hk.1.1.1.1.1.2.1 | exact hk.1.1.1.1.1.2.2 | exact hk.1.1.1.1.2.1.1 | exact hk.1.1.1.1.2.1.2 | exact hk.1.1.1.1.2.2.1 | exact hk.1.1.1.1.2.2.2 | exact hk.1.1.1.2.1.1.1 | exact hk.1.1.1.2.1.1.2 | exact hk.1.1.1.2.1.2.1 | exact hk.1.1.1.2.1.2.2 | exact hk.1.1.1.2.2.1.1 | exact hk.1.1.1.2.2.1.2 | exact hk.1.1.1.2.2.2.1 | exact hk.1.1.1.2.2.2.2 | exact hk.1.1.2.1.1.1.1 | exact hk.1.1.2.1.1.1.2 | exact hk.1.1.2.1.1.2.1 | exact hk.1.1.2.1.1.2.2 | exact hk.1.1.2.1.2.1.1 | exact hk.1.1.2.1.2.1.2 | exact hk.1.1.2.1.2.2.1 | exact hk.1.1.2.1.2.2.2 | exact hk.1.1.2.2.1.1.1 | exact hk.1.1.2.2.1.1.2 | exact hk.1.1.2.2.1.2.1 | exact hk.1.1.2.2.1.2.2 | exact hk.1.1.2.2.2.1.1 | exact hk.1.1.2.2.2.1.2 | exact hk.1.1.2.2.2.2.1 | exact hk.1.1.2.2.2.2.2 | exact hk.1.2.1.1.1.1.1 | exact hk.1.2.1.1.1.1.2 | exact hk.1.2.1.1.1.2.1 | exact hk.1.2.1.1.1.2.2 | exact hk.1.2.1.1.2.1.1 | exact hk.1.2.1.1.2.1.2 | exact hk.1.2.1.1.2.2.1 | exact hk.1.2.1.1.2.2.2 | exact hk.1.2.1.2.1.1.1 | exact hk.1.2.1.2.1.1.2 | exact hk.1.2.1.2.1.2.1 | exact hk.1.2.1.2.1.2.2 | exact hk.1.2.1.2.2.1.1 | exact hk.1.2.1.2.2.1.2 | exact hk.1.2.1.2.2.2.1 | exact hk.1.2.1.2.2.2.2 | exact hk.1.2.2.1.1.1.1 | exact hk.1.2.2.1.1.1.2 | exact hk.1.2.2.1.1.2.1 | exact hk.1.2.2.1.1.2.2 | exact hk.1.2.2.1.2.1.1 | exact hk.1.2.2.1.2.1.2 | exact hk.1.2.2.1.2.2.1 | exact hk.1.2.2.1.2.2.2 | exact hk.1.2.2.2.1.1.1 | exact hk.1.2.2.2.1.1.2 | exact hk.1.2.2.2.1.2.1 | exact hk.1.2.2.2.1.2.2 | exact hk.1.2.2.2.2.1.1 | exact hk.1.2.2.2.2.1.2 | exact hk.1.2.2.2.2.2.1 | exact hk.1.2.2.2.2.2.2 | exact hk.2.1.1.1.1.1.1 | exact hk.2.1.1.1.1.1.2 | exact hk.2.1.1.1.1.2.1 | exact hk.2.1.1.1.1.2.2 | exact hk.2.1.1.1.2.1.1 | exact hk.2.1.1.1.2.1.2 | exact hk.2.1.1.1.2.2.1 | exact hk.2.1.1.1.2.2.2 | exact hk.2.1.1.2.1.1.1 | exact hk.2.1.1.2.1.1.2 | exact hk.2.1.1.2.1.2.1 | exact hk.2.1.1.2.1.2.2 | exact hk.2.1.1.2.2.1.1 | exact hk.2.1.1.2.2.1.2 | exact hk.2.1.1.2.2.2.1 | exact hk.2.1.1.2.2.2.2 | exact hk.2.1.2.1.1.1.1 | exact hk.2.1.2.1.1.1.2 | exact hk.2.1.2.1.1.2.1 | exact hk.2.1.2.1.1.2.2 | exact hk.2.1.2.1.2.1.1 | exact hk.2.1.2.1.2.1.2 | exact hk.2.1.2.1.2.2.1 | exact hk.2.1.2.1.2.2.2 | exact hk.2.1.2.2.1.1.1 | exact hk.2.1.2.2.1.1.2 | exact hk.2.1.2.2.1.2.1 | exact hk.2.1.2.2.1.2.2 | exact hk.2.1.2.2.2.1.1 | exact hk.2.1.2.2.2.1.2 | exact hk.2.1.2.2.2.2.1 | exact hk.2.1.2.2.2.2.2 | exact hk.2.2.1.1.1.1.1 | exact hk.2.2.1.1.1.1.2 | exact hk.2.2.1.1.1.2.1 | exact hk.2.2.1.1.1.2.2 | exact hk.2.2.1.1.2.1.1 | exact hk.2.2.1.1.2.1.2 | exact hk.2.2.1.1.2.2.1 | exact hk.2.2.1.1.2.2.2 | exact hk.2.2.1.2.1.1.1 | exact hk.2.2.1.2.1.1.2 | exact hk.2.2.1.2.1.2.1 | exact hk.2.2.1.2.1.2.2 | exact hk.2.2.1.2.2.1.1 | exact hk.2.2.1.2.2.1.2 | exact hk.2.2.1.2.2.2.1 | exact hk.2.2.1.2.2.2.2 | exact hk.2.2.2.1.1.1.1 | exact hk.2.2.2.1.1.1.2 | exact hk.2.2.2.1.1.2.1 | exact hk.2.2.2.1.1.2.2 | exact hk.2.2.2.1.2.1.1 | exact hk.2.2.2.1.2.1.2 | exact hk.2.2.2.1.2.2.1 | exact hk.2.2.2.1.2.2.2 | exact hk.2.2.2.2.1.1.1 | exact hk.2.2.2.2.1.1.2 | exact hk.2.2.2.2.1.2.1 | exact hk.2.2.2.2.1.2.2 | exact hk.2.2.2.2.2.1.1 | exact hk.2.2.2.2.2.1.2 | exact hk.2.2.2.2.2.2.1 | exact hk.2.2.2.2.2.2.2) : q := f hk
/-- A cell that is written over with what it holds already. -/
theorem cell_put_back {W : World} {a p : Addr} {u v : Value} (h : W.cell? a = some u) (hp : W.cell? p = some v) : (W.setCell p v).cell? a = some u := by
  by_cases e : p = a
  · subst e
    rw [World.cell?_setCell_same W p v hp, ← hp, h]
  · rw [World.cell?_setCell_other W p a v e, h]
end Go.Proofs.YtbjgmnliholmpaaDoorW.PrintWords
