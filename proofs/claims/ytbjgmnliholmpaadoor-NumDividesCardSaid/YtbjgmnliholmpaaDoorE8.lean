/- A pure reading of code, one operation: what the reading tells, it does. -/
import Derived.Test.YtbjgmnliholmpaaDoorE7
namespace Go.Proofs.YtbjgmnliholmpaaDoor.V
set_option linter.unusedSimpArgs false
set_option linter.unusedVariables false
open Go Go.RowKit
set_option linter.unusedSectionVars false
variable [Yc]
/-- The operation does what is told. -/
def Does (P : Program) (n : Nat) (w0 : World) (S0 : Nat → Prop) (X : Cx) (a : Act) (o : Oper) (σ' : St) : Prop :=
  ∃ (r : Next) (X' : Cx) (a' : Act), (execOp a.eval o).run P X.w = .ok r X'.w ∧ ((r = .skip ∧ a' = a.put o.dst undef) ∨ ∃ v, r = .value v ∧ a' = a.put o.dst v) ∧ (∀ e, X'.A e → X.A e ∨ alc o = some e) ∧ ST n w0 S0 X' σ' a'
section
variable {P : Program} {n : Nat} {w0 : World} {S0 : Nat → Prop} {X Y : Cx} {σ σ' : St} {a : Act} {x y z : Vl} {v u : Value} {cs : List Bool} {c : Cd} {l : List Cd} {d : Nat} {o : Oper} {rs : Rs} {ws : Ws}
theorem app_snoc (p : Nat × Vl) : ∀ (ws : Ws) (σ : St), app (ws ++ [p]) σ = upd (app ws σ) p.1 p.2
  | [], _ => rfl
  | e :: r, σ => app_snoc p r (upd σ e.1 e.2)
theorem app_app : ∀ (ws ws' : Ws) (σ : St), app (ws ++ ws') σ = app ws' (app ws σ)
  | [], _, _ => rfl
  | e :: r, ws', σ => app_app r ws' (upd σ e.1 e.2)
theorem does_val (h : ST n w0 S0 X σ a) (hd : o.dst = some d) (hn : d < n) (hrun : (execOp a.eval o).run P X.w = .ok (.value v) X.w) (hv : X.vl x v) : Does P n w0 S0 X a o (upd σ (2 * d) x) :=
  ⟨_, X, _, hrun, .inr ⟨v, rfl, rfl⟩, fun e he => .inl he, by rw [hd]; exact h.put hn hv⟩
/-- A new block, at the operation's place. -/
theorem does_new (h : ST n w0 S0 X σ a) (hd : o.dst = some d) (hn : d < n) (hal : alc o = some d) (hA : ¬ X.A d) {w1 : World} (hw : X.w.grownBy w1 none) (hrun : (execOp a.eval o).run P X.w = .ok (.value v) w1) (hv : ∀ g, blk v = some g → X.w.heap.size ≤ g)
    (hb : ∀ S', (∀ k, S' k ↔ X.S k ∨ (wr x = true ∧ blk v = some k)) → X.Le ⟨fun e => if e = d then v else X.τ e, fun e => X.A e ∨ e = d, S', w1⟩ → Cx.bk ⟨fun e => if e = d then v else X.τ e, fun e => X.A e ∨ e = d, S', w1⟩ w0.heap.size d x)
    (hy : ∀ X' : Cx, X'.A d → X'.τ d = v → X'.w = w1 → X'.vl y v) : Does P n w0 S0 X a o (upd (upd σ (2 * d + 1) x) (2 * d) y) := by
  have hS : ∀ k, (fun k => X.S k ∨ (wr x = true ∧ blk v = some k)) k ↔ X.S k ∨ (wr x = true ∧ blk v = some k) := fun k => Iff.rfl
  have le := ST.le_new hA hw hv hS
  have h2 := h.new hA hw hv hS (hb _ hS le)
  refine ⟨.value v, ⟨fun e => if e = d then v else X.τ e, fun e => X.A e ∨ e = d, fun k => X.S k ∨ (wr x = true ∧ blk v = some k), w1⟩, _, hrun, .inr ⟨v, rfl, rfl⟩, fun e he => Or.elim he .inl (fun e' => .inr (by rw [hal, e'])), ?_⟩
  rw [hd]
  exact h2.put hn (hy _ (.inr rfl) (if_pos rfl) rfl)
theorem alc_of (h : isAl o.op = true) (hd : o.dst = some d) : alc o = some d := by unfold alc; rw [if_pos h, hd]
theorem does_box (h : ST n w0 S0 X σ a) (hd : o.dst = some d) (hn : d < n) (hA : ¬ X.A d) (hal : alc o = some d) {t : TypeId} {vs : List Value} (hc : X.cs l vs)
    (hrun : (execOp a.eval o).run P X.w = .ok (.value (.pointer (some ⟨X.w.heap.size, 0, none⟩))) (X.w.alloc (.cells vs.toArray t (0, 0)))) : Does P n w0 S0 X a o (app [(2 * d + 1, .box t l), (2 * d, .pt d 0)] σ) := by
  refine does_new h hd hn hal hA (World.grownBy_alloc _ _ none) hrun (fun g hg => by cases hg; exact Nat.le_refl _) (fun S' hS le => ?_) (fun X' h1 h2 _ => ⟨_, h1, h2, rfl⟩)
  exact ⟨X.w.heap.size, vs, .inr rfl, if_pos rfl, h.bel.size, heap_alloc_new _ _, le.cs hc⟩
theorem box_ok (h : ST n w0 S0 X σ a) (hd : o.dst = some d) (hn : d < n) (hA : ¬ X.A d) {t : TypeId} {y : Operand} (hop : o.op = .box t y) {b : Bool} (he : ev σ y = .it b l) : Does P n w0 S0 X a o (app [(2 * d + 1, .box t l), (2 * d, .pt d 0)] σ) := by
  have hy := ev_ok h y
  rw [he] at hy
  obtain ⟨vs, h1, h2, _⟩ := it_cells hy
  exact does_box h hd hn hA (alc_of (by rw [hop]; rfl) hd) h2 (by simp [execOp, hop, Instr.box, newVar, newRow, h1])
theorem alloc_ok (h : ST n w0 S0 X σ a) (hd : o.dst = some d) (hn : d < n) (hA : ¬ X.A d) {t : TypeId} (hop : o.op = .alloc t) (hz : tz P t = some l) : Does P n w0 S0 X a o (app [(2 * d + 1, .box t l), (2 * d, .pt d 0)] σ) := by
  obtain ⟨i, zv, hi, hzv, hcs⟩ := tz_ok (X := X) hz
  refine does_box h hd hn hA (alc_of (by rw [hop]; rfl) hd) hcs ?_
  simp [execOp, hop, Instr.alloc, newVar, newRow, zeroValue, typeInfo, hi, hzv]
theorem kOf_some {e : TypeId} {k : Kn} (h : kOf P e = some k) : k.c = e ∧ tsz P e = some (sz k) ∧ 0 < sz k ∧ 0 < tby P e := by
  unfold kOf at h
  split at h
  · rename_i k' hk
    split at h
    · rename_i hh
      cases h
      exact ⟨kn_c hk, hh.1, hh.2⟩
    · cases h
  · cases h
/-- The elements, laid one behind another. -/
theorem mkL_ok {S : Nat → Prop} {w : World} {k : Kn} : ∀ {as_ : List (Bool × List Cd)} {vs : List Value} {l : List (El k)}, mkL k as_ = some l → (∀ p ∈ as_, ∀ d, Cd.rf d ∉ p.2) → (Cx0 S w).tp as_ vs →
    ∃ uss : List (List Value), uss.length = vs.length ∧ l.length = vs.length ∧ (∀ (i : Nat) v u, vs[i]? = some v → uss[i]? = some u → v.cells = u.toArray) ∧ (∀ (i : Nat) e u, l[i]? = some e → uss[i]? = some u → (Cx0 S w).cs (un k e) u)
  | [], [], l, hm, _, _ => by cases hm; exact ⟨[], rfl, rfl, fun i v u h => by simp at h, fun i e u h => by simp at h⟩
  | [], _ :: _, _, _, _, h => h.elim
  | _ :: _, [], _, _, _, h => h.elim
  | p :: as_, v :: vs, l, hm, hn, h => by
    unfold mkL at hm
    split at hm
    · rename_i e he
      split at hm
      · rename_i s hs
        cases hm
        obtain ⟨uss, h1, h2, h3, h4⟩ := mkL_ok hs (fun p hp => hn p (by simp [hp])) h.2
        obtain ⟨u, hu, hcs, _⟩ := it_cells h.1
        have hcs' := mk_cs he (hn p (by simp)) hcs
        refine ⟨u :: uss, by simp [h1], by simp [h2], fun i v' u' h5 h6 => ?_, fun i e' u' h5 h6 => ?_⟩
        · cases i with
          | zero => cases h5; cases h6; exact hu
          | succ i => exact h3 i v' u' (by simpa using h5) (by simpa using h6)
        · cases i with
          | zero => cases h5; cases h6; exact hcs'
          | succ i => exact h4 i e' u' (by simpa using h5) (by simpa using h6)
      · cases hm
    · cases hm
theorem rp_of {S : Nat → Prop} {w : World} {k : Kn} {l : List (El k)} {uss : List (List Value)} (hl : l.length = uss.length) (hc : ∀ (i : Nat) e u, l[i]? = some e → uss[i]? = some u → (Cx0 S w).cs (un k e) u) :
    (∀ u ∈ uss, u.length = sz k) ∧ (∀ v ∈ uss.flatten, v.oneCell' = true) ∧ Rp S w k l uss.flatten := by
  have hlen : ∀ u ∈ uss, u.length = sz k := fun u hu => by
    obtain ⟨i, hi, e⟩ := List.mem_iff_getElem.1 hu
    have h1 := hc i l[i] u (List.getElem?_eq_getElem (by omega)) (List.getElem?_eq_some_iff.2 ⟨hi, e⟩)
    rw [cs_len h1, un_len]
  refine ⟨hlen, fun v hv => ?_, fun i e j cd hi hj => ?_⟩
  · obtain ⟨u, hu, hv⟩ := List.mem_flatten.1 hv
    obtain ⟨i, hi, e⟩ := List.mem_iff_getElem.1 hu
    exact cs_one (hc i l[i] u (List.getElem?_eq_getElem (by omega)) (List.getElem?_eq_some_iff.2 ⟨hi, e⟩)) v hv
  · have hil := (List.getElem?_eq_some_iff.1 hi).1
    have hu : uss[i]? = some uss[i] := List.getElem?_eq_getElem (by omega)
    have h1 := hc i e _ hi hu
    obtain ⟨v, hv, hcd⟩ := cs_get h1 hj
    exact ⟨v, flat_get hlen hu hv, (cd_cr (un_no h1 · |>.imp (fun h => h) |> fun f => fun e => un_no h1 _ (e ▸ List.mem_of_getElem? hj))).1 hcd⟩
theorem maxInt_eq : maxInt = maxLen := by decide
theorem bs_ok (h : ST n w0 S0 X σ a) (hd : o.dst = some d) (hn : d < n) (hA : ¬ X.A d) {t : TypeId} {len : Nat} {parts : Array (Nat × Operand)} (hop : o.op = .buildSlice t len parts) (hv : bsV P σ d t len parts.toList = some rs) (hr : rs.go some = some ws) : Does P n w0 S0 X a o (app ws σ) := by
  unfold bsV at hv
  split at hv
  · rename_i e ht
    split at hv
    · rename_i k hk
      obtain ⟨hke, hsz, hpos, _⟩ := kOf_some hk
      split at hv
      · rename_i hh
        obtain ⟨hlen, hord, hcap⟩ := hh
        split at hv
        · rename_i as_ has
          split at hv
          · rename_i zs l hz hl
            split at hv
            · rename_i hzl
              cases hv
              simp only [Rs.go, chk, Option.some.injEq] at hr
              subst hr
              obtain ⟨i, zv, hi, hzv, hzcs⟩ := tz_ok (X := X) hz
              obtain ⟨i', hi', hsize⟩ := tsz_some hsz
              rw [hi] at hi'
              cases hi'
              obtain ⟨S', h1, hle, hfz, hres⟩ := frzs_ok h (fla as_)
              have hmap : parts.toList.map (fun p => ev σ p.2) = (parts.toList.map (·.2)).map (ev σ) := by rw [List.map_map]; rfl
              rw [hmap] at has
              have htp := tp_res hres (fun c hc => hc) (argsV_ok h has)
              obtain ⟨uss, hu1, hu2, hu3, hu4⟩ := mkL_ok hl (rsl_no σ as_) htp
              have hvl : ((parts.toList.map (·.2)).map a.eval).length = len := by simpa using hlen
              obtain ⟨g1, g2, g3⟩ := rp_of (by omega) hu4
              have hflat := flat_len g1
              have hzsz : zv.cells.size = sz k := by have := cs_len hzcs; rw [hzl] at this; simpa using this
              have hlen' : uss.length = len := by omega
              have hlk : l.length = len := by omega
              have hpz : parts.size = len := by simpa using hlen
              -- the run
              have hord' : ∀ (k0 : Nat) (ps : List (Nat × Operand)), inOrder k0 ps = true → ∀ (i : Nat) (p : Nat × Operand), ps[i]? = some p → p.1 = k0 + i := by
                intro k0 ps
                induction ps generalizing k0 with
                | nil => intro _ i p hp; simp at hp
                | cons q r ih =>
                  intro ho i p hp
                  simp only [inOrder, Bool.and_eq_true, beq_iff_eq] at ho
                  cases i with
                  | zero => simp only [List.getElem?_cons_zero, Option.some.injEq] at hp; subst hp; simpa using ho.1
                  | succ i => rw [List.getElem?_cons_succ] at hp; have := ih (k0 + 1) ho.2 i p hp; omega
              obtain ⟨out, ho1, ho2⟩ := fill_all (sz k) (parts.toList.map fun p => (p.1, a.eval p.2)) uss 0 ((Array.range (len * sz k)).map (zv.cells[· % zv.cells.size]!)) (by simp [hpz, hlen']) (fun i p u h5 h6 => by
                rw [List.getElem?_map] at h5
                cases hq : parts.toList[i]? with
                | none => rw [hq] at h5; cases h5
                | some q =>
                  rw [hq] at h5
                  cases h5
                  refine ⟨by simpa using hord' 0 _ hord i q hq, hu3 i _ u ?_ h6, g1 u (List.mem_of_getElem? h6)⟩
                  rw [List.getElem?_map, List.getElem?_map, hq]; rfl) (by simp [hpz])
              have hout : out.toList = uss.flatten := by
                rw [ho2]
                have hpl : parts.toList.length = len := hlen
                simp only [Nat.zero_mul, List.take_zero, List.nil_append, Nat.zero_add, List.length_map]
                rw [hpl, List.drop_eq_nil_of_le (by simp), List.append_nil]
              have hrun : (execOp a.eval o).run P X.w = .ok (.value (.slice (some ⟨X.w.heap.size, 0, none⟩) len len)) (X.w.alloc (.cells out e)) := by
                have hparts : (parts.map fun (i, x) => (i, a.eval x)).toList = parts.toList.map fun p => (p.1, a.eval p.2) := by simp
                unfold execOp
                simp only [hop, Instr.buildSlice, Sem.run_bind, run_underlying ht, Result.andThen_ok, sizeOf_run hsz]
                rw [if_neg (by omega)]
                simp only [Sem.run_bind, Sem.run_pure, Result.andThen_ok]
                by_cases h0 : len * sz k = 0
                · have hl0 : len = 0 := (Nat.mul_eq_zero.1 h0).resolve_right (by omega)
                  subst hl0
                  have hp0 : parts = #[] := by apply Array.eq_empty_of_size_eq_zero; simpa using hlen
                  subst hp0
                  have hu0 : uss = [] := List.eq_nil_of_length_eq_zero hlen'
                  subst hu0
                  have : out = #[] := by apply Array.ext'; rw [hout]; rfl
                  subst this
                  simp [Instr.fill, newRow, Array.range_zero']
                · rw [if_neg h0]
                  have hzr : (zeroValue e).run P X.w = .ok zv X.w := by simp [zeroValue, typeInfo, hi, hzv]
                  simp only [Sem.run_bind, hzr, Sem.run_pure, Result.andThen_ok]
                  rw [hparts, ho1]
                  simp [newRow]
              rw [app_app]
              have h2 := does_new (P := P) (y := .it false [.rf d]) (x := .arr k l false) h1 hd hn (alc_of (by rw [hop]; rfl) hd) hA (World.grownBy_alloc X.w _ none) hrun (fun g hg => by cases hg; exact Nat.le_refl _) (fun S2 hS2 le2 => by
                refine ⟨uss.flatten, .inr rfl, ?_, g2, g3.move le2.s le2.m le2.z⟩
                have hown := World.ownsRow_lit (base := w0.heap.size) (e := e) (size := sz k) X.w out len h.bel.size (by rw [← maxInt_eq]; unfold maxInt; have : len ≤ len * sz k := Nat.le_mul_of_pos_right _ hpos; omega) (by rw [← Array.length_toList, hout, hflat, hlen'])
                rw [hout] at hown
                simp only [if_pos]
                rw [hke, hlk]
                exact hown) (fun X' q1 q2 _ => vl1.2 ⟨q1, q2.symm, rfl⟩)
              obtain ⟨r, X', a', k1, k2, k3, k4⟩ := h2
              exact ⟨r, X', a', k1, k2, k3, k4⟩
            · cases hv
          · cases hv
        · cases hv
      · cases hv
    · cases hv
  · cases hv
end
end Go.Proofs.YtbjgmnliholmpaaDoor.V
