/- A pure reading of code, one operation that changes nothing: a literal; all kinds together. -/
import Derived.Test.YtbjgmnliholmpaaDoorE4
namespace Go.Proofs.YtbjgmnliholmpaaDoor.V
set_option linter.unusedSimpArgs false
set_option linter.unusedVariables false
open Go Go.RowKit
set_option linter.unusedSectionVars false
variable [Yc]
section
variable {P : Program} {n : Nat} {w0 : World} {S0 : Nat → Prop} {X : Cx} {σ : St} {a : Act} {x y z : Vl} {v u : Value} {cs : List Bool} {c : Cd} {l : List Cd}
theorem tz_ok {t : TypeId} (h : tz P t = some l) : ∃ (i : TypeInfo) (zv : Value), P.info? t = some i ∧ i.zero = some zv ∧ X.cs l zv.cells.toList := by
  unfold tz at h
  split at h
  · rename_i i hi
    split at h
    · rename_i zv hz
      exact ⟨i, zv, hi, hz, cstl_ok h⟩
    · cases h
  · cases h
theorem plc_ok : ∀ {fs : List Field} {pl : List (Nat × Nat)}, plc P fs = some pl → fs.mapM (fun f => (P.info? f.type).map fun i => (f.offset, i.size)) = some pl
  | [], pl, h => by cases h; rfl
  | f :: r, pl, h => by
    unfold plc at h
    split at h
    · rename_i s hs
      split at h
      · rename_i l hl
        cases h
        obtain ⟨i, hi, rfl⟩ := tsz_some hs
        simp [List.mapM_cons, hi, plc_ok hl]
      · cases h
    · cases h
theorem fold_set (off : Nat) : ∀ (us : List Value) (k : Nat) (cells : Array Value), off + k + us.length ≤ cells.size →
    ((us.zipIdx k).foldl (fun (cs : Array Value) (p : Value × Nat) => cs.setIfInBounds (off + p.2) p.1) cells).toList = cells.toList.take (off + k) ++ us ++ cells.toList.drop (off + k + us.length)
  | [], k, cells, _ => by simp
  | u :: us, k, cells, h => by
    simp only [List.length_cons] at h
    simp only [List.zipIdx_cons, List.foldl_cons]
    rw [fold_set off us (k + 1) _ (by simp; omega)]
    simp only [Array.toList_setIfInBounds, List.length_cons]
    have hs : off + k < cells.toList.length := by simp; omega
    have e : cells.toList.set (off + k) u = cells.toList.take (off + k) ++ u :: cells.toList.drop (off + k + 1) := List.set_eq_take_append_cons_drop ▸ (by rw [if_pos hs])
    have hlen : (cells.toList.take (off + k)).length = off + k := by rw [List.length_take]; omega
    rw [e]
    have e1 : (cells.toList.take (off + k) ++ u :: cells.toList.drop (off + k + 1)).take (off + (k + 1)) = cells.toList.take (off + k) ++ [u] := by
      rw [List.take_append, List.take_of_length_le (by omega), hlen, show off + (k + 1) - (off + k) = 1 by omega]
      rfl
    have e2 : (cells.toList.take (off + k) ++ u :: cells.toList.drop (off + k + 1)).drop (off + (k + 1) + us.length) = cells.toList.drop (off + k + (us.length + 1)) := by
      rw [List.drop_append, List.drop_eq_nil_of_le (by omega), hlen, show off + (k + 1) + us.length - (off + k) = us.length + 1 by omega, List.drop_succ_cons, List.drop_drop, List.nil_append]
      congr 1
      omega
    rw [e1, e2]
    simp
theorem blV_ok {pl : List (Nat × Nat)} : ∀ {parts : List (Nat × Vl)} {l l' : List Cd} {ps : List (Nat × Value)} {vs : List Value}, blV pl l parts = some l' → X.cs l vs →
    (ps.length = parts.length ∧ ∀ (i : Nat) p q, parts[i]? = some p → ps[i]? = some q → q.1 = p.1 ∧ X.vl p.2 q.2) → ∃ vs' : List Value, Instr.fill (pl.toArray[·]?) vs.toArray ps = some vs'.toArray ∧ X.cs l' vs'
  | [], l, l', ps, vs, h, hcs, hp => by
    cases h
    obtain rfl : ps = [] := List.eq_nil_of_length_eq_zero hp.1
    exact ⟨vs, rfl, hcs⟩
  | (j, y) :: r, l, l', ps, vs, h, hcs, hp => by
    match ps, hp with
    | [], hp => simp at hp
    | q :: ps, hp =>
      obtain ⟨hl, hp⟩ := hp
      obtain ⟨hq1, hq2⟩ := hp 0 _ _ rfl rfl
      cases y with
      | it a' c' =>
        simp only [blV] at h
        split at h
        · rename_i off s hpl
          split at h
          · rename_i hh
            obtain ⟨rfl, hle⟩ := hh
            obtain ⟨us, hu, hus, _, _⟩ := it_cells hq2
            have hlu := cs_len hus
            have hlv := cs_len hcs
            have hnew : X.cs (l.take off ++ c' ++ l.drop (off + c'.length)) (vs.take off ++ us ++ vs.drop (off + c'.length)) := cs_app (cs_app (cs_take off hcs) hus) (cs_drop _ hcs)
            obtain ⟨vs', h1, h2⟩ := blV_ok (ps := ps) h hnew ⟨by simpa using hl, fun i p q h3 h4 => hp (i + 1) p q (by simpa using h3) (by simpa using h4)⟩
            refine ⟨vs', ?_, h2⟩
            obtain ⟨q1, q2⟩ := q
            simp only at hq1 hu
            subst hq1
            have hf := fold_set off us 0 vs.toArray (by simp; omega)
            have hpl' : pl.toArray[q1]? = some (off, c'.length) := by simpa using hpl
            simp only [Instr.fill, hpl', hu]
            have hc1 : ¬ ((us.toArray.size ≠ c'.length || decide (off + us.toArray.size > vs.toArray.size)) = true) := by
              simp [hlu]
              omega
            rw [if_neg hc1]
            have he : Array.foldl (fun (cs : Array Value) (x : Value × Nat) => match x with | (c, j) => cs.setIfInBounds (off + j) c) vs.toArray us.toArray.zipIdx = (vs.take off ++ us ++ vs.drop (off + c'.length)).toArray := by
              apply Array.ext'
              rw [← Array.foldl_toList]
              simp only [Array.toList_zipIdx]
              rw [show (fun (cs : Array Value) (x : Value × Nat) => match x with | (c, j) => cs.setIfInBounds (off + j) c) = (fun (cs : Array Value) (p : Value × Nat) => cs.setIfInBounds (off + p.2) p.1) from rfl]
              simp only [Nat.add_zero] at hf
              rw [hf, hlu]
            rw [he]
            exact h1
          · cases h
        · cases h
      | _ => simp [blV] at h
theorem buV_ok (h : ST n w0 S0 X σ a) {t : TypeId} {ps : List (Nat × Operand)} (hv : buV P t (ps.map fun p => (p.1, ev σ p.2)) = some (cs, x)) (w : World) : ∃ r, (Instr.build t (ps.map fun p => (p.1, a.eval p.2)).toArray).run P w = .ok r w ∧ X.vl x r := by
  unfold buV at hv
  split at hv
  · rename_i fs l hu hz
    split at hv
    · rename_i pl hpl
      split at hv
      · rename_i l' hl
        cases hv
        obtain ⟨i, zv, hi, hzv, hcs⟩ := tz_ok (X := X) hz
        obtain ⟨vs', h1, h2⟩ := blV_ok (ps := ps.map fun p => (p.1, a.eval p.2)) hl hcs ⟨by simp, fun k p q h3 h4 => by
          rw [List.getElem?_map] at h3 h4
          cases hk : ps[k]? with
          | none => rw [hk] at h3; cases h3
          | some o =>
            rw [hk] at h3 h4
            cases h3
            cases h4
            exact ⟨rfl, ev_ok h o.2⟩⟩
        refine ⟨.agg vs'.toArray, run_build w t _ _ ?_, vs', rfl, h2⟩
        simp only [Program.built, hi, hu, hzv, plc_ok hpl]
        simpa using h1
      · cases hv
    · cases hv
  · cases hv
theorem lnC_ok (h : ST n w0 S0 X σ a) {m : Int} (hc : X.cd c v) (hl : lnC σ c = some m) (hs : ∀ s, c ≠ .s s) {t : TypeId} {d : TypeId} (ht : P.underlying t = some (.slice d)) (ty : TypeId) (w : World) : (Builtin.len_ #[t] ty #[v]).run P w = .ok (.int .i64 m) w := by
  have key : ∀ A (n : Nat) k, v = .slice A n k → (n : Int) = m → (Builtin.len_ #[t] ty #[v]).run P w = .ok (.int .i64 m) w := by
    rintro A n k rfl rfl
    exact run_len_slice w t ty A n k (elem_of ht).2
  cases c with
  | s s => exact absurd rfl (hs s)
  | sl k l =>
    simp only [lnC, Option.some.injEq] at hl
    have hc : CR X.S X.w (.sl k l) v := hc
    cases hc with
    | nsl => exact key _ _ _ rfl hl
    | sl => exact key _ _ _ rfl hl
  | nil =>
    simp only [lnC, Option.some.injEq] at hl
    have hc : CR X.S X.w .nil v := hc
    cases hc
    exact key _ _ _ rfl hl
  | rf d =>
    simp only [lnC] at hl
    split at hl
    · rename_i k l fz hb
      cases hl
      obtain ⟨_, rfl, _⟩ := hc
      have hbk := h.bk d
      rw [hb] at hbk
      obtain ⟨xs, _, ho, _⟩ := hbk
      rcases ho.2 with ⟨e1, e2⟩ | ⟨g, cap, cur, e1, _⟩
      · exact key _ _ _ e1 (by rw [e2])
      · exact key _ _ _ e1 rfl
    · cases hl
  | _ => simp [lnC] at hl
theorem call_val {a : Act} {o : Oper} {b : Builtin} {xs : Array Operand} {ts : Array TypeId} {s : Sem Value} {r : Value} {w : World} (hop : o.op = .call ⟨.builtin b, xs, ts⟩) (hb : ∀ cs, builtin b ts o.type cs (xs.map a.eval) = (do pure (.value (← s)))) (hs : s.run P w = .ok r w) : (execOp a.eval o).run P w = .ok (.value r) w := by
  unfold execOp
  simp only [hop, resolve, Sem.run_bind, Sem.run_pure, Result.andThen_ok, invoke, hb, hs]
/-- What the reading tells of an operation that changes nothing, it does. -/
theorem valv_ok (h : ST n w0 S0 X σ a) {o : Oper} (hv : valv P σ o.op = some (cs, x)) (hc : ∀ b ∈ cs, b = true) : ∃ v, (execOp a.eval o).run P X.w = .ok (.value v) X.w ∧ X.vl x v := by
  generalize hop : o.op = op at hv
  have fin : ∀ (s : Sem Value), (execOp a.eval o = do pure (.value (← s))) → (∃ r, s.run P X.w = .ok r X.w ∧ X.vl x r) → ∃ v, (execOp a.eval o).run P X.w = .ok (.value v) X.w ∧ X.vl x v := by
    rintro s e ⟨r, h1, h2⟩
    exact ⟨r, by rw [e, Sem.run_bind, h1]; rfl, h2⟩
  unfold valv at hv
  split at hv
  · cases hv; exact ⟨_, by simp [execOp, hop], ev_ok h _⟩
  · cases hv; exact ⟨_, by simp [execOp, hop], ev_ok h _⟩
  · rename_i y i
    have hy := ev_ok h y
    unfold extV at hv
    split at hv
    · rename_i l e
      rw [e] at hy
      split at hv
      · rename_i p hp
        cases hv
        obtain ⟨vs, hvs, ht⟩ := hy
        obtain ⟨r, hr, hi⟩ := tp_get ht hp
        exact ⟨r, by simp [execOp, hop, hvs, Instr.extract, hr], hi⟩
      · cases hv
    · cases hv
  · rename_i uo t y
    have hy := ev_ok h y
    unfold unV at hv
    split at hv
    · rename_i b e
      rw [e] at hy
      cases hv
      exact ⟨_, by simp [execOp, hop, vl_b hy, Op.unary], mk_b _⟩
    · rename_i k m e
      rw [e] at hy
      cases hv
      exact ⟨.int k (k.wrap (0 - m)), by simp [execOp, hop, vl_i hy, Op.unary, Op.intArith], by rw [wrp_eq]; exact mk_i _ _⟩
    · cases hv
  · rename_i bo t y1 y2 t2
    have h1 := ev_ok h y1
    have h2 := ev_ok h y2
    unfold binV at hv
    split at hv
    · rename_i k m k' p e1 e2
      rw [e1] at h1
      rw [e2] at h2
      split at hv
      · rename_i hk
        subst hk
        split at hv
        · rename_i cs' c' hb
          cases hv
          have hnz : nzO y2 = true → p ≠ 0 := fun hq => by
            cases y2 with
            | const v => cases v <;> first | (simp [nzO] at hq; done) | skip
                         simp only [nzO, Bool.not_eq_true', decide_eq_false_iff_not] at hq
                         have h5 := vl_i h2
                         simp only [Act.eval, Value.int.injEq] at h5
                         rw [← h5.2]
                         exact hq
            | _ => simp [nzO] at hq
          obtain ⟨r, h3, h4⟩ := binI_ok (P := P) (X := X) hnz t y1 y2 hb hc X.w
          exact fin _ (by simp only [execOp, hop, vl_i h1, vl_i h2]) ⟨r, h3, vl1.2 h4⟩
        · cases hv
      · cases hv
    · rename_i m p e1 e2
      rw [e1] at h1
      rw [e2] at h2
      split at hv
      · rename_i cs' c' hb
        cases hv
        obtain ⟨r, h3, h4⟩ := binS_ok (P := P) (X := X) t y1 y2 hb hc X.w
        exact fin _ (by simp only [execOp, hop, vl_s h1, vl_s h2]) ⟨r, h3, vl1.2 h4⟩
      · cases hv
    · rename_i m p e1 e2
      rw [e1] at h1
      rw [e2] at h2
      split at hv
      · rename_i ht
        split at hv
        · cases hv
          exact fin _ (by simp only [execOp, hop, vl_b h1, vl_b h2]) ⟨.bool (m == p), (binB_ok ht y1 y2 X.w).1 rfl, by rw [Yc.h]; exact mk_b _⟩
        · cases hv
          exact fin _ (by simp only [execOp, hop, vl_b h1, vl_b h2]) ⟨.bool (!(m == p)), (binB_ok ht y1 y2 X.w).2 rfl, by rw [Yc.h]; exact mk_b _⟩
        · cases hv
      · cases hv
    · cases hv
  · exact fin _ (by simp only [execOp, hop]) (cnvV_ok (ev_ok h _) hv X.w)
  · exact fin _ (by simp only [execOp, hop]) (ldV_ok h (ev_ok h _) hv)
  · exact fin _ (by simp only [execOp, hop]) (fdV_ok (ev_ok h _) hv X.w)
  · exact fin _ (by simp only [execOp, hop]) (faV_ok h (ev_ok h _) hv)
  · exact fin _ (by simp only [execOp, hop]) (iaV_ok h (ev_ok h _) (ev_ok h _) hv hc)
  · exact fin _ (by simp only [execOp, hop]) (ixV_ok (ev_ok h _) (ev_ok h _) hv hc X.w)
  · exact fin _ (by simp only [execOp, hop]; rfl) (slV_ok h (ev_ok h _) hv hc)
  · rename_i t parts
    obtain ⟨r, h1, h2⟩ := buV_ok h hv X.w
    refine fin (Instr.build t (parts.map fun (i, x) => (i, a.eval x))) (by simp only [execOp, hop]) ⟨r, ?_, h2⟩
    rw [show (parts.map fun (i, x) => (i, a.eval x)) = (parts.toList.map fun p => (p.1, a.eval p.2)).toArray from by apply Array.ext'; simp]
    exact h1
  · rename_i xs ts
    split at hv
    · rename_i y t e1 e2
      have hxs : xs = #[y] := by apply Array.ext'; simpa using e1
      subst hxs
      have hy := ev_ok h y
      have hkey : ∀ r, (Builtin.len_ #[t] o.type #[a.eval y]).run P X.w = .ok r X.w → (execOp a.eval o).run P X.w = .ok (.value r) X.w := fun r hr => by
        refine call_val hop (fun cs => rfl) ?_
        simpa [Builtin.len_, e2] using hr
      split at hv
      · rename_i s e3 e4
        rw [e3] at hy
        cases hv
        exact ⟨_, hkey (.int .i64 s.size) (by simp [Builtin.len_, run_underlying e4, vl_s hy, goInt]), mk_i _ _⟩
      · rename_i e3 e4
        rw [e3] at hy
        split at hv
        · cases hv
        · rename_i c2 hns
          split at hv
          · rename_i m hm
            cases hv
            exact ⟨_, hkey _ (lnC_ok h (vl1.1 hy) hm hns e4 _ _), mk_i _ _⟩
          · cases hv
      · cases hv
    · cases hv
  · rename_i xs ts
    obtain ⟨r, h1, h2⟩ := mxV_ok (P := P) (ts := ts) (t := o.type) h hv X.w
    simp only [if_true] at h1
    refine ⟨r, call_val hop (fun cs => rfl) ?_, h2⟩
    rw [show xs.map a.eval = (xs.toList.map a.eval).toArray from by apply Array.ext'; simp]
    exact h1
  · rename_i xs ts
    obtain ⟨r, h1, h2⟩ := mxV_ok (P := P) (ts := ts) (t := o.type) h hv X.w
    simp only [Bool.false_eq_true, if_false] at h1
    refine ⟨r, call_val hop (fun cs => rfl) ?_, h2⟩
    rw [show xs.map a.eval = (xs.toList.map a.eval).toArray from by apply Array.ext'; simp]
    exact h1
  · cases hv
end
end Go.Proofs.YtbjgmnliholmpaaDoor.V
