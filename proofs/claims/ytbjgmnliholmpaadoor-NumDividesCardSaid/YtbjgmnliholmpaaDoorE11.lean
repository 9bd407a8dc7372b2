/- A pure reading of code, one operation: calls; the step. -/
import Derived.Test.YtbjgmnliholmpaaDoorE10
namespace Go.Proofs.YtbjgmnliholmpaaDoor.V
set_option linter.unusedSimpArgs false
set_option linter.unusedVariables false
open Go Go.RowKit
set_option linter.unusedSectionVars false
variable [Yc]
section
variable {E : Env} {n : Nat} {w0 : World} {S0 : Nat → Prop} {X Y : Cx} {σ σ' : St} {a : Act} {x y z : Vl} {v u : Value} {cs : List Bool} {c : Cd} {l : List Cd} {d : Nat} {o : Oper} {rs : Rs} {ws : Ws} {ops : Array Oper} {K : Act → World → Prop} {Q : Exit → Act → World → Prop}
theorem does_wp (hw : Region.wanted o (yielded ops a.tmps) = true) (hd : Does E.P n w0 S0 X a o σ') (hK : ∀ X' a', (∀ e, X'.A e → X.A e ∨ alc o = some e) → ST n w0 S0 X' σ' a' → K a' X'.w) : if Region.wanted o (yielded ops a.tmps) = true then Oper.wp E.P o a X.w K Q else K (a.put o.dst undef) X.w := by
  obtain ⟨r, X', a', h1, h2, h3, h4⟩ := hd
  rw [if_pos hw]
  unfold Oper.wp
  rw [h1]
  rcases h2 with ⟨rfl, rfl⟩ | ⟨v, rfl, rfl⟩
  · exact hK X' _ h3 h4
  · exact hK X' _ h3 h4
theorem vl0 {S : Nat → Prop} {w : World} (hX : X.S = S) (hw : X.w = w) {x : Vl} (h : (Cx0 S w).vl x v) : X.vl x v := by
  refine Cx.Le.vl (X := Cx0 S w) (Y := X) ⟨fun d hd => hd.elim, fun k hk => .inl (by rw [← hX]; exact hk), fun k _ _ => by rw [hw]; rfl, by rw [hw]; exact Nat.le_refl _⟩ h
theorem call_ok (hE : EnvOk E) (hG : E.G w0) (h : ST n w0 S0 X σ a) (hw : Region.wanted o (yielded ops a.tmps) = true) (hd : o.dst = some d) (hn : d < n) {f : Operand} {xs : Array Operand} {ts : Array TypeId} {g : Nat} (hop : o.op = .call ⟨.value f, xs, ts⟩) (hf : ev σ f = .it false [.fn g])
    (hv : callV E σ d g xs.toList = some rs) (hr : rs.go some = some ws) (hK : ∀ X' a', (∀ e, X'.A e → X.A e ∨ alc o = some e) → ST n w0 S0 X' (app ws σ) a' → K a' X'.w) : if Region.wanted o (yielded ops a.tmps) = true then Oper.wp E.P o a X.w K Q else K (a.put o.dst undef) X.w := by
  unfold callV at hv
  split at hv
  · rename_i hd0 as_ hc has
    split at hv
    · rename_i x hx
      cases hv
      obtain ⟨y, hy, hws⟩ := Option.bind_eq_some_iff.1 hr
      cases hws
      obtain ⟨⟨fn, hfn, hname, hbody⟩, hgo⟩ := hE.c g hd0 hc
      obtain ⟨S', h1, hle, hfz, hres⟩ := frzs_ok h (fla as_)
      have htp := tp_res hres (fun c hc => hc) (argsV_ok h has)
      have hps := grabV_ok hx (rsl_no σ as_) htp
      have hfv := ev_ok h f
      rw [hf] at hfv
      have hfv : a.eval f = .func (.func g) #[] #[] := by have := vl1.1 hfv; revert this; generalize a.eval f = q; intro this; cases this; rfl
      rw [if_pos hw]
      have hrun : (execOp a.eval o).run E.P X.w = .ok (.enter g (xs.toList.map a.eval).toArray) X.w := by
        have e1 : xs.map a.eval = (xs.toList.map a.eval).toArray := by apply Array.ext'; simp
        have hname' : ¬ ((fn.name == "runtime.NumGoroutine") = true) := by rw [hname]; decide
        have hbody' : ¬ (fn.body.isNone = true) := by cases hb : fn.body <;> simp_all
        unfold execOp
        simp only [hop, resolve, Sem.run_bind, hfv, Deferred.ofValue, Sem.run_pure, Result.andThen_ok, invoke, callFunc, Array.empty_append, Array.append_empty, program, Sem.run, hfn]
        rw [if_neg hname', if_neg hbody', e1]
        rfl
      unfold Oper.wp
      rw [hrun]
      have hG' : E.G X.w := hE.gb hG h.bel
      refine (hgo x y hy S' X.w _ (fun k hk => h1.lt hk) hG' hps).mono ?_
      rintro e w' ⟨v, rfl, hbel, hrv⟩
      have h2 := h1.world (w1 := w') hbel
      have h3 := h2.put (d := d) hn (vl0 (X := { X with S := S', w := w' }) rfl rfl hrv)
      show K (a.put o.dst v) w'
      rw [hd]
      refine hK { X with S := S', w := w' } _ (fun e he => .inl he) ?_
      rw [app_snoc]
      exact h3
    · cases hv
  · cases hv
theorem val_ok (h : ST n w0 S0 X σ a) (hd : o.dst = some d) (hn : d < n) (hv : (match valv E.P σ o.op with | some (cs, x) => some (Rs.ret cs [(2 * d, x)]) | none => none) = some rs) (hr : rs.go some = some ws) : Does E.P n w0 S0 X a o (app ws σ) := by
  split at hv
  · rename_i cs x hx
    cases hv
    obtain ⟨hc, hws⟩ := chk_some hr
    cases hws
    obtain ⟨v, h1, h2⟩ := valv_ok h hx hc
    exact does_val h hd hn h1 h2
  · cases hv
/-- The step. -/
theorem op_ok (hE : EnvOk E) (hG : E.G w0) (h : ST n w0 S0 X σ a) (hw : Region.wanted o (yielded ops a.tmps) = true) (hA : ∀ d, alc o = some d → ¬ X.A d) (hv : opv E n σ o = some rs) (hr : rs.go some = some ws)
    (hK : ∀ X' a', (∀ e, X'.A e → X.A e ∨ alc o = some e) → ST n w0 S0 X' (app ws σ) a' → K a' X'.w) : if Region.wanted o (yielded ops a.tmps) = true then Oper.wp E.P o a X.w K Q else K (a.put o.dst undef) X.w := by
  unfold opv at hv
  split at hv
  · rename_i hd
    split at hv
    · rename_i t p x hop
      exact does_wp hw (st_ok h hd hop hv hr) hK
    · cases hv
  · rename_i d hd
    split at hv
    · rename_i hn
      have hal : isAl o.op = true → ¬ X.A d := fun hq => hA d (alc_of hq hd)
      split at hv
      · rename_i t x hop
        split at hv
        · rename_i b l he
          cases hv
          cases hr
          exact does_wp hw (box_ok h hd hn (hal (by rw [hop]; rfl)) hop he) hK
        · cases hv
      · rename_i t hop
        split at hv
        · rename_i l hz
          cases hv
          cases hr
          exact does_wp hw (alloc_ok h hd hn (hal (by rw [hop]; rfl)) hop hz) hK
        · cases hv
      · rename_i t len parts hop
        exact does_wp hw (bs_ok h hd hn (hal (by rw [hop]; rfl)) hop hv hr) hK
      · rename_i t ln cp hop
        exact does_wp hw (ms_ok h hd hn (hal (by rw [hop]; rfl)) hop hv hr) hK
      · rename_i xs ts hop
        split at hv
        · rename_i s x hxs
          exact does_wp hw (ap_ok h hd hn (hal (by rw [hop]; rfl)) hop hxs hv hr) hK
        · cases hv
      · rename_i f xs ts hop
        split at hv
        · rename_i g hf
          exact call_ok hE hG h hw hd hn hop hf hv hr hK
        · cases hv
      · rename_i t x lo hi hop
        split at hv
        · rename_i b hex
          exact does_wp hw (fz_ok h hd hn (hal (by rw [hop]; rfl)) hop hex hv hr) hK
        · exact does_wp hw (val_ok h hd hn (by rw [hop]; exact hv) hr) hK
      · exact does_wp hw (val_ok h hd hn hv hr) hK
    · cases hv
end
end Go.Proofs.YtbjgmnliholmpaaDoor.V
