/- A pure reading of code: functions. -/
import Derived.Test.YtbjgmnliholmpaaDoorE17
namespace Go.Proofs.YtbjgmnliholmpaaDoor.V
set_option linter.unusedSimpArgs false
set_option linter.unusedVariables false
open Go Go.RowKit
set_option linter.unusedSectionVars false
variable [Yc]
def initL : Nat → (ps : List (Bool × List Cs)) → XV ps → St
  | _, [], _, _ => .jk
  | k, p :: r, x, q => if q = 2 * k then .it p.1 (puts p.2 x.1) else initL (k + 1) r x.2 q
def rsV (P : Program) (σ : St) : List ResultVar → Option (List (Bool × List Cd))
  | [] => some []
  | .tmp t :: r => match σ (2 * t) with
    | .it a l => match rsV P σ r with
      | some s => some ((a, l) :: s)
      | none => none
    | _ => none
  | .cell p ty :: r => match ldV P σ ty (σ (2 * p)) with
    | some ([], .it a l) => match rsV P σ r with
      | some s => some ((a, l) :: s)
      | none => none
    | _ => none
def endK {T : Type} (P : Program) (fn : Func) (rs : List (Bool × List Cs)) (c : XV rs → T) (σ : St) : Option T := match rsV P σ fn.results.toList with
  | some l => match grabV rs (rsl σ l) with
    | some y => some (c y)
    | none => none
  | none => none
def finK {T : Type} (P : Program) (fn : Func) (rs : List (Bool × List Cs)) (c : XV rs → T) : Ex → St → List Nat → Option T
  | .nrm, σ, _ => endK P fn rs c σ
  | .ret, σ, _ => endK P fn rs c σ
  | .ext _, _, _ => none
def rget (tmps : Array Value) : ResultVar → Sem Value
  | .tmp t => pure (tmps.getD t undef)
  | .cell p ty => do loadVar ty (← asAddr (tmps.getD p undef))
section
variable {E : Env} {P : Program} {n : Nat} {w0 : World} {S0 : Nat → Prop} {X : Cx} {σ : St} {a : Act}
theorem at_addr {ty : TypeId} {q u : Value} {w : World} (h3 : (Instr.loadAt ty q).run P w = .ok u w) : (do loadVar ty (← asAddr q) : Sem Value).run P w = .ok u w := by
  simp only [Instr.loadAt, Sem.run_bind] at h3
  cases q with
  | pointer o =>
    cases o with
    | some A => simpa [Instr.sureAddr, asAddr] using h3
    | none => simp [Instr.sureAddr, stuck, Sem.run, Result.andThen] at h3
  | _ => simp [Instr.sureAddr, stuck, Sem.run, Result.andThen] at h3
theorem rsV_ok (h : ST n w0 S0 X σ a) : ∀ {rv : List ResultVar} {l : List (Bool × List Cd)}, rsV P σ rv = some l → ∃ vs : List Value, (rv.mapM (rget a.tmps)).run P X.w = .ok vs X.w ∧ X.tp l vs
  | [], l, hr => by cases hr; exact ⟨[], by simp, trivial⟩
  | .tmp t :: r, l, hr => by
    unfold rsV at hr
    split at hr
    · rename_i b c hb
      split at hr
      · rename_i s hs
        cases hr
        obtain ⟨vs, h1, h2⟩ := rsV_ok h hs
        have hv := h.tm t
        rw [hb] at hv
        exact ⟨a.tmps.getD t undef :: vs, by simp only [List.mapM_cons, rget, Sem.run_bind, Sem.run_pure, Result.andThen_ok, h1], hv, h2⟩
      · cases hr
    · cases hr
  | .cell p ty :: r, l, hr => by
    unfold rsV at hr
    split at hr
    · rename_i b c hb
      split at hr
      · rename_i s hs
        cases hr
        obtain ⟨vs, h1, h2⟩ := rsV_ok h hs
        obtain ⟨u, h3, h4⟩ := ldV_ok h (h.tm p) hb
        have h5 : (rget a.tmps (.cell p ty)).run P X.w = .ok u X.w := at_addr h3
        exact ⟨u :: vs, by simp only [List.mapM_cons, Sem.run_bind, Sem.run_pure, Result.andThen_ok, h5, h1], h4, h2⟩
      · cases hr
    · cases hr
theorem tp_len : ∀ {l : List (Bool × List Cd)} {vs : List Value}, X.tp l vs → vs.length = l.length
  | [], [], _ => rfl
  | _ :: _, _ :: _, h => by simp [tp_len h.2]
  | [], _ :: _, h => h.elim
  | _ :: _, [], h => h.elim
theorem resV_ok {l : List (Bool × List Cd)} {vs : List Value} (h : X.tp l vs) : X.vl (resV l) (if h : vs.toArray.size = 1 then vs.toArray[0] else .tuple vs.toArray) := by
  have hl := tp_len h
  match l, vs, h, hl with
  | [], [], h, _ => exact ⟨[], rfl, trivial⟩
  | [(b, c)], [v], h, _ => exact h.1
  | p :: q :: r, v :: w :: vs, h, _ =>
    rw [dif_neg (by simp)]
    exact ⟨v :: w :: vs, rfl, h⟩
theorem cx0_move {S S' : Nat → Prop} {w : World} (h : ∀ k, S' k → S k) {l : List (Bool × List Cd)} {vs : List Value} (ht : (Cx0 S w).tp l vs) : (Cx0 S' w).tp l vs :=
  Cx.Le.tp (X := Cx0 S w) (Y := Cx0 S' w) ⟨fun d hd => hd.elim, fun k hk => .inl (h k hk), fun _ _ _ => rfl, Nat.le_refl _⟩ ht
theorem init_vl {S : Nat → Prop} {w : World} : ∀ {k : Nat} {ps : List (Bool × List Cs)} {x : XV ps} {vs : List Value}, (Cx0 S w).tp (putV ps x) vs → ∀ t, (initL k ps x (2 * t) = .jk ∨ ∃ v, k ≤ t ∧ vs[t - k]? = some v ∧ (Cx0 S w).vl (initL k ps x (2 * t)) v) ∧ initL k ps x (2 * t + 1) = .jk
  | _, [], _, _, _, _ => ⟨.inl rfl, rfl⟩
  | k, p :: r, x, [], h, _ => h.elim
  | k, p :: r, x, v :: vs, h, t => by
    obtain ⟨h1, h2⟩ := h
    obtain ⟨h3, h4⟩ := init_vl (k := k + 1) h2 t
    unfold initL
    constructor
    · by_cases ht : t = k
      · subst ht
        rw [if_pos rfl]
        exact .inr ⟨v, Nat.le_refl _, by simp, h1⟩
      · rw [if_neg (by omega)]
        rcases h3 with h3 | ⟨u, h5, h6, h7⟩
        · exact .inl h3
        · refine .inr ⟨u, by omega, ?_, h7⟩
          rw [show t - k = (t - (k + 1)) + 1 by omega, List.getElem?_cons_succ]
          exact h6
    · rw [if_neg (by omega)]
      exact h4
/-- The state at a function's begin. -/
theorem init_ok {ps : List (Bool × List Cs)} {x : XV ps} {vs : List Value} {w : World} (hS : ∀ k, S0 k → k < w.heap.size) (ht : (Cx0 S0 w).tp (putV ps x) vs) (hn : ps.length ≤ n) :
    ST n w S0 ⟨fun _ => undef, fun _ => False, S0, w⟩ (initL 0 ps x) { tmps := vs.toArray ++ Array.replicate (n - vs.toArray.size) undef, defers := [] } := by
  have hl := tp_len ht
  have hpl : ∀ {ps : List (Bool × List Cs)} {x : XV ps}, (putV ps x).length = ps.length := by
    intro ps
    induction ps with
    | nil => intro x; rfl
    | cons p r ih => intro x; simp [putV, ih]
  rw [hpl] at hl
  have hinit := init_vl (k := 0) ht
  have hodd : ∀ d, initL 0 ps x (2 * d + 1) = .jk := fun d => (hinit d).2
  refine ⟨by simp; omega, rfl, Below.refl _ _, hS, fun k => ⟨.inl, fun hk => hk.elim id (fun ⟨d, h1, _⟩ => by rw [hodd d] at h1; cases h1)⟩, fun t => ?_, fun d => by rw [hodd d]; trivial, fun d d' g h1 => by rw [hodd d] at h1; cases h1⟩
  rcases (hinit t).1 with h1 | ⟨v, _, h2, h3⟩
  · rw [h1]; trivial
  · rw [Nat.sub_zero] at h2
    have : (vs.toArray ++ Array.replicate (n - vs.toArray.size) undef).getD t undef = v := by
      rw [Array.getD_eq_getD_getElem?, Array.getElem?_append_left (by simpa using (List.getElem?_eq_some_iff.1 h2).1)]
      simp [h2]
    rw [this]
    exact h3
/-- A function does what its reading tells. -/
theorem fn_go (hE : EnvOk E) {g : Nat} {fn : Func} {code : Code} (hf : E.P.funcs[g]? = some fn) (hb : fn.body = some code) {ps rs : List (Bool × List Cs)} {T : Type} {e : T → XV rs} {c : XV rs → T} (hc : ∀ y, e (c y) = y) (hn : ps.length ≤ fn.ntmps)
    {x : XV ps} {y : T} (hr : cev E fn.ntmps code (initL 0 ps x) [] (finK E.P fn rs c) = some y) {w : World} {vs : List Value} (hS : ∀ k, S0 k → k < w.heap.size) (hG : E.G w) (ht : (Cx0 S0 w).tp (putV ps x) vs) :
    Calls E.P g vs.toArray w fun e' w' => ∃ v, e' = .returned v ∧ Below w.heap.size w w' ∧ (Cx0 S0 w').vl (resV (putV rs (e y))) v := by
  refine calls_of_wp hf hb ?_
  refine cev_ok hE hG code hr (init_ok hS ht hn) (fun e he => he.elim) (fun ex σ' al' X' a' h1 h2 h3 => ?_)
  have key : endK E.P fn rs c σ' = some y → a'.defers = [] ∧ ∃ v, (results fn a'.tmps).run E.P X'.w = .ok v X'.w ∧ ∃ v', Ending.returned v = .returned v' ∧ Below w.heap.size w X'.w ∧ (Cx0 S0 X'.w).vl (resV (putV rs (e y))) v' := fun hk => by
    unfold endK at hk
    split at hk
    · rename_i l hl
      split at hk
      · rename_i y' hy
        cases hk
        obtain ⟨us, h4, h5⟩ := rsV_ok h2 hl
        obtain ⟨S', k1, k2, _, k4⟩ := frzs_ok h2 (fla l)
        have h6 := tp_res k4 (fun c hc => hc) h5
        have h7 := grabV_ok hy (rsl_no σ' l) h6
        have hSS : ∀ k, S0 k → S' k := fun k hk => (k1.s k).2 (.inl hk)
        have h8 := cx0_move hSS h7
        refine ⟨h2.df, _, ?_, _, rfl, h2.bel, by rw [hc]; exact resV_ok h8⟩
        have e0 : results fn a'.tmps = (do
            let vs ← fn.results.mapM (rget a'.tmps)
            pure (if h : vs.size = 1 then vs[0] else .tuple vs)) := by
          unfold results
          congr 1
        rw [e0, Array.mapM_eq_mapM_toList, Sem.run_bind, map_eq_pure_bind, Sem.run_bind, h4]
        rfl
      · cases hk
    · cases hk
  cases ex with
  | nrm => exact key h1
  | ret => exact key h1
  | ext id => cases h1
theorem fn_ok (hE : EnvOk E) {g : Nat} {fn : Func} {code : Code} (hf : E.P.funcs[g]? = some fn) (hname : (fn.name == "runtime.NumGoroutine") = false) (hb : fn.body = some code) {ps rs : List (Bool × List Cs)} {T : Type} {f : XV ps → Option T} {e : T → XV rs} {c : XV rs → T} (hc : ∀ y, e (c y) = y) (hn : ps.length ≤ fn.ntmps)
    (hl : ∀ x, cev E fn.ntmps code (initL 0 ps x) [] (finK E.P fn rs c) = f x) : HdOk E.P E.G g ⟨ps, T, rs, f, e⟩ :=
  ⟨⟨fn, hf, hname, by rw [hb]; rfl⟩, fun x y hy S w vs hS hG ht => fn_go hE hf hb hc hn (by rw [hl]; exact hy) hS hG ht⟩
/-- One that calls itself. -/
theorem fn_rec {ps rs : List (Bool × List Cs)} {T : Type} {F : (XV ps → Option T) → Env} {P : Program} {G : World → Prop} {g : Nat} {fn : Func} {code : Code} {e : T → XV rs} {c : XV rs → T} {step : (XV ps → Option T) → XV ps → Option T}
    (hP : ∀ f, (F f).P = P ∧ (F f).G = G) (hE : ∀ f, HdOk P G g ⟨ps, T, rs, f, e⟩ → EnvOk (F f)) (hf : P.funcs[g]? = some fn) (hname : (fn.name == "runtime.NumGoroutine") = false) (hb : fn.body = some code) (hc : ∀ y, e (c y) = y) (hn : ps.length ≤ fn.ntmps)
    (hl : ∀ f x, cev (F f) fn.ntmps code (initL 0 ps x) [] (finK P fn rs c) = step f x) : HdOk P G g ⟨ps, T, rs, fixp step, e⟩ := by
  have hfn : ∃ fn, P.funcs[g]? = some fn ∧ (fn.name == "runtime.NumGoroutine") = false ∧ fn.body.isSome = true := ⟨fn, hf, hname, by rw [hb]; rfl⟩
  have key : ∀ k, HdOk P G g ⟨ps, T, rs, iter step k, e⟩ := by
    intro k
    induction k with
    | zero => exact ⟨hfn, fun x y hy => by cases hy⟩
    | succ k ih =>
      refine ⟨hfn, fun x y hy S w vs hS hG ht => ?_⟩
      have hE' := hE _ ih
      have h1 : (F (iter step k)).P = P := (hP _).1
      have h2 : (F (iter step k)).G = G := (hP _).2
      have := fn_go (E := F (iter step k)) (S0 := S) (fn := fn) (code := code) (c := c) (y := y) (x := x) hE' (by rw [h1]; exact hf) hb hc hn (by rw [h1, hl]; exact hy) hS (by rw [h2]; exact hG) ht
      rw [h1] at this
      exact this
  refine ⟨hfn, fun x y hy => ?_⟩
  obtain ⟨k, hk⟩ := fixp_some hy
  exact (key k).go x y hk
end
end Go.Proofs.YtbjgmnliholmpaaDoor.V
