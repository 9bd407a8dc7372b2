/- A pure reading of code: an operation with its guard; a region in the text's order. -/
import Derived.Test.YtbjgmnliholmpaaDoorE11
namespace Go.Proofs.YtbjgmnliholmpaaDoor.V
set_option linter.unusedSimpArgs false
set_option linter.unusedVariables false
open Go Go.RowKit
set_option linter.unusedSectionVars false
variable [Yc]
def know (σ : St) (x : Operand) (b : Bool) : St := match x with
  | .tmp t => upd σ (2 * t) (.it false [.b b])
  | _ => σ
def stepK {α : Type} (E : Env) (n : Nat) (o : Oper) (σ : St) (K : St → Ws → Option α) : Option α := match o.op with
  | .pick c x y => match o.dst, ev σ c with
    | some d, .it false [.b b] => if d < n then cond b (K (know σ c true) [(2 * d, ev (know σ c true) x)]) (K (know σ c false) [(2 * d, ev (know σ c false) y)]) else none
    | _, _ => none
  | _ => match opv E n σ o with
    | some rs => rs.go (fun ws => K σ ws)
    | none => none
def skipK {α : Type} (n : Nat) (o : Oper) (σ : St) (K : St → Ws → Option α) : Option α := match o.dst with
  | some d => if d < n then K σ [(2 * d, .tup [])] else none
  | none => K σ []
def gslot (ops : Array Oper) (j : Nat) : Option Nat := match ops[j]? with
  | some o => o.dst
  | none => none
def gateK {α : Type} (E : Env) (n : Nat) (ops : Array Oper) (o : Oper) (σ : St) (K : St → Ws → Option α) : Option α := match o.guard with
  | none => stepK E n o σ K
  | some (j, want) => match gslot ops j with
    | some t => if t < n then (match σ (2 * t) with
      | .it false [.b b] => cond b
          (match want with
            | true => stepK E n o (know σ (.tmp t) true) K
            | false => skipK n o (know σ (.tmp t) true) K)
          (match want with
            | true => skipK n o (know σ (.tmp t) false) K
            | false => stepK E n o (know σ (.tmp t) false) K)
      | .tup [] => skipK n o σ K
      | _ => none) else none
    | none => none
def stp (E : Env) (n : Nat) (ops : Array Oper) (σ : St) (o : Oper) : Option Ws := gateK E n ops o σ fun _ ws => some ws
def runK {α : Type} (E : Env) (n : Nat) (ops : Array Oper) : List Oper → St → (St → Option α) → Option α
  | [], σ, K => K σ
  | o :: r, σ, K => gateK E n ops o σ fun σ ws => runK E n ops r (app ws σ) K
theorem know_eq {σ : St} {x : Operand} {b : Bool} (h : ev σ x = .it false [.b b]) : know σ x b = σ := by
  unfold know
  split
  · rename_i t
    funext p
    by_cases hp : p = 2 * t
    · subst hp; rw [upd_same]; exact h.symm
    · rw [upd_ne hp]
  · rfl
section
variable {E : Env} {n : Nat} {w0 : World} {S0 : Nat → Prop} {X Y : Cx} {σ σ' : St} {a : Act} {x y z : Vl} {v u : Value} {d : Nat} {o : Oper} {rs : Rs} {ws : Ws} {ops : Array Oper} {K : Act → World → Prop} {Q : Exit → Act → World → Prop}
theorem stepK_some {α : Type} {K : St → Ws → Option α} {r : α} (h : stepK E n o σ K = some r) : ∃ ws, stepK E n o σ (fun _ ws => some ws) = some ws ∧ K σ ws = some r := by
  unfold stepK at h ⊢
  split at h
  · rename_i c x y hop
    split at h
    · rename_i d b hd he
      split at h
      · rename_i hn
        simp only [if_pos hn]
        cases b with
        | true =>
          have := know_eq he
          simp only [cond_true, this] at h ⊢
          exact ⟨_, rfl, h⟩
        | false =>
          have := know_eq he
          simp only [cond_false, this] at h ⊢
          exact ⟨_, rfl, h⟩
      · cases h
    · cases h
  · split at h
    · rename_i rs hrs
      obtain ⟨ws, h1, h2⟩ := go_some h
      exact ⟨ws, h1, h2⟩
    · cases h
theorem skipK_some {α : Type} {K : St → Ws → Option α} {r : α} (h : skipK n o σ K = some r) : ∃ ws, skipK n o σ (fun _ ws => some ws) = some ws ∧ K σ ws = some r := by
  unfold skipK at h ⊢
  split at h
  · split at h
    · rename_i hn
      rw [if_pos hn]
      exact ⟨_, rfl, h⟩
    · cases h
  · exact ⟨_, rfl, h⟩
theorem gateK_some {α : Type} {K : St → Ws → Option α} {r : α} (h : gateK E n ops o σ K = some r) : ∃ ws, stp E n ops σ o = some ws ∧ K σ ws = some r := by
  unfold stp
  unfold gateK at h ⊢
  split at h
  · exact stepK_some h
  · rename_i j want hg
    split at h
    · rename_i t ht
      split at h
      · rename_i hn
        split at h
        · rename_i b hb
          simp only [if_pos hn]
          have hk : know σ (.tmp t) b = σ := know_eq hb
          cases b <;> simp only [hk, cond_true, cond_false] at h ⊢ <;> cases want <;> simp only at h ⊢ <;> first | exact stepK_some h | exact skipK_some h
        · rename_i hb
          simp only [if_pos hn]
          exact skipK_some h
        · cases h
      · cases h
    · cases h
theorem wantd {K : Act → World → Prop} {P : Program} {w : World} (hw : Region.wanted o (yielded ops a.tmps) = false) (h : K (a.put o.dst undef) w) :
    if Region.wanted o (yielded ops a.tmps) = true then Oper.wp P o a w K Q else K (a.put o.dst undef) w := by
  rw [if_neg (by rw [hw]; decide)]
  exact h
theorem stepK_ok (hE : EnvOk E) (hG : E.G w0) (h : ST n w0 S0 X σ a) (hw : Region.wanted o (yielded ops a.tmps) = true) (hA : ∀ d, alc o = some d → ¬ X.A d) (hs : stepK E n o σ (fun _ ws => some ws) = some ws)
    (hK : ∀ X' a', (∀ e, X'.A e → X.A e ∨ alc o = some e) → ST n w0 S0 X' (app ws σ) a' → K a' X'.w) : if Region.wanted o (yielded ops a.tmps) = true then Oper.wp E.P o a X.w K Q else K (a.put o.dst undef) X.w := by
  unfold stepK at hs
  split at hs
  · rename_i c x y hop
    split at hs
    · rename_i d b hd he
      split at hs
      · rename_i hn
        have hc := ev_ok h c
        rw [he] at hc
        have hc := vl_b hc
        have hk := know_eq he
        cases b with
        | true =>
          simp only [cond_true, hk] at hs
          cases hs
          exact does_wp hw (does_val h hd hn (by simp [execOp, hop, hc, asBool]) (ev_ok h x)) hK
        | false =>
          simp only [cond_false, hk] at hs
          cases hs
          exact does_wp hw (does_val h hd hn (by simp [execOp, hop, hc, asBool]) (ev_ok h y)) hK
      · cases hs
    · cases hs
  · split at hs
    · rename_i rs hrs
      exact op_ok hE hG h hw hA hrs hs hK
    · cases hs
theorem skipK_ok {P : Program} (h : ST n w0 S0 X σ a) (hw : Region.wanted o (yielded ops a.tmps) = false) (hs : skipK n o σ (fun _ ws => some ws) = some ws)
    (hK : ∀ X' a', (∀ e, X'.A e → X.A e ∨ alc o = some e) → ST n w0 S0 X' (app ws σ) a' → K a' X'.w) : if Region.wanted o (yielded ops a.tmps) = true then Oper.wp P o a X.w K Q else K (a.put o.dst undef) X.w := by
  refine wantd hw ?_
  unfold skipK at hs
  split at hs
  · rename_i d hd
    split at hs
    · rename_i hn
      cases hs
      rw [hd]
      exact hK X _ (fun e he => .inl he) (h.put hn ⟨[], rfl, trivial⟩)
    · cases hs
  · rename_i hd
    cases hs
    rw [hd]
    exact hK X _ (fun e he => .inl he) h
/-- The step, with its guard. -/
theorem stp_ok (hE : EnvOk E) (hG : E.G w0) (h : ST n w0 S0 X σ a) (hA : ∀ d, alc o = some d → ¬ X.A d) (hs : stp E n ops σ o = some ws)
    (hK : ∀ X' a', (∀ e, X'.A e → X.A e ∨ alc o = some e) → ST n w0 S0 X' (app ws σ) a' → K a' X'.w) : if Region.wanted o (yielded ops a.tmps) = true then Oper.wp E.P o a X.w K Q else K (a.put o.dst undef) X.w := by
  unfold stp gateK at hs
  split at hs
  · rename_i hg
    exact stepK_ok hE hG h (by simp [Region.wanted, hg]) hA hs hK
  · rename_i j want hg
    split at hs
    · rename_i t ht
      split at hs
      · rename_i hn
        split at hs
        · rename_i b hb
          have hk : know σ (.tmp t) b = σ := know_eq hb
          have hv := h.tm t
          rw [hb] at hv
          have hv := vl_b hv
          have h3 : a.tmps[t]? = some (.bool b) := by
            have hlt : t < a.tmps.size := by rw [h.sz]; exact hn
            simp [Array.getD, hlt] at hv
            simp [hlt, hv]
          have hw : Region.wanted o (yielded ops a.tmps) = (b == want) := by
            unfold gslot at ht
            split at ht
            · rename_i oj hoj
              simp [Region.wanted, hg, yielded, hoj, ht, h3]
            · cases ht
          cases b <;> simp only [hk, cond_true, cond_false] at hs <;> cases want <;> simp only at hs
          · exact stepK_ok hE hG h (by rw [hw]; rfl) hA hs hK
          · exact skipK_ok h (by rw [hw]; rfl) hs hK
          · exact skipK_ok h (by rw [hw]; rfl) hs hK
          · exact stepK_ok hE hG h (by rw [hw]; rfl) hA hs hK
        · rename_i hb
          have hv := h.tm t
          rw [hb] at hv
          obtain ⟨vs, hv, h2⟩ := hv
          have hvs : vs = [] := by cases vs with
            | nil => rfl
            | cons _ _ => exact h2.elim
          subst hvs
          have h3 : a.tmps[t]? = some (.tuple #[]) := by
            have hlt : t < a.tmps.size := by rw [h.sz]; exact hn
            simp [Array.getD, hlt] at hv
            simp [hlt, hv]
          have hw : Region.wanted o (yielded ops a.tmps) = false := by
            unfold gslot at ht
            split at ht
            · rename_i oj hoj
              simp [Region.wanted, hg, yielded, hoj, ht, h3]
            · cases ht
          exact skipK_ok h hw hs hK
        · cases hs
      · cases hs
    · cases hs
/-! ### the places of new blocks -/
def sites : List Oper → List Nat
  | [] => []
  | o :: r => match alc o with
    | some d => d :: sites r
    | none => sites r
def okSites : List Nat → List Nat → Bool
  | _, [] => true
  | al, d :: r => !(al.contains d) && okSites (d :: al) r
theorem runK_ok (hE : EnvOk E) (hG : E.G w0) {α : Type} {K : St → Option α} {r : α} : ∀ {os : List Oper} {al : List Nat} {σ : St} {X : Cx} {a : Act}, runK E n ops os σ K = some r → okSites al (sites os) = true → (∀ e, X.A e → e ∈ al) → ST n w0 S0 X σ a →
    (∀ σ' X' a', K σ' = some r → (∀ e, X'.A e → e ∈ al ∨ e ∈ sites os) → ST n w0 S0 X' σ' a' → Q .normal a' X'.w) → wpList E.P ops Q os a X.w
  | [], al, σ, X, a, hr, _, hA, h, hQ => hQ _ _ _ hr (fun e he => .inl (hA e he)) h
  | o :: os, al, σ, X, a, hr, hs, hA, h, hQ => by
    obtain ⟨ws, h1, h2⟩ := gateK_some hr
    refine wpList_step fun K' hK' => stp_ok hE hG h (fun d hd hx => ?_) h1 (fun X' a' hA' h' => ?_)
    · simp only [sites, hd, okSites, Bool.and_eq_true, Bool.not_eq_true', List.contains_eq_mem, decide_eq_false_iff_not] at hs
      exact hs.1 (hA d hx)
    · cases ho : alc o with
      | none =>
        simp only [sites, ho] at hs
        exact hK' _ _ (runK_ok hE hG h2 hs (fun e he => (hA' e he).elim (hA e) (fun e' => by rw [ho] at e'; cases e')) h' (fun σ' X2 a2 k1 k2 k3 => hQ σ' X2 a2 k1 (fun e he => by simpa only [sites, ho] using k2 e he) k3))
      | some d =>
        simp only [sites, ho, okSites, Bool.and_eq_true] at hs
        refine hK' _ _ (runK_ok hE hG h2 hs.2 (fun e he => ?_) h' (fun σ' X2 a2 k1 k2 k3 => hQ σ' X2 a2 k1 (fun e he => ?_) k3))
        · rcases hA' e he with h3 | h3
          · exact List.mem_cons_of_mem _ (hA e h3)
          · rw [ho] at h3; cases h3; exact List.mem_cons_self
        · simp only [sites, ho]
          rcases k2 e he with h3 | h3
          · rcases List.mem_cons.1 h3 with rfl | h3
            · exact .inr List.mem_cons_self
            · exact .inl h3
          · exact .inr (List.mem_cons_of_mem _ h3)
end
end Go.Proofs.YtbjgmnliholmpaaDoor.V
