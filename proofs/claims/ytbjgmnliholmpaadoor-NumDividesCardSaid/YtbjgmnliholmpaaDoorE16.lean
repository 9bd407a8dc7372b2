/- A pure reading of code: loops' heads, fixed points, code. -/
import Derived.Test.YtbjgmnliholmpaaDoorE15
namespace Go.Proofs.YtbjgmnliholmpaaDoor.V
set_option linter.unusedSimpArgs false
set_option linter.unusedVariables false
open Go Go.RowKit
set_option linter.unusedSectionVars false
variable [Yc]
/-! ### fixed points -/
def iter {X α : Type} (step : (X → Option α) → X → Option α) : Nat → X → Option α
  | 0, _ => none
  | k + 1, x => step (iter step k) x
open Classical in
noncomputable def fixp {X α : Type} (step : (X → Option α) → X → Option α) (x : X) : Option α := if h : ∃ k r, iter step k x = some r then iter step (Classical.choose h) x else none
theorem fixp_some {X α : Type} {step : (X → Option α) → X → Option α} {x : X} {r : α} (h : fixp step x = some r) : ∃ k, iter step k x = some r := by
  unfold fixp at h
  split at h
  · exact ⟨_, h⟩
  · cases h
def Tail {X α : Type} (step : (X → Option α) → X → Option α) : Prop := ∀ g x r, step g x = some r → (∀ g', step g' x = some r) ∨ ∃ y, g y = some r ∧ ∀ g', g' y = some r → step g' x = some r
section
variable {X α : Type} {step : (X → Option α) → X → Option α}
theorem iter_succ (ht : Tail step) : ∀ (k : Nat) {x : X} {r : α}, iter step k x = some r → iter step (k + 1) x = some r
  | 0, _, _, h => by cases h
  | k + 1, x, r, h => by
    rcases ht _ x r h with h1 | ⟨y, h1, h2⟩
    · exact h1 _
    · exact h2 _ (iter_succ ht k h1)
theorem iter_add (ht : Tail step) {k : Nat} {x : X} {r : α} (h : iter step k x = some r) : ∀ d, iter step (k + d) x = some r
  | 0 => h
  | d + 1 => iter_succ ht _ (iter_add ht h d)
theorem fixp_iff (ht : Tail step) {x : X} {r : α} : fixp step x = some r ↔ ∃ k, iter step k x = some r := by
  refine ⟨fixp_some, fun ⟨k, h⟩ => ?_⟩
  have hx : ∃ k r, iter step k x = some r := ⟨k, r, h⟩
  unfold fixp
  rw [dif_pos hx]
  obtain ⟨r', h'⟩ := Classical.choose_spec hx
  have h1 := iter_add ht h (Classical.choose hx)
  have h2 := iter_add ht h' k
  rw [Nat.add_comm, h1] at h2
  rw [h']
  exact h2.symm
theorem fixp_eq (ht : Tail step) (x : X) : fixp step x = step (fixp step) x := by
  apply Option.ext
  intro r
  constructor
  · intro h
    obtain ⟨k, hk⟩ := fixp_some h
    cases k with
    | zero => cases hk
    | succ k =>
      rcases ht _ x r hk with h1 | ⟨y, h1, h2⟩
      · exact h1 _
      · exact h2 _ ((fixp_iff ht).2 ⟨k, h1⟩)
  · intro h
    rcases ht _ x r h with h1 | ⟨y, h1, h2⟩
    · exact (fixp_iff ht).2 ⟨1, h1 _⟩
    · obtain ⟨k, hk⟩ := fixp_some h1
      exact (fixp_iff ht).2 ⟨k + 1, h2 _ hk⟩
end
/-! ### a loop's head -/
def An.X : An → Type
  | .d _ c => Xs c
  | .own t => List (El t)
  | .sm _ => Unit
  | .box _ c => Xs c
  | .bj _ _ => Unit
def AX : List (Nat × An) → Type
  | [] => Unit
  | e :: r => e.2.X × AX r
def resF (σ : St) : Cd → Cd
  | .rf d => match σ (2 * d + 1) with
    | .arr k l true => .sl k l
    | _ => .rf d
  | c => c
def shA (t : Nat) (σ : St) : (A : An) → Option A.X
  | .d a c => match σ (2 * t) with
    | .it a' l => if a = a' then grabs c (l.map (resF σ)) else none
    | _ => none
  | .own k => match σ (2 * t) with
    | .it false [.rf d] => match σ (2 * d + 1) with
      | .arr k' l false => if h : k' = k then some (h ▸ l) else none
      | _ => none
    | .it false [.nil] => some []
    | _ => none
  | .sm u => match σ (2 * t), σ (2 * u) with
    | .it false [.rf d], .it false [.rf d'] => if d = d' then some () else none
    | .it false [.nil], .it false [.nil] => some ()
    | _, _ => none
  | .box ty c => match σ (2 * t) with
    | .pt d 0 => match σ (2 * d + 1) with
      | .box ty' l => if ty = ty' then grabs c (l.map (resF σ)) else none
      | _ => none
    | _ => none
  | .bj ty m => match σ (2 * t) with
    | .pt d 0 => match σ (2 * d + 1) with
      | .box ty' l => if ty = ty' ∧ l.length = m then some () else none
      | _ => none
    | _ => none
def evA (t : Nat) : (A : An) → A.X → Vl
  | .d a c, x => .it a (puts c x)
  | .own _, _ => .it false [.rf t]
  | .sm u, _ => .it false [.rf u]
  | .box _ _, _ => .pt t 0
  | .bj _ _, _ => .pt t 0
def odA : (A : An) → A.X → Vl
  | .own k, l => .arr k l false
  | .box ty c, x => .box ty (puts c x)
  | .bj ty m, _ => .box ty (List.replicate m .jk)
  | _, _ => .jk
def lk : (an : List (Nat × An)) → AX an → St
  | [], _, _ => .jk
  | e :: r, x, p => if p = 2 * e.1 then evA e.1 e.2 x.1 else if p = 2 * e.1 + 1 then odA e.2 x.1 else lk r x.2 p
def isOB : An → Bool
  | .own _ => true
  | .box _ _ => true
  | .bj _ _ => true
  | _ => false
def idE (σ : St) (e : Nat × An) : Option Nat := if isOB e.2 then (match σ (2 * e.1) with
  | .it false [.rf d] => some d
  | .pt d _ => some d
  | _ => none) else none
def neO : Option Nat → Option Nat → Bool
  | some a, some b => !(Nat.beq a b)
  | _, _ => true
def chkP (σ : St) (an : List (Nat × An)) : Bool := an.all fun e => (match e.2 with
  | .sm u => an.any fun f => Nat.beq f.1 u && (match f.2 with | .own _ => true | _ => false)
  | _ => true) && an.all fun e' => Nat.beq e.1 e'.1 || neO (idE σ e) (idE σ e')
def shE (σ : St) : (an : List (Nat × An)) → Option (AX an)
  | [] => some ()
  | e :: r => match shA e.1 σ e.2 with
    | some x => match shE σ r with
      | some y => some (x, y)
      | none => none
    | none => none
/-- Rows that a head keeps as they read. -/
def dcs (σ : St) : List (Nat × An) → List Cd
  | [] => []
  | e :: r => (match e.2, σ (2 * e.1) with
    | .d _ _, .it _ l => l
    | .box _ _, .pt d _ => (match σ (2 * d + 1) with
      | .box _ l => l
      | _ => [])
    | _, _ => []) ++ dcs σ r
def shM (an : List (Nat × An)) (σ : St) : Option (AX an) := match chkP σ an with
  | true => shE σ an
  | false => none
def shL (an : List (Nat × An)) (σ : St) : Option (AX an) := shM an (app (frz σ (dcs σ an)) σ)
def alL : List (Nat × An) → List Nat
  | [] => []
  | e :: r => if isOB e.2 then e.1 :: alL r else alL r
section
variable {n : Nat} {w0 : World} {S0 : Nat → Prop} {X : Cx} {σ : St} {a : Act}
theorem alL_mem {an : List (Nat × An)} {t : Nat} : t ∈ alL an ↔ ∃ A, (t, A) ∈ an ∧ isOB A = true := by
  induction an with
  | nil => simp [alL]
  | cons e r ih =>
    unfold alL
    split
    · rename_i h
      rw [List.mem_cons, ih]
      constructor
      · rintro (rfl | ⟨A, h1, h2⟩)
        · exact ⟨e.2, by simp, h⟩
        · exact ⟨A, by simp [h1], h2⟩
      · rintro ⟨A, h1, h2⟩
        rcases List.mem_cons.1 h1 with h1 | h1
        · exact .inl (congrArg Prod.fst h1)
        · exact .inr ⟨A, h1, h2⟩
    · rename_i h
      rw [ih]
      constructor
      · rintro ⟨A, h1, h2⟩
        exact ⟨A, by simp [h1], h2⟩
      · rintro ⟨A, h1, h2⟩
        rcases List.mem_cons.1 h1 with h1 | h1
        · rw [← h1] at h; exact absurd h2 h
        · exact ⟨A, h1, h2⟩
theorem lk_cases : ∀ {an : List (Nat × An)} {x : AX an}, shE σ an = some x → ∀ p, lk an x p = .jk ∨ ∃ (t : Nat) (A : An) (y : A.X), (t, A) ∈ an ∧ shA t σ A = some y ∧ ((p = 2 * t ∧ lk an x p = evA t A y) ∨ (p = 2 * t + 1 ∧ lk an x p = odA A y))
  | [], _, _, _ => .inl rfl
  | e :: r, x, h, p => by
    unfold shE at h
    split at h
    · rename_i x1 h1
      split at h
      · rename_i y h2
        cases h
        have e0 : lk (e :: r) (x1, y) p = if p = 2 * e.1 then evA e.1 e.2 x1 else if p = 2 * e.1 + 1 then odA e.2 x1 else lk r y p := rfl
        rw [e0]
        by_cases hp : p = 2 * e.1
        · rw [if_pos hp]
          exact .inr ⟨e.1, e.2, x1, by simp, h1, .inl ⟨hp, rfl⟩⟩
        · rw [if_neg hp]
          by_cases hq : p = 2 * e.1 + 1
          · rw [if_pos hq]
            exact .inr ⟨e.1, e.2, x1, by simp, h1, .inr ⟨hq, rfl⟩⟩
          · rw [if_neg hq]
            rcases lk_cases h2 p with h3 | ⟨t, A, y', h3, h4⟩
            · exact .inl h3
            · exact .inr ⟨t, A, y', by simp [h3], h4⟩
      · cases h
    · cases h
/-- Where a head's block lies. -/
def tauS (σ : St) (τ : Nat → Value) (t : Nat) : Value := match σ (2 * t) with
  | .it false [.rf d] => τ d
  | .pt d _ => τ d
  | .it false [.nil] => .slice none 0 0
  | _ => undef
theorem resF_cs (h : ST n w0 S0 X σ a) {k : List Cs} {l : List Cd} {vs : List Value} {y : Xs k} (hg : grabs k (l.map (resF σ)) = some y) (hc : X.cs l vs) {Y : Cx} (hle : ∀ k, Y.S k → X.S k) (hw : Y.w = X.w) : Y.cs (puts k y) vs := by
  have h1 : (Cx0 X.S X.w).cs (puts k y) vs := by
    induction k generalizing l vs with
    | nil =>
      cases l with
      | nil => cases vs <;> exact hc
      | cons c r => simp [grabs] at hg
    | cons c0 k ih =>
      cases l with
      | nil => simp [grabs] at hg
      | cons c r =>
        cases vs with
        | nil => exact hc.elim
        | cons v vs =>
          simp only [List.map_cons, grabs] at hg
          split at hg
          · rename_i x1 e1
            split at hg
            · rename_i y2 e2
              cases hg
              refine ⟨?_, ih e2 hc.2⟩
              have hcr : CR X.S X.w (resF σ c) v := by
                cases c with
                | rf d =>
                  simp only [resF] at e1 ⊢
                  split at e1
                  · rename_i k' l' hd
                    have := frozen_cr h hd
                    rw [← hc.1.2.1] at this
                    exact this
                  · cases c0 <;> cases e1
                | _ => exact hc.1
              exact CR.cd (X := Cx0 X.S X.w) (CR.grab e1 hcr)
            · cases hg
          · cases hg
  refine Cx.Le.cs (X := Cx0 X.S X.w) (Y := Y) ⟨fun d hd => hd.elim, fun k hk => .inl (hle k hk), fun k _ _ => by rw [hw]; rfl, by rw [hw]; exact Nat.le_refl _⟩ h1
theorem head_at (h : ST n w0 S0 X σ a) {an : List (Nat × An)} {x : AX an} (hs : shM an σ = some x) : ∃ X', X'.w = X.w ∧ ST n w0 S0 X' (lk an x) a ∧ ∀ e, X'.A e → e ∈ alL an := by
  unfold shM at hs
  cases hchk : chkP σ an with
  | false => rw [hchk] at hs; cases hs
  | true =>
  rw [hchk] at hs
  have hs : shE σ an = some x := hs
  have hlk := lk_cases hs
  -- own blocks of the head
  have hown : ∀ t, lv (lk an x (2 * t + 1)) = true → ∃ A y, (t, A) ∈ an ∧ isOB A = true ∧ shA t σ A = some y ∧ lk an x (2 * t + 1) = odA A y := fun t ht => by
    rcases hlk (2 * t + 1) with h1 | ⟨t', A, y, h1, h2, h3 | h3⟩
    · rw [h1] at ht; cases ht
    · omega
    · obtain rfl : t' = t := by omega
      refine ⟨A, y, h1, ?_, h2, h3.2⟩
      rw [h3.2] at ht
      cases A <;> first | rfl | cases ht
  have hreal : ∀ t A (y : An.X A), isOB A = true → shA t σ A = some y → ∀ g, blk (tauS σ X.τ t) = some g → ∃ d, idE σ (t, A) = some d ∧ tauS σ X.τ t = X.τ d ∧ wr (σ (2 * d + 1)) = true := fun t A y hA hy g hg => by
    cases A with
    | d _ _ => cases hA
    | sm _ => cases hA
    | own k =>
      simp only [shA] at hy
      split at hy
      · rename_i d hd
        split at hy
        · rename_i k' l hb
          exact ⟨d, by simp [idE, isOB, hd], by simp [tauS, hd], by rw [hb]; rfl⟩
        · cases hy
      · rename_i hd
        simp [tauS, hd, blk] at hg
      · cases hy
    | box ty c =>
      simp only [shA] at hy
      split at hy
      · rename_i d hd
        split at hy
        · rename_i ty' l hb
          exact ⟨d, by simp [idE, isOB, hd], by simp [tauS, hd], by rw [hb]; rfl⟩
        · cases hy
      · cases hy
    | bj ty m =>
      simp only [shA] at hy
      split at hy
      · rename_i d hd
        split at hy
        · rename_i ty' l hb
          exact ⟨d, by simp [idE, isOB, hd], by simp [tauS, hd], by rw [hb]; rfl⟩
        · cases hy
      · cases hy
  obtain ⟨S', hS'⟩ : ∃ S' : Nat → Prop, ∀ k, S' k ↔ S0 k ∨ ∃ d, wr (lk an x (2 * d + 1)) = true ∧ blk (tauS σ X.τ d) = some k := ⟨_, fun k => Iff.rfl⟩
  have hle : ∀ k, S' k → X.S k := fun k hk => by
    rcases (hS' k).1 hk with h1 | ⟨t, h1, h2⟩
    · exact (h.s k).2 (.inl h1)
    · obtain ⟨A, y, h3, h4, h5, _⟩ := hown t (wr_lv h1)
      obtain ⟨d, _, h7, h8⟩ := hreal t A y h4 h5 k h2
      rw [h7] at h2
      exact (h.s k).2 (.inr ⟨d, h8, h2⟩)
  refine ⟨⟨tauS σ X.τ, fun t => ∃ A, (t, A) ∈ an ∧ isOB A = true, S', X.w⟩, rfl, ⟨h.sz, h.df, h.bel, h.old, hS', fun t => ?_, fun t => ?_, fun t t' g h1 h2 h3 h4 => ?_⟩, fun e he => alL_mem.2 he⟩
  · rcases hlk (2 * t) with h1 | ⟨t', A, y, h1, h2, h3 | h3⟩
    · rw [h1]; trivial
    · obtain rfl : t' = t := by omega
      rw [h3.2]
      have hv := h.tm t'
      cases A with
      | d b c =>
        simp only [shA] at h2
        split at h2
        · rename_i b' l hl
          have h2' : (if b = b' then grabs c (l.map (resF σ)) else (none : Option (Xs c))) = some y := h2
          by_cases hb : b = b'
          · rw [if_pos hb] at h2'
            subst hb
            rw [hl] at hv
            cases b with
            | true => obtain ⟨vs, e, hc⟩ := hv; exact ⟨vs, e, resF_cs h h2' hc hle rfl⟩
            | false => exact resF_cs h h2' hv hle rfl
          · rw [if_neg hb] at h2'
            cases h2'
        · cases h2
      | own k =>
        refine vl1.2 ⟨⟨_, h1, rfl⟩, ?_⟩
        simp only [shA] at h2
        split at h2
        · rename_i d hd
          rw [hd] at hv
          have := vl1.1 hv
          exact ⟨by rw [this.2.1]; simp [tauS, hd], this.2.2⟩
        · rename_i hd
          rw [hd] at hv
          have := vl_nil hv
          exact ⟨by rw [this]; simp [tauS, hd], by rw [this]; rfl⟩
        · cases h2
      | sm u =>
        have hmu : ∃ A, (u, A) ∈ an ∧ isOB A = true := by
          unfold chkP at hchk
          have := List.all_eq_true.1 hchk _ h1
          simp only [Bool.and_eq_true] at this
          obtain ⟨f, hf1, hf2⟩ := List.any_eq_true.1 this.1
          simp only [Bool.and_eq_true] at hf2
          obtain ⟨f1, f2⟩ := f
          have e := Nat.eq_of_beq_eq_true hf2.1
          simp only at e hf2
          subst e
          exact ⟨f2, hf1, by cases f2 <;> first | rfl | (cases hf2.2)⟩
        refine vl1.2 ⟨hmu, ?_⟩
        simp only [shA] at h2
        split at h2
        · rename_i d d' hd hd'
          split at h2
          · rename_i hdd
            subst hdd
            rw [hd] at hv
            have := vl1.1 hv
            exact ⟨by rw [this.2.1]; simp [tauS, hd'], this.2.2⟩
          · cases h2
        · rename_i hd hd'
          rw [hd] at hv
          have := vl_nil hv
          exact ⟨by rw [this]; simp [tauS, hd'], by rw [this]; rfl⟩
        · cases h2
      | box ty c =>
        simp only [shA] at h2
        split at h2
        · rename_i d hd
          rw [hd] at hv
          obtain ⟨g, _, hτ, hg⟩ := hv
          exact ⟨g, ⟨_, h1, rfl⟩, by simp [tauS, hd, hτ], hg⟩
        · cases h2
      | bj ty m =>
        simp only [shA] at h2
        split at h2
        · rename_i d hd
          rw [hd] at hv
          obtain ⟨g, _, hτ, hg⟩ := hv
          exact ⟨g, ⟨_, h1, rfl⟩, by simp [tauS, hd, hτ], hg⟩
        · cases h2
    · omega
  · rcases hlk (2 * t + 1) with h1 | ⟨t', A, y, h1, h2, h3 | h3⟩
    · rw [h1]; trivial
    · omega
    · obtain rfl : t' = t := by omega
      rw [h3.2]
      cases A with
      | d b c => trivial
      | sm u => trivial
      | own k =>
        simp only [shA] at h2
        split at h2
        · rename_i d hd
          split at h2
          · rename_i k' l hb
            split at h2
            · rename_i hk
              subst hk
              cases h2
              have hbk := h.bk d
              rw [hb] at hbk
              obtain ⟨xs, _, ho, q1, q2⟩ := hbk
              refine ⟨xs, ⟨_, h1, rfl⟩, ?_, q1, q2.move (fun k hk => .inl (hle k hk)) (fun _ _ _ => rfl) (Nat.le_refl _)⟩
              show World.ownsRow _ _ _ _ (tauS σ X.τ t') _ _
              rw [show tauS σ X.τ t' = X.τ d by simp [tauS, hd]]
              exact ho
            · cases h2
          · cases h2
        · rename_i hd
          cases h2
          refine ⟨[], ⟨_, h1, rfl⟩, ?_, (fun u hu => by cases hu), (fun i x j cd hi => by simp at hi)⟩
          show World.ownsRow _ _ _ _ (tauS σ X.τ t') _ _
          rw [show tauS σ X.τ t' = .slice none 0 0 by simp [tauS, hd]]
          exact World.ownsRow_nil _ _ _ _
        · cases h2
      | box ty c =>
        simp only [shA] at h2
        split at h2
        · rename_i d hd
          split at h2
          · rename_i ty' l hb
            have h2' : (if ty = ty' then grabs c (l.map (resF σ)) else (none : Option (Xs c))) = some y := h2
            by_cases hty : ty = ty'
            · rw [if_pos hty] at h2'
              subst hty
              have hbk := h.bk d
              rw [hb] at hbk
              obtain ⟨g, vs, _, hτ, q1, q2, q3⟩ := hbk
              exact ⟨g, vs, ⟨_, h1, rfl⟩, by simp [tauS, hd, hτ], q1, q2, resF_cs h h2' q3 hle rfl⟩
            · rw [if_neg hty] at h2'
              cases h2'
          · cases h2
        · cases h2
      | bj ty m =>
        simp only [shA] at h2
        split at h2
        · rename_i d hd
          split at h2
          · rename_i ty' l hb
            have h2' : (if ty = ty' ∧ l.length = m then some () else (none : Option Unit)) = some y := h2
            by_cases hty : ty = ty' ∧ l.length = m
            · have hbk := h.bk d
              rw [hb] at hbk
              obtain ⟨g, vs, _, hτ, q1, q2, q3⟩ := hbk
              have hvl := cs_len q3
              refine ⟨g, vs, ⟨_, h1, rfl⟩, by simp [tauS, hd, hτ], q1, by rw [hty.1]; exact q2, cs_of (by rw [List.length_replicate, hvl, hty.2]) (fun j c v e1 e2 => ?_)⟩
              rw [List.getElem?_replicate] at e1
              split at e1
              · cases e1
                exact CR.cd (.jk v (cs_one q3 v (List.mem_of_getElem? e2)))
              · cases e1
            · rw [if_neg hty] at h2'
              cases h2'
          · cases h2
        · cases h2
  · obtain ⟨A, y, k1, k2, k3, _⟩ := hown t h1
    obtain ⟨A', y', k1', k2', k3', _⟩ := hown t' h2
    obtain ⟨d, m1, m2, m3⟩ := hreal t A y k2 k3 g h3
    obtain ⟨d', m1', m2', m3'⟩ := hreal t' A' y' k2' k3' g h4
    have h3 : blk (tauS σ X.τ t) = some g := h3
    have h4 : blk (tauS σ X.τ t') = some g := h4
    rw [m2] at h3
    rw [m2'] at h4
    have hdd := h.inj d d' g (wr_lv m3) (wr_lv m3') h3 h4
    subst hdd
    unfold chkP at hchk
    have := List.all_eq_true.1 hchk _ k1
    rw [Bool.and_eq_true] at this
    have := List.all_eq_true.1 this.2 _ k1'
    rw [m1, m1', Bool.or_eq_true] at this
    rcases this with e | e
    · exact Nat.eq_of_beq_eq_true e
    · simp [neO] at e
theorem head_ok (h : ST n w0 S0 X σ a) {an : List (Nat × An)} {x : AX an} (hs : shL an σ = some x) : ∃ X', X'.w = X.w ∧ ST n w0 S0 X' (lk an x) a ∧ ∀ e, X'.A e → e ∈ alL an := by
  obtain ⟨S', h1, _⟩ := frzs_ok h (dcs σ an)
  exact head_at (X := { X with S := S' }) h1 hs
end
end Go.Proofs.YtbjgmnliholmpaaDoor.V
