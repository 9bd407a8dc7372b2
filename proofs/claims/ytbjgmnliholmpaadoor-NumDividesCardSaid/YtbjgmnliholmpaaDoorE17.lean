/- A pure reading of code: code; what the reading tells, it does. -/
import Derived.Test.YtbjgmnliholmpaaDoorE16
namespace Go.Proofs.YtbjgmnliholmpaaDoor.V
set_option linter.unusedSimpArgs false
set_option linter.unusedVariables false
open Go Go.RowKit
set_option linter.unusedSectionVars false
variable [Yc]
inductive Ex where
  | nrm
  | ret
  | ext (id : Nat)
def Ex.to : Ex → Exit
  | .nrm => .normal
  | .ret => .ret
  | .ext id => .exit id
def Ex.out (id : Nat) : Ex → Ex
  | .ext i => match Nat.beq i id with
    | true => .nrm
    | false => .ext i
  | e => e
/-- Rows that a region hands on: written no more from its beginning on. -/
def preC (σ : St) : List Oper → List Cd
  | [] => []
  | o :: r => match o.op with
    | .call ⟨.value _, xs, _⟩ => xs.toList.flatMap (fun x => match ev σ x with | .it _ l => l | _ => []) ++ preC σ r
    | _ => preC σ r
def regK {α : Type} (E : Env) (n : Nat) (ops : Array Oper) (dr : Bool) (σ : St) (al : List Nat) (K : St → List Nat → Option α) : Option α :=
  cond (okSites al (sites ops.toList))
    (match dr with
    | true => cond (okE 0 (ops.toList.map ndO)) (runD E n ops ops.toList (app (frz σ (preC σ ops.toList)) σ) [] fun σ F => cond (conf (ancs (ops.toList.map ndO) []) F) (K σ (sites ops.toList ++ al)) none) none
    | false => runK E n ops ops.toList σ fun σ => K σ (sites ops.toList ++ al)) none
/-- A loop's number: of the first region in it. -/
def lkey : Code → Nat
  | .region id _ _ => id + 1
  | .seq a b => match lkey a with
    | 0 => lkey b
    | k => k
  | .cond _ a b => match lkey a with
    | 0 => lkey b
    | k => k
  | .block _ c => lkey c
  | .loop c => lkey c + 1000
  | _ => 0
noncomputable def cev {α : Type} (E : Env) (n : Nat) : Code → St → List Nat → (Ex → St → List Nat → Option α) → Option α
  | .skip, σ, al, K => K .nrm σ al
  | .region _ ops dr, σ, al, K => regK E n ops dr σ al fun σ al => K .nrm σ al
  | .seq a b, σ, al, K => cev E n a σ al fun ex σ al => match ex with
    | .nrm => cev E n b σ al K
    | ex => K ex σ al
  | .cond c a b, σ, al, K => match ev σ c with
    | .it false [.b x] => cond x (cev E n a (know σ c true) al K) (cev E n b (know σ c false) al K)
    | _ => none
  | .ret, σ, al, K => K .ret σ al
  | .block id c, σ, al, K => cev E n c σ al fun ex σ al => K (ex.out id) σ al
  | .exit id, σ, al, K => K (.ext id) σ al
  | .loop c, σ, al, K => match E.L (lkey c) with
    | some an => match shL an σ with
      | some x => fixp (fun rec x => cev E n c (lk an x) (alL an) fun ex σ al => match ex with
        | .nrm => match shL an σ with
          | some y => rec y
          | none => none
        | ex => K ex σ al) x
      | none => none
    | none => none
  | _, _, _, _ => none
/-! ### what is told hangs on one way's end -/
section
variable {E : Env} {n : Nat} {ops : Array Oper} {α : Type}
theorem stepK_nat {o : Oper} {σ : St} {ws : Ws} {K : St → Ws → Option α} (h : stepK E n o σ (fun _ ws => some ws) = some ws) : stepK E n o σ K = K σ ws := by
  unfold stepK at h ⊢
  split at h
  · rename_i c x y hop
    split at h
    · rename_i d b hd he
      split at h
      · rename_i hn
        simp only [if_pos hn]
        have := know_eq he
        cases b <;> simp only [cond_true, cond_false, this] at h ⊢ <;> (cases h; rfl)
      · cases h
    · cases h
  · split at h
    · rename_i rs hrs
      cases rs with
      | ret cs ws' =>
        obtain ⟨h1, h2⟩ := chk_some h
        cases h2
        exact chk_all h1
      | call T m k =>
        obtain ⟨y, hy, h2⟩ := Option.bind_eq_some_iff.1 h
        cases h2
        show m.bind _ = _
        rw [hy]
        rfl
    · cases h
theorem skipK_nat {o : Oper} {σ : St} {ws : Ws} {K : St → Ws → Option α} (h : skipK n o σ (fun _ ws => some ws) = some ws) : skipK n o σ K = K σ ws := by
  unfold skipK at h ⊢
  split at h
  · split at h
    · rename_i hn
      rw [if_pos hn]
      cases h
      rfl
    · cases h
  · cases h
    rfl
theorem gateK_nat {o : Oper} {σ : St} {ws : Ws} {K : St → Ws → Option α} (h : stp E n ops σ o = some ws) : gateK E n ops o σ K = K σ ws := by
  unfold stp at h
  unfold gateK at h ⊢
  split at h
  · exact stepK_nat h
  · rename_i j want hg
    split at h
    · rename_i t ht
      split at h
      · rename_i hn
        split at h
        · rename_i b hb
          simp only [if_pos hn]
          have hk : know σ (.tmp t) b = σ := know_eq hb
          cases b <;> simp only [hk, cond_true, cond_false] at h ⊢ <;> cases want <;> simp only at h ⊢ <;> first | exact stepK_nat h | exact skipK_nat h
        · simp only [if_pos hn]
          exact skipK_nat h
        · cases h
      · cases h
    · cases h
theorem runK_nat : ∀ {os : List Oper} {σ : St} {K : St → Option α} {r : α}, runK E n ops os σ K = some r → ∃ σ', K σ' = some r ∧ ∀ K' : St → Option α, runK E n ops os σ K' = K' σ'
  | [], σ, K, r, h => ⟨σ, h, fun _ => rfl⟩
  | o :: os, σ, K, r, h => by
    obtain ⟨ws, h1, h2⟩ := gateK_some h
    obtain ⟨σ', h3, h4⟩ := runK_nat h2
    exact ⟨σ', h3, fun K' => by unfold runK; rw [gateK_nat h1]; exact h4 K'⟩
theorem runD_nat : ∀ {os : List Oper} {σ : St} {F : List (Nat × Nat)} {K : St → List (Nat × Nat) → Option α} {r : α}, runD E n ops os σ F K = some r → ∃ σ' F', K σ' F' = some r ∧ ∀ K' : St → List (Nat × Nat) → Option α, runD E n ops os σ F K' = K' σ' F'
  | [], σ, F, K, r, h => ⟨σ, F, h, fun _ => rfl⟩
  | o :: os, σ, F, K, r, h => by
    obtain ⟨ws, h1, h2⟩ := gateK_some h
    obtain ⟨σ', F', h3, h4⟩ := runD_nat h2
    exact ⟨σ', F', h3, fun K' => by unfold runD; rw [gateK_nat h1]; exact h4 K'⟩
theorem cond_some {c : Bool} {x y : Option α} {r : α} (h : cond c x none = some r) : c = true ∧ x = some r := by
  cases c with
  | true => exact ⟨rfl, h⟩
  | false => cases h
theorem regK_nat {dr : Bool} {σ : St} {al : List Nat} {K : St → List Nat → Option α} {r : α} (h : regK E n ops dr σ al K = some r) : ∃ σ' al', K σ' al' = some r ∧ ∀ K' : St → List Nat → Option α, regK E n ops dr σ al K' = K' σ' al' := by
  unfold regK at h
  obtain ⟨h1, h2⟩ := cond_some (y := none) h
  cases dr with
  | true =>
    obtain ⟨h3, h4⟩ := cond_some (y := none) h2
    obtain ⟨σ', F', h5, h6⟩ := runD_nat h4
    obtain ⟨h7, h8⟩ := cond_some (y := none) h5
    refine ⟨σ', _, h8, fun K' => ?_⟩
    unfold regK
    rw [h1]
    simp only [cond_true, h3]
    rw [h6, h7]
    rfl
  | false =>
    obtain ⟨σ', h5, h6⟩ := runK_nat h2
    refine ⟨σ', _, h5, fun K' => ?_⟩
    unfold regK
    rw [h1]
    simp only [cond_true]
    rw [h6]
theorem cev_nat : ∀ (c : Code) {σ : St} {al : List Nat} {K : Ex → St → List Nat → Option α} {r : α}, cev E n c σ al K = some r → ∃ ex σ' al', K ex σ' al' = some r ∧ ∀ K' : Ex → St → List Nat → Option α, K' ex σ' al' = some r → cev E n c σ al K' = some r
  | .skip, σ, al, K, r, h => ⟨_, _, _, h, fun _ h => h⟩
  | .ret, σ, al, K, r, h => ⟨_, _, _, h, fun _ h => h⟩
  | .exit id, σ, al, K, r, h => ⟨_, _, _, h, fun _ h => h⟩
  | .region id ops dr, σ, al, K, r, h => by
    obtain ⟨σ', al', h1, h2⟩ := regK_nat h
    exact ⟨_, σ', al', h1, fun K' h3 => by unfold cev; rw [h2]; exact h3⟩
  | .seq a b, σ, al, K, r, h => by
    obtain ⟨ex, σ', al', h1, h2⟩ := cev_nat a h
    cases ex with
    | nrm =>
      obtain ⟨ex, σ2, al2, h3, h4⟩ := cev_nat b h1
      exact ⟨ex, σ2, al2, h3, fun K' h5 => h2 _ (h4 K' h5)⟩
    | ret => exact ⟨.ret, σ', al', h1, fun K' h5 => h2 _ h5⟩
    | ext id => exact ⟨.ext id, σ', al', h1, fun K' h5 => h2 _ h5⟩
  | .cond c a b, σ, al, K, r, h => by
    unfold cev at h
    split at h
    · rename_i x hx
      cases x with
      | true =>
        obtain ⟨ex, σ', al', h1, h2⟩ := cev_nat a h
        exact ⟨ex, σ', al', h1, fun K' h3 => by unfold cev; rw [hx]; exact h2 K' h3⟩
      | false =>
        obtain ⟨ex, σ', al', h1, h2⟩ := cev_nat b h
        exact ⟨ex, σ', al', h1, fun K' h3 => by unfold cev; rw [hx]; exact h2 K' h3⟩
    · cases h
  | .block id c, σ, al, K, r, h => by
    obtain ⟨ex, σ', al', h1, h2⟩ := cev_nat c h
    exact ⟨_, σ', al', h1, fun K' h3 => h2 _ h3⟩
  | .loop c, σ, al, K, r, h => by
    unfold cev at h
    split at h
    · rename_i an han
      split at h
      · rename_i x hx
        obtain ⟨k, hk⟩ := fixp_some h
        have key : ∀ (k : Nat) (x : AX an), iter (fun rec x => cev E n c (lk an x) (alL an) fun ex σ al => match ex with
            | .nrm => match shL an σ with
              | some y => rec y
              | none => none
            | ex => K ex σ al) k x = some r → ∃ ex σ' al', K ex σ' al' = some r ∧ ∀ K' : Ex → St → List Nat → Option α, K' ex σ' al' = some r → ∃ k', iter (fun rec x => cev E n c (lk an x) (alL an) fun ex σ al => match ex with
            | .nrm => match shL an σ with
              | some y => rec y
              | none => none
            | ex => K' ex σ al) k' x = some r := by
          intro k
          induction k with
          | zero => intro x h; cases h
          | succ k ih =>
            intro x h
            obtain ⟨ex, σ', al', h1, h2⟩ := cev_nat c h
            cases ex with
            | nrm =>
              simp only at h1
              split at h1
              · rename_i y hy
                obtain ⟨ex, σ2, al2, h3, h4⟩ := ih y h1
                refine ⟨ex, σ2, al2, h3, fun K' h5 => ?_⟩
                obtain ⟨k', h6⟩ := h4 K' h5
                exact ⟨k' + 1, h2 _ (by simp only [hy]; exact h6)⟩
              · cases h1
            | ret => exact ⟨.ret, σ', al', h1, fun K' h5 => ⟨1, h2 _ h5⟩⟩
            | ext id => exact ⟨.ext id, σ', al', h1, fun K' h5 => ⟨1, h2 _ h5⟩⟩
        obtain ⟨ex, σ', al', h1, h2⟩ := key k x hk
        refine ⟨ex, σ', al', h1, fun K' h3 => ?_⟩
        obtain ⟨k', h4⟩ := h2 K' h3
        unfold cev
        rw [han]
        simp only [hx]
        refine (fixp_iff (fun g x r h => ?_)).2 ⟨k', h4⟩
        obtain ⟨ex, σ', al', h5, h6⟩ := cev_nat c h
        cases ex with
        | nrm =>
          simp only at h5
          split at h5
          · rename_i y hy
            exact .inr ⟨y, h5, fun g' h7 => h6 _ (by simp only [hy]; exact h7)⟩
          · cases h5
        | ret => exact .inl (fun g' => h6 _ h5)
        | ext id => exact .inl (fun g' => h6 _ h5)
      · cases h
    · cases h
  | .rangeFunc _ _ _ _, _, _, _, _, h => by simp [cev] at h
  | .scope _, _, _, _, _, h => by simp [cev] at h
  | .label _, _, _, _, _, h => by simp [cev] at h
  | .goto _, _, _, _, _, h => by simp [cev] at h
  | .refuse _, _, _, _, _, h => by simp [cev] at h
/-- A loop's round, as a step. -/
noncomputable def lstep (E : Env) (n : Nat) (c : Code) (an : List (Nat × An)) (K : Ex → St → List Nat → Option α) (rec : AX an → Option α) (x : AX an) : Option α := cev E n c (lk an x) (alL an) fun ex σ al => match ex with
  | .nrm => match shL an σ with
    | some y => rec y
    | none => none
  | ex => K ex σ al
theorem lstep_tail {c : Code} {an : List (Nat × An)} {K : Ex → St → List Nat → Option α} : Tail (lstep E n c an K) := fun g x r h => by
  obtain ⟨ex, σ', al', h5, h6⟩ := cev_nat c h
  cases ex with
  | nrm =>
    simp only at h5
    split at h5
    · rename_i y hy
      exact .inr ⟨y, h5, fun g' h7 => h6 _ (by simp only [hy]; exact h7)⟩
    · cases h5
  | ret => exact .inl (fun g' => h6 _ h5)
  | ext id => exact .inl (fun g' => h6 _ h5)
end
/-! ### soundness -/
theorem least {p : Nat → Prop} (h : ∃ k, p k) : ∃ k, p k ∧ ∀ m, p m → k ≤ m := by
  obtain ⟨k, hk⟩ := h
  induction k using Nat.strongRecOn with
  | _ k ih =>
    by_cases hm : ∃ m, m < k ∧ p m
    · obtain ⟨m, h1, h2⟩ := hm
      exact ih m h1 h2
    · refine ⟨k, hk, fun m hpm => ?_⟩
      by_cases hlt : m < k
      · exact absurd ⟨m, hlt, hpm⟩ hm
      · omega
open Classical in
theorem wp_rounds {P : Program} {c : Code} {Q : Exit → Act → World → Prop} (J : Nat → Act → World → Prop) (h0 : ∀ a w, ¬ J 0 a w) (hs : ∀ k a w, J (k + 1) a w → c.wp P (Exit.then (J k) Q) a w) {k : Nat} {a : Act} {w : World} (h : J k a w) : (Code.loop c).wp P Q a w := by
  refine wp_loop (fun a w => ∃ k, J k a w) (fun a w => if h : ∃ k, J k a w then Classical.choose (least h) else 0) ⟨k, h⟩ (fun a w hI => ?_)
  have hm := (Classical.choose_spec (least hI)).1
  rw [dif_pos hI]
  cases hk : Classical.choose (least hI) with
  | zero => rw [hk] at hm; exact absurd hm (h0 a w)
  | succ m =>
    rw [hk] at hm
    refine Code.wp_mono (fun e a' w' hq => ?_) (hs m a w hm)
    cases e with
    | normal =>
      have hI' : ∃ k, J k a' w' := ⟨m, hq⟩
      refine ⟨hI', ?_⟩
      rw [dif_pos hI']
      exact Nat.lt_succ_of_le ((Classical.choose_spec (least hI')).2 m hq)
    | _ => exact hq
section
variable {E : Env} {n : Nat} {w0 : World} {S0 : Nat → Prop} {α : Type}
theorem regK_ok (hE : EnvOk E) (hG : E.G w0) {id : Nat} {ops : Array Oper} {dr : Bool} {σ : St} {al : List Nat} {X : Cx} {a : Act} {K : St → List Nat → Option α} {r : α} {Q : Exit → Act → World → Prop} (hr : regK E n ops dr σ al K = some r) (h : ST n w0 S0 X σ a) (hA : ∀ e, X.A e → e ∈ al)
    (hQ : ∀ σ' al' X' a', K σ' al' = some r → ST n w0 S0 X' σ' a' → (∀ e, X'.A e → e ∈ al') → Q .normal a' X'.w) : (Code.region id ops dr).wp E.P Q a X.w := by
  unfold regK at hr
  obtain ⟨h1, h2⟩ := cond_some (y := none) hr
  have hmem : ∀ {X' : Cx}, (∀ e, X'.A e → e ∈ al ∨ e ∈ sites ops.toList) → ∀ e, X'.A e → e ∈ sites ops.toList ++ al := fun h e he => List.mem_append.2 ((h e he).symm)
  cases dr with
  | true =>
    obtain ⟨h3, h4⟩ := cond_some (y := none) h2
    obtain ⟨S', k1, k2, k3, k4⟩ := frzs_ok h (preC σ ops.toList)
    exact open_ok (X := { X with S := S' }) hE hG h4 h3 h1 hA k1 (fun σ' X' a' q1 q2 q3 => hQ σ' _ X' a' q1 q3 (hmem q2))
  | false =>
    refine wp_region_list (runK_ok hE hG h2 h1 hA h (fun σ' X' a' q1 q2 q3 => hQ σ' _ X' a' q1 q3 (hmem q2)))
theorem cev_ok (hE : EnvOk E) (hG : E.G w0) : ∀ (c : Code) {σ : St} {al : List Nat} {X : Cx} {a : Act} {K : Ex → St → List Nat → Option α} {r : α} {Q : Exit → Act → World → Prop}, cev E n c σ al K = some r → ST n w0 S0 X σ a → (∀ e, X.A e → e ∈ al) →
    (∀ ex σ' al' X' a', K ex σ' al' = some r → ST n w0 S0 X' σ' a' → (∀ e, X'.A e → e ∈ al') → Q ex.to a' X'.w) → c.wp E.P Q a X.w
  | .skip, σ, al, X, a, K, r, Q, hr, h, hA, hQ => wp_skip (hQ .nrm _ _ _ _ hr h hA)
  | .ret, σ, al, X, a, K, r, Q, hr, h, hA, hQ => wp_ret (hQ .ret _ _ _ _ hr h hA)
  | .exit id, σ, al, X, a, K, r, Q, hr, h, hA, hQ => wp_exit (hQ (.ext id) _ _ _ _ hr h hA)
  | .region id ops dr, σ, al, X, a, K, r, Q, hr, h, hA, hQ => regK_ok hE hG hr h hA (fun σ' al' X' a' q1 q2 q3 => hQ .nrm σ' al' X' a' q1 q2 q3)
  | .seq c1 c2, σ, al, X, a, K, r, Q, hr, h, hA, hQ => by
    refine wp_seq (cev_ok hE hG c1 hr h hA (fun ex σ' al' X' a' q1 q2 q3 => ?_))
    cases ex with
    | nrm => exact cev_ok hE hG c2 q1 q2 q3 hQ
    | ret => exact hQ .ret σ' al' X' a' q1 q2 q3
    | ext id => exact hQ (.ext id) σ' al' X' a' q1 q2 q3
  | .cond c c1 c2, σ, al, X, a, K, r, Q, hr, h, hA, hQ => by
    unfold cev at hr
    split at hr
    · rename_i x hx
      have hv := ev_ok h c
      rw [hx] at hv
      have hv := vl_b hv
      have hk := know_eq hx
      cases x with
      | true => rw [hk] at hr; exact wp_cond_true hv (cev_ok hE hG c1 hr h hA hQ)
      | false => rw [hk] at hr; exact wp_cond_false hv (cev_ok hE hG c2 hr h hA hQ)
    · cases hr
  | .block id c, σ, al, X, a, K, r, Q, hr, h, hA, hQ => by
    refine wp_block (cev_ok hE hG c hr h hA (fun ex σ' al' X' a' q1 q2 q3 => ?_))
    have := hQ _ σ' al' X' a' q1 q2 q3
    cases ex with
    | nrm => exact this
    | ret => exact this
    | ext i =>
      show (if i = id then Q .normal a' X'.w else Q (.exit i) a' X'.w)
      by_cases hi : i = id
      · subst hi
        rw [if_pos rfl]
        have e : Nat.beq i i = true := Nat.beq_refl i
        simp only [Ex.out, e] at this
        exact this
      · rw [if_neg hi]
        have e : Nat.beq i id = false := by
          cases hb : Nat.beq i id with
          | false => rfl
          | true => exact absurd (Nat.eq_of_beq_eq_true hb) hi
        simp only [Ex.out, e] at this
        exact this
  | .loop c, σ, al, X, a, K, r, Q, hr, h, hA, hQ => by
    unfold cev at hr
    split at hr
    · rename_i an han
      split at hr
      · rename_i x hx
        obtain ⟨k, hk⟩ := fixp_some hr
        obtain ⟨X', hw, h', hA'⟩ := head_ok h hx
        rw [← hw]
        refine wp_rounds (fun k a w => ∃ (X : Cx) (x : AX an), X.w = w ∧ iter (lstep E n c an K) k x = some r ∧ ST n w0 S0 X (lk an x) a ∧ ∀ e, X.A e → e ∈ alL an) ?_ ?_ ⟨X', x, rfl, hk, h', hA'⟩
        · rintro a w ⟨X, x, _, h0, _⟩
          cases h0
        · rintro k a w ⟨X, x, rfl, h1, h2, h3⟩
          refine cev_ok hE hG c h1 h2 h3 (fun ex σ' al' X' a' q1 q2 q3 => ?_)
          cases ex with
          | nrm =>
            simp only at q1
            split at q1
            · rename_i y hy
              obtain ⟨X2, hw2, h4, h5⟩ := head_ok q2 hy
              exact ⟨X2, y, hw2, q1, h4, h5⟩
            · cases q1
          | ret => exact hQ .ret σ' al' X' a' q1 q2 q3
          | ext id => exact hQ (.ext id) σ' al' X' a' q1 q2 q3
      · cases hr
    · cases hr
  | .rangeFunc _ _ _ _, _, _, _, _, _, _, _, h, _, _, _ => by simp [cev] at h
  | .scope _, _, _, _, _, _, _, _, h, _, _, _ => by simp [cev] at h
  | .label _, _, _, _, _, _, _, _, h, _, _, _ => by simp [cev] at h
  | .goto _, _, _, _, _, _, _, _, h, _, _, _ => by simp [cev] at h
  | .refuse _, _, _, _, _, _, _, _, h, _, _, _ => by simp [cev] at h
end
end Go.Proofs.YtbjgmnliholmpaaDoor.V
