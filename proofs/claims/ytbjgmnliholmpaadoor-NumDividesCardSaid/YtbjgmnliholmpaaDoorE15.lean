/- A pure reading of code: a region of open order does what its reading in the text's order tells. -/
import Derived.Test.YtbjgmnliholmpaaDoorE14
namespace Go.Proofs.YtbjgmnliholmpaaDoor.V
set_option linter.unusedSimpArgs false
set_option linter.unusedVariables false
open Go Go.RowKit
set_option linter.unusedSectionVars false
variable [Yc]
def appB (b : Nat → Bool) : Nat → List Ws → St → St
  | _, [], σ => σ
  | k, ws :: r, σ => appB b (k + 1) r (if b k then app ws σ else σ)
theorem app_out {p : Nat} : ∀ {ws : Ws} {σ : St}, p ∉ ws.map (·.1) → app ws σ p = σ p
  | [], _, _ => rfl
  | e :: r, σ, h => by
    simp only [List.map_cons, List.mem_cons, not_or] at h
    show app r (upd σ e.1 e.2) p = _
    rw [app_out h.2, upd_ne h.1]
theorem app_eq {p : Nat} : ∀ {ws : Ws} {σ σ' : St}, σ p = σ' p → app ws σ p = app ws σ' p
  | [], _, _, h => h
  | e :: r, σ, σ', h => by
    refine app_eq (ws := r) ?_
    by_cases hp : p = e.1
    · subst hp; rw [upd_same, upd_same]
    · rw [upd_ne hp, upd_ne hp, h]
theorem app_in {p : Nat} : ∀ {ws : Ws} {σ σ' : St}, p ∈ ws.map (·.1) → app ws σ p = app ws σ' p
  | [], _, _, h => by cases h
  | e :: r, σ, σ', h => by
    by_cases hp : p = e.1
    · refine app_eq (ws := r) ?_
      subst hp; rw [upd_same, upd_same]
    · refine app_in (ws := r) ?_
      simp only [List.map_cons, List.mem_cons] at h
      exact h.resolve_left hp
theorem appB_cg {b b' : Nat → Bool} {p : Nat} : ∀ {L : List Ws} {k : Nat} {σ σ' : St}, σ p = σ' p → (∀ (j : Nat) ws, L[j]? = some ws → p ∈ ws.map (·.1) → b (k + j) = b' (k + j)) → appB b k L σ p = appB b' k L σ' p
  | [], _, _, _, h, _ => h
  | ws :: r, k, σ, σ', h, hb => by
    unfold appB
    refine appB_cg ?_ (fun j e' hj he => by have := hb (j + 1) e' (by simpa using hj) he; rwa [show k + 1 + j = k + (j + 1) by omega])
    by_cases he : p ∈ ws.map (·.1)
    · have h0 := hb 0 ws rfl he
      rw [Nat.add_zero] at h0
      rw [h0]
      split
      · exact app_in he
      · exact h
    · split <;> split <;> simp only [app_out he, h]
theorem appB_none {b : Nat → Bool} : ∀ {L : List Ws} {k : Nat} {σ : St}, (∀ j, j < L.length → b (k + j) = false) → appB b k L σ = σ
  | [], _, _, _ => rfl
  | e :: r, k, σ, h => by
    unfold appB
    have h0 := h 0 (by simp)
    rw [Nat.add_zero] at h0
    rw [h0]
    exact appB_none (fun j hj => by have := h (j + 1) (by simpa using hj); rwa [show k + 1 + j = k + (j + 1) by omega])
theorem appB_step {b b' : Nat → Bool} {ws : Ws} : ∀ {L : List Ws} {k i : Nat} {σ : St}, L[i]? = some ws → (∀ j, j < k + i → b j = b' j) → (∀ j, k + i ≤ j → b j = false) → b' (k + i) = true → (∀ j, k + i < j → b' j = false) → appB b' k L σ = app ws (appB b k L σ)
  | [], _, _, _, h, _, _, _, _ => by simp at h
  | e0 :: r, k, 0, σ, h, h1, h2, h3, h4 => by
    simp only [List.getElem?_cons_zero, Option.some.injEq] at h
    subst h
    unfold appB
    rw [Nat.add_zero] at h3
    rw [h3, h2 k (by omega)]
    rw [appB_none (b := b') (fun j _ => h4 _ (by omega)), appB_none (b := b) (fun j _ => h2 _ (by omega))]
    simp
  | e0 :: r, k, i + 1, σ, h, h1, h2, h3, h4 => by
    rw [List.getElem?_cons_succ] at h
    unfold appB
    rw [h1 k (by omega)]
    exact appB_step h (fun j hj => h1 j (by omega)) (fun j hj => h2 j (by omega)) (by rwa [show k + 1 + i = k + (i + 1) by omega]) (fun j hj => h4 j (by omega))
theorem appB_shift {b b' : Nat → Bool} : ∀ {L : List Ws} {k k' : Nat} {σ : St}, (∀ j, b (k + j) = b' (k' + j)) → appB b k L σ = appB b' k' L σ
  | [], _, _, _, _ => rfl
  | e :: r, k, k', σ, hb => by
    unfold appB
    have h0 := hb 0
    simp only [Nat.add_zero] at h0
    rw [h0]
    exact appB_shift (fun j => by have := hb (j + 1); rwa [show k + 1 + j = k + (j + 1) by omega, show k' + 1 + j = k' + (j + 1) by omega])
/-! ### what must have come up before -/
theorem ancs_pre : ∀ {rs : List (List Nat)} {acc : List Nat} {i : Nat}, i < acc.length → (ancs rs acc)[i]? = acc[i]?
  | [], acc, i, _ => rfl
  | r :: rs, acc, i, h => by
    unfold ancs
    rw [ancs_pre (by simp; omega), List.getElem?_append_left h]
theorem ancs_at : ∀ {rs : List (List Nat)} {acc : List Nat} {i : Nat} {nd : List Nat}, rs[i]? = some nd → ∃ m, (ancs rs acc)[acc.length + i]? = some m ∧ ∀ j, m.testBit j = true → ∃ e ∈ nd, j = e ∨ (e < acc.length + i ∧ ∃ me, (ancs rs acc)[e]? = some me ∧ me.testBit j = true)
  | [], _, _, _, h => by simp at h
  | r :: rs, acc, 0, nd, h => by
    simp only [List.getElem?_cons_zero, Option.some.injEq] at h
    subst h
    unfold ancs
    refine ⟨ancF acc r, ?_, fun j hj => ?_⟩
    · rw [Nat.add_zero, ancs_pre (by simp), List.getElem?_append_right (Nat.le_refl _), Nat.sub_self]; rfl
    · have key : ∀ (l : List Nat), (ancF acc l).testBit j = true → ∃ e ∈ l, j = e ∨ (acc.getD e 0).testBit j = true := by
        intro l
        induction l with
        | nil => intro h; simp [ancF] at h
        | cons e l ih =>
          intro h
          simp only [ancF, Nat.testBit_or, Bool.or_eq_true, Nat.testBit_two_pow, decide_eq_true_eq] at h
          rcases h with (h | h) | h
          · exact ⟨e, by simp, .inl h.symm⟩
          · exact ⟨e, by simp, .inr h⟩
          · obtain ⟨e', he, h'⟩ := ih h
            exact ⟨e', by simp [he], h'⟩
      obtain ⟨e, he, h'⟩ := key r hj
      refine ⟨e, he, h'.imp id (fun h2 => ?_)⟩
      rw [List.getD_eq_getElem?_getD] at h2
      cases hq : acc[e]? with
      | none => rw [hq] at h2; simp at h2
      | some me =>
        rw [hq] at h2
        have hlt := (List.getElem?_eq_some_iff.1 hq).1
        exact ⟨by omega, me, by rw [ancs_pre (by simp; omega), List.getElem?_append_left hlt]; exact hq, h2⟩
  | r :: rs, acc, i + 1, nd, h => by
    rw [List.getElem?_cons_succ] at h
    unfold ancs
    obtain ⟨m, h1, h2⟩ := ancs_at (acc := acc ++ [ancF acc r]) h
    have e : (acc ++ [ancF acc r]).length + i = acc.length + (i + 1) := by simp; omega
    rw [e] at h1 h2
    exact ⟨m, h1, h2⟩
theorem okE_at : ∀ {rs : List (List Nat)} {k i : Nat} {nd : List Nat}, okE k rs = true → rs[i]? = some nd → ∀ e ∈ nd, e < k + i
  | [], _, _, _, _, h, _, _ => by simp at h
  | r :: rs, k, 0, nd, ho, h, e, he => by
    simp only [List.getElem?_cons_zero, Option.some.injEq] at h
    subst h
    simp only [okE, Bool.and_eq_true, List.all_eq_true, Nat.blt_eq] at ho
    exact ho.1 e he
  | r :: rs, k, i + 1, nd, ho, h, e, he => by
    simp only [okE, Bool.and_eq_true] at ho
    have := okE_at ho.2 (by simpa using h) e he
    omega
theorem anc_lt {rs : List (List Nat)} (ho : okE 0 rs = true) : ∀ (i : Nat) {m : Nat}, i < rs.length → (ancs rs [])[i]? = some m → ∀ j, m.testBit j = true → j < i := by
  intro i
  induction i using Nat.strongRecOn with
  | _ i ih =>
    intro m hi hm j hj
    obtain ⟨m', h1, h2⟩ := ancs_at (acc := []) (List.getElem?_eq_getElem hi)
    rw [List.length_nil, Nat.zero_add, hm] at h1
    cases h1
    obtain ⟨e, he, h3⟩ := h2 j hj
    have hlt := okE_at ho (List.getElem?_eq_getElem hi) e he
    rcases h3 with rfl | ⟨h4, me, h5, h6⟩
    · omega
    · have := ih e (by omega) (by omega) h5 j h6
      omega
theorem anc_in {rs : List (List Nat)} (ho : okE 0 rs = true) {b : Nat → Bool} (hb : ∀ i nd, rs[i]? = some nd → b i = true → ∀ e ∈ nd, b e = true) : ∀ (i : Nat) {m : Nat} {nd : List Nat}, rs[i]? = some nd → (ancs rs [])[i]? = some m → (∀ e ∈ nd, b e = true) → ∀ j, m.testBit j = true → b j = true := by
  intro i
  induction i using Nat.strongRecOn with
  | _ i ih =>
    intro m nd hi hm hnd j hj
    obtain ⟨m', h1, h2⟩ := ancs_at (acc := []) hi
    rw [List.length_nil, Nat.zero_add, hm] at h1
    cases h1
    obtain ⟨e, he, h3⟩ := h2 j hj
    have hlt := okE_at ho hi e he
    rcases h3 with rfl | ⟨h4, me, h5, h6⟩
    · exact hnd _ he
    · have hil := (List.getElem?_eq_some_iff.1 hi).1
      have hel : e < rs.length := by omega
      exact ih e (by omega) (List.getElem?_eq_getElem hel) h5 (hb e _ (List.getElem?_eq_getElem hel) (hnd e he)) j h6
section
variable {E : Env} {n : Nat} {w0 : World} {S0 : Nat → Prop} {X Y : Cx} {σ σ' : St} {a : Act} {x y z : Vl} {v u : Value} {d : Nat} {o : Oper} {rs : Rs} {ws : Ws} {ops : Array Oper} {K : Act → World → Prop} {Q : Exit → Act → World → Prop}
theorem sites_ok : ∀ {os : List Oper} {al : List Nat} {i : Nat} {o : Oper} {d : Nat}, okSites al (sites os) = true → os[i]? = some o → alc o = some d → d ∉ al ∧ ∀ (j : Nat) o', os[j]? = some o' → alc o' = some d → j = i
  | [], _, _, _, _, _, h, _ => by simp at h
  | q :: os, al, i, o, d, hs, hi, ha => by
    have hmem : ∀ {os : List Oper} {al : List Nat}, okSites al (sites os) = true → ∀ (j : Nat) o', os[j]? = some o' → ∀ d, alc o' = some d → d ∉ al := by
      intro os
      induction os with
      | nil => intro al _ j o' h; simp at h
      | cons q os ih =>
        intro al hs j o' hj d hd
        cases hq : alc q with
        | none =>
          simp only [sites, hq] at hs
          cases j with
          | zero => cases hj; rw [hq] at hd; cases hd
          | succ j => exact ih hs j o' (by simpa using hj) d hd
        | some dq =>
          simp only [sites, hq, okSites, Bool.and_eq_true, Bool.not_eq_true', List.contains_eq_mem, decide_eq_false_iff_not] at hs
          cases j with
          | zero => cases hj; rw [hq] at hd; cases hd; exact hs.1
          | succ j => exact fun hm => ih hs.2 j o' (by simpa using hj) d hd (List.mem_cons_of_mem _ hm)
    refine ⟨hmem hs i o hi d ha, fun j o' hj ha' => ?_⟩
    cases hq : alc q with
    | none =>
      simp only [sites, hq] at hs
      cases i with
      | zero => cases hi; rw [hq] at ha; cases ha
      | succ i =>
        cases j with
        | zero => cases hj; rw [hq] at ha'; cases ha'
        | succ j => rw [(sites_ok hs (by simpa using hi) ha).2 j o' (by simpa using hj) ha']
    | some dq =>
      simp only [sites, hq, okSites, Bool.and_eq_true] at hs
      cases i with
      | zero =>
        cases hi
        rw [hq] at ha
        cases ha
        cases j with
        | zero => rfl
        | succ j => exact absurd (List.mem_cons_self) (hmem hs.2 j o' (by simpa using hj) _ ha')
      | succ i =>
        cases j with
        | zero =>
          cases hj
          rw [hq] at ha'
          cases ha'
          exact absurd (List.mem_cons_self) (hmem hs.2 i o (by simpa using hi) _ ha)
        | succ j => rw [(sites_ok hs.2 (by simpa using hi) ha).2 j o' (by simpa using hj) ha']
theorem sites_mem : ∀ {os : List Oper} {j : Nat} {o : Oper} {d : Nat}, os[j]? = some o → alc o = some d → d ∈ sites os
  | [], _, _, _, h, _ => by simp at h
  | q :: os, j, o, d, hj, ha => by
    cases j with
    | zero => cases hj; simp [sites, ha]
    | succ j =>
      have := sites_mem (os := os) (by simpa using hj) ha
      unfold sites
      split
      · exact List.mem_cons_of_mem _ this
      · exact this
theorem runD_vals {α : Type} {K : St → List (Nat × Nat) → Option α} {r : α} : ∀ {os : List Oper} {σ : St} {F : List (Nat × Nat)}, runD E n ops os σ F K = some r → ∃ (L : List Ws) (G : List (Nat × Nat)), L.length = os.length ∧ G.length = os.length ∧ K (appB (fun _ => true) 0 L σ) (F ++ G) = some r ∧
    ∀ (i : Nat) o ws, os[i]? = some o → L[i]? = some ws → stp E n ops (appB (fun j => decide (j < i)) 0 L σ) o = some ws ∧ G[i]? = some (msk (rdO ops (appB (fun j => decide (j < i)) 0 L σ) o) ||| msk (ws.map (·.1)), msk (ws.map (·.1)))
  | [], σ, F, h => ⟨[], [], rfl, rfl, by rw [List.append_nil]; exact h, fun i o ws hi => by simp at hi⟩
  | o :: os, σ, F, h => by
    obtain ⟨ws, h1, h2⟩ := gateK_some h
    obtain ⟨L, G, h3, h4, h5, h6⟩ := runD_vals h2
    refine ⟨ws :: L, (msk (rdO ops σ o) ||| msk (ws.map (·.1)), msk (ws.map (·.1))) :: G, by simp [h3], by simp [h4], ?_, fun i o' ws' hi hw => ?_⟩
    · rw [List.append_assoc] at h5
      unfold appB
      rw [if_pos rfl, appB_shift (b' := fun _ => true) (k' := 0) (fun _ => rfl)]
      exact h5
    · cases i with
      | zero =>
        cases hi
        cases hw
        rw [appB_none (fun j _ => by simp)]
        exact ⟨h1, rfl⟩
      | succ i =>
        rw [List.getElem?_cons_succ] at hi hw
        have := h6 i o' ws' hi hw
        unfold appB
        rw [if_pos (by simp), appB_shift (b' := fun j => decide (j < i)) (k' := 0) (fun j => by simp; omega)]
        exact this
theorem open_ok (hE : EnvOk E) (hG : E.G w0) {id : Nat} {al : List Nat} {α : Type} {K0 : St → Option α} {r : α}
    (hr : runD E n ops ops.toList σ [] (fun σ F => cond (conf (ancs (ops.toList.map ndO) []) F) (K0 σ) none) = some r) (hed : okE 0 (ops.toList.map ndO) = true) (hs : okSites al (sites ops.toList) = true) (hA : ∀ e, X.A e → e ∈ al) (h : ST n w0 S0 X σ a)
    (hQ : ∀ σ' X' a', K0 σ' = some r → (∀ e, X'.A e → e ∈ al ∨ e ∈ sites ops.toList) → ST n w0 S0 X' σ' a' → Q .normal a' X'.w) : (Code.region id ops true).wp E.P Q a X.w := by
  obtain ⟨L, G, hL, hGl, hK, hv⟩ := runD_vals hr
  rw [List.nil_append] at hK
  have hcf : conf (ancs (ops.toList.map ndO) []) G = true := by
    cases hc : conf (ancs (ops.toList.map ndO) []) G with
    | true => rfl
    | false => rw [hc] at hK; cases hK
  rw [hcf] at hK
  have hK : K0 (appB (fun _ => true) 0 L σ) = some r := hK
  have hsz : ops.toList.length = ops.size := Array.length_toList
  have hget : ∀ {i : Nat} {o : Oper}, ops[i]? = some o → ops.toList[i]? = some o := fun {i o} ho => by simpa using ho
  have hnd : ∀ {i : Nat} {o : Oper}, ops[i]? = some o → (ops.toList.map ndO)[i]? = some (ndO o) := fun {i o} ho => by rw [List.getElem?_map, hget ho]; rfl
  have hgo : ∀ {i : Nat} {nd : List Nat}, (ops.toList.map ndO)[i]? = some nd → ∃ o, ops[i]? = some o ∧ nd = ndO o := fun {i nd} h => by
    rw [List.getElem?_map] at h
    cases hq : ops.toList[i]? with
    | none => rw [hq] at h; cases h
    | some o => rw [hq] at h; cases h; exact ⟨o, by simpa using hq, rfl⟩
  have hanc : ∀ i, i < ops.size → ∃ m, (ancs (ops.toList.map ndO) [])[i]? = some m := fun i hi => by
    obtain ⟨m, h1, _⟩ := ancs_at (acc := []) (hnd (Array.getElem?_eq_getElem hi))
    exact ⟨m, by simpa using h1⟩
  -- who sets what another reads, has come up, or comes later
  have hag : ∀ {i : Nat} {o : Oper} {b : Nat → Bool}, ops[i]? = some o → b i = false → (∀ i o, ops[i]? = some o → b i = true → ∀ e ∈ ndO o, b e = true) → (∀ e ∈ ndO o, b e = true) →
      ∀ (j : Nat) ws', L[j]? = some ws' → j ≠ i → ∀ p ∈ ws'.map (·.1), (∀ f, G[i]? = some f → f.1.testBit p = true) → b j = decide (j < i) := fun {i o b} ho hbi hbc hpre j ws' hj hne p hp hf => by
    have hil : i < ops.size := (Array.getElem?_eq_some_iff.1 ho).1
    have hjl : j < ops.size := by rw [← hsz, ← hL]; exact (List.getElem?_eq_some_iff.1 hj).1
    obtain ⟨mi, hmi⟩ := hanc i hil
    obtain ⟨mj, hmj⟩ := hanc j hjl
    have hoj : ops[j]? = some ops[j] := Array.getElem?_eq_getElem hjl
    obtain ⟨_, hgj⟩ := hv j _ ws' (hget hoj) hj
    have hLi : L[i]? = some (L[i]'(by rw [hL, hsz]; exact hil)) := List.getElem?_eq_getElem (by rw [hL, hsz]; exact hil)
    obtain ⟨_, hgi⟩ := hv i _ _ (hget ho) hLi
    have hbc' : ∀ i nd, (ops.toList.map ndO)[i]? = some nd → b i = true → ∀ e ∈ nd, b e = true := fun i nd h1 h2 => by
      obtain ⟨o', h3, rfl⟩ := hgo h1
      exact hbc i o' h3 h2
    rcases conf_at hcf hgi hgj hmi hmj (Ne.symm hne) (hf _ hgi) (msk_bit.2 hp) with h1 | h1
    · have := anc_in hed hbc' i (hnd ho) hmi hpre j h1
      have hlt := anc_lt hed i (by rw [List.length_map, hsz]; exact hil) hmi j h1
      rw [this]
      simp [hlt]
    · have hlt := anc_lt hed j (by rw [List.length_map, hsz]; exact hjl) hmj i h1
      have : b j = false := by
        cases hbj : b j with
        | false => rfl
        | true =>
          have := anc_in hed hbc' j (hnd hoj) hmj (hbc j _ hoj hbj) i h1
          rw [hbi] at this
          cases this
      rw [this]
      simp
      omega
  refine lin_wp hE.mx (fun i o ho e he => by have := okE_at hed (hnd ho) e he; omega)
    (fun b a w => (∀ i o, ops[i]? = some o → b i = true → ∀ e ∈ ndO o, b e = true) ∧ ∃ X' : Cx, X'.w = w ∧ ST n w0 S0 X' (appB b 0 L σ) a ∧ ∀ e, X'.A e → e ∈ al ∨ ∃ j o, ops[j]? = some o ∧ b j = true ∧ alc o = some e) ?_ ?_ ?_
  · rintro i o b a1 w1 ho hbi hpre ⟨hbc, X', rfl, hI, hAI⟩ K' hK'
    have hil : i < ops.size := (Array.getElem?_eq_some_iff.1 ho).1
    have hLi : L[i]? = some (L[i]'(by rw [hL, hsz]; exact hil)) := List.getElem?_eq_getElem (by rw [hL, hsz]; exact hil)
    obtain ⟨ws, hws⟩ : ∃ ws, ws = L[i]'(by rw [hL, hsz]; exact hil) := ⟨_, rfl⟩
    rw [← hws] at hLi
    obtain ⟨hst, hgi⟩ := hv i o ws (hget ho) hLi
    have hag' := hag ho hbi hbc hpre
    -- what it reads is as in the text's order
    have hrd : ∀ p ∈ rdO ops (appB (fun j => decide (j < i)) 0 L σ) o, appB (fun j => decide (j < i)) 0 L σ p = appB b 0 L σ p := fun p hp => by
      refine appB_cg rfl (fun j ws' hj hpw => ?_)
      rw [Nat.zero_add]
      by_cases hji : j = i
      · subst hji; rw [hbi]; simp
      · exact (hag' j ws' hj hji p hpw (fun f hf => by rw [hgi] at hf; cases hf; rw [Nat.testBit_or, Bool.or_eq_true]; exact .inl (msk_bit.2 hp))).symm
    rw [stp_cg hrd] at hst
    refine stp_ok hE hG hI (fun d hd hx => ?_) hst (fun X2 a2 hA2 h2 => hK' a2 X2.w ⟨fun i' o' ho' hb' e he => ?_, X2, rfl, h2.ext (fun p => ?_), fun e he => ?_⟩)
    · obtain ⟨h5, h6⟩ := sites_ok hs (hget ho) hd
      rcases hAI d hx with h7 | ⟨j, o', h7, h8, h9⟩
      · exact h5 h7
      · have := h6 j o' (hget h7) h9
        subst this
        rw [hbi] at h8
        cases h8
    · by_cases hii : i' = i
      · subst hii
        rw [ho] at ho'
        cases ho'
        have h7 := hpre e he
        by_cases hei : e = i'
        · subst hei; exact upb_same _ _
        · rw [upb_ne hei]; exact h7
      · rw [upb_ne hii] at hb'
        have h7 := hbc i' o' ho' hb' e he
        by_cases hei : e = i
        · subst hei; exact upb_same _ _
        · rw [upb_ne hei]; exact h7
    · by_cases hp : p ∈ ws.map (·.1)
      · have h1 := appB_step (b := fun j => decide (j < i)) (b' := fun j => decide (j < i + 1)) (k := 0) (σ := σ) hLi (fun j hj => by simp; omega) (fun j hj => by simp; omega) (by simp) (fun j hj => by simp; omega)
        have h3 : appB (upb b i) 0 L σ p = appB (fun j => decide (j < i + 1)) 0 L σ p := appB_cg rfl (fun j ws' hj hpw => by
          rw [Nat.zero_add]
          by_cases hji : j = i
          · subst hji; rw [upb_same]; simp
          · rw [upb_ne hji, hag' j ws' hj hji p hpw (fun f hf => by rw [hgi] at hf; cases hf; rw [Nat.testBit_or, Bool.or_eq_true]; exact .inr (msk_bit.2 hp))]
            simp
            omega)
        rw [h3, h1]
        exact app_in hp
      · rw [app_out hp]
        exact appB_cg rfl (fun j ws' hj hpw => by
          rw [Nat.zero_add]
          by_cases hji : j = i
          · subst hji
            rw [hLi] at hj
            cases hj
            exact absurd hpw hp
          · rw [upb_ne hji])
    · rcases hA2 e he with h7 | h7
      · rcases hAI e h7 with h8 | ⟨j, o', h8, h9, h10⟩
        · exact .inl h8
        · refine .inr ⟨j, o', h8, ?_, h10⟩
          by_cases hji : j = i
          · subst hji; exact upb_same _ _
          · rw [upb_ne hji]; exact h9
      · exact .inr ⟨i, o, ho, upb_same _ _, h7⟩
  · rintro b a1 w1 hb ⟨_, X', rfl, hI, hAI⟩
    refine hQ _ X' a1 hK (fun e he => ?_) (hI.ext (fun p => appB_cg rfl (fun j ws' hj _ => ?_)))
    · rcases hAI e he with h8 | ⟨j, o', h8, _, h10⟩
      · exact .inl h8
      · exact .inr (sites_mem (hget h8) h10)
    · rw [Nat.zero_add]
      exact hb j (by rw [← hsz, ← hL]; exact (List.getElem?_eq_some_iff.1 hj).1)
  · refine ⟨(fun i o _ hb => by cases hb), { X with w := X.w.drew }, rfl, ?_, fun e he => .inl (hA e he)⟩
    rw [appB_none (fun _ _ => rfl)]
    exact h.world ((Below.refl _ _).drew)
end
end Go.Proofs.YtbjgmnliholmpaaDoor.V
