/- A pure reading of code: rows that are handed on; rows made of parts. -/
import Derived.Test.YtbjgmnliholmpaaDoorE6
namespace Go.Proofs.YtbjgmnliholmpaaDoor.V
set_option linter.unusedSimpArgs false
set_option linter.unusedVariables false
open Go Go.RowKit
set_option linter.unusedSectionVars false
variable [Yc]
section
variable {P : Program} {n : Nat} {w0 : World} {S0 : Nat → Prop} {X Y : Cx} {σ σ' : St} {a : Act} {x y z : Vl} {v u : Value} {cs : List Bool} {c : Cd} {l : List Cd} {d : Nat}
/-- A row that is written no more reads as any other. -/
theorem frozen_cr (h : ST n w0 S0 X σ a) {k : Kn} {l : List (El k)} (hd : σ (2 * d + 1) = .arr k l true) : CR X.S X.w (.sl k l) (X.τ d) := by
  have hb := h.bk d
  rw [hd] at hb
  obtain ⟨xs, hA, ho, h1, hr⟩ := hb
  rcases ho.2 with ⟨e1, e2⟩ | ⟨g, cap, cur, e1, h3, h4, h5, h6, h7, h8⟩
  · rw [e1]
    obtain rfl : l = [] := List.eq_nil_of_length_eq_zero e2
    exact .nsl k
  · have hlv : lv (σ (2 * d + 1)) = true := by rw [hd]; rfl
    have hbk : blk (X.τ d) = some g := by rw [e1]; rfl
    have hS : ¬ X.S g := fun hs => by
      rcases (h.s g).1 hs with h9 | ⟨e, h9, h10⟩
      · have := h.old g h9; omega
      · have := h.inj e d g (wr_lv h9) hlv h10 hbk
        subst this
        rw [hd] at h9
        cases h9
    have hg : g < X.w.heap.size := (Array.getElem?_eq_some_iff.1 h4).1
    rw [e1]
    rw [e1] at ho
    refine .sl k l ⟨g, 0, none⟩ cap (fun i j => xs.getD (i * sz k + j) undef) (fun _ => ⟨hS, hg⟩) h5 (fun i x j cd hi hj => ?_) (fun i x j cd hi hj => ?_)
    · obtain ⟨v, hv, _⟩ := hr i x j cd hi hj
      rw [add_at, Nat.zero_add, List.getD_eq_getElem?_getD, hv]
      exact own_cell ho _ v hv
    · obtain ⟨v, hv, hc⟩ := hr i x j cd hi hj
      rw [List.getD_eq_getElem?_getD, hv]
      exact hc
/-- Some rows are written no more. -/
def Frzd (σ σ' : St) : Prop := ∀ p, σ' p = σ p ∨ ∃ k l, σ p = .arr k l false ∧ σ' p = .arr k l true
theorem frz_gen : ∀ (cells : List Cd) (X : Cx) (σ' : St), ST n w0 S0 X σ' a → Frzd σ σ' → ∃ S', ST n w0 S0 { X with S := S' } (app (frz σ cells) σ') a ∧ X.Le { X with S := S' } ∧ Frzd σ (app (frz σ cells) σ') ∧
    (∀ d, Cd.rf d ∈ cells → ∀ k l, σ (2 * d + 1) = .arr k l false → app (frz σ cells) σ' (2 * d + 1) = .arr k l true) ∧ (∀ p k l, σ' p = .arr k l true → app (frz σ cells) σ' p = .arr k l true)
  | [], X, σ', h, hf => ⟨X.S, h, Cx.Le.refl X, hf, fun d hd => (by cases hd), fun p k l e => e⟩
  | c :: r, X, σ', h, hf => by
    have skip : (∀ d, c = .rf d → ∀ k l, σ (2 * d + 1) = .arr k l false → False) → frz σ (c :: r) = frz σ r → ∃ S', ST n w0 S0 { X with S := S' } (app (frz σ (c :: r)) σ') a ∧ X.Le { X with S := S' } ∧ Frzd σ (app (frz σ (c :: r)) σ') ∧
        (∀ d, Cd.rf d ∈ c :: r → ∀ k l, σ (2 * d + 1) = .arr k l false → app (frz σ (c :: r)) σ' (2 * d + 1) = .arr k l true) ∧ (∀ p k l, σ' p = .arr k l true → app (frz σ (c :: r)) σ' p = .arr k l true) := fun hn e => by
      rw [e]
      obtain ⟨S', h1, h2, h3, h4, h5⟩ := frz_gen r X σ' h hf
      refine ⟨S', h1, h2, h3, fun d hd k l hk => ?_, h5⟩
      rcases List.mem_cons.1 hd with hd | hd
      · exact (hn d hd.symm k l hk).elim
      · exact h4 d hd k l hk
    cases c with
    | rf d =>
      cases hd : σ (2 * d + 1) with
      | arr k l fz =>
        cases fz with
        | true => exact skip (fun d' e k' l' e' => by cases e; rw [hd] at e'; cases e') (by simp only [frz, hd])
        | false =>
          have hfr : frz σ (.rf d :: r) = (2 * d + 1, .arr k l true) :: frz σ r := by simp only [frz, hd]
          rw [hfr]
          show ∃ S', ST n w0 S0 { X with S := S' } (app (frz σ r) (upd σ' (2 * d + 1) (.arr k l true))) a ∧ _
          have hf2 : Frzd σ (upd σ' (2 * d + 1) (.arr k l true)) := fun p => by
            by_cases hp : p = 2 * d + 1
            · subst hp; exact .inr ⟨k, l, hd, upd_same _ _ _⟩
            · rw [upd_ne hp]; exact hf p
          have hset : ∃ S1, ST n w0 S0 { X with S := S1 } (upd σ' (2 * d + 1) (.arr k l true)) a ∧ X.Le { X with S := S1 } := by
            rcases hf (2 * d + 1) with e | ⟨k', l', e1, e2⟩
            · rw [hd] at e
              exact ⟨_, h.frz e, ST.le_frz X d⟩
            · rw [hd] at e1
              cases e1
              refine ⟨X.S, h.ext (fun p => ?_), Cx.Le.refl X⟩
              by_cases hp : p = 2 * d + 1
              · subst hp; rw [upd_same, e2]
              · rw [upd_ne hp]
          obtain ⟨S1, h1, hle1⟩ := hset
          obtain ⟨S', h2, hle2, h3, h4, h5⟩ := frz_gen r { X with S := S1 } _ h1 hf2
          refine ⟨S', h2, ⟨fun e he => ⟨he, rfl⟩, fun k hk => (hle2.s k hk).elim (fun h => hle1.s k h) .inr, fun _ _ _ => rfl, Nat.le_refl _⟩, h3, fun d' hd' k' l' hk => ?_, fun p k' l' e => ?_⟩
          · rcases List.mem_cons.1 hd' with e | hd'
            · cases e
              rw [hd] at hk
              cases hk
              exact h5 _ _ _ (upd_same _ _ _)
            · exact h4 d' hd' k' l' hk
          · refine h5 p k' l' ?_
            by_cases hp : p = 2 * d + 1
            · subst hp
              rcases hf (2 * d + 1) with e' | ⟨k2, l2, e1, e2⟩
              · rw [e, hd] at e'; cases e'
              · rw [hd] at e1
                cases e1
                rw [e] at e2
                rw [upd_same, e2]
            · rw [upd_ne hp]; exact e
      | _ => exact skip (fun d' e k' l' e' => by cases e; rw [hd] at e'; cases e') (by simp only [frz, hd])
    | _ => exact skip (fun d' e => by cases e) rfl
theorem frz_even (σ : St) : ∀ (cells : List Cd) (σ' : St) (t : Nat), app (frz σ cells) σ' (2 * t) = σ' (2 * t)
  | [], _, _ => rfl
  | c :: r, σ', t => by
    cases c with
    | rf d =>
      simp only [frz]
      split
      · show app (frz σ r) (upd σ' (2 * d + 1) _) (2 * t) = _
        rw [frz_even σ r, upd_ne (by omega)]
      · exact frz_even σ r σ' t
    | _ => exact frz_even σ r σ' t
theorem res_no (σ : St) (l : List Cd) (d : Nat) : Cd.rf d ∉ l.map (res σ) := by
  intro h
  obtain ⟨c, _, hc⟩ := List.mem_map.1 h
  cases c <;> simp only [res] at hc <;> first | (cases hc; done) | skip
  split at hc <;> cases hc
/-- Cells that are handed on: rows of the walk's own among them. -/
theorem frzs_ok (h : ST n w0 S0 X σ a) (cells : List Cd) : ∃ S', ST n w0 S0 { X with S := S' } (app (frz σ cells) σ) a ∧ X.Le { X with S := S' } ∧ Frzd σ (app (frz σ cells) σ) ∧ (∀ c ∈ cells, ∀ v, X.cd c v → CR S' X.w (res σ c) v) := by
  obtain ⟨S', h1, h2, h3, h4, h5⟩ := frz_gen (σ := σ) cells X σ h (fun p => .inl rfl)
  refine ⟨S', h1, h2, h3, fun c hc v hv => ?_⟩
  have hv' := h2.cd hv
  cases c with
  | rf d =>
    simp only [res]
    cases hd : σ (2 * d + 1) with
    | arr k l fz =>
      simp only
      have hd2 : app (frz σ cells) σ (2 * d + 1) = .arr k l true := by
        cases fz with
        | true => exact h5 _ _ _ hd
        | false => exact h4 d hc k l hd
      have := frozen_cr h1 hd2
      rw [← hv'.2.1] at this
      exact this
    | _ => exact .jk _ hv'.2.2
  | _ => exact hv'
theorem cs_res {S' : Nat → Prop} {w : World} {cells : List Cd} {l : List Cd} {vs : List Value} (hr : ∀ c ∈ cells, ∀ v, X.cd c v → CR S' w (res σ c) v) (hs : ∀ c ∈ l, c ∈ cells) (hc : X.cs l vs) : (Cx0 S' w).cs (l.map (res σ)) vs := by
  refine cs_of (by rw [List.length_map]; exact cs_len hc) (fun j c v h1 h2 => ?_)
  rw [List.getElem?_map] at h1
  cases hq : l[j]? with
  | none => rw [hq] at h1; cases h1
  | some c' =>
    rw [hq] at h1
    cases h1
    obtain ⟨v', hv', hcd⟩ := cs_get hc hq
    rw [h2] at hv'
    cases hv'
    exact (hr c' (hs _ (List.mem_of_getElem? hq)) v hcd).cd
theorem it_res {S' : Nat → Prop} {w : World} {cells : List Cd} {b : Bool} {l : List Cd} (hr : ∀ c ∈ cells, ∀ v, X.cd c v → CR S' w (res σ c) v) (hs : ∀ c ∈ l, c ∈ cells) (hc : X.it b l v) : (Cx0 S' w).it b (l.map (res σ)) v := by
  cases b with
  | true => obtain ⟨vs, e, hc⟩ := hc; exact ⟨vs, e, cs_res hr hs hc⟩
  | false => exact cs_res hr hs hc
theorem tp_res {S' : Nat → Prop} {w : World} {cells : List Cd} (hr : ∀ c ∈ cells, ∀ v, X.cd c v → CR S' w (res σ c) v) : ∀ {as_ : List (Bool × List Cd)} {vs : List Value}, (∀ c ∈ fla as_, c ∈ cells) → X.tp as_ vs → (Cx0 S' w).tp (rsl σ as_) vs
  | [], [], _, _ => trivial
  | [], _ :: _, _, h => h.elim
  | _ :: _, [], _, h => h.elim
  | p :: r, v :: vs, hs, h => ⟨it_res hr (fun c hc => hs c (by simp [fla, hc])) h.1, tp_res hr (fun c hc => hs c (by simp [fla, hc])) h.2⟩
theorem argsV_ok (h : ST n w0 S0 X σ a) : ∀ {xs : List Operand} {as_ : List (Bool × List Cd)}, argsV (xs.map (ev σ)) = some as_ → X.tp as_ (xs.map a.eval)
  | [], as_, hv => by cases hv; trivial
  | x :: r, as_, hv => by
    simp only [List.map_cons] at hv
    have hx := ev_ok h x
    cases he : ev σ x with
    | it b l =>
      rw [he] at hv hx
      simp only [argsV] at hv
      split at hv
      · rename_i s hs
        cases hv
        exact ⟨hx, argsV_ok h hs⟩
      · cases hv
    | _ => rw [he] at hv; simp [argsV] at hv
theorem grabV_ok {S : Nat → Prop} {w : World} : ∀ {ps : List (Bool × List Cs)} {as_ : List (Bool × List Cd)} {vs : List Value} {x : XV ps}, grabV ps as_ = some x → (∀ p ∈ as_, ∀ d, Cd.rf d ∉ p.2) → (Cx0 S w).tp as_ vs → (Cx0 S w).tp (putV ps x) vs
  | [], [], [], _, _, _, _ => trivial
  | [], [], _ :: _, _, _, _, h => h.elim
  | [], _ :: _, _, _, hg, _, _ => by simp [grabV] at hg
  | _ :: _, [], _, _, hg, _, _ => by simp [grabV] at hg
  | _ :: _, _ :: _, [], _, _, _, h => h.elim
  | p :: ps, q :: as_, v :: vs, x, hg, hn, h => by
    unfold grabV at hg
    split at hg
    · rename_i hpq
      split at hg
      · rename_i x1 h1
        split at hg
        · rename_i y h2
          cases hg
          refine ⟨?_, grabV_ok h2 (fun p hp => hn p (by simp [hp])) h.2⟩
          have h3 := h.1
          have hn' : ∀ d, Cd.rf d ∉ q.2 := hn q (by simp)
          obtain ⟨p1, p2⟩ := p
          obtain ⟨q1, q2⟩ := q
          simp only at hpq
          subst hpq
          cases p1 with
          | true => obtain ⟨us, e, hc⟩ := h3; exact ⟨us, e, CR.grabs ⟨rfl, rfl⟩ ⟨rfl, rfl⟩ h1 hn' hc⟩
          | false => exact CR.grabs (X := Cx0 S w) (Y := Cx0 S w) ⟨rfl, rfl⟩ ⟨rfl, rfl⟩ h1 hn' h3
        · cases hg
      · cases hg
    · cases hg
theorem rsl_no (σ : St) : ∀ (as_ : List (Bool × List Cd)), ∀ p ∈ rsl σ as_, ∀ d, Cd.rf d ∉ p.2
  | [], p, hp => by cases hp
  | q :: r, p, hp => by
    rcases List.mem_cons.1 hp with rfl | hp
    · exact res_no σ q.2
    · exact rsl_no σ r p hp
theorem cs0 {S : Nat → Prop} {w : World} (hX : X.S = S) (hw : X.w = w) {l : List Cd} {vs : List Value} (hn : ∀ d, Cd.rf d ∉ l) : X.cs l vs ↔ (Cx0 S w).cs l vs := by
  subst hX; subst hw
  have key : ∀ {Y Z : Cx}, Y.S = Z.S → Y.w = Z.w → ∀ {l : List Cd} {vs : List Value}, (∀ d, Cd.rf d ∉ l) → Y.cs l vs → Z.cs l vs := by
    intro Y Z hS hw l
    induction l with
    | nil => intro vs _ h; cases vs <;> exact h
    | cons c r ih =>
      intro vs hn h
      cases vs with
      | nil => exact h.elim
      | cons v vs =>
        refine ⟨?_, ih (fun d hd => hn d (by simp [hd])) h.2⟩
        have hc : ∀ d, c ≠ .rf d := fun d e => hn d (by simp [e])
        rw [cd_cr hc, ← hS, ← hw, ← cd_cr hc]
        exact h.1
  exact ⟨key (Y := X) (Z := Cx0 X.S X.w) rfl rfl hn, key (Y := Cx0 X.S X.w) (Z := X) rfl rfl hn⟩
theorem mk_cs {S : Nat → Prop} {w : World} {k : Kn} {l : List Cd} {e : El k} {vs : List Value} (hm : mk k l = some e) (hn : ∀ d, Cd.rf d ∉ l) (h : (Cx0 S w).cs l vs) : (Cx0 S w).cs (un k e) vs := by
  unfold mk at hm
  split at hm
  · rename_i y hy
    cases hm
    unfold un
    rw [to_fr]
    exact CR.grabs ⟨rfl, rfl⟩ ⟨rfl, rfl⟩ hy hn h
  · cases hm
theorem un_no {S : Nat → Prop} {w : World} {l : List Cd} {vs : List Value} (h : (Cx0 S w).cs l vs) (d : Nat) : Cd.rf d ∉ l := fun hd => by
  obtain ⟨j, hj, e⟩ := List.mem_iff_getElem.1 hd
  obtain ⟨v, _, hc⟩ := cs_get h (List.getElem?_eq_some_iff.2 ⟨hj, e⟩)
  exact hc.1
/-! ### rows made of parts -/
theorem flat_get {s : Nat} : ∀ {uss : List (List Value)} {i j : Nat} {u : List Value} {v : Value}, (∀ u ∈ uss, u.length = s) → uss[i]? = some u → u[j]? = some v → uss.flatten[i * s + j]? = some v
  | [], i, j, u, v, _, hi, _ => by simp at hi
  | q :: r, 0, j, u, v, hs, hi, hj => by
    simp only [List.getElem?_cons_zero, Option.some.injEq] at hi
    subst hi
    rw [Nat.zero_mul, Nat.zero_add, List.flatten_cons, List.getElem?_append_left (List.getElem?_eq_some_iff.1 hj).1]
    exact hj
  | q :: r, i + 1, j, u, v, hs, hi, hj => by
    rw [List.getElem?_cons_succ] at hi
    have hq : q.length = s := hs q (by simp)
    have := flat_get (s := s) (fun u hu => hs u (by simp [hu])) hi hj
    rw [List.flatten_cons, List.getElem?_append_right (by rw [Nat.succ_mul, hq]; omega), hq, show (i + 1) * s + j - s = i * s + j by rw [Nat.succ_mul]; omega]
    exact this
theorem flat_len {s : Nat} : ∀ {uss : List (List Value)}, (∀ u ∈ uss, u.length = s) → uss.flatten.length = uss.length * s
  | [], _ => by simp
  | q :: r, hs => by
    rw [List.flatten_cons, List.length_append, flat_len (fun u hu => hs u (by simp [hu])), hs q (by simp), List.length_cons, Nat.succ_mul]
    omega
theorem fill_all (s : Nat) : ∀ (ps : List (Nat × Value)) (uss : List (List Value)) (k : Nat) (cells : Array Value), ps.length = uss.length → (∀ (i : Nat) p u, ps[i]? = some p → uss[i]? = some u → p.1 = k + i ∧ p.2.cells = u.toArray ∧ u.length = s) → (k + ps.length) * s ≤ cells.size →
    ∃ out, Instr.fill (fun i => some (i * s, s)) cells ps = some out ∧ out.toList = cells.toList.take (k * s) ++ uss.flatten ++ cells.toList.drop ((k + ps.length) * s)
  | [], uss, k, cells, hl, _, _ => by
    obtain rfl : uss = [] := List.eq_nil_of_length_eq_zero hl.symm
    exact ⟨cells, rfl, by simp⟩
  | p :: ps, [], k, cells, hl, _, _ => by simp at hl
  | p :: ps, u :: uss, k, cells, hl, hp, hz => by
    obtain ⟨h1, h2, h3⟩ := hp 0 p u rfl rfl
    obtain ⟨j, v⟩ := p
    simp only [Nat.add_zero] at h1 h2
    subst h1
    simp only [List.length_cons] at hz
    have hle : j * s + s ≤ cells.size := by
      have : (j + 1) * s ≤ (j + (ps.length + 1)) * s := Nat.mul_le_mul_right _ (by omega)
      rw [Nat.succ_mul] at this
      omega
    have hf := fold_set (j * s) u 0 cells (by simp [h3]; omega)
    simp only [Nat.add_zero] at hf
    obtain ⟨c2, hc2⟩ : ∃ c2 : Array Value, (u.zipIdx.foldl (fun (cs : Array Value) (p : Value × Nat) => cs.setIfInBounds (j * s + p.2) p.1) cells) = c2 := ⟨_, rfl⟩
    have hsz : c2.size = cells.size := by
      have := congrArg List.length hf
      rw [hc2] at this
      simp only [Array.length_toList, List.length_append, List.length_take, List.length_drop] at this
      omega
    obtain ⟨out, ho1, ho2⟩ := fill_all s ps uss (j + 1) c2 (by simpa using hl) (fun i p u h4 h5 => by
      obtain ⟨h6, h7, h8⟩ := hp (i + 1) p u (by simpa using h4) (by simpa using h5)
      exact ⟨by omega, h7, h8⟩) (by rw [hsz, show j + 1 + ps.length = j + (ps.length + 1) by omega]; exact hz)
    refine ⟨out, ?_, ?_⟩
    · simp only [Instr.fill, h2]
      have hc1 : ¬ ((u.toArray.size ≠ s || decide (j * s + u.toArray.size > cells.size)) = true) := by
        simp [h3]; omega
      rw [if_neg hc1]
      have he : Array.foldl (fun (cs : Array Value) (x : Value × Nat) => match x with | (c, i) => cs.setIfInBounds (j * s + i) c) cells u.toArray.zipIdx = c2 := by
        rw [← Array.foldl_toList]
        simp only [Array.toList_zipIdx]
        exact hc2
      rw [he]
      exact ho1
    · rw [ho2, ← hc2, hf]
      have hlen : (cells.toList.take (j * s)).length = j * s := by rw [List.length_take, Array.length_toList]; omega
      have e1 : (cells.toList.take (j * s) ++ u ++ cells.toList.drop (j * s + u.length)).take ((j + 1) * s) = cells.toList.take (j * s) ++ u := by
        rw [List.take_left' (by rw [List.length_append, hlen, h3, Nat.succ_mul])]
      have e2 : (cells.toList.take (j * s) ++ u ++ cells.toList.drop (j * s + u.length)).drop ((j + 1 + ps.length) * s) = cells.toList.drop ((j + (ps.length + 1)) * s) := by
        have e3 : (j + 1 + ps.length) * s = j * s + s + ps.length * s := by rw [Nat.add_mul, Nat.succ_mul]
        rw [List.drop_append, List.drop_eq_nil_of_le (by rw [List.length_append, hlen, h3, e3]; omega), List.nil_append, List.drop_drop, List.length_append, hlen, h3]
        congr 1
        rw [show j + (ps.length + 1) = j + 1 + ps.length by omega, e3]
        omega
      rw [e1, e2]
      simp
end
end Go.Proofs.YtbjgmnliholmpaaDoor.V
