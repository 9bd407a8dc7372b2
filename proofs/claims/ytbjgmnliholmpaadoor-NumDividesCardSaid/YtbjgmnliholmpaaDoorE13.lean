/- A pure reading of code: what an operation tells hangs on what it reads alone. -/
import Derived.Test.YtbjgmnliholmpaaDoorE12
namespace Go.Proofs.YtbjgmnliholmpaaDoor.V
set_option linter.unusedSimpArgs false
set_option linter.unusedVariables false
open Go Go.RowKit
set_option linter.unusedSectionVars false
variable [Yc]
def idsC : List Cd → List Nat
  | [] => []
  | .rf d :: r => (2 * d + 1) :: idsC r
  | _ :: r => idsC r
def idsV : Vl → List Nat
  | .it _ l => idsC l
  | .tup l => idsC (fla l)
  | .pt d _ => [2 * d + 1]
  | .ep d _ _ _ => [2 * d + 1]
  | _ => []
def rdX (σ : St) : Operand → List Nat
  | .tmp t => 2 * t :: idsV (σ (2 * t))
  | _ => []
def rdL (σ : St) : List Operand → List Nat
  | [] => []
  | x :: r => rdX σ x ++ rdL σ r
def rdG (ops : Array Oper) (o : Oper) : List Nat := match o.guard with
  | some (j, _) => match gslot ops j with
    | some t => [2 * t]
    | none => []
  | none => []
def rdO (ops : Array Oper) (σ : St) (o : Oper) : List Nat := rdG ops o ++ rdL σ o.op.operands.toList
section
variable {E : Env} {n : Nat} {σ σ' : St} {x y z : Vl} {d : Nat} {o : Oper} {ws : Ws} {ops : Array Oper} {l : List Cd}
theorem mem_idsC {l : List Cd} (h : Cd.rf d ∈ l) : 2 * d + 1 ∈ idsC l := by
  induction l with
  | nil => cases h
  | cons c r ih =>
    rcases List.mem_cons.1 h with e | h2
    · subst e; simp [idsC]
    · cases c <;> simp only [idsC] <;> first | exact ih h2 | exact List.mem_cons_of_mem _ (ih h2)
theorem rdL_mem {q : Operand} : ∀ {xs : List Operand}, q ∈ xs → ∀ p ∈ rdX σ q, p ∈ rdL σ xs
  | [], h, _, _ => by cases h
  | x :: r, h, p, hp => by
    simp only [rdL, List.mem_append]
    rcases List.mem_cons.1 h with rfl | h
    · exact .inl hp
    · exact .inr (rdL_mem h p hp)
theorem ev_cg {q : Operand} (h : ∀ p ∈ rdX σ q, σ p = σ' p) : ev σ q = ev σ' q := by
  cases q with
  | tmp t => exact h _ (by simp [rdX])
  | _ => rfl
theorem cst_ids (v : Value) : idsV (cst v) = [] := by
  have h1 : ∀ {v : Value} {c : Cd}, cstc v = some c → idsC [c] = [] := by
    intro v c h
    unfold cstc at h
    split at h <;> first | (cases h; rfl) | cases h | skip
    split at h <;> first | (cases h; rfl) | cases h
  have h2 : ∀ (vs : List Value) (l : List Cd), cstl vs = some l → idsC l = [] := by
    intro vs
    induction vs with
    | nil => intro l h; cases h; rfl
    | cons v r ih =>
      intro l h
      unfold cstl at h
      split at h
      · rename_i c hc
        split at h
        · rename_i l' hl
          cases h
          have := h1 hc
          have h3 := ih _ hl
          cases c <;> first | exact h3 | (simp [idsC] at this)
        · cases h
      · cases h
  unfold cst
  split
  · split
    · rename_i l hl; exact h2 _ _ hl
    · rfl
  · split
    · rename_i c hc; exact h1 hc
    · rfl
theorem bk_cg {q : Operand} (h : ∀ p ∈ rdX σ q, σ p = σ' p) : ∀ p ∈ idsV (ev σ q), σ p = σ' p := by
  cases q with
  | tmp t => exact fun p hp => h p (by simp only [rdX, List.mem_cons]; exact .inr hp)
  | const v => intro p hp; simp only [ev, cst_ids] at hp; cases hp
  | func g => intro p hp; simp [ev, idsV, idsC] at hp
  | global g => intro p hp; simp [ev, idsV] at hp
theorem res_cg {c : Cd} (h : ∀ d, c = .rf d → σ (2 * d + 1) = σ' (2 * d + 1)) : res σ c = res σ' c := by
  cases c <;> first | rfl | (simp only [res]; rw [h _ rfl])
theorem resL_cg {l : List Cd} (h : ∀ p ∈ idsC l, σ p = σ' p) : l.map (res σ) = l.map (res σ') := by
  refine List.map_congr_left (fun c hc => res_cg (fun d e => h _ (mem_idsC (e ▸ hc))))
theorem frz_cg : ∀ {l : List Cd}, (∀ p ∈ idsC l, σ p = σ' p) → frz σ l = frz σ' l
  | [], _ => rfl
  | c :: r, h => by
    cases c with
    | rf d =>
      have h1 := h (2 * d + 1) (by simp [idsC])
      have h2 := frz_cg (l := r) (fun p hp => h p (by simp [idsC, hp]))
      simp only [frz]
      rw [h1, h2]
    | _ => exact frz_cg (l := r) (fun p hp => h p (by simpa [idsC] using hp))
theorem idsC_app {l l' : List Cd} : idsC (l ++ l') = idsC l ++ idsC l' := by
  induction l with
  | nil => rfl
  | cons c r ih => cases c <;> simp [idsC, ih]
theorem rsl_cg : ∀ {as_ : List (Bool × List Cd)}, (∀ p ∈ idsC (fla as_), σ p = σ' p) → rsl σ as_ = rsl σ' as_
  | [], _ => rfl
  | q :: r, h => by
    simp only [fla, idsC_app, List.mem_append] at h
    simp only [rsl]
    rw [resL_cg (fun p hp => h p (.inl hp)), rsl_cg (fun p hp => h p (.inr hp))]
theorem argsV_ids : ∀ {xs : List Operand} {as_ : List (Bool × List Cd)}, argsV (xs.map (ev σ)) = some as_ → ∀ p ∈ idsC (fla as_), ∃ x ∈ xs, p ∈ idsV (ev σ x)
  | [], as_, h, p, hp => by cases h; simp [fla, idsC] at hp
  | x :: r, as_, h, p, hp => by
    simp only [List.map_cons] at h
    cases he : ev σ x with
    | it b l =>
      rw [he] at h
      simp only [argsV] at h
      split at h
      · rename_i s hs
        cases h
        simp only [fla, idsC_app, List.mem_append] at hp
        rcases hp with hp | hp
        · exact ⟨x, by simp, by rw [he]; exact hp⟩
        · obtain ⟨y, hy, hq⟩ := argsV_ids hs p hp
          exact ⟨y, by simp [hy], hq⟩
      · cases h
    | _ => rw [he] at h; simp [argsV] at h
theorem evs_cg {xs : List Operand} (h : ∀ p ∈ rdL σ xs, σ p = σ' p) : xs.map (ev σ) = xs.map (ev σ') :=
  List.map_congr_left (fun x hx => ev_cg (fun p hp => h p (rdL_mem hx p hp)))
theorem callV_cg {g : Nat} {xs : List Operand} (h : ∀ p ∈ rdL σ xs, σ p = σ' p) : callV E σ d g xs = callV E σ' d g xs := by
  unfold callV
  rw [← evs_cg h]
  cases E.C g with
  | none => rfl
  | some hd =>
    cases ha : argsV (xs.map (ev σ)) with
    | none => rfl
    | some as_ =>
      have hi : ∀ p ∈ idsC (fla as_), σ p = σ' p := fun p hp => by
        obtain ⟨x, hx, hp⟩ := argsV_ids ha p hp
        exact bk_cg (fun p hp => h p (rdL_mem hx p hp)) p hp
      simp only
      rw [rsl_cg hi, frz_cg hi]
theorem ldV_cg {P : Program} {t : TypeId} (h : ∀ p ∈ idsV y, σ p = σ' p) : ldV P σ t y = ldV P σ' t y := by
  cases y <;> first | rfl | (simp only [ldV]; rw [h _ (by simp [idsV])])
theorem iaV_cg {P : Program} {t : TypeId} (h : ∀ p ∈ idsV y, σ p = σ' p) : iaV P σ t y z = iaV P σ' t y z := by
  unfold iaV
  split
  · split <;> first | rfl | (rw [h _ (by simp [idsV, idsC])])
  · rfl
theorem lnC_cg {c : Cd} (h : ∀ p ∈ idsC [c], σ p = σ' p) : lnC σ c = lnC σ' c := by
  cases c <;> first | rfl | (simp only [lnC]; rw [h _ (by simp [idsC])])
theorem rowOf_cg {k : Kn} (h : ∀ p ∈ idsV y, σ p = σ' p) : rowOf σ k y = rowOf σ' k y := by
  unfold rowOf
  split
  · rename_i c
    rw [res_cg (c := c) (fun d e => h _ (by subst e; simp [idsV, idsC]))]
  · rfl
theorem stV_cg {P : Program} {t : TypeId} (h : ∀ p ∈ idsV y, σ p = σ' p) (h' : ∀ p ∈ idsV z, σ p = σ' p) : stV P σ t y z = stV P σ' t y z := by
  unfold stV
  split
  · rw [h _ (by simp [idsV])]
  · rename_i d k i off a l'
    rw [h (2 * d + 1) (by simp [idsV]), resL_cg (l := l') (fun p hp => h' p hp), frz_cg (l := l') (fun p hp => h' p hp)]
  · rfl
theorem osV_cg {P : Program} {b : Nat} {t : TypeId} (h : σ (2 * b + 1) = σ' (2 * b + 1)) : osV P σ d b t y = osV P σ' d b t y := by
  unfold osV
  rw [h]
theorem apV_cg {P : Program} {ts : Array TypeId} (h : ∀ p ∈ idsV y, σ p = σ' p) (h' : ∀ p ∈ idsV z, σ p = σ' p) : apV P σ d ts y z = apV P σ' d ts y z := by
  unfold apV
  have hr : ∀ k, rowOf σ k z = rowOf σ' k z := fun k => rowOf_cg h'
  simp only [hr]
  cases y with
  | it b l =>
    cases b with
    | true => rfl
    | false =>
      match l with
      | [.rf b] => simp only; rw [h (2 * b + 1) (by simp [idsV, idsC])]
      | [] => rfl
      | [.b _] => rfl
      | [.i _ _] => rfl
      | [.s _] => rfl
      | [.nil] => rfl
      | [.sl _ _] => rfl
      | [.fn _] => rfl
      | [.jk] => rfl
      | c1 :: _ :: _ => cases c1 <;> rfl
  | _ => rfl
theorem valv_cg {P : Program} {op : Op} (h : ∀ p ∈ rdL σ op.operands.toList, σ p = σ' p) : valv P σ op = valv P σ' op := by
  have he : ∀ x ∈ op.operands.toList, ev σ x = ev σ' x := fun x hx => ev_cg (fun p hp => h p (rdL_mem hx p hp))
  have hb : ∀ x ∈ op.operands.toList, ∀ p ∈ idsV (ev σ x), σ p = σ' p := fun x hx => bk_cg (fun p hp => h p (rdL_mem hx p hp))
  have hbu : ∀ ps : Array (Nat × Operand), op.operands = (ps.toList.map (·.2)).toArray → (ps.toList.map fun p => (p.1, ev σ p.2)) = ps.toList.map fun p => (p.1, ev σ' p.2) := fun ps e =>
    List.map_congr_left (fun p hp => by rw [he p.2 (by rw [e]; simp only [List.mem_map]; exact ⟨p, hp, rfl⟩)])
  have hop : ∀ (lo : Option Operand), (∀ x, lo = some x → x ∈ op.operands.toList) → lo.map (ev σ) = lo.map (ev σ') := fun lo hm => by
    cases lo with
    | none => rfl
    | some x => rw [Option.map_some, Option.map_some, he x (hm x rfl)]
  unfold valv
  split
  · rw [he _ (by simp [Op.operands])]
  · rw [he _ (by simp [Op.operands])]
  · rw [he _ (by simp [Op.operands])]
  · rw [he _ (by simp [Op.operands])]
  · rename_i bo t x y t2
    rw [he x (by simp [Op.operands]), he y (by simp [Op.operands])]
  · rw [he _ (by simp [Op.operands])]
  · rename_i t x
    rw [← he x (by simp [Op.operands]), ldV_cg (hb x (by simp [Op.operands]))]
  · rw [he _ (by simp [Op.operands])]
  · rw [he _ (by simp [Op.operands])]
  · rename_i t x i
    rw [← he x (by simp [Op.operands]), ← he i (by simp [Op.operands]), iaV_cg (hb x (by simp [Op.operands]))]
  · rename_i t x i
    rw [he x (by simp [Op.operands]), he i (by simp [Op.operands])]
  · rename_i t x lo hi
    rw [he x (by simp [Op.operands]), hop lo (fun y e => by subst e; simp [Op.operands]), hop hi (fun y e => by subst e; simp [Op.operands])]
  · rename_i t parts
    rw [hbu parts rfl]
  · rename_i xs ts
    split
    · rename_i x t hx ht
      have hm : x ∈ (Op.call ⟨.builtin .len, xs, ts⟩).operands.toList := by simp [Op.operands, Call.operands, hx]
      rw [← he x hm]
      split
      · rfl
      · rename_i c d e1 e2
        have : lnC σ c = lnC σ' c := lnC_cg (fun p hp => hb x hm p (by rw [e1]; exact hp))
        cases c <;> first | rfl | (simp only; rw [this])
      · rfl
    · rfl
  · rename_i xs ts
    rw [List.map_congr_left (fun x hx => he x (by simp [Op.operands, Call.operands, hx]))]
  · rename_i xs ts
    rw [List.map_congr_left (fun x hx => he x (by simp [Op.operands, Call.operands, hx]))]
  · rfl
theorem opv_cg (h : ∀ p ∈ rdL σ o.op.operands.toList, σ p = σ' p) : opv E n σ o = opv E n σ' o := by
  obtain ⟨dst, op, ty, pos, af, gu⟩ := o
  simp only at h
  have he : ∀ x ∈ op.operands.toList, ev σ x = ev σ' x := fun x hx => ev_cg (fun p hp => h p (rdL_mem hx p hp))
  have hb : ∀ x ∈ op.operands.toList, ∀ p ∈ idsV (ev σ x), σ p = σ' p := fun x hx => bk_cg (fun p hp => h p (rdL_mem hx p hp))
  have hv := valv_cg (P := E.P) (op := op) h
  unfold opv
  cases dst with
  | none =>
    simp only
    split
    · rename_i t p x
      rw [← he p (by simp [Op.operands]), ← he x (by simp [Op.operands])]
      exact stV_cg (hb p (by simp [Op.operands])) (hb x (by simp [Op.operands]))
    · rfl
  | some d =>
    simp only
    split
    · split
      · rename_i t x
        rw [he x (by simp [Op.operands])]
      · rfl
      · rename_i t len parts
        unfold bsV
        have e : ∀ (l : List (Nat × Operand)), (∀ p ∈ l, p ∈ parts.toList) → (l.map fun p => ev σ p.2) = l.map fun p => ev σ' p.2 := fun l hl =>
          List.map_congr_left (fun p hp => he p.2 (by simp only [Op.operands, List.mem_map]; exact ⟨p, hl p hp, rfl⟩))
        rw [← e parts.toList (fun p hp => hp)]
        split
        · split
          · split
            · cases ha : argsV (parts.toList.map fun p => ev σ p.2) with
              | none => rfl
              | some as_ =>
                have hi : ∀ p ∈ idsC (fla as_), σ p = σ' p := fun p hp => by
                  have ha' : argsV ((parts.toList.map (·.2)).map (ev σ)) = some as_ := by rw [List.map_map]; exact ha
                  obtain ⟨x, hx, hp⟩ := argsV_ids ha' p hp
                  exact hb x (by simpa [Op.operands] using hx) p hp
                simp only
                rw [rsl_cg hi, frz_cg hi]
            · rfl
          · rfl
        · rfl
      · rename_i t ln cp
        unfold msV
        rw [he ln (by simp [Op.operands]), he cp (by simp [Op.operands])]
      · rename_i xs ts
        split
        · rename_i s x hx
          have m1 : s ∈ (Op.call ⟨.builtin .append, xs, ts⟩).operands.toList := by simp [Op.operands, Call.operands, hx]
          have m2 : x ∈ (Op.call ⟨.builtin .append, xs, ts⟩).operands.toList := by simp [Op.operands, Call.operands, hx]
          rw [← he s m1, ← he x m2]
          exact apV_cg (hb s m1) (hb x m2)
        · rfl
      · rename_i f xs ts
        rw [← he f (by simp [Op.operands, Call.operands])]
        split
        · refine callV_cg (fun p hp => ?_)
          have : ∀ (l : List Operand), (∀ x ∈ l, x ∈ xs.toList) → ∀ p ∈ rdL σ l, σ p = σ' p := by
            intro l
            induction l with
            | nil => intro _ p hp; cases hp
            | cons x r ih =>
              intro hl p hp
              simp only [rdL, List.mem_append] at hp
              rcases hp with hp | hp
              · exact h p (rdL_mem (q := x) (by have := hl x (by simp); simp [Op.operands, Call.operands]; exact .inr (by simpa using this)) p hp)
              · exact ih (fun y hy => hl y (by simp [hy])) p hp
          exact this xs.toList (fun x hx => hx) p hp
        · rfl
      · rename_i t x lo hi
        rw [← he x (by simp [Op.operands])]
        split
        · rename_i b hex
          have hb1 : σ (2 * b + 1) = σ' (2 * b + 1) := hb x (by simp [Op.operands]) _ (by rw [hex]; simp [idsV, idsC])
          have hlo : lo.map (ev σ) = lo.map (ev σ') := by cases lo <;> first | rfl | (rw [Option.map_some, Option.map_some, he _ (by simp [Op.operands])])
          have hhi : hi.map (ev σ) = hi.map (ev σ') := by cases hi <;> first | rfl | (rw [Option.map_some, Option.map_some, he _ (by simp [Op.operands])])
          have hfr : frz σ [.rf b] = frz σ' [.rf b] := frz_cg (fun p hp => by
            simp only [idsC, List.mem_singleton] at hp
            subst hp
            exact hb1)
          have hos : ∀ y, hi = some y → osV E.P σ d b t (ev σ y) = osV E.P σ' d b t (ev σ' y) := fun y e => by
            subst e
            rw [← he y (by simp [Op.operands])]
            exact osV_cg hb1
          unfold fzV
          rw [← hb1, ← hlo, ← hhi, ← hfr]
          cases σ (2 * b + 1) with
          | arr k l fz =>
            cases fz with
            | true => rfl
            | false =>
              cases lo with
              | some _ => rfl
              | none =>
                cases hi with
                | none => rfl
                | some y => exact hos y rfl
          | _ => rfl
        · rw [hv]
      · rw [hv]
    · rfl
theorem stepK_cg (h : ∀ p ∈ rdL σ o.op.operands.toList, σ p = σ' p) : stepK E n o σ (fun _ ws => some ws) = stepK E n o σ' (fun _ ws => some ws) := by
  unfold stepK
  split
  · rename_i c x y hop
    rw [hop] at h
    have he : ∀ q ∈ [c, x, y], ev σ q = ev σ' q := fun q hq => ev_cg (fun p hp => h p (rdL_mem (by simpa [Op.operands] using hq) p hp))
    rw [← he c (by simp)]
    split
    · rename_i d b hd hb
      have k1 := know_eq hb
      rw [he c (by simp)] at hb
      have k2 := know_eq hb
      split
      · cases b
        · simp only [cond_false, k1, k2]; rw [he y (by simp)]
        · simp only [cond_true, k1, k2]; rw [he x (by simp)]
      · rfl
    · rfl
  · rw [opv_cg h]
/-- What an operation comes to hangs on what it reads. -/
theorem stp_cg (h : ∀ p ∈ rdO ops σ o, σ p = σ' p) : stp E n ops σ o = stp E n ops σ' o := by
  have h1 := stepK_cg (E := E) (n := n) (o := o) (fun p hp => h p (List.mem_append.2 (.inr hp)))
  have h2 : ∀ j w t, o.guard = some (j, w) → gslot ops j = some t → σ (2 * t) = σ' (2 * t) := fun j w t hg ht => h _ (List.mem_append.2 (.inl (by simp [rdG, hg, ht])))
  unfold stp gateK
  split
  · exact h1
  · rename_i j want hg
    split
    · rename_i t ht
      rw [← h2 j want t hg ht]
      split
      · split
        · rename_i b hb
          have k1 : know σ (.tmp t) b = σ := know_eq hb
          rw [h2 j want t hg ht] at hb
          have k2 : know σ' (.tmp t) b = σ' := know_eq hb
          cases b <;> simp only [k1, k2, cond_true, cond_false] <;> cases want <;> first | exact h1 | (simp only [skipK])
        · simp only [skipK]
        · rfl
      · rfl
    · rfl
end
end Go.Proofs.YtbjgmnliholmpaaDoor.V
