/- A pure reading of code: fixed points of printed steps; a function's surroundings. -/
import Derived.Test.YtbjgmnliholmpaaDoorE18
namespace Go.Proofs.YtbjgmnliholmpaaDoor.V
set_option linter.unusedSimpArgs false
set_option linter.unusedVariables false
open Go Go.RowKit
set_option linter.unusedSectionVars false
variable [Yc]
/-- What is told hangs on finitely many of the answers that it asks for. -/
def FinAt {Y α β : Type} (F : (Y → Option α) → Option β) : Prop := ∀ f r, F f = some r → ∃ ys : List Y, (∀ y ∈ ys, ∃ v, f y = some v) ∧ ∀ g : Y → Option α, (∀ y ∈ ys, g y = f y) → F g = some r
section
variable {Y Z α β γ : Type}
theorem fin_const (x : Option β) : FinAt (fun _ : Y → Option α => x) := fun _ _ h => ⟨[], fun _ hy => (by cases hy), fun _ _ => h⟩
theorem fin_rec (y : Y) : FinAt (fun f : Y → Option α => f y) := fun f r h => ⟨[y], fun y' hy => by rcases List.mem_singleton.1 hy with rfl; exact ⟨r, h⟩, fun g hg => by show g y = some r; rw [hg y (by simp)]; exact h⟩
theorem fin_cond {c : Bool} {A B : (Y → Option α) → Option β} (ha : FinAt A) (hb : FinAt B) : FinAt (fun f => cond c (A f) (B f)) := by
  cases c
  · exact hb
  · exact ha
theorem fin_bind {A : (Y → Option α) → Option β} {B : β → (Y → Option α) → Option γ} (ha : FinAt A) (hb : ∀ v, FinAt (B v)) : FinAt (fun f => (A f).bind fun v => B v f) := fun f r h => by
  obtain ⟨v, h1, h2⟩ := Option.bind_eq_some_iff.1 h
  obtain ⟨ys, h3, h4⟩ := ha f v h1
  obtain ⟨zs, h5, h6⟩ := hb v f r h2
  refine ⟨ys ++ zs, fun y hy => (List.mem_append.1 hy).elim (h3 y) (h5 y), fun g hg => ?_⟩
  show (A g).bind _ = some r
  rw [h4 g (fun y hy => hg y (List.mem_append.2 (.inl hy)))]
  exact h6 g (fun y hy => hg y (List.mem_append.2 (.inr hy)))
def Fin1 (step : (Y → Option α) → Y → Option α) : Prop := ∀ x, FinAt fun f => step f x
variable {step : (Y → Option α) → Y → Option α}
theorem fin_succ (ht : Fin1 step) : ∀ (k : Nat) {x : Y} {r : α}, iter step k x = some r → iter step (k + 1) x = some r
  | 0, _, _, h => by cases h
  | k + 1, x, r, h => by
    obtain ⟨ys, h1, h2⟩ := ht x _ r h
    refine h2 _ (fun y hy => ?_)
    obtain ⟨v, hv⟩ := h1 y hy
    rw [hv]
    exact fin_succ ht k hv
theorem fin_le (ht : Fin1 step) {k k' : Nat} (hk : k ≤ k') {x : Y} {r : α} (h : iter step k x = some r) : iter step k' x = some r := by
  obtain ⟨d, rfl⟩ := Nat.exists_eq_add_of_le hk
  induction d with
  | zero => exact h
  | succ d ih => exact fin_succ ht _ (ih (by omega))
theorem fin_iff (ht : Fin1 step) {x : Y} {r : α} : fixp step x = some r ↔ ∃ k, iter step k x = some r := by
  refine ⟨fixp_some, fun ⟨k, h⟩ => ?_⟩
  have hx : ∃ k r, iter step k x = some r := ⟨k, r, h⟩
  unfold fixp
  rw [dif_pos hx]
  obtain ⟨r', h'⟩ := Classical.choose_spec hx
  have h1 := fin_le ht (Nat.le_add_right k (Classical.choose hx)) h
  have h2 := fin_le ht (Nat.le_add_left (Classical.choose hx) k) h'
  rw [h1] at h2
  rw [h']
  exact h2.symm
theorem max_of {p : Y → Nat → Prop} (hm : ∀ y k k', k ≤ k' → p y k → p y k') : ∀ (ys : List Y), (∀ y ∈ ys, ∃ k, p y k) → ∃ K, ∀ y ∈ ys, p y K
  | [], _ => ⟨0, fun y hy => (by cases hy)⟩
  | y :: ys, h => by
    obtain ⟨k, hk⟩ := h y (by simp)
    obtain ⟨K, hK⟩ := max_of hm ys (fun z hz => h z (by simp [hz]))
    refine ⟨k + K, fun z hz => ?_⟩
    rcases List.mem_cons.1 hz with rfl | hz
    · exact hm _ _ _ (by omega) hk
    · exact hm _ _ _ (by omega) (hK z hz)
theorem fin_eq (ht : Fin1 step) (x : Y) : fixp step x = step (fixp step) x := by
  apply Option.ext
  intro r
  constructor
  · intro h
    obtain ⟨k, hk⟩ := fixp_some h
    cases k with
    | zero => cases hk
    | succ k =>
      obtain ⟨ys, h1, h2⟩ := ht x _ r hk
      refine h2 _ (fun y hy => ?_)
      obtain ⟨v, hv⟩ := h1 y hy
      rw [hv]
      exact (fin_iff ht).2 ⟨k, hv⟩
  · intro h
    obtain ⟨ys, h1, h2⟩ := ht x _ r h
    obtain ⟨K, hK⟩ := max_of (p := fun y k => iter step k y = fixp step y) (fun y k k' hk hp => by
      cases hf : iter step k y with
      | some v => rw [← hp, hf]; exact fin_le ht hk hf
      | none =>
        rw [← hp, hf]
        cases hq : iter step k' y with
        | none => rfl
        | some v =>
          have := (fin_iff ht).2 ⟨k', hq⟩
          rw [← hp, hf] at this
          cases this) ys (fun y hy => by
      obtain ⟨v, hv⟩ := h1 y hy
      obtain ⟨k, hk⟩ := fixp_some hv
      exact ⟨k, by rw [hk, hv]⟩)
    exact (fin_iff ht).2 ⟨K + 1, h2 _ (fun y hy => hK y hy)⟩
def sel (g : Y → Option α) (f : Z → Option α) : Y ⊕ Z → Option α
  | .inl y => g y
  | .inr z => f z
theorem fin_in {S : (Y → Option α) → (Z → Option α) → Z → Option α} (h : ∀ z, FinAt fun k : Y ⊕ Z → Option α => S (fun y => k (.inl y)) (fun w => k (.inr w)) z) (g : Y → Option α) : Fin1 (S g) := fun z f r hr => by
  obtain ⟨ws, h1, h2⟩ := h z (sel g f) r hr
  refine ⟨ws.filterMap fun w => match w with | .inr z => some z | .inl _ => none, fun y hy => ?_, fun f' hf' => ?_⟩
  · obtain ⟨w, hw, e⟩ := List.mem_filterMap.1 hy
    cases w with
    | inl _ => cases e
    | inr z' => cases e; exact h1 _ hw
  · refine h2 (sel g f') (fun w hw => ?_)
    cases w with
    | inl y => rfl
    | inr z' => exact hf' z' (List.mem_filterMap.2 ⟨_, hw, rfl⟩)
theorem fin_fix {S : (Y → Option α) → (Z → Option α) → Z → Option α} (h : ∀ z, FinAt fun k : Y ⊕ Z → Option α => S (fun y => k (.inl y)) (fun w => k (.inr w)) z) (z : Z) : FinAt (fun g => fixp (S g) z) := fun g r hr => by
  obtain ⟨k, hk⟩ := fixp_some hr
  have key : ∀ (k : Nat) (z : Z) (r : α), iter (S g) k z = some r → ∃ ys : List Y, (∀ y ∈ ys, ∃ v, g y = some v) ∧ ∀ g' : Y → Option α, (∀ y ∈ ys, g' y = g y) → ∃ k', iter (S g') k' z = some r := by
    intro k
    induction k with
    | zero => intro z r h; cases h
    | succ k ih =>
      intro z r hk
      obtain ⟨ws, h1, h2⟩ := h z (sel g (iter (S g) k)) r hk
      have hin : ∀ ws : List (Y ⊕ Z), (∀ w ∈ ws, ∃ v, sel g (iter (S g) k) w = some v) → ∃ ys : List Y, (∀ y ∈ ys, ∃ v, g y = some v) ∧ ∀ g' : Y → Option α, (∀ y ∈ ys, g' y = g y) → ∀ w ∈ ws, match w with
          | .inl y => g' y = g y
          | .inr z' => ∃ k', iter (S g') k' z' = iter (S g) k z' ∧ ∃ v, iter (S g) k z' = some v := by
        intro ws
        induction ws with
        | nil => intro _; exact ⟨[], fun y hy => (by cases hy), fun g' _ w hw => (by cases hw)⟩
        | cons w ws ihw =>
          intro h1
          obtain ⟨ys, h3, h4⟩ := ihw (fun w' hw' => h1 w' (by simp [hw']))
          obtain ⟨v, hv⟩ := h1 w (by simp)
          cases w with
          | inl y =>
            refine ⟨y :: ys, fun y' hy' => ?_, fun g' hg' w hw => ?_⟩
            · rcases List.mem_cons.1 hy' with rfl | hy'
              · exact ⟨v, hv⟩
              · exact h3 y' hy'
            · rcases List.mem_cons.1 hw with rfl | hw
              · exact hg' y (by simp)
              · exact h4 g' (fun y hy => hg' y (by simp [hy])) w hw
          | inr z' =>
            have hv' : iter (S g) k z' = some v := hv
            obtain ⟨zs, h5, h6⟩ := ih z' v hv'
            refine ⟨zs ++ ys, fun y hy => (List.mem_append.1 hy).elim (h5 y) (h3 y), fun g' hg' w hw => ?_⟩
            rcases List.mem_cons.1 hw with rfl | hw
            · obtain ⟨k', hk'⟩ := h6 g' (fun y hy => hg' y (by simp [hy]))
              exact ⟨k', by rw [hk', hv'], v, hv'⟩
            · exact h4 g' (fun y hy => hg' y (by simp [hy])) w hw
      obtain ⟨ys, h3, h4⟩ := hin ws h1
      refine ⟨ys, h3, fun g' hg' => ?_⟩
      have h5 := h4 g' hg'
      obtain ⟨K, hK⟩ := max_of (p := fun (w : Y ⊕ Z) K => match w with
          | .inl _ => True
          | .inr z' => ∃ v, iter (S g) k z' = some v ∧ iter (S g') K z' = some v) (fun w a b hab hp => by
        cases w with
        | inl _ => trivial
        | inr z' => obtain ⟨v, q1, q2⟩ := hp; exact ⟨v, q1, fin_le (fin_in h g') hab q2⟩) ws (fun w hw => by
        have := h5 w hw
        cases w with
        | inl _ => exact ⟨0, trivial⟩
        | inr z' => obtain ⟨k', q1, v, q2⟩ := this; exact ⟨k', v, q2, by rw [q1, q2]⟩)
      refine ⟨K + 1, h2 (sel g' (iter (S g') K)) (fun w hw => ?_)⟩
      have h6 := h5 w hw
      have h7 := hK w hw
      cases w with
      | inl y => exact h6
      | inr z' => obtain ⟨v, q1, q2⟩ := h7; show iter (S g') K z' = iter (S g) k z'; rw [q1, q2]
  obtain ⟨ys, h1, h2⟩ := key k z r hk
  exact ⟨ys, h1, fun g' hg' => (fin_iff (fin_in h g')).2 (h2 g' hg')⟩
end
/-! ### a function's surroundings -/
def mkC : List (Nat × Hd) → Nat → Option Hd
  | [], _ => none
  | p :: r, g => match Nat.beq p.1 g with
    | true => some p.2
    | false => mkC r g
def mkA : List (Nat × List (Nat × An)) → Nat → Option (List (Nat × An))
  | [], _ => none
  | p :: r, g => match Nat.beq p.1 g with
    | true => some p.2
    | false => mkA r g
def OkL (P : Program) (G : World → Prop) : List (Nat × Hd) → Prop
  | [] => True
  | p :: r => HdOk P G p.1 p.2 ∧ OkL P G r
def bodyOf (f : Func) : Code := match f.body with
  | some c => c
  | none => .skip
structure Seat where
  P : Program
  G : World → Prop
  gb : ∀ {w w' : World}, G w → Below w.heap.size w w' → G w'
  mx : P.follows .mixedOrders = true
def Seat.env (s : Seat) (C : List (Nat × Hd)) (L : List (Nat × List (Nat × An))) : Env := ⟨s.P, s.G, mkC C, mkA L⟩
theorem Seat.ok (s : Seat) {C : List (Nat × Hd)} {L : List (Nat × List (Nat × An))} (h : OkL s.P s.G C) : EnvOk (s.env C L) := by
  refine ⟨s.gb, fun g hd hg => ?_, s.mx⟩
  have key : ∀ C : List (Nat × Hd), OkL s.P s.G C → mkC C g = some hd → HdOk s.P s.G g hd := by
    intro C
    induction C with
    | nil => intro _ h; cases h
    | cons p r ih =>
      intro h1 h2
      unfold mkC at h2
      split at h2
      · rename_i e
        cases h2
        rw [← Nat.eq_of_beq_eq_true e]
        exact h1.1
      · exact ih h1.2 h2
  exact key C h hg
/-- What a function's reading comes to. -/
noncomputable def rd_ (E : Env) (f : Func) (ps rs : List (Bool × List Cs)) {T : Type} (c : XV rs → T) (x : XV ps) : Option T := cev E f.ntmps (bodyOf f) (initL 0 ps x) [] (finK E.P f rs c)
theorem Seat.fn (s : Seat) {g : Nat} {fn : Func} {C : List (Nat × Hd)} {L : List (Nat × List (Nat × An))} {ps rs : List (Bool × List Cs)} {T : Type} {f : XV ps → Option T} {e : T → XV rs} {c : XV rs → T} (hC : OkL s.P s.G C) (hf : s.P.funcs[g]? = some fn)
    (hname : (fn.name == "runtime.NumGoroutine") = false) (hb : fn.body.isSome = true) (hc : ∀ y, e (c y) = y) (hn : ps.length ≤ fn.ntmps) (hl : ∀ x, rd_ (s.env C L) fn ps rs c x = f x) : HdOk s.P s.G g ⟨ps, T, rs, f, e⟩ := by
  obtain ⟨code, hcode⟩ := Option.isSome_iff_exists.1 hb
  have hbo : bodyOf fn = code := by simp [bodyOf, hcode]
  exact fn_ok (E := s.env C L) (s.ok hC) hf hname hcode hc hn (fun x => by rw [← hl x, rd_, hbo])
theorem Seat.fnrec (s : Seat) {g : Nat} {fn : Func} {ps rs : List (Bool × List Cs)} {T : Type} {C : (XV ps → Option T) → List (Nat × Hd)} {L : List (Nat × List (Nat × An))} {e : T → XV rs} {c : XV rs → T} {step : (XV ps → Option T) → XV ps → Option T} (hC : ∀ f, HdOk s.P s.G g ⟨ps, T, rs, f, e⟩ → OkL s.P s.G (C f)) (hf : s.P.funcs[g]? = some fn)
    (hname : (fn.name == "runtime.NumGoroutine") = false) (hb : fn.body.isSome = true) (hc : ∀ y, e (c y) = y) (hn : ps.length ≤ fn.ntmps) (hl : ∀ f x, rd_ (s.env (C f) L) fn ps rs c x = step f x) : HdOk s.P s.G g ⟨ps, T, rs, fixp step, e⟩ := by
  obtain ⟨code, hcode⟩ := Option.isSome_iff_exists.1 hb
  have hbo : bodyOf fn = code := by simp [bodyOf, hcode]
  exact fn_rec (F := fun f => s.env (C f) L) (fun f => ⟨rfl, rfl⟩) (fun f h => s.ok (hC f h)) hf hname hcode hc hn (fun f x => by have := hl f x; rw [rd_, hbo] at this; exact this)
end Go.Proofs.YtbjgmnliholmpaaDoor.V
