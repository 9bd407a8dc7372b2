/- A pure reading of code, its states: what the variables and the blocks of the walk's own hold; how a state goes on. -/
import Derived.Test.YtbjgmnliholmpaaDoorE0
namespace Go.Proofs.YtbjgmnliholmpaaDoor.V
open Go Go.RowKit
set_option linter.unusedSectionVars false
variable [Yc]
/-- What a variable (an even place) or an own block (an odd one) holds. -/
inductive Vl where
  | it (a : Bool) (l : List Cd)
  | tup (l : List (Bool × List Cd))
  | pt (d off : Nat)
  | ep (d : Nat) (t : Kn) (i off : Nat)
  | sp (l : List Cd)
  | jk
  | box (t : Nat) (l : List Cd)
  | arr (t : Kn) (l : List (El t)) (fz : Bool)
abbrev St := Nat → Vl
def upd (σ : St) (p : Nat) (x : Vl) : St := fun q => if q = p then x else σ q
theorem upd_same (σ : St) (p : Nat) (x : Vl) : upd σ p x p = x := by simp [upd]
theorem upd_ne {σ : St} {p q : Nat} {x : Vl} (h : q ≠ p) : upd σ p x q = σ q := by simp [upd, h]
/-- Is it a block? one that is written? -/
def lv : Vl → Bool
  | .box _ _ => true
  | .arr _ _ _ => true
  | _ => false
def wr : Vl → Bool
  | .box _ _ => true
  | .arr _ _ fz => !fz
  | _ => false
theorem wr_lv {x : Vl} (h : wr x = true) : lv x = true := by cases x <;> first | rfl | cases h
def Cx.vl (X : Cx) : Vl → Value → Prop
  | .it a l, v => X.it a l v
  | .tup l, v => ∃ vs : List Value, v = .tuple vs.toArray ∧ X.tp l vs
  | .pt d off, v => ∃ g, X.A d ∧ X.τ d = .pointer (some ⟨g, 0, none⟩) ∧ v = .pointer (some ⟨g, off, none⟩)
  | .ep d t i off, v => ∃ g n c, X.A d ∧ X.τ d = .slice (some ⟨g, 0, none⟩) n c ∧ v = .pointer (some ⟨g, i * sz t + off, none⟩) ∧ i < n
  | .sp l, v => ∃ (A : Addr) (vs : List Value), v = .pointer (some A) ∧ ¬ X.S A.block ∧ A.block < X.w.heap.size ∧ (∀ (j : Nat) (u : Value), vs[j]? = some u → X.w.cell? (A.add j) = some u) ∧ X.cs l vs
  | .jk, _ => True
  | _, _ => False
def Rp (S : Nat → Prop) (w : World) (t : Kn) (l : List (El t)) (xs : List Value) : Prop :=
  ∀ (i : Nat) (x : El t) (j : Nat) (cd : Cd), l[i]? = some x → (un t x)[j]? = some cd → ∃ v, xs[i * sz t + j]? = some v ∧ CR S w cd v
def Cx.bk (X : Cx) (base d : Nat) : Vl → Prop
  | .box t l => ∃ (g : Nat) (vs : List Value), X.A d ∧ X.τ d = .pointer (some ⟨g, 0, none⟩) ∧ base ≤ g ∧ X.w.heap[g]? = some (.cells vs.toArray t (0, 0)) ∧ X.cs l vs
  | .arr t l _ => ∃ xs : List Value, X.A d ∧ X.w.ownsRow base t.c (sz t) (X.τ d) l.length xs ∧ (∀ u ∈ xs, u.oneCell' = true) ∧ Rp X.S X.w t l xs
  | .jk => True
  | _ => False
section
variable {X Y : Cx} {x : Vl} {v : Value} {base d : Nat}
theorem Cx.Le.vl (h : X.Le Y) (hc : X.vl x v) : Y.vl x v := by
  cases x with
  | it a l => exact h.it hc
  | tup l => obtain ⟨vs, e, hc⟩ := hc; exact ⟨vs, e, h.tp hc⟩
  | pt d off => obtain ⟨g, h1, h2, h3⟩ := hc; exact ⟨g, (h.a d h1).1, (h.a d h1).2.trans h2, h3⟩
  | ep d t i off => obtain ⟨g, n, c, h1, h2, h3⟩ := hc; exact ⟨g, n, c, (h.a d h1).1, (h.a d h1).2.trans h2, h3⟩
  | sp l =>
    obtain ⟨A, vs, e, h2, h3, h4, h5⟩ := hc
    refine ⟨A, vs, e, fun h6 => (h.s _ h6).elim h2 (fun h7 => by omega), Nat.lt_of_lt_of_le h3 h.z, fun j u hu => ?_, h.cs h5⟩
    rw [cell_block (w := X.w) (by rw [add_block]; exact h.m _ h2 h3)]
    exact h4 j u hu
  | jk => trivial
  | box t l => exact hc
  | arr t l fz => exact hc
theorem Rp.move {S S' : Nat → Prop} {w w1 : World} {t : Kn} {l : List (El t)} {xs : List Value} (hs : ∀ k, S' k → S k ∨ w.heap.size ≤ k) (hm : ∀ k, ¬ S k → k < w.heap.size → w1.heap[k]? = w.heap[k]?) (hz : w.heap.size ≤ w1.heap.size) (h : Rp S w t l xs) : Rp S' w1 t l xs :=
  fun i x j cd h1 h2 => let ⟨v, h3, h4⟩ := h i x j cd h1 h2; ⟨v, h3, h4.move hs hm hz⟩
theorem bk_lv (h : X.bk base d x) (hl : lv x = true) : X.A d := by
  cases x <;> first | (cases hl; done) | skip
  · obtain ⟨g, vs, h1, _⟩ := h; exact h1
  · obtain ⟨xs, h1, _⟩ := h; exact h1
/-- A block's number. -/
theorem bk_blk (h : X.bk base d x) {g : Nat} (hl : lv x = true) (hg : blk (X.τ d) = some g) : base ≤ g ∧ g < X.w.heap.size := by
  cases x <;> first | (cases hl; done) | skip
  · obtain ⟨g', vs, _, h2, h3, h4, _⟩ := h
    rw [h2] at hg
    cases hg
    exact ⟨h3, (Array.getElem?_eq_some_iff.1 h4).1⟩
  · obtain ⟨xs, _, h2, _⟩ := h
    rcases h2.2 with ⟨e, _⟩ | ⟨g', cap, cur, e, h3, h4, _⟩
    · rw [e] at hg; cases hg
    · rw [e] at hg
      cases hg
      exact ⟨h3, (Array.getElem?_eq_some_iff.1 h4).1⟩
/-- A block that isn't written stays. -/
theorem Cx.Le.bk (h : X.Le Y) (hb : X.bk base d x) (hg : ∀ g, lv x = true → blk (X.τ d) = some g → Y.w.heap[g]? = X.w.heap[g]?) : Y.bk base d x := by
  cases x with
  | box t l =>
    obtain ⟨g, vs, h1, h2, h3, h4, h5⟩ := hb
    exact ⟨g, vs, (h.a d h1).1, (h.a d h1).2.trans h2, h3, (hg g rfl (by rw [h2]; rfl)).trans h4, h.cs h5⟩
  | arr t l fz =>
    obtain ⟨xs, h1, h2, h3, h4⟩ := hb
    refine ⟨xs, (h.a d h1).1, ?_, h3, h4.move h.s h.m h.z⟩
    rw [(h.a d h1).2]
    refine ⟨h2.1, ?_⟩
    rcases h2.2 with h5 | ⟨g, cap, cur, e, h5, h6, h7⟩
    · exact .inl h5
    · exact .inr ⟨g, cap, cur, e, h5, (hg g rfl (by rw [e]; rfl)).trans h6, h7⟩
  | _ => exact hb
end
structure ST (n : Nat) (w0 : World) (S0 : Nat → Prop) (X : Cx) (σ : St) (a : Act) : Prop where
  sz : a.tmps.size = n
  df : a.defers = []
  bel : Below w0.heap.size w0 X.w
  old : ∀ k, S0 k → k < w0.heap.size
  s : ∀ k, X.S k ↔ S0 k ∨ ∃ d, wr (σ (2 * d + 1)) = true ∧ blk (X.τ d) = some k
  tm : ∀ t, X.vl (σ (2 * t)) (a.tmps.getD t undef)
  bk : ∀ d, X.bk w0.heap.size d (σ (2 * d + 1))
  inj : ∀ d d' g, lv (σ (2 * d + 1)) = true → lv (σ (2 * d' + 1)) = true → blk (X.τ d) = some g → blk (X.τ d') = some g → d = d'
section
variable {n : Nat} {w0 : World} {S0 : Nat → Prop} {X : Cx} {σ : St} {a : Act} {d : Nat} {x : Vl} {v : Value}
theorem put_same (hd : d < a.tmps.size) : (a.put (some d) v).tmps.getD d undef = v := by
  simp [Act.put, Array.getD, hd]
theorem put_ne {t : Nat} (h : t ≠ d) : (a.put (some d) v).tmps.getD t undef = a.tmps.getD t undef := by
  simp [Act.put, Array.getD_eq_getD_getElem?, Array.getElem?_setIfInBounds_ne (Ne.symm h)]
theorem ST.lt (h : ST n w0 S0 X σ a) {k : Nat} (hk : X.S k) : k < X.w.heap.size := by
  rcases (h.s k).1 hk with h1 | ⟨d, h1, h2⟩
  · exact Nat.lt_of_lt_of_le (h.old k h1) h.bel.size
  · exact (bk_blk (h.bk d) (wr_lv h1) h2).2
/-- A variable is set. -/
theorem ST.put (h : ST n w0 S0 X σ a) (hd : d < n) (hv : X.vl x v) : ST n w0 S0 X (upd σ (2 * d) x) (a.put (some d) v) := by
  have hds : d < a.tmps.size := by rw [h.sz]; exact hd
  have ho : ∀ e, upd σ (2 * d) x (2 * e + 1) = σ (2 * e + 1) := fun e => upd_ne (by omega)
  refine ⟨by simp [Act.put, h.sz], by simp [Act.put, h.df], h.bel, h.old, fun k => ?_, fun t => ?_, fun e => ?_, fun e e' g => ?_⟩
  · simp only [ho]; exact h.s k
  · by_cases e : t = d
    · subst e; rw [upd_same, put_same hds]; exact hv
    · rw [upd_ne (by omega), put_ne e]; exact h.tm t
  · rw [ho]; exact h.bk e
  · rw [ho, ho]; exact h.inj e e' g
/-- What isn't looked at any more. -/
theorem ST.drop (h : ST n w0 S0 X σ a) (hd : d < n) : ST n w0 S0 X (upd σ (2 * d) .jk) (a.put (some d) v) := h.put hd trivial
/-- The world goes on; all that was there is there. -/
theorem ST.world (h : ST n w0 S0 X σ a) {w1 : World} (hw : Below X.w.heap.size X.w w1) : ST n w0 S0 { X with w := w1 } σ a := by
  have le : X.Le { X with w := w1 } := ⟨fun _ h => ⟨h, rfl⟩, fun _ h => .inl h, fun k _ hk => hw.block k hk, hw.size⟩
  refine ⟨h.sz, h.df, ?_, h.old, h.s, fun t => le.vl (h.tm t), fun e => le.bk (h.bk e) (fun g hl hg => hw.block g (bk_blk (h.bk e) hl hg).2), h.inj⟩
  exact ⟨hw.os.trans h.bel.os, hw.tape.trans h.bel.tape, hw.output.trans h.bel.output, Nat.le_trans h.bel.size hw.size, fun k hk => (hw.block k (Nat.lt_of_lt_of_le hk h.bel.size)).trans (h.bel.block k hk)⟩
theorem bel_grown {B : Nat} {w0 w w1 : World} {row : Option Nat} (h : Below B w0 w) (hB : B ≤ w.heap.size) (hg : w.grownBy w1 row) (hr : ∀ g, row = some g → B ≤ g) : Below B w0 w1 :=
  ⟨hg.os.trans h.os, hg.tape.trans h.tape, hg.output.trans h.output, Nat.le_trans h.size hg.size, fun k hk => (hg.block k (by omega) (fun e => by have := hr k e.symm; omega)).trans (h.block k hk)⟩
theorem ST.le_new (hA : ¬ X.A d) {w1 : World} (hw : X.w.grownBy w1 none) (hv : ∀ g, blk v = some g → X.w.heap.size ≤ g) {S' : Nat → Prop} (hS : ∀ k, S' k ↔ X.S k ∨ (wr x = true ∧ blk v = some k)) :
    X.Le ⟨fun e => if e = d then v else X.τ e, fun e => X.A e ∨ e = d, S', w1⟩ := by
  have hne : ∀ e, X.A e → e ≠ d := fun e he e' => hA (e' ▸ he)
  refine ⟨fun e he => ⟨.inl he, if_neg (hne e he)⟩, fun k hk => ?_, fun k _ hk => hw.block k hk (by simp), hw.size⟩
  rcases (hS k).1 hk with h1 | ⟨_, h1⟩
  · exact .inl h1
  · exact .inr (hv k h1)
/-- A new block. -/
theorem ST.new (h : ST n w0 S0 X σ a) (hA : ¬ X.A d) {w1 : World} (hw : X.w.grownBy w1 none) (hv : ∀ g, blk v = some g → X.w.heap.size ≤ g) {S' : Nat → Prop} (hS : ∀ k, S' k ↔ X.S k ∨ (wr x = true ∧ blk v = some k))
    (hb : Cx.bk ⟨fun e => if e = d then v else X.τ e, fun e => X.A e ∨ e = d, S', w1⟩ w0.heap.size d x) : ST n w0 S0 ⟨fun e => if e = d then v else X.τ e, fun e => X.A e ∨ e = d, S', w1⟩ (upd σ (2 * d + 1) x) a := by
  have hne : ∀ e, X.A e → e ≠ d := fun e he e' => hA (e' ▸ he)
  have le := ST.le_new hA hw hv hS
  have hod : lv (σ (2 * d + 1)) = false := by
    cases hq : lv (σ (2 * d + 1)) with
    | false => rfl
    | true => exact absurd (bk_lv (h.bk d) hq) hA
  have hw' : wr (σ (2 * d + 1)) = false := by
    cases hq : wr (σ (2 * d + 1)) with
    | false => rfl
    | true => rw [wr_lv hq] at hod; cases hod
  have hlt : ∀ e g, lv (σ (2 * e + 1)) = true → blk (X.τ e) = some g → g < X.w.heap.size := fun e g he hg => (bk_blk (h.bk e) he hg).2
  refine ⟨h.sz, h.df, bel_grown h.bel h.bel.size hw (by simp), h.old, fun k => ?_, fun t => ?_, fun e => ?_, fun e e' g h1 h2 h3 h4 => ?_⟩
  · show S' k ↔ _
    rw [hS, h.s]
    constructor
    · rintro ((h1 | ⟨e, h1, h2⟩) | ⟨h1, h2⟩)
      · exact .inl h1
      · have : e ≠ d := fun e' => by subst e'; rw [hw'] at h1; cases h1
        exact .inr ⟨e, by rw [upd_ne (by omega)]; exact h1, by simp only [if_neg this]; exact h2⟩
      · exact .inr ⟨d, by rw [upd_same]; exact h1, by simp only [if_pos]; exact h2⟩
    · rintro (h1 | ⟨e, h1, h2⟩)
      · exact .inl (.inl h1)
      · by_cases he : e = d
        · subst he
          rw [upd_same] at h1
          simp only [if_pos] at h2
          exact .inr ⟨h1, h2⟩
        · rw [upd_ne (by omega)] at h1
          simp only [if_neg he] at h2
          exact .inl (.inr ⟨e, h1, h2⟩)
  · rw [upd_ne (by omega)]
    exact le.vl (h.tm t)
  · by_cases he : e = d
    · subst he; rw [upd_same]; exact hb
    · rw [upd_ne (by omega)]
      exact le.bk (h.bk e) (fun g hl hg => hw.block g (hlt e g hl hg) (by simp))
  · by_cases he : e = d
    · by_cases he' : e' = d
      · rw [he, he']
      · exfalso
        subst he
        rw [upd_ne (by omega)] at h2
        simp only [if_pos] at h3
        simp only [if_neg he'] at h4
        have := hv g h3
        have := hlt e' g h2 h4
        omega
    · by_cases he' : e' = d
      · exfalso
        subst he'
        rw [upd_ne (by omega)] at h1
        simp only [if_neg he] at h3
        simp only [if_pos] at h4
        have := hv g h4
        have := hlt e g h1 h3
        omega
      · rw [upd_ne (by omega)] at h1 h2
        simp only [if_neg he] at h3
        simp only [if_neg he'] at h4
        exact h.inj e e' g h1 h2 h3 h4
theorem ST.le_touch (h : ST n w0 S0 X σ a) (hd : wr (σ (2 * d + 1)) = true) {w1 : World} (hw : X.w.grownBy w1 (blk (X.τ d))) : X.Le { X with w := w1 } :=
  ⟨fun _ h => ⟨h, rfl⟩, fun _ h => .inl h, fun k hk hlt => hw.block k hlt (fun e => hk ((h.s k).2 (.inr ⟨d, hd, e.symm⟩))), hw.size⟩
/-- A block is written. -/
theorem ST.touch (h : ST n w0 S0 X σ a) (hd : wr (σ (2 * d + 1)) = true) {w1 : World} (hw : X.w.grownBy w1 (blk (X.τ d))) (hx : wr x = true) (hb : Cx.bk { X with w := w1 } w0.heap.size d x) : ST n w0 S0 { X with w := w1 } (upd σ (2 * d + 1) x) a := by
  have le := h.le_touch hd hw
  have hwr : ∀ e, wr (upd σ (2 * d + 1) x (2 * e + 1)) = wr (σ (2 * e + 1)) := fun e => by
    by_cases he : e = d
    · subst he; rw [upd_same, hx, hd]
    · rw [upd_ne (by omega)]
  have hlv : ∀ e, lv (upd σ (2 * d + 1) x (2 * e + 1)) = true → lv (σ (2 * e + 1)) = true := fun e h1 => by
    by_cases he : e = d
    · subst he; exact wr_lv hd
    · rw [upd_ne (by omega)] at h1; exact h1
  refine ⟨h.sz, h.df, bel_grown h.bel h.bel.size hw (fun g hg => (bk_blk (h.bk d) (wr_lv hd) hg).1), h.old, fun k => ?_, fun t => ?_, fun e => ?_, fun e e' g h1 h2 h3 h4 => h.inj e e' g (hlv e h1) (hlv e' h2) h3 h4⟩
  · simp only [hwr]; exact h.s k
  · rw [upd_ne (by omega)]; exact le.vl (h.tm t)
  · by_cases he : e = d
    · subst he; rw [upd_same]; exact hb
    · rw [upd_ne (by omega)]
      exact le.bk (h.bk e) (fun g hl hg => hw.block g (bk_blk (h.bk e) hl hg).2 (fun e1 => he (h.inj e d g hl (wr_lv hd) hg e1.symm)))
theorem ST.le_frz (X : Cx) (d : Nat) : X.Le { X with S := fun k => X.S k ∧ blk (X.τ d) ≠ some k } := ⟨fun _ h => ⟨h, rfl⟩, fun _ h => .inl h.1, fun _ _ _ => rfl, Nat.le_refl _⟩
/-- A block of rows is written no more. -/
theorem ST.frz (h : ST n w0 S0 X σ a) {t : Kn} {l : List (El t)} (hd : σ (2 * d + 1) = .arr t l false) : ST n w0 S0 { X with S := fun k => X.S k ∧ blk (X.τ d) ≠ some k } (upd σ (2 * d + 1) (.arr t l true)) a := by
  have le := ST.le_frz X d
  have hlv : ∀ e, lv (upd σ (2 * d + 1) (.arr t l true) (2 * e + 1)) = true → lv (σ (2 * e + 1)) = true := fun e h1 => by
    by_cases he : e = d
    · subst he; rw [hd]; rfl
    · rw [upd_ne (by omega)] at h1; exact h1
  have hld : lv (σ (2 * d + 1)) = true := by rw [hd]; rfl
  refine ⟨h.sz, h.df, h.bel, h.old, fun k => ?_, fun t => ?_, fun e => ?_, fun e e' g h1 h2 h3 h4 => h.inj e e' g (hlv e h1) (hlv e' h2) h3 h4⟩
  · show X.S k ∧ _ ↔ _
    rw [h.s]
    constructor
    · rintro ⟨h1 | ⟨e, h1, h2⟩, h3⟩
      · exact .inl h1
      · have : e ≠ d := fun e' => by subst e'; exact h3 h2
        exact .inr ⟨e, by rw [upd_ne (by omega)]; exact h1, h2⟩
    · rintro (h1 | ⟨e, h1, h2⟩)
      · refine ⟨.inl h1, fun h3 => ?_⟩
        have := (bk_blk (h.bk d) hld h3).1
        have := h.old k h1
        omega
      · by_cases he : e = d
        · subst he; rw [upd_same] at h1; cases h1
        · rw [upd_ne (by omega)] at h1
          exact ⟨.inr ⟨e, h1, h2⟩, fun h3 => he (h.inj e d k (wr_lv h1) hld h2 h3)⟩
  · rw [upd_ne (by omega)]; exact le.vl (h.tm _)
  · by_cases he : e = d
    · subst he
      rw [upd_same]
      have h1 := le.bk (h.bk e) (fun _ _ _ => rfl)
      rw [hd] at h1
      exact h1
    · rw [upd_ne (by omega)]
      exact le.bk (h.bk e) (fun _ _ _ => rfl)
theorem ST.le_grow (h : ST n w0 S0 X σ a) {d' : Nat} (hA : ¬ X.A d') (hd : wr (σ (2 * d + 1)) = true) {w1 : World} (hw : X.w.grownBy w1 (blk (X.τ d))) (hv : ∀ g, blk v = some g → blk (X.τ d) = some g ∨ X.w.heap.size ≤ g) :
    X.Le ⟨fun e => if e = d' then v else X.τ e, fun e => X.A e ∨ e = d', fun k => (X.S k ∧ blk (X.τ d) ≠ some k) ∨ blk v = some k, w1⟩ := by
  have hne : ∀ e, X.A e → e ≠ d' := fun e he e' => hA (e' ▸ he)
  have hSd : ∀ g, blk (X.τ d) = some g → X.S g := fun g hg => (h.s g).2 (.inr ⟨d, hd, hg⟩)
  refine ⟨fun e he => ⟨.inl he, if_neg (hne e he)⟩, fun k hk => ?_, fun k hk hlt => hw.block k hlt (fun e => hk (hSd k e.symm)), hw.size⟩
  rcases hk with h1 | h1
  · exact .inl h1.1
  · rcases hv k h1 with h2 | h2
    · exact .inl (hSd k h2)
    · exact .inr h2
/-- A block becomes another: what grows lies where it lay, or anew. -/
theorem ST.grow (h : ST n w0 S0 X σ a) {d' : Nat} (hA : ¬ X.A d') (hd : wr (σ (2 * d + 1)) = true) {w1 : World} (hw : X.w.grownBy w1 (blk (X.τ d))) (hv : ∀ g, blk v = some g → blk (X.τ d) = some g ∨ X.w.heap.size ≤ g) (hx : wr x = true)
    (hb : Cx.bk ⟨fun e => if e = d' then v else X.τ e, fun e => X.A e ∨ e = d', fun k => (X.S k ∧ blk (X.τ d) ≠ some k) ∨ blk v = some k, w1⟩ w0.heap.size d' x) :
    ST n w0 S0 ⟨fun e => if e = d' then v else X.τ e, fun e => X.A e ∨ e = d', fun k => (X.S k ∧ blk (X.τ d) ≠ some k) ∨ blk v = some k, w1⟩ (upd (upd σ (2 * d + 1) .jk) (2 * d' + 1) x) a := by
  have hne : ∀ e, X.A e → e ≠ d' := fun e he e' => hA (e' ▸ he)
  have le := h.le_grow hA hd hw hv
  have hold : ∀ e, lv (upd (upd σ (2 * d + 1) .jk) (2 * d' + 1) x (2 * e + 1)) = true → e = d' ∨ (e ≠ d ∧ e ≠ d' ∧ lv (σ (2 * e + 1)) = true) := fun e h1 => by
    by_cases he : e = d'
    · exact .inl he
    · rw [upd_ne (by omega)] at h1
      by_cases he2 : e = d
      · subst he2; rw [upd_same] at h1; cases h1
      · rw [upd_ne (by omega)] at h1; exact .inr ⟨he2, he, h1⟩
  have hod : lv (σ (2 * d' + 1)) = false := by
    cases hq : lv (σ (2 * d' + 1)) with
    | false => rfl
    | true => exact absurd (bk_lv (h.bk d') hq) hA
  have key : ∀ e g, e ≠ d → lv (σ (2 * e + 1)) = true → blk (X.τ e) = some g → blk v ≠ some g := fun e g he h1 h2 h3 => by
    rcases hv g h3 with h4 | h4
    · exact he (h.inj e d g h1 (wr_lv hd) h2 h4)
    · have := (bk_blk (h.bk e) h1 h2).2
      omega
  refine ⟨h.sz, h.df, bel_grown h.bel h.bel.size hw (fun g hg => (bk_blk (h.bk d) (wr_lv hd) hg).1), h.old, fun k => ?_, fun t => ?_, fun e => ?_, fun e e' g h1 h2 h3 h4 => ?_⟩
  · show (X.S k ∧ _) ∨ _ ↔ _
    rw [h.s]
    constructor
    · rintro (⟨h1 | ⟨e, h1, h2⟩, h3⟩ | h1)
      · exact .inl h1
      · have he : e ≠ d := fun e' => by subst e'; exact h3 h2
        have he' : e ≠ d' := fun e' => by subst e'; rw [wr_lv h1] at hod; cases hod
        exact .inr ⟨e, by rw [upd_ne (by omega), upd_ne (by omega)]; exact h1, by simp only [if_neg he']; exact h2⟩
      · exact .inr ⟨d', by rw [upd_same]; exact hx, by simp only [if_pos]; exact h1⟩
    · rintro (h1 | ⟨e, h1, h2⟩)
      · refine .inl ⟨.inl h1, fun h3 => ?_⟩
        have := (bk_blk (h.bk d) (wr_lv hd) h3).1
        have := h.old k h1
        omega
      · rcases hold e (wr_lv h1) with he | ⟨he, he', h3⟩
        · subst he
          simp only [if_pos] at h2
          exact .inr h2
        · rw [upd_ne (by omega), upd_ne (by omega)] at h1
          simp only [if_neg he'] at h2
          exact .inl ⟨.inr ⟨e, h1, h2⟩, fun h4 => he (h.inj e d k h3 (wr_lv hd) h2 h4)⟩
  · rw [upd_ne (by omega), upd_ne (by omega)]
    exact le.vl (h.tm t)
  · by_cases he : e = d'
    · subst he; rw [upd_same]; exact hb
    · rw [upd_ne (by omega)]
      by_cases he2 : e = d
      · subst he2; rw [upd_same]; exact trivial
      · rw [upd_ne (by omega)]
        exact le.bk (h.bk e) (fun g hl hg => hw.block g (bk_blk (h.bk e) hl hg).2 (fun e1 => he2 (h.inj e d g hl (wr_lv hd) hg e1.symm)))
  · rcases hold e h1 with he | ⟨he, he', h5⟩
    · rcases hold e' h2 with hf | ⟨hf, hf', h6⟩
      · rw [he, hf]
      · subst he
        simp only [if_pos] at h3
        simp only [if_neg hf'] at h4
        exact absurd h3 (key e' g hf h6 h4)
    · rcases hold e' h2 with hf | ⟨hf, hf', h6⟩
      · subst hf
        simp only [if_neg he'] at h3
        simp only [if_pos] at h4
        exact absurd h4 (key e g he h5 h3)
      · simp only [if_neg he'] at h3
        simp only [if_neg hf'] at h4
        exact h.inj e e' g h5 h6 h3 h4
theorem ST.ext (h : ST n w0 S0 X σ a) {σ' : St} (e : ∀ p, σ p = σ' p) : ST n w0 S0 X σ' a := by
  have : σ = σ' := funext e
  subst this
  exact h
end
end Go.Proofs.YtbjgmnliholmpaaDoor.V
