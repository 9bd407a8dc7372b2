/- A pure reading of code, its values: cells, rows, what a variable holds; the relation to the machine's values. -/
import Derived.Test.YtbjgmnliholmpaaDoorProg
import Derived.RowKit
import Derived.Below
import Derived.Tactics
import Derived.Laws.AppendOwn
import Derived.Laws.OwnMore
import Derived.Laws.Slices
namespace Go.Proofs.YtbjgmnliholmpaaDoor.V
open Go Go.RowKit
set_option linter.unusedSectionVars false
/-! ### the kinds of rows (of this seat) -/
structure S_api_Int where
  f0 : Bool
  f1 : List Int
/-- The kinds of rows' elements. -/
inductive Kn where
  | u32
  | api_Int
  | row_u32
  | u64
  | u8
def Kn.c : Kn → Nat
  | .u32 => 60
  | .api_Int => 24
  | .row_u32 => 22
  | .u64 => 44
  | .u8 => 5
theorem Kn.inj {a b : Kn} (h : a.c = b.c) : a = b := by cases a <;> cases b <;> first | rfl | cases h
instance : DecidableEq Kn := fun a b => decidable_of_iff (a.c = b.c) ⟨Kn.inj, fun h => by rw [h]⟩
def kn : Nat → Option Kn
  | 60 => some .u32
  | 24 => some .api_Int
  | 22 => some .row_u32
  | 44 => some .u64
  | 5 => some .u8
  | _ => none
theorem kn_c {t : Nat} {k : Kn} (h : kn t = some k) : k.c = t := by
  unfold kn at h
  split at h <;> cases h <;> rfl
def El : Kn → Type
  | .u32 => Int
  | .api_Int => S_api_Int
  | .row_u32 => List Int
  | .u64 => Int
  | .u8 => Int
/-- A truth that the kernel doesn't look into while it reads: each one is itself. -/
class Yc where
  y : Bool → Bool
  h : ∀ b, y b = b
variable [Yc]
/-- The kind of one cell. -/
inductive Cs where
  | b
  | i (k : IntKind)
  | s
  | sl (t : Kn)
  | fn (g : Nat)
  | j
/-- A cell. -/
inductive Cd where
  | b (x : Bool)
  | i (k : IntKind) (x : Int)
  | s (x : ByteArray)
  | nil
  | sl (t : Kn) (l : List (El t))
  | rf (d : Nat)
  | fn (g : Nat)
  | jk
def Cs.X : Cs → Type
  | .b => Bool
  | .i _ => Int
  | .s => ByteArray
  | .sl t => List (El t)
  | .fn _ => Unit
  | .j => Unit
def Xs : List Cs → Type
  | [] => Unit
  | c :: r => c.X × Xs r
def Cs.put : (c : Cs) → c.X → Cd
  | .b, x => .b (Yc.y x)
  | .i k, x => .i k x
  | .s, x => .s x
  | .sl t, l => .sl t l
  | .fn g, _ => .fn g
  | .j, _ => .jk
def Cs.grab : (c : Cs) → Cd → Option c.X
  | .b, .b x => some x
  | .i k, .i k' x => if k = k' then some x else none
  | .s, .s x => some x
  | .sl t, .sl t' l => if h : t' = t then some (h ▸ l) else none
  | .sl _, .nil => some []
  | .fn g, .fn g' => if g = g' then some () else none
  | .j, .rf _ => none
  | .j, _ => some ()
  | _, _ => none
def puts : (cs : List Cs) → Xs cs → List Cd
  | [], _ => []
  | c :: r, x => c.put x.1 :: puts r x.2
def grabs : (cs : List Cs) → List Cd → Option (Xs cs)
  | [], [] => some ()
  | c :: r, d :: ds => match c.grab d with
    | some x => match grabs r ds with
      | some y => some (x, y)
      | none => none
    | none => none
  | _, _ => none
def shp : Kn → List Cs
  | .u32 => [.i .u32]
  | .api_Int => [.b, .sl .u32]
  | .row_u32 => [.sl .u32]
  | .u64 => [.i .u64]
  | .u8 => [.i .u8]
def to : (t : Kn) → El t → Xs (shp t)
  | .u32, x => (x, ())
  | .api_Int, x => (S_api_Int.f0 x, S_api_Int.f1 x, ())
  | .row_u32, x => (x, ())
  | .u64, x => (x, ())
  | .u8, x => (x, ())
def fr : (t : Kn) → Xs (shp t) → El t
  | .u32, x => x.1
  | .api_Int, x => S_api_Int.mk x.1 x.2.1
  | .row_u32, x => x.1
  | .u64, x => x.1
  | .u8, x => x.1
theorem to_fr (t : Kn) (y : Xs (shp t)) : to t (fr t y) = y := by cases t <;> rfl
def df : (t : Kn) → El t
  | .u32 => (0 : Int)
  | .api_Int => S_api_Int.mk false ([] : List Int)
  | .row_u32 => ([] : List Int)
  | .u64 => (0 : Int)
  | .u8 => (0 : Int)
def rd (l : List Int) (i : Int) : Int := l.getD i.toNat 0
def rd_api_Int (l : List S_api_Int) (i : Int) : S_api_Int := l.getD i.toNat (df .api_Int)
def rd_row_u32 (l : List (List Int)) (i : Int) : List Int := l.getD i.toNat (df .row_u32)
def un (t : Kn) (x : El t) : List Cd := puts (shp t) (to t x)
def mk (t : Kn) (l : List Cd) : Option (El t) := match grabs (shp t) l with
  | some y => some (fr t y)
  | none => none
def sz (t : Kn) : Nat := (shp t).length
theorem puts_len : ∀ (cs : List Cs) (x : Xs cs), (puts cs x).length = cs.length
  | [], _ => rfl
  | c :: r, x => by simp [puts, puts_len r]
theorem un_len (t : Kn) (x : El t) : (un t x).length = sz t := puts_len _ _
/-! ### the relation: a cell -/
/-- A cell without a variable of the walk's own, read in the world w, apart from the blocks S. -/
inductive CR (S : Nat → Prop) (w : World) : Cd → Value → Prop
  | b (x : Bool) : CR S w (.b x) (.bool x)
  | i (k : IntKind) (x : Int) : CR S w (.i k x) (.int k x)
  | s (x : ByteArray) : CR S w (.s x) (.string x)
  | nil : CR S w .nil (.slice none 0 0)
  | nsl (t : Kn) : CR S w (.sl t []) (.slice none 0 0)
  | sl (t : Kn) (l : List (El t)) (A : Addr) (c : Nat) (vs : Nat → Nat → Value) (hb : l ≠ [] → ¬ S A.block ∧ A.block < w.heap.size) (hl : l.length ≤ c)
      (hc : ∀ i x j cd, l[i]? = some x → (un t x)[j]? = some cd → w.cell? (A.add (i * sz t + j)) = some (vs i j))
      (hr : ∀ i x j cd, l[i]? = some x → (un t x)[j]? = some cd → CR S w cd (vs i j)) : CR S w (.sl t l) (.slice (some A) l.length c)
  | fn (g : Nat) : CR S w (.fn g) (.func (.func g) #[] #[])
  | jk (v : Value) (h : v.oneCell' = true) : CR S w .jk v
section
variable {S S' : Nat → Prop} {w w1 : World} {c : Cd} {v : Value}
theorem cell_block {A : Addr} (h : w1.heap[A.block]? = w.heap[A.block]?) : w1.cell? A = w.cell? A := World.cell?_of_block h
theorem add_block (A : Addr) (n : Nat) : (A.add n).block = A.block := by unfold Addr.add; split <;> rfl
/-- What is read stays: the blocks that aren't S's are the same; the new S' has new blocks alone. -/
theorem CR.move (hs : ∀ k, S' k → S k ∨ w.heap.size ≤ k) (hm : ∀ k, ¬ S k → k < w.heap.size → w1.heap[k]? = w.heap[k]?) (hz : w.heap.size ≤ w1.heap.size) (h : CR S w c v) : CR S' w1 c v := by
  induction h with
  | b x => exact .b x
  | i k x => exact .i k x
  | s x => exact .s x
  | nil => exact .nil
  | nsl t => exact .nsl t
  | sl t l A c vs hb hl hc hr ih =>
    refine .sl t l A c vs (fun hne => ?_) hl (fun i x j cd hi hj => ?_) ih
    · obtain ⟨h1, h2⟩ := hb hne
      exact ⟨fun h3 => (hs _ h3).elim h1 (fun h4 => by omega), by omega⟩
    · have hne : l ≠ [] := fun e => by subst e; simp at hi
      obtain ⟨h1, h2⟩ := hb hne
      rw [cell_block (w := w) (by rw [add_block]; exact hm _ h1 h2)]
      exact hc i x j cd hi hj
  | fn g => exact .fn g
  | jk v h => exact .jk v h
theorem CR.one (h : CR S w c v) : v.oneCell' = true := by cases h <;> first | rfl | assumption
theorem one_cells (h : v.oneCell' = true) : v.cells = #[v] := by cases v <;> first | rfl | cases h
/-- What the reading grabs, reads so too. -/
theorem CR.grab {k : Cs} {x : k.X} (hg : k.grab c = some x) (h : CR S w c v) : CR S w (k.put x) v := by
  cases k with
  | j => exact .jk v h.one
  | b =>
    cases c <;> simp only [Cs.grab] at hg <;> first | (cases hg; done) | skip
    cases hg
    rename_i x
    have e : Yc.y x = x := Yc.h x
    show CR S w (.b (Yc.y x)) v
    rw [e]
    exact h
  | i k =>
    cases c <;> simp only [Cs.grab] at hg <;> first | (cases hg; done) | skip
    split at hg
    · rename_i e; subst e; cases hg; exact h
    · cases hg
  | s =>
    cases c <;> simp only [Cs.grab] at hg <;> first | (cases hg; done) | skip
    cases hg; exact h
  | sl t =>
    cases c <;> simp only [Cs.grab] at hg <;> first | (cases hg; done) | skip
    · cases hg; cases h; exact .nsl _
    · split at hg
      · rename_i e; subst e; cases hg; exact h
      · cases hg
  | fn g =>
    cases c <;> simp only [Cs.grab] at hg <;> first | (cases hg; done) | skip
    split at hg
    · rename_i e; subst e; exact h
    · cases hg
end
/-! ### cells that may be the walk's own -/
/-- What the walk knows of the machine: where each own block's value is (τ), which are there (A), the blocks that may be written (S), the world. -/
structure Cx where
  τ : Nat → Value
  A : Nat → Prop
  S : Nat → Prop
  w : World
def Cx.cd (X : Cx) : Cd → Value → Prop
  | .rf d, v => X.A d ∧ v = X.τ d ∧ v.oneCell' = true
  | c, v => CR X.S X.w c v
def Cx.cs (X : Cx) : List Cd → List Value → Prop
  | [], [] => True
  | c :: cs, v :: vs => X.cd c v ∧ X.cs cs vs
  | _, _ => False
def Cx.it (X : Cx) : Bool → List Cd → Value → Prop
  | true, l, v => ∃ vs : List Value, v = .agg vs.toArray ∧ X.cs l vs
  | false, l, v => X.cs l [v]
def Cx.tp (X : Cx) : List (Bool × List Cd) → List Value → Prop
  | [], [] => True
  | c :: cs, v :: vs => X.it c.1 c.2 v ∧ X.tp cs vs
  | _, _ => False
/-- The block that a value lies at. -/
def blk : Value → Option Nat
  | .slice (some a) _ _ => some a.block
  | .pointer (some a) => some a.block
  | _ => none
/-- Later: what was there is there, and lies where it lay. -/
structure Cx.Le (X Y : Cx) : Prop where
  a : ∀ d, X.A d → Y.A d ∧ Y.τ d = X.τ d
  s : ∀ k, Y.S k → X.S k ∨ X.w.heap.size ≤ k
  m : ∀ k, ¬ X.S k → k < X.w.heap.size → Y.w.heap[k]? = X.w.heap[k]?
  z : X.w.heap.size ≤ Y.w.heap.size
section
variable {X Y : Cx} {c : Cd} {v : Value}
theorem cd_cr (h : ∀ d, c ≠ .rf d) : X.cd c v ↔ CR X.S X.w c v := by
  cases c <;> first | exact Iff.rfl | exact absurd rfl (h _)
theorem CR.no_rf {S : Nat → Prop} {w : World} (h : CR S w c v) (d : Nat) : c ≠ .rf d := fun e => by subst e; cases h
theorem CR.cd (h : CR X.S X.w c v) : X.cd c v := (cd_cr h.no_rf).2 h
theorem Cx.Le.cd (h : X.Le Y) (hc : X.cd c v) : Y.cd c v := by
  cases c with
  | rf d => exact ⟨(h.a d hc.1).1, by rw [(h.a d hc.1).2]; exact hc.2.1, hc.2.2⟩
  | _ => exact CR.move h.s h.m h.z hc
theorem Cx.Le.cs (h : X.Le Y) : ∀ {l : List Cd} {vs : List Value}, X.cs l vs → Y.cs l vs
  | [], [], _ => trivial
  | _ :: _, _ :: _, hc => ⟨h.cd hc.1, h.cs hc.2⟩
  | [], _ :: _, hc => hc.elim
  | _ :: _, [], hc => hc.elim
theorem Cx.Le.it (h : X.Le Y) {a : Bool} {l : List Cd} (hc : X.it a l v) : Y.it a l v := by
  cases a
  · exact h.cs hc
  · obtain ⟨vs, e, hc⟩ := hc; exact ⟨vs, e, h.cs hc⟩
theorem Cx.Le.tp (h : X.Le Y) : ∀ {l : List (Bool × List Cd)} {vs : List Value}, X.tp l vs → Y.tp l vs
  | [], [], _ => trivial
  | _ :: _, _ :: _, hc => ⟨h.it hc.1, h.tp hc.2⟩
  | [], _ :: _, hc => hc.elim
  | _ :: _, [], hc => hc.elim
theorem Cx.Le.refl (X : Cx) : X.Le X := ⟨fun _ h => ⟨h, rfl⟩, fun _ h => .inl h, fun _ _ _ => rfl, Nat.le_refl _⟩
theorem cd_one (h : X.cd c v) : v.oneCell' = true := by
  cases c with
  | rf d => exact h.2.2
  | _ => exact CR.one h
theorem cs_len : ∀ {l : List Cd} {vs : List Value}, X.cs l vs → vs.length = l.length
  | [], [], _ => rfl
  | _ :: _, _ :: _, h => by simp [cs_len h.2]
  | [], _ :: _, h => h.elim
  | _ :: _, [], h => h.elim
theorem cs_one : ∀ {l : List Cd} {vs : List Value}, X.cs l vs → ∀ v ∈ vs, v.oneCell' = true
  | [], [], _, _, hv => by cases hv
  | _ :: _, _ :: _, h, v, hv => by
    rcases List.mem_cons.1 hv with rfl | hv
    · exact cd_one h.1
    · exact cs_one h.2 v hv
  | [], _ :: _, h, _, _ => h.elim
  | _ :: _, [], h, _, _ => h.elim
theorem cs_get : ∀ {l : List Cd} {vs : List Value} {j : Nat} {c : Cd}, X.cs l vs → l[j]? = some c → ∃ v, vs[j]? = some v ∧ X.cd c v
  | _ :: _, v :: _, 0, _, h, hj => by
    simp only [List.getElem?_cons_zero, Option.some.injEq] at hj
    subst hj
    exact ⟨v, rfl, h.1⟩
  | _ :: _, _ :: _, j + 1, _, h, hj => by
    rw [List.getElem?_cons_succ] at hj ⊢
    exact cs_get h.2 hj
  | [], _, _, _, _, hj => by simp at hj
  | _ :: _, [], _, _, h, _ => h.elim
theorem cs_of : ∀ {l : List Cd} {vs : List Value}, vs.length = l.length → (∀ (j : Nat) (c : Cd) (v : Value), l[j]? = some c → vs[j]? = some v → X.cd c v) → X.cs l vs
  | [], [], _, _ => trivial
  | c :: cs, v :: vs, hl, h => ⟨h 0 c v rfl rfl, cs_of (by simpa using hl) (fun j c v h1 h2 => h (j + 1) c v (by simpa using h1) (by simpa using h2))⟩
  | [], _ :: _, hl, _ => by simp at hl
  | _ :: _, [], hl, _ => by simp at hl
theorem cs_take {l : List Cd} {vs : List Value} (n : Nat) (h : X.cs l vs) : X.cs (l.take n) (vs.take n) := by
  have hl := cs_len h
  refine cs_of (by simp [hl]) (fun j c v h1 h2 => ?_)
  rw [List.getElem?_take] at h1 h2
  split at h1
  · rename_i hj
    rw [if_pos hj] at h2
    obtain ⟨u, hu, hc⟩ := cs_get h h1
    rw [h2] at hu; cases hu; exact hc
  · cases h1
theorem cs_drop {l : List Cd} {vs : List Value} (n : Nat) (h : X.cs l vs) : X.cs (l.drop n) (vs.drop n) := by
  have hl := cs_len h
  refine cs_of (by simp [hl]) (fun j c v h1 h2 => ?_)
  rw [List.getElem?_drop] at h1 h2
  obtain ⟨u, hu, hc⟩ := cs_get h h1
  rw [h2] at hu; cases hu; exact hc
theorem cs_app {l l' : List Cd} {vs vs' : List Value} (h : X.cs l vs) (h' : X.cs l' vs') : X.cs (l ++ l') (vs ++ vs') := by
  induction l generalizing vs with
  | nil => cases vs with
    | nil => exact h'
    | cons _ _ => exact h.elim
  | cons c r ih => cases vs with
    | nil => exact h.elim
    | cons v u => exact ⟨h.1, ih h.2⟩
theorem it_cells {a : Bool} {l : List Cd} (h : X.it a l v) : ∃ vs : List Value, v.cells = vs.toArray ∧ X.cs l vs ∧ (a = true → v = .agg vs.toArray) ∧ (a = false → vs = [v]) := by
  cases a with
  | true => obtain ⟨vs, rfl, hc⟩ := h; exact ⟨vs, rfl, hc, fun _ => rfl, fun e => (by cases e)⟩
  | false =>
    refine ⟨[v], ?_, h, ⟨fun e => (by cases e), fun _ => rfl⟩⟩
    have : v.oneCell' = true := cs_one (l := l) (vs := [v]) h v (by simp)
    exact one_cells this
theorem tp_get : ∀ {l : List (Bool × List Cd)} {vs : List Value} {i : Nat} {p : Bool × List Cd}, X.tp l vs → l[i]? = some p → ∃ v, vs[i]? = some v ∧ X.it p.1 p.2 v
  | _ :: _, v :: _, 0, _, h, hi => by
    simp only [List.getElem?_cons_zero, Option.some.injEq] at hi
    subst hi
    exact ⟨v, rfl, h.1⟩
  | _ :: _, _ :: _, i + 1, _, h, hi => by
    rw [List.getElem?_cons_succ] at hi ⊢
    exact tp_get h.2 hi
  | [], _, _, _, _, hi => by simp at hi
  | _ :: _, [], _, _, h, _ => h.elim
theorem CR.grabs {S : Nat → Prop} {w : World} {X Y : Cx} (hX : X.S = S ∧ X.w = w) (hY : Y.S = S ∧ Y.w = w) : ∀ {k : List Cs} {l : List Cd} {vs : List Value} {x : Xs k}, grabs k l = some x → (∀ d, Cd.rf d ∉ l) → X.cs l vs → Y.cs (puts k x) vs
  | [], [], [], _, _, _, _ => trivial
  | [], [], _ :: _, _, _, _, h => h.elim
  | [], _ :: _, _, _, hg, _, _ => by simp [V.grabs] at hg
  | _ :: _, [], _, _, hg, _, _ => by simp [V.grabs] at hg
  | _ :: _, _ :: _, [], _, _, _, h => h.elim
  | k :: ks, c :: l, v :: vs, x, hg, hn, h => by
    unfold V.grabs at hg
    split at hg
    · rename_i x1 h1
      split at hg
      · rename_i y h2
        cases hg
        have h0 : CR S w c v := by rw [← hX.1, ← hX.2]; exact (cd_cr (fun d e => hn d (by simp [e]))).1 h.1
        refine ⟨?_, CR.grabs hX hY h2 (fun d hd => hn d (by simp [hd])) h.2⟩
        have h3 := CR.grab h1 h0
        rw [← hY.1, ← hY.2] at h3
        exact h3.cd
      · cases hg
    · cases hg
end
end Go.Proofs.YtbjgmnliholmpaaDoor.V
