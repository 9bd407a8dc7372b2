/- A pure reading of code, one operation: blocks of the walk's own, calls; what the operation tells. -/
import Derived.Test.YtbjgmnliholmpaaDoorE5
namespace Go.Proofs.YtbjgmnliholmpaaDoor.V
set_option linter.unusedVariables false
open Go Go.RowKit
set_option linter.unusedSectionVars false
variable [Yc]
abbrev Ws := List (Nat × Vl)
def app : Ws → St → St
  | [], σ => σ
  | e :: r, σ => app r (upd σ e.1 e.2)
/-- What an operation comes to: under some conditions, what it sets; or what a function tells. -/
inductive Rs : Type 1 where
  | ret (cs : List Bool) (ws : Ws)
  | call (T : Type) (m : Option T) (k : T → Ws)
def chk {α : Type} : List Bool → Option α → Option α
  | [], x => x
  | c :: r, x => cond c (chk r x) none
def Rs.go {α : Type} : Rs → (Ws → Option α) → Option α
  | .ret cs ws, K => chk cs (K ws)
  | .call _ m k, K => m.bind fun y => K (k y)
theorem chk_some {α : Type} {x : Option α} {r : α} : ∀ {cs : List Bool}, chk cs x = some r → (∀ c ∈ cs, c = true) ∧ x = some r
  | [], h => ⟨fun _ h => (by cases h), h⟩
  | c :: cs, h => by
    cases c with
    | false => cases h
    | true =>
      have := chk_some (cs := cs) h
      refine ⟨fun b hb => ?_, this.2⟩
      rcases List.mem_cons.1 hb with rfl | hb
      · rfl
      · exact this.1 b hb
theorem chk_all {α : Type} {x : Option α} {cs : List Bool} (h : ∀ c ∈ cs, c = true) : chk cs x = x := by
  induction cs with
  | nil => rfl
  | cons c cs ih =>
    have h1 := h c (by simp)
    subst h1
    exact ih (fun b hb => h b (by simp [hb]))
theorem go_some {α : Type} {rs : Rs} {K : Ws → Option α} {r : α} (h : rs.go K = some r) : ∃ ws, rs.go some = some ws ∧ K ws = some r := by
  cases rs with
  | ret cs ws =>
    obtain ⟨h1, h2⟩ := chk_some h
    exact ⟨ws, chk_all h1, h2⟩
  | call T m k =>
    obtain ⟨y, hy, h2⟩ := Option.bind_eq_some_iff.1 h
    exact ⟨k y, by show m.bind _ = _; rw [hy]; rfl, h2⟩
/-! ### functions -/
def XV : List (Bool × List Cs) → Type
  | [] => Unit
  | p :: r => Xs p.2 × XV r
def putV : (ps : List (Bool × List Cs)) → XV ps → List (Bool × List Cd)
  | [], _ => []
  | p :: r, x => (p.1, puts p.2 x.1) :: putV r x.2
def grabV : (ps : List (Bool × List Cs)) → List (Bool × List Cd) → Option (XV ps)
  | [], [] => some ()
  | p :: r, q :: s => if p.1 = q.1 then (match grabs p.2 q.2 with
    | some x => match grabV r s with
      | some y => some (x, y)
      | none => none
    | none => none) else none
  | _, _ => none
def resV : List (Bool × List Cd) → Vl
  | [(a, l)] => .it a l
  | l => .tup l
/-- What is known of a function: its parameters, what it tells, how that is laid. -/
structure Hd : Type 1 where
  ps : List (Bool × List Cs)
  T : Type
  rs : List (Bool × List Cs)
  f : XV ps → Option T
  e : T → XV rs
def Cx0 (S : Nat → Prop) (w : World) : Cx := ⟨fun _ => undef, fun _ => False, S, w⟩
structure HdOk (P : Program) (G : World → Prop) (g : Nat) (hd : Hd) : Prop where
  fn : ∃ fn, P.funcs[g]? = some fn ∧ (fn.name == "runtime.NumGoroutine") = false ∧ fn.body.isSome = true
  go : ∀ x y, hd.f x = some y → ∀ (S : Nat → Prop) (w : World) (vs : List Value), (∀ k, S k → k < w.heap.size) → G w → (Cx0 S w).tp (putV hd.ps x) vs →
    Calls P g vs.toArray w fun e w' => ∃ v, e = .returned v ∧ Below w.heap.size w w' ∧ (Cx0 S w').vl (resV (putV hd.rs (hd.e y))) v
/-- What a loop's head keeps of a variable. -/
inductive An where
  | d (a : Bool) (c : List Cs)
  | own (t : Kn)
  | sm (s : Nat)
  | box (t : Nat) (c : List Cs)
  | bj (t n : Nat)
structure Env : Type 1 where
  P : Program
  G : World → Prop
  C : Nat → Option Hd
  L : Nat → Option (List (Nat × An))
structure EnvOk (E : Env) : Prop where
  gb : ∀ {w w' : World}, E.G w → Below w.heap.size w w' → E.G w'
  c : ∀ g hd, E.C g = some hd → HdOk E.P E.G g hd
  mx : E.P.follows .mixedOrders = true
/-! ### what an operation tells -/
def res (σ : St) : Cd → Cd
  | .rf d => match σ (2 * d + 1) with
    | .arr k l _ => .sl k l
    | _ => .jk
  | c => c
/-- Rows that are handed on: written no more. -/
def frz (σ : St) : List Cd → Ws
  | [] => []
  | .rf d :: r => match σ (2 * d + 1) with
    | .arr k l false => (2 * d + 1, .arr k l true) :: frz σ r
    | _ => frz σ r
  | _ :: r => frz σ r
def argsV : List Vl → Option (List (Bool × List Cd))
  | [] => some []
  | .it a l :: r => match argsV r with
    | some s => some ((a, l) :: s)
    | none => none
  | _ => none
def rsl (σ : St) : List (Bool × List Cd) → List (Bool × List Cd)
  | [] => []
  | p :: r => (p.1, p.2.map (res σ)) :: rsl σ r
def fla : List (Bool × List Cd) → List Cd
  | [] => []
  | p :: r => p.2 ++ fla r
/-- Rows' elements. -/
def mkL (k : Kn) : List (Bool × List Cd) → Option (List (El k))
  | [] => some []
  | p :: r => match mk k p.2 with
    | some e => match mkL k r with
      | some s => some (e :: s)
      | none => none
    | none => none
def inOrder : Nat → List (Nat × Operand) → Bool
  | _, [] => true
  | k, p :: r => p.1 == k && inOrder (k + 1) r
def callV (E : Env) (σ : St) (d g : Nat) (xs : List Operand) : Option Rs := match E.C g, argsV (xs.map (ev σ)) with
  | some hd, some as_ => match grabV hd.ps (rsl σ as_) with
    | some x => some (.call hd.T (hd.f x) fun y => frz σ (fla as_) ++ [(2 * d, resV (putV hd.rs (hd.e y)))])
    | none => none
  | _, _ => none
/-- An element's kind, if all of it is known. -/
def kOf (P : Program) (e : TypeId) : Option Kn := match kn e with
  | some k => if tsz P e = some (sz k) ∧ 0 < sz k ∧ 0 < tby P e then some k else none
  | none => none
def bsV (P : Program) (σ : St) (d : Nat) (t : TypeId) (len : Nat) (parts : List (Nat × Operand)) : Option Rs := match P.underlying t with
  | some (.slice e) => match kOf P e with
    | some k => if parts.length = len ∧ inOrder 0 parts = true ∧ len * sz k ≤ 16777216 then (match argsV (parts.map fun p => ev σ p.2) with
      | some as_ => match tz P e, mkL k (rsl σ as_) with
        | some zs, some l => if zs.length = sz k then some (.ret [] (frz σ (fla as_) ++ [(2 * d + 1, .arr k l false), (2 * d, .it false [.rf d])])) else none
        | _, _ => none
      | none => none) else none
    | none => none
  | _ => none
def sameOp : Operand → Operand → Bool
  | .tmp t, .tmp t' => t == t'
  | .const (.int _ m), .const (.int _ m') => decide (m = m')
  | _, _ => false
/-- Is it the kind's zero? -/
def zeroOk (P : Program) (e : TypeId) (k : Kn) : Bool := match tz P e with
  | some zs => match mk k zs with
    | some _ => decide (zs.length = sz k)
    | none => false
  | none => false
def zeroOf (P : Program) (e : TypeId) (k : Kn) : El k := match tz P e with
  | some zs => (mk k zs).getD (df k)
  | none => df k
def msV (P : Program) (σ : St) (d : Nat) (t : TypeId) (ln cp : Operand) : Option Rs := match P.underlying t with
  | some (.slice e) => match kOf P e, ev σ ln, ev σ cp with
    | some k, .it false [.i _ m], .it false [.i _ c] => if zeroOk P e k = true then
        (if sameOp ln cp then some (.ret [Yc.y (decide (0 ≤ m)), Yc.y (decide (m.toNat * tby P e ≤ 281474976710656))] [(2 * d + 1, .arr k (List.replicate m.toNat (zeroOf P e k)) false), (2 * d, .it false [.rf d])])
        else match ln with
          | .const (.int _ 0) => some (.ret [Yc.y (decide (0 ≤ c)), Yc.y (decide (c.toNat * tby P e ≤ 281474976710656))] [(2 * d + 1, .arr k [] false), (2 * d, .it false [.rf d])])
          | _ => none) else none
    | _, _, _ => none
  | _ => none
/-- A row as it reads: its own cells, or another's. -/
def rowOf (σ : St) (k : Kn) : Vl → Option (List (El k))
  | .it false [c] => match res σ c with
    | .sl k' l => if h : k' = k then some (h ▸ l) else none
    | .nil => some []
    | _ => none
  | _ => none
def apV (P : Program) (σ : St) (d : Nat) (ts : Array TypeId) (s x : Vl) : Option Rs := match ts[0]?, ts[1]? with
  | some t, some t' => if t = t' then (match P.underlying t with
    | some (.slice e) => match kOf P e with
      | some k => if (tz P e).map (·.length) = some (sz k) then (match rowOf σ k x with
        | some l2 => match s with
          | .it false [.rf b] => match σ (2 * b + 1) with
            | .arr k' l false => if h : k' = k then
                some (.ret [Yc.y (decide ((l.length + l2.length) * tby P e ≤ 140737488355328))] [(2 * b + 1, .jk), (2 * d + 1, .arr k ((h ▸ l) ++ l2) false), (2 * d, .it false [.rf d])]) else none
            | _ => none
          | .it false [.nil] => some (.ret [Yc.y (decide (l2.length * tby P e ≤ 140737488355328))] [(2 * d + 1, .arr k l2 false), (2 * d, .it false [.rf d])])
          | _ => none
        | none => none) else none
      | none => none
    | _ => none) else none
  | _, _ => none
/-- The own row, cut short. -/
def osV (P : Program) (σ : St) (d b : Nat) (t : TypeId) (hi : Vl) : Option Rs := match P.underlying t, σ (2 * b + 1), hi with
  | some (.slice e), .arr k l false, .it false [.i _ m] => if k.c = e ∧ tsz P e = some (sz k) then
      some (.ret [Yc.y (decide (0 ≤ m)), Yc.y (decide (m ≤ (l.length : Int)))] [(2 * b + 1, .jk), (2 * d + 1, .arr k (l.take m.toNat) false), (2 * d, .it false [.rf d])]) else none
  | _, _, _ => none
def noRf (d : Nat) : List Cd → Bool
  | [] => true
  | .rf e :: r => !(e == d) && noRf d r
  | _ :: r => noRf d r
def stV (P : Program) (σ : St) (t : TypeId) (p x : Vl) : Option Rs := match p, x with
  | .pt d off, .it a l' => match σ (2 * d + 1), tsz P t with
    | .box bt l, some m => if l'.length = m ∧ off + m ≤ l.length then some (.ret [] [(2 * d + 1, .box bt (l.take off ++ l' ++ l.drop (off + m)))]) else none
    | _, _ => none
  | .ep d k i off, .it a l' => match σ (2 * d + 1), tsz P t with
    | .arr k' l false, some m => if h : k' = k then (if l'.length = m ∧ off + m ≤ sz k ∧ noRf d l' = true then
        (match mk k ((un k (gd k (h ▸ l) i)).take off ++ l'.map (res σ) ++ (un k (gd k (h ▸ l) i)).drop (off + m)) with
        | some e => some (.ret [] (frz σ l' ++ [(2 * d + 1, .arr k ((h ▸ l).set i e) false)]))
        | none => none) else none) else none
    | _, _ => none
  | _, _ => none
/-- A slice of an own row: cut short it stays the walk's own; else it is written no more. -/
def fzV (P : Program) (σ : St) (d b : Nat) (t : TypeId) (lo hi : Option Operand) : Option Rs := match σ (2 * b + 1) with
  | .arr k l fz => match fz, lo, hi with
    | false, none, some y => osV P σ d b t (ev σ y)
    | _, _, _ => match slV P t (.it false [.sl k l]) (lo.map (ev σ)) (hi.map (ev σ)) with
      | some (cs, z) => some (.ret cs (frz σ [.rf b] ++ [(2 * d, z)]))
      | none => none
  | _ => none
/-- What makes a block. -/
def isAl : Op → Bool
  | .box _ _ => true
  | .alloc _ => true
  | .buildSlice _ _ _ => true
  | .makeSlice _ _ _ => true
  | .slice _ _ _ _ _ => true
  | .call ⟨.builtin .append, _, _⟩ => true
  | _ => false
def alc (o : Oper) : Option Nat := if isAl o.op then o.dst else none
def opv (E : Env) (n : Nat) (σ : St) (o : Oper) : Option Rs := match o.dst with
  | none => match o.op with
    | .store t p x => stV E.P σ t (ev σ p) (ev σ x)
    | _ => none
  | some d => if d < n then (match o.op with
    | .box t x => match ev σ x with
      | .it _ l => some (.ret [] [(2 * d + 1, .box t l), (2 * d, .pt d 0)])
      | _ => none
    | .alloc t => match tz E.P t with
      | some l => some (.ret [] [(2 * d + 1, .box t l), (2 * d, .pt d 0)])
      | none => none
    | .buildSlice t len parts => bsV E.P σ d t len parts.toList
    | .makeSlice t ln cp => msV E.P σ d t ln cp
    | .call ⟨.builtin .append, xs, ts⟩ => match xs.toList with
      | [s, x] => apV E.P σ d ts (ev σ s) (ev σ x)
      | _ => none
    | .call ⟨.value f, xs, _⟩ => match ev σ f with
      | .it false [.fn g] => callV E σ d g xs.toList
      | _ => none
    | .slice t x lo hi none => match ev σ x with
      | .it false [.rf b] => fzV E.P σ d b t lo hi
      | _ => match valv E.P σ (.slice t x lo hi none) with
        | some (cs, y) => some (.ret cs [(2 * d, y)])
        | none => none
    | op => match valv E.P σ op with
      | some (cs, x) => some (.ret cs [(2 * d, x)])
      | none => none) else none
end Go.Proofs.YtbjgmnliholmpaaDoor.V
