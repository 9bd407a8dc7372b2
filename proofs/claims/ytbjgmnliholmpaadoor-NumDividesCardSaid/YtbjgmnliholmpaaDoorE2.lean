/- A pure reading of code, one operation: what it tells. -/
import Derived.Test.YtbjgmnliholmpaaDoorE1
namespace Go.Proofs.YtbjgmnliholmpaaDoor.V
open Go Go.RowKit
set_option linter.unusedSectionVars false
variable [Yc]
/-! ### types -/
def tsz (P : Program) (t : TypeId) : Option Nat := match P.info? t with
  | some i => some i.size
  | none => none
def tby (P : Program) (t : TypeId) : Nat := match P.info? t with
  | some i => i.bytes
  | none => 0
def isAg : TypeDesc → Bool
  | .struct _ => true
  | .array _ _ => true
  | _ => false
def tag (P : Program) (t : TypeId) : Option Bool := match P.underlying t with
  | some d => some (isAg d)
  | none => none
def cstc : Value → Option Cd
  | .bool x => some (.b x)
  | .int k x => some (.i k x)
  | .string s => some (.s s)
  | .slice none 0 0 => some .nil
  | .func (.func g) f c => if f.size = 0 ∧ c.size = 0 then some (.fn g) else none
  | .agg _ => none
  | .tuple _ => none
  | _ => some .jk
def cstl : List Value → Option (List Cd)
  | [] => some []
  | v :: r => match cstc v with
    | some c => match cstl r with
      | some l => some (c :: l)
      | none => none
    | none => none
def cst (v : Value) : Vl := match v with
  | .agg cs => match cstl cs.toList with
    | some l => .it true l
    | none => .jk
  | v => match cstc v with
    | some c => .it false [c]
    | none => .jk
/-- A type's zero, as cells. -/
def tz (P : Program) (t : TypeId) : Option (List Cd) := match P.info? t with
  | some i => match i.zero with
    | some z => cstl z.cells.toList
    | none => none
  | none => none
def ev (σ : St) : Operand → Vl
  | .tmp t => σ (2 * t)
  | .const v => cst v
  | .func g => .it false [.fn g]
  | .global _ => .jk
/-- An int's own form. -/
def wrp (k : IntKind) (x : Int) : Int := match k with
  | .i64 => wrap64 x
  | k => k.wrap x
def maxInt : Nat := 9223372036854775807
def qz (nz : Bool) (y : Int) : List Bool := match nz with
  | true => []
  | false => [Yc.y (!decide (y = 0))]
def binI (op : BinOp) (k : IntKind) (x y : Int) (nz : Bool) : Option (List Bool × Cd) := match op with
  | .add => some ([], .i k (wrp k (x + y)))
  | .sub => some ([], .i k (wrp k (x - y)))
  | .mul => some ([], .i k (wrp k (x * y)))
  | .quo => some (qz nz y, .i k (wrp k (x.tdiv y)))
  | .rem => some (qz nz y, .i k (x.tmod y))
  | .eql => some ([], .b (Yc.y (decide (x = y))))
  | .neq => some ([], .b (Yc.y (!decide (x = y))))
  | .lss => some ([], .b (Yc.y (decide (x < y))))
  | .leq => some ([], .b (Yc.y (decide (x ≤ y))))
  | .gtr => some ([], .b (Yc.y (decide (y < x))))
  | .geq => some ([], .b (Yc.y (decide (y ≤ x))))
  | _ => none
def binS (op : BinOp) (x y : ByteArray) : Option (List Bool × Cd) := match op with
  | .add => some ([Yc.y (decide (x.size + y.size ≤ maxInt))], .s (x ++ y))
  | .eql => some ([], .b (Yc.y (x.toList == y.toList)))
  | .neq => some ([], .b (Yc.y (!(x.toList == y.toList))))
  | .lss => some ([], .b (Yc.y (Op.bytesLess x.toList y.toList)))
  | .geq => some ([], .b (Yc.y (!Op.bytesLess x.toList y.toList)))
  | _ => none
/-- Is it written down, and not 0? -/
def nzO : Operand → Bool
  | .const (.int _ n) => !decide (n = 0)
  | _ => false
def binV (P : Program) (t : TypeId) (op : BinOp) (x y : Vl) (nz : Bool) : Option (List Bool × Vl) := match x, y with
  | .it false [.i k m], .it false [.i k' n] => if k = k' then (match binI op k m n nz with
    | some (cs, c) => some (cs, .it false [c])
    | none => none) else none
  | .it false [.s m], .it false [.s n] => match binS op m n with
    | some (cs, c) => some (cs, .it false [c])
    | none => none
  | .it false [.b m], .it false [.b n] => match P.underlying t with
    | some .bool => match op with
      | .eql => some ([], .it false [.b (Yc.y (m == n))])
      | .neq => some ([], .it false [.b (Yc.y (!(m == n)))])
      | _ => none
    | _ => none
  | _, _ => none
def unV (op : UnOp) (x : Vl) : Option (List Bool × Vl) := match op, x with
  | .not, .it false [.b x] => some ([], .it false [.b (!x)])
  | .neg, .it false [.i k x] => some ([], .it false [.i k (wrp k (0 - x))])
  | _, _ => none
def extV (x : Vl) (i : Nat) : Option (List Bool × Vl) := match x with
  | .tup l => match l[i]? with
    | some p => some ([], .it p.1 p.2)
    | none => none
  | _ => none
def cnvV (P : Program) (src dst : TypeId) (x : Vl) : Option (List Bool × Vl) := match P.underlying src, P.underlying dst, x with
  | some (.int _), some (.int k), .it false [.i _ n] => some ([], .it false [.i k (wrp k n)])
  | some .string, some .string, .it false [.s s] => some ([], .it false [.s s])
  | _, _, _ => none
/-- Some cells of a variable of a type. -/
def cut (P : Program) (t : TypeId) (l : List Cd) : Option (List Bool × Vl) := match tag P t with
  | some true => match tsz P t with
    | some m => if m ≤ l.length then some ([], .it true (l.take m)) else none
    | none => none
  | some false => match l with
    | c :: _ => some ([], .it false [c])
    | [] => none
  | none => none
def gd (t : Kn) (l : List (El t)) (i : Nat) : El t := l.getD i (df t)
def ldV (P : Program) (σ : St) (t : TypeId) (x : Vl) : Option (List Bool × Vl) := match x with
  | .pt d off => match σ (2 * d + 1) with
    | .box _ l => cut P t (l.drop off)
    | _ => none
  | .ep d k i off => match σ (2 * d + 1) with
    | .arr k' l _ => if h : k' = k then cut P t ((un k (gd k (h ▸ l) i)).drop off) else none
    | _ => none
  | .sp l => cut P t l
  | _ => none
def fdV (P : Program) (t : TypeId) (x : Vl) (j : Nat) : Option (List Bool × Vl) := match P.underlying t, x with
  | some (.struct fs), .it true l => match fs[j]? with
    | some f => cut P f.type (l.drop f.offset)
    | none => none
  | _, _ => none
def faV (P : Program) (t : TypeId) (x : Vl) (j : Nat) : Option (List Bool × Vl) := match P.underlying t with
  | some (.struct fs) => match fs[j]? with
    | some f => if tsz P f.type = none ∨ tsz P f.type = some 0 then none else match x with
      | .pt d off => some ([], .pt d (off + f.offset))
      | .ep d k i off => some ([], .ep d k i (off + f.offset))
      | .sp l => some ([], .sp (l.drop f.offset))
      | _ => none
    | none => none
  | _ => none
/-- The length of a row or a text. -/
def lnC (σ : St) : Cd → Option Int
  | .s x => some (x.size : Int)
  | .sl _ l => some (l.length : Int)
  | .nil => some 0
  | .rf d => match σ (2 * d + 1) with
    | .arr _ l _ => some (l.length : Int)
    | _ => none
  | _ => none
def iaV (P : Program) (σ : St) (t : TypeId) (x i : Vl) : Option (List Bool × Vl) := match P.underlying t, i with
  | some (.slice e), .it false [.i _ n] => match x with
    | .it false [.sl k l] => if k.c = e ∧ tsz P e = some (sz k) then some ([Yc.y (decide (0 ≤ n)), Yc.y (decide (n < (l.length : Int)))], .sp (un k (gd k l n.toNat))) else none
    | .it false [.rf d] => match σ (2 * d + 1) with
      | .arr k l _ => if k.c = e ∧ tsz P e = some (sz k) then some ([Yc.y (decide (0 ≤ n)), Yc.y (decide (n < (l.length : Int)))], .ep d k n.toNat 0) else none
      | _ => none
    | .it false [.nil] => some ([false], .jk)
    | _ => none
  | _, _ => none
def ixV (P : Program) (t : TypeId) (x i : Vl) : Option (List Bool × Vl) := match P.underlying t, x, i with
  | some .string, .it false [.s s], .it false [.i _ n] => some ([Yc.y (decide (0 ≤ n)), Yc.y (decide (n < (s.size : Int)))], .it false [.i .u8 ((s.data.toList.getD n.toNat 0).toNat : Int)])
  | _, _, _ => none
/-- A bound of a slice expression. -/
def bdV : Option Vl → Option (Option Int)
  | none => some none
  | some (.it false [.i _ n]) => some (some n)
  | _ => none
def slC (len : Int) : Option Int → Option Int → List Bool
  | none, none => []
  | some a, none => [Yc.y (decide (0 ≤ a)), Yc.y (decide (a ≤ len))]
  | none, some b => [Yc.y (decide (0 ≤ b)), Yc.y (decide (b ≤ len))]
  | some a, some b => [Yc.y (decide (0 ≤ a)), Yc.y (decide (a ≤ b)), Yc.y (decide (b ≤ len))]
def slL {α : Type} (l : List α) : Option Int → Option Int → List α
  | none, none => l
  | some a, none => l.drop a.toNat
  | none, some b => l.take b.toNat
  | some a, some b => (l.take b.toNat).drop a.toNat
def slS (s : ByteArray) : Option Int → Option Int → ByteArray
  | none, none => s.extract 0 s.size
  | some a, none => s.extract a.toNat s.size
  | none, some b => s.extract 0 b.toNat
  | some a, some b => s.extract a.toNat b.toNat
def slV (P : Program) (t : TypeId) (x : Vl) (lo hi : Option Vl) : Option (List Bool × Vl) := match P.underlying t, x with
  | some .string, .it false [.s s] => match bdV lo, bdV hi with
    | some a, some b => some (slC (s.size : Int) a b, .it false [.s (slS s a b)])
    | _, _ => none
  | some (.slice e), .it false [.sl k l] => if k.c = e ∧ tsz P e = some (sz k) then (match bdV lo, bdV hi with
    | some a, some b => some (slC (l.length : Int) a b, .it false [.sl k (slL l a b)])
    | _, _ => none) else none
  | _, _ => none
def mxV (mx : Bool) : List Vl → Option (List Bool × Vl)
  | [.it false [.i k x], .it false [.i k' y]] => if k = k' then some ([], .it false [.i k (if mx then (if y > x then y else x) else (if y < x then y else x))]) else none
  | _ => none
/-- A literal's parts, laid into its zero. -/
def plc (P : Program) : List Field → Option (List (Nat × Nat))
  | [] => some []
  | f :: r => match tsz P f.type with
    | some s => match plc P r with
      | some l => some ((f.offset, s) :: l)
      | none => none
    | none => none
def blV (pl : List (Nat × Nat)) : List Cd → List (Nat × Vl) → Option (List Cd)
  | l, [] => some l
  | l, (j, .it _ c) :: r => match pl[j]? with
    | some (off, s) => if s = c.length ∧ off + s ≤ l.length then blV pl (l.take off ++ c ++ l.drop (off + s)) r else none
    | none => none
  | _, _ => none
def buV (P : Program) (t : TypeId) (parts : List (Nat × Vl)) : Option (List Bool × Vl) := match P.underlying t, tz P t with
  | some (.struct fs), some l => match plc P fs.toList with
    | some pl => match blV pl l parts with
      | some l => some ([], .it true l)
      | none => none
    | none => none
  | _, _ => none
/-- What an operation tells that changes nothing. -/
def valv (P : Program) (σ : St) : Op → Option (List Bool × Vl)
  | .move x => some ([], ev σ x)
  | .assign x => some ([], ev σ x)
  | .extract x i => extV (ev σ x) i
  | .unOp op _ x => unV op (ev σ x)
  | .binOp op t x y _ => binV P t op (ev σ x) (ev σ y) (nzO y)
  | .convert src dst x => cnvV P src dst (ev σ x)
  | .load t x => ldV P σ t (ev σ x)
  | .field t x j => fdV P t (ev σ x) j
  | .fieldAddr t x j => faV P t (ev σ x) j
  | .indexAddr t x i => iaV P σ t (ev σ x) (ev σ i)
  | .index t x i => ixV P t (ev σ x) (ev σ i)
  | .slice t x lo hi none => slV P t (ev σ x) (lo.map (ev σ)) (hi.map (ev σ))
  | .build t parts => buV P t (parts.toList.map fun p => (p.1, ev σ p.2))
  | .call ⟨.builtin .len, xs, ts⟩ => match xs.toList, ts[0]? with
    | [x], some t => match ev σ x, P.underlying t with
      | .it false [.s s], some .string => some ([], .it false [.i .i64 (s.size : Int)])
      | .it false [c], some (.slice _) => match c with
        | .s _ => none
        | c => match lnC σ c with
          | some n => some ([], .it false [.i .i64 n])
          | none => none
      | _, _ => none
    | _, _ => none
  | .call ⟨.builtin .max, xs, _⟩ => mxV true (xs.toList.map (ev σ))
  | .call ⟨.builtin .min, xs, _⟩ => mxV false (xs.toList.map (ev σ))
  | _ => none
end Go.Proofs.YtbjgmnliholmpaaDoor.V
