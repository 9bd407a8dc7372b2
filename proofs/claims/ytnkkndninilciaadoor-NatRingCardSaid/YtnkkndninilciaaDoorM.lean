/- Several texts of this claim, put together. -/
import Derived.Test.YtnkkndninilciaaDoorXWords
import Derived.Test.YtnkkndninilciaaDoorX1
import Derived.Test.YtnkkndninilciaaDoorX2
import Derived.Test.YtnkkndninilciaaDoorX3
import Derived.Test.YtnkkndninilciaaDoorX4
import Derived.Test.YtnkkndninilciaaDoorX5
import Derived.Test.YtnkkndninilciaaDoorX6
import Derived.Test.YtnkkndninilciaaDoorX9
import Derived.Test.YtnkkndninilciaaDoorX7
import Derived.Test.YtnkkndninilciaaDoorX11
/- Digits: what a row of digits stands for, and the one right row of a number (no Go in it). -/
namespace Go.Proofs.YtnkkndninilciaaDoor.M
open Go.RowKit Go.Proofs.YtnkkndninilciaaDoorW.PrintWords

/-- What a row of digits to the base b stands for, the lowest first. -/
def V (b : Int) : List Int→Int
 | []=>0
 | x :: xs=>x + b * V b xs
/-- Each is a digit. -/
def Dig (b : Int) (l : List Int) : Prop:=∀ x ∈ l,0≤x∧x < b
/-- The right row of a number. -/
def D (b : Nat) (n : Nat) : List Int:=
 if _h : n = 0∨b < 2 then [] else((n % b : Nat) : Int) :: D b (n / b)
termination_by n
decreasing_by exact Nat.div_lt_self (by omega) (by omega)

theorem D_zero (b : Nat) : D b 0 = []:=by rw [D];simp
theorem D_pos {b n : Nat} (hb : 2≤b) (hn : n≠0) : D b n = ((n % b : Nat) : Int) :: D b (n / b):=by
 rw [D,dif_neg (by omega)]
theorem V_append (b : Int) (l r : List Int) : V b (l ++ r) = V b l + b ^ l.length * V b r:=by
 induction l with
 | nil=>simp [V]
 | cons x l ih=>simp only [List.cons_append,V,ih,List.length_cons,Int.pow_succ];rw [Int.mul_add,Int.add_assoc,← Int.mul_assoc,Int.mul_comm b (b ^ l.length)]
theorem V_snoc (b : Int) (l : List Int) (x : Int) : V b (l ++ [x]) = V b l + b ^ l.length * x:=by
 rw [V_append];simp [V]
theorem V_nonneg {b : Int} (hb : 0≤b) {l : List Int} (h : ∀ x ∈ l,0≤x) : 0≤V b l:=by
 induction l with
 | nil=>simp [V]
 | cons x l ih=>
  have h1:=h x (by simp)
  have h2:=ih (fun y hy=>h y (by simp [hy]))
  have h3:=Int.mul_nonneg hb h2
  simp only [V];omega
theorem Dig.nonneg {b : Int} {l : List Int} (h : Dig b l) : ∀ x ∈ l,0≤x:=fun x hx=>(h x hx).1
theorem Dig.cons {b : Int} {x : Int} {l : List Int} : Dig b (x :: l) ↔ (0≤x∧x < b)∧Dig b l:=by
 unfold Dig
 simp
theorem Dig.append {b : Int} {l r : List Int} : Dig b (l ++ r) ↔ Dig b l∧Dig b r:=by
 unfold Dig
 simp only [List.mem_append]
 exact⟨fun h=>⟨fun x hx=>h x (.inl hx),fun x hx=>h x (.inr hx)⟩,fun h x hx=>hx.elim (h.1 x) (h.2 x)⟩
theorem Dig.snoc {b : Int} {x : Int} {l : List Int} (h : Dig b l) (h0 : 0≤x) (h1 : x < b) : Dig b (l ++ [x]):=
 Dig.append.2 ⟨h,fun y hy=>by rw [List.mem_singleton] at hy;subst hy;exact⟨h0,h1⟩⟩
theorem Dig.nil (b : Int) : Dig b []:=fun x hx=>absurd hx (by simp)
theorem D_dig {b : Nat} (hb : 2≤b) (n : Nat) : Dig b (D b n):=by
 induction n using Nat.strongRecOn with
 | _ n ih=>
  by_cases hn : n = 0
  ·subst hn;rw [D_zero];exact Dig.nil _
  ·rw [D_pos hb hn]
   refine Dig.cons.2 ⟨⟨by omega,?_⟩,ih _ (Nat.div_lt_self (by omega) (by omega))⟩
   have:=Nat.mod_lt n (show 0 < b by omega)
   omega
theorem V_D {b : Nat} (hb : 2≤b) (n : Nat) : V b (D b n) = n:=by
 induction n using Nat.strongRecOn with
 | _ n ih=>
  by_cases hn : n = 0
  ·subst hn;rw [D_zero];rfl
  ·rw [D_pos hb hn]
   simp only [V]
   rw [ih _ (Nat.div_lt_self (by omega) (by omega))]
   have:=Nat.div_add_mod n b
   have h2 : ((b * (n / b) + n % b : Nat) : Int) = n:=by rw [this]
   simp only [Int.natCast_add,Int.natCast_mul] at h2
   omega
/-- A row of digits without a nought at its end is the right row of what it stands for. -/
theorem D_of {b : Nat} (hb : 2≤b) {l : List Int} (h : Dig b l) (hl : l.getLast?≠some 0) : l = D b (V b l).toNat:=by
 induction l with
 | nil=>simp [V,D_zero]
 | cons x l ih=>
  obtain⟨⟨hx0,hx1⟩,hd⟩:=Dig.cons.1 h
  have hv:=V_nonneg (b:=(b : Int)) (by omega) hd.nonneg
  have hl' : l.getLast?≠some 0:=by
   cases l with
   | nil=>simp
   | cons y l=>rwa [List.getLast?_cons_cons] at hl
  have e:=ih hd hl'
  have hbv:=Int.mul_nonneg (show(0 : Int)≤(b : Int) by omega) hv
  have hne : (V b (x :: l)).toNat≠0:=by
   simp only [V]
   intro h0
   have hx : x = 0:=by omega
   have hz : (b : Int) * V b l = 0:=by omega
   have hvz : V b l = 0:=by
    rcases Int.mul_eq_zero.1 hz with h1 | h1
    ·omega
    ·exact h1
   rw [hvz] at e
   simp [D_zero] at e
   subst e
   simp [hx] at hl
  rw [D_pos hb hne]
  obtain⟨v,hv'⟩ : ∃ v : Nat,V b l = v:=⟨(V b l).toNat,by omega⟩
  obtain⟨y,rfl⟩ : ∃ y : Nat,x = y:=⟨x.toNat,by omega⟩
  have e2 : (V b ((y : Int) :: l)).toNat = y + b * v:=by
   simp only [V,hv']
   rw [← Int.natCast_mul,← Int.natCast_add,Int.toNat_natCast]
  rw [e2,Nat.add_mul_mod_self_left,Nat.add_mul_div_left _ _ (by omega),Nat.mod_eq_of_lt (by omega),Nat.div_eq_of_lt (by omega),Nat.zero_add]
  rw [hv',Int.toNat_natCast] at e
  rw [← e]
theorem D_last {b : Nat} (hb : 2≤b) (n : Nat) : (D b n).getLast?≠some 0:=by
 induction n using Nat.strongRecOn with
 | _ n ih=>
  by_cases hn : n = 0
  ·subst hn;rw [D_zero];simp
  ·rw [D_pos hb hn]
   have ih':=ih (n / b) (Nat.div_lt_self (by omega) (by omega))
   by_cases h0 : n / b = 0
   ·rw [h0,D_zero]
    simp
    have:=Nat.div_add_mod n b
    rw [h0] at this
    omega
   ·rw [D_pos hb h0] at ih' ⊢
    rw [List.getLast?_cons_cons]
    exact ih'
theorem D_inj {b : Nat} (hb : 2≤b) {n m : Nat} (h : D b n = D b m) : n = m:=by
 have h1:=V_D hb n
 have h2:=V_D hb m
 rw [h] at h1
 omega
theorem V_lt {b : Nat} {l : List Int} (h : Dig b l) : V b l < (b : Int) ^ l.length:=by
 induction l with
 | nil=>simp [V]
 | cons x l ih=>
  obtain⟨⟨hx0,hx1⟩,hd⟩:=Dig.cons.1 h
  have:=ih hd
  simp only [V,List.length_cons,Int.pow_succ]
  have h2 : (b : Int) * (V b l + 1)≤(b : Int) * (b : Int) ^ l.length:=Int.mul_le_mul_of_nonneg_left (by omega) (by omega)
  rw [Int.mul_add,Int.mul_one] at h2
  rw [Int.mul_comm ((b : Int) ^ l.length)]
  omega
theorem D_len {b : Nat} (hb : 2≤b) {n k : Nat} : (D b n).length≤k ↔ n < b ^ k:=by
 induction k generalizing n with
 | zero=>
  by_cases hn : n = 0
  ·subst hn;simp [D_zero]
  ·rw [D_pos hb hn];simp;omega
 | succ k ih=>
  by_cases hn : n = 0
  ·subst hn
   simp [D_zero]
   exact Nat.pow_pos (by omega)
  ·rw [D_pos hb hn,List.length_cons,Nat.add_le_add_iff_right,ih,Nat.div_lt_iff_lt_mul (by omega),Nat.pow_succ]
theorem V_getD {b : Int} (l : List Int) (i : Nat) : V b (l.drop i) = l.getD i 0 + b * V b (l.drop (i + 1)):=by
 by_cases h : i < l.length
 ·rw [List.drop_eq_getElem_cons h]
  simp [V,List.getD,h]
 ·rw [List.drop_eq_nil_of_le (by omega),List.drop_eq_nil_of_le (by omega)]
  simp [V,List.getD,List.getElem?_eq_none (show l.length≤i by omega)]
theorem V_take_succ {b : Int} (l : List Int) (i : Nat) (h : i < l.length) : V b (l.take (i + 1)) = V b (l.take i) + b ^ i * l.getD i 0:=by
 rw [List.take_succ_eq_append_getElem h,V_snoc,List.length_take,Nat.min_eq_left (by omega)]
 simp [List.getD,h]
theorem V_set {b : Int} (l : List Int) (i : Nat) (x : Int) (h : i < l.length) : V b (l.set i x) = V b l + b ^ i * (x - l.getD i 0):=by
 induction l generalizing i with
 | nil=>simp at h
 | cons y l ih=>
  cases i with
  | zero=>simp [V];omega
  | succ i=>
   simp only [List.set_cons_succ,V]
   rw [ih i (by simpa using h),Int.pow_succ,Int.mul_add,List.getD_cons_succ,Int.add_assoc,Int.mul_comm (b ^ i) b,Int.mul_assoc]
theorem V_replicate (b : Int) (n : Nat) : V b (List.replicate n 0) = 0:=by
 induction n with
 | zero=>rfl
 | succ n ih=>rw [List.replicate_succ,V,ih];simp

-- machine arithmetic
theorem w64 {x : Int} (h0 : -9223372036854775808≤x) (h1 : x < 9223372036854775808) : wrap64 x = x:=by unfold wrap64;omega
theorem wu {x : Int} (h0 : 0≤x) (h1 : x < 18446744073709551616) : IntKind.u64.wrap x = x:=by rw [IntKind.wrap_u64];omega
theorem tm {x : Int} (b : Int) (h0 : 0≤x) : Int.tmod x b = x % b:=Int.tmod_eq_emod_of_nonneg h0
theorem td {x : Int} (b : Int) (h0 : 0≤x) : Int.tdiv x b = x / b:=Int.tdiv_eq_ediv_of_nonneg h0
theorem rd_nat (l : List Int) (i : Nat) : rd l (i : Int) = l.getD i 0:=by unfold rd;simp
theorem getD_mem {l : List Int} {P : Int→Prop} (h : ∀ x ∈ l,P x) (h0 : P 0) (i : Nat) : P (l.getD i 0):=by
 by_cases hi : i < l.length
 ·rw [List.getD_eq_getElem?_getD,List.getElem?_eq_getElem hi];exact h _ (List.getElem_mem hi)
 ·rw [List.getD_eq_getElem?_getD,List.getElem?_eq_none (by omega)];exact h0
theorem V_take_next {b : Int} (l : List Int) (i : Nat) : V b (l.take (i + 1)) = V b (l.take i) + b ^ i * l.getD i 0:=by
 by_cases h : i < l.length
 ·exact V_take_succ l i h
 ·rw [List.take_of_length_le (by omega),List.take_of_length_le (by omega),List.getD_eq_getElem?_getD,List.getElem?_eq_none (by omega)];simp
/-- A row of n that is filled up to i. -/
structure Fill (P : Int→Prop) (n i : Nat) (l : List Int) : Prop where
 len : l.length = n
 all : ∀ x ∈ l,P x
 zero : ∀ j,i≤j→l.getD j 0 = 0
theorem Fill.start {P : Int→Prop} (h : P 0) (n : Nat) : Fill P n 0 (List.replicate n 0):=by
 refine⟨by simp,fun x hx=>by rw [List.eq_of_mem_replicate hx];exact h,fun j _=>?_⟩
 rw [List.getD_eq_getElem?_getD,List.getElem?_replicate]
 split <;> rfl
theorem mem_set {P : Int→Prop} {l : List Int} (h : ∀ x ∈ l,P x) {x : Int} (hx : P x) (i : Nat) : ∀ y ∈ l.set i x,P y:=by
 intro y hy
 rcases List.mem_or_eq_of_mem_set hy with h1 | h1
 ·exact h y h1
 ·rw [h1];exact hx
theorem getD_set_ne {l : List Int} {i j : Nat} (x : Int) (h : i≠j) : (l.set i x).getD j 0 = l.getD j 0:=by
 rw [List.getD_eq_getElem?_getD,List.getD_eq_getElem?_getD,List.getElem?_set_ne h]
theorem getD_set_eq {l : List Int} {i : Nat} (x : Int) (h : i < l.length) : (l.set i x).getD i 0 = x:=by
 rw [List.getD_eq_getElem?_getD,List.getElem?_set_self h];rfl
theorem Fill.set {P : Int→Prop} {n i : Nat} {l : List Int} (h : Fill P n i l) {x : Int} (hx : P x) : Fill P n (i + 1) (l.set i x):=
 ⟨by rw [List.length_set,h.len],mem_set h.all hx i,fun j hj=>by rw [getD_set_ne x (by omega)];exact h.zero j (by omega)⟩
theorem Fill.val {P : Int→Prop} {n i : Nat} {l : List Int} (h : Fill P n i l) (b x : Int) (hi : i < n) : V b (l.set i x) = V b l + b ^ i * x:=by
 rw [V_set l i x (by rw [h.len];exact hi),h.zero i (Nat.le_refl _),Int.sub_zero]
theorem D_take {b : Nat} (hb : 2≤b) (n j : Nat) : V b ((D b n).take j) = ((n % b ^ j : Nat) : Int):=by
 induction j generalizing n with
 | zero=>simp [V,Nat.mod_one]
 | succ j ih=>
  by_cases hn : n = 0
  ·subst hn;simp [D_zero,V]
  ·rw [D_pos hb hn,List.take_succ_cons,V,ih,Nat.pow_succ,Nat.mul_comm (b ^ j),Nat.mod_mul]
   simp
theorem D_len_add {b : Nat} (hb : 2≤b) (n m : Nat) : (D b (n + m)).length≤(D b n).length + (D b m).length + 1:=by
 rw [D_len hb]
 have h1:=(D_len hb (n:=n)).1 (Nat.le_refl _)
 have h2:=(D_len hb (n:=m)).1 (Nat.le_refl _)
 generalize (D b n).length = p at *
 generalize (D b m).length = q at *
 have e1 : b ^ p≤b ^ (p + q):=Nat.pow_le_pow_right (by omega) (by omega)
 have e2 : b ^ q≤b ^ (p + q):=Nat.pow_le_pow_right (by omega) (by omega)
 rw [Nat.pow_succ]
 have e3 : b ^ (p + q) * 2≤b ^ (p + q) * b:=Nat.mul_le_mul_left _ hb
 omega
theorem D_len_mul {b : Nat} (hb : 2≤b) (n m : Nat) : (D b (n * m)).length≤(D b n).length + (D b m).length:=by
 rw [D_len hb,Nat.pow_add]
 exact Nat.mul_lt_mul'' ((D_len hb).1 (Nat.le_refl _)) ((D_len hb).1 (Nat.le_refl _))
theorem D_len_mono {b : Nat} (hb : 2≤b) {n m : Nat} (h : n≤m) : (D b n).length≤(D b m).length:=by
 rw [D_len hb]
 exact Nat.lt_of_le_of_lt h ((D_len hb).1 (Nat.le_refl _))
/-- A row whose entries are below b² is not much longer than its right row. -/
theorem V_len' {b : Nat} {l : List Int} (h : ∀ x ∈ l,0≤x∧x≤(b : Int) * b - b) : V b l≤(b : Int) ^ (l.length + 1) - b:=by
 induction l with
 | nil=>simp [V,Int.pow_succ]
 | cons x l ih=>
  have h1:=ih (fun y hy=>h y (by simp [hy]))
  have h2:=h x (by simp)
  simp only [V,List.length_cons]
  have h3 : (b : Int) * V b l≤(b : Int) * ((b : Int) ^ (l.length + 1) - b):=Int.mul_le_mul_of_nonneg_left h1 (by omega)
  rw [Int.mul_sub] at h3
  rw [Int.pow_succ,Int.mul_comm ((b : Int) ^ (l.length + 1))]
  omega
theorem D_len_V {b : Nat} (hb : 2≤b) {l : List Int} (h : ∀ x ∈ l,0≤x∧x≤(b : Int) * b - b) : (D b (V b l).toNat).length≤l.length + 1:=by
 rw [D_len hb]
 have h1:=V_len' h
 have h2:=V_nonneg (b:=(b : Int)) (by omega) (fun x hx=>(h x hx).1)
 have h3 : ((b ^ (l.length + 1) : Nat) : Int) = (b : Int) ^ (l.length + 1):=by simp
 omega
end Go.Proofs.YtnkkndninilciaaDoor.M

/- What the functions of package nat compute, in plain Lean over their printed forms: carried, of, row, plus, less, compare, times. -/
namespace Go.Proofs.YtnkkndninilciaaDoor.M
open Go.RowKit Go.Proofs.YtnkkndninilciaaDoor.X Go.Proofs.YtnkkndninilciaaDoorW.PrintWords Go.Proofs.YtnkkndninilciaaDoorW.PrintLast Go.Proofs.YtnkkndninilciaaDoorW.PrintMore

abbrev B : Nat:=1000000000
theorem B2 : 2≤B:=by decide
/-- The row of a number, as the program has it. -/
abbrev D9 (n : Nat) : List Int:=D B n

theorem at_f (l : List Int) (i : Nat) : nat_digits_at.f l (i : Int) = some (l.getD i 0):=by
 unfold nat_digits_at.f
 rw [if_pos (by omega)]
 by_cases h : i < l.length
 ·rw [if_pos (by omega),if_pos (by omega),rd_nat]
 ·rw [if_neg (by omega),List.getD_eq_getElem?_getD,List.getElem?_eq_none (by omega)];rfl

theorem at_neg (l : List Int) (i : Int) (h : i < 0) : nat_digits_at.f l i = some 0:=by
 unfold nat_digits_at.f
 rw [if_neg (by omega)]

theorem top_f (l : List Int) (hl : l.length≤1000000000000000) : nat_digits_top.f l = some (l.getLast?.getD 0):=by
 unfold nat_digits_top.f
 rw [w64 (by omega) (by omega)]
 by_cases h0 : l = []
 ·subst h0
  rw [at_neg _ _ (by simp)]
  rfl
 ·have hp : 0 < l.length:=List.length_pos_iff.2 h0
  rw [show((l.length : Int) - 1) = ((l.length - 1 : Nat) : Int) from by omega,at_f]
  simp [List.getLast?_eq_getElem?]

/-- The noughts at the end fall away. -/
theorem trim_l1 (o : List Int) : Dig B o→o.length≤1000000000000→Ev (fun k=>nat_carried.l1 k o) (D9 (V B o).toNat):=by
 induction h : o.length generalizing o with
 | zero=>
  intro _ _
  obtain rfl:=List.eq_nil_of_length_eq_zero h
  refine Ev.step (f:=fun _=>some []) (fun k=>?_) ?_
  ·simp only [nat_carried.l1]
   rw [if_neg (by simp)]
  ·simp [V,D_zero];exact Ev.now _
 | succ n ih=>
  intro hd hl
  have hne : o≠[]:=by intro h0;subst h0;simp at h
  obtain⟨p,x,rfl⟩ : ∃ p x,o = p ++ [x]:=⟨o.dropLast,o.getLast hne,(List.dropLast_concat_getLast hne).symm⟩
  have hp : p.length = n:=by simpa using h
  have hd':=Dig.append.1 hd
  by_cases hx : x = 0
  ·subst hx
   refine Ev.step (f:=fun k=>nat_carried.l1 k p) (fun k=>?_) ?_
   ·simp only [nat_carried.l1]
    rw [if_pos (by simp;try omega),top_f _ (by simp at h hl ⊢;omega)]
    simp only [Option.bind_some]
    have e : wrap64 (((p ++ [(0 : Int)]).length : Int) - 1) = p.length:=by
     rw [w64 (by simp;try omega) (by simp at h hl ⊢;omega)];simp
    rw [if_pos (by simp),e,if_pos (by omega),if_pos (by simp;omega),Int.toNat_natCast,List.take_left' rfl]
   ·rw [V_snoc,Int.mul_zero,Int.add_zero]
    exact ih p hp hd'.1 (by simp at hl;omega)
  ·refine Ev.step (f:=fun _=>some (p ++ [x])) (fun k=>?_) ?_
   ·simp only [nat_carried.l1]
    rw [if_pos (by simp),top_f _ (by simp at h hl ⊢;omega)]
    simp only [Option.bind_some]
    rw [if_neg (by simpa using hx)]
   ·have e:=D_of B2 hd (by simpa using hx)
    show Ev _ (D B _)
    rw [← e]
    exact Ev.now _

/-- What is left of the carry, behind the last digit. -/
theorem carry_tail (d o : List Int) (c : Nat) : c < 18446744073709551616→Dig B o→d.length≤o.length→o.length + c≤1000000000000→
  Ev (fun k=>nat_carried.l0 k d o (c : Int) (o.length : Int)) (D9 (V B o + (B : Int) ^ o.length * c).toNat):=by
 induction c using Nat.strongRecOn generalizing o with
 | _ c ih=>
  intro hc hd hl hb
  by_cases h0 : c = 0
  ·subst h0
   refine Ev.step (f:=fun k=>nat_carried.l1 k o) (fun k=>?_) ?_
   ·simp only [nat_carried.l0]
    rw [if_neg (by omega),if_neg (by simp)]
   ·simpa using trim_l1 o hd (by omega)
  ·have hlt : c / B < c:=Nat.div_lt_self (by omega) (by decide)
   have hm : c % B < B:=Nat.mod_lt _ (by decide)
   have ih':=ih (c / B) hlt (o ++ [((c % B : Nat) : Int)]) (by omega) (Dig.snoc hd (by omega) (by omega)) (by simp;omega) (by simp;omega)
   refine Ev.step (f:=fun k=>nat_carried.l0 k d (o ++ [((c % B : Nat) : Int)]) ((c / B : Nat) : Int) ((o ++ [((c % B : Nat) : Int)]).length : Int)) (fun k=>?_) ?_
   ·simp only [nat_carried.l0]
    rw [if_neg (by omega),if_pos (by omega),at_f]
    simp only [Option.bind_some]
    rw [List.getD_eq_getElem?_getD,List.getElem?_eq_none hl,Option.getD_none,Int.add_zero,wu (by omega) (by omega),tm _ (by omega),td _ (by omega),if_pos (by omega),wu (by omega) (by omega),w64 (by omega) (by omega)]
    congr 1
    simp
   ·have e : V B o + (B : Int) ^ o.length * c = V B (o ++ [((c % B : Nat) : Int)]) + (B : Int) ^ (o ++ [((c % B : Nat) : Int)]).length * ((c / B : Nat) : Int):=by
     rw [V_snoc,List.length_append,List.length_singleton,Int.pow_succ,Int.add_assoc,Int.mul_assoc,← Int.mul_add]
     congr 2
     have:=Nat.mod_add_div c B
     omega
    rw [e]
    exact ih'
/-- carried: the right row of what a row of any small numbers stands for. -/
theorem carry_l0 (d : List Int) (hd : ∀ x ∈ d,0≤x∧x < 9223372036854775808) (hn : d.length≤1000000000) (m : Nat) :
  ∀ (o : List Int) (c : Nat),o.length + m = d.length→c < 34359738368→Dig B o→
  Ev (fun k=>nat_carried.l0 k d o (c : Int) (o.length : Int)) (D9 (V B o + (B : Int) ^ o.length * (c + V B (d.drop o.length))).toNat):=by
 induction m with
 | zero=>
  intro o c hm hc ho
  have:=carry_tail d o c (by omega) ho (by omega) (by omega)
  rw [List.drop_eq_nil_of_le (by omega)]
  simpa [V] using this
 | succ m ih=>
  intro o c hm hc ho
  obtain⟨x,hx⟩ : ∃ x,d.getD o.length 0 = x:=⟨_,rfl⟩
  have hx':=getD_mem (P:=fun x=>0≤x∧x < 9223372036854775808) hd (by omega) o.length
  rw [hx] at hx'
  obtain⟨y,rfl⟩ : ∃ y : Nat,x = y:=⟨x.toNat,by omega⟩
  have hmod : (c + y) % B < B:=Nat.mod_lt _ (by decide)
  have hdv : (c + y) / B < 34359738368:=by
   rw [Nat.div_lt_iff_lt_mul (by decide)]
   show c + y < 34359738368 * 1000000000
   omega
  have ih':=ih (o ++ [(((c + y) % B : Nat) : Int)]) ((c + y) / B) (by simp;omega) hdv (Dig.snoc ho (by omega) (by omega))
  refine Ev.step (f:=fun k=>nat_carried.l0 k d (o ++ [(((c + y) % B : Nat) : Int)]) (((c + y) / B : Nat) : Int) ((o ++ [(((c + y) % B : Nat) : Int)]).length : Int)) (fun k=>?_) ?_
  ·simp only [nat_carried.l0]
   rw [if_pos (by omega),at_f]
   simp only [Option.bind_some]
   rw [hx,wu (by omega) (by omega),tm _ (by omega),td _ (by omega),if_pos (by omega),wu (by omega) (by omega),w64 (by omega) (by omega)]
   congr 1
   simp
  ·have e : V B o + (B : Int) ^ o.length * (c + V B (d.drop o.length)) = V B (o ++ [(((c + y) % B : Nat) : Int)]) + (B : Int) ^ (o ++ [(((c + y) % B : Nat) : Int)]).length * ((((c + y) / B : Nat) : Int) + V B (d.drop (o ++ [(((c + y) % B : Nat) : Int)]).length)):=by
    rw [V_snoc,List.length_append,List.length_singleton,Int.pow_succ,Int.add_assoc,Int.mul_assoc,← Int.mul_add,V_getD d o.length,hx]
    congr 2
    have:=Nat.mod_add_div (c + y) B
    rw [Int.mul_add]
    omega
   rw [e]
   exact ih'

theorem carried_f (d : List Int) (hd : ∀ x ∈ d,0≤x∧x < 9223372036854775808) (hn : d.length≤1000000000) :
  Ev (fun k=>nat_carried.f k d) (D9 (V B d).toNat):=by
 have h:=carry_l0 d hd hn d.length [] 0 (by simp) (by omega) (Dig.nil _)
 simp only [V,List.length_nil,List.drop_zero,Int.pow_zero,Int.one_mul,Int.zero_add,Int.ofNat_zero] at h
 refine Ev.congr (fun k=>?_) h
 unfold nat_carried.f
 rw [w64 (by omega) (by omega),if_pos (by omega),if_pos (by omega)]
end Go.Proofs.YtnkkndninilciaaDoor.M

/- What the functions of package nat compute, in plain Lean over their printed forms: of, row, plus, less, compare. -/
namespace Go.Proofs.YtnkkndninilciaaDoor.M
open Go.RowKit Go.Proofs.YtnkkndninilciaaDoor.X Go.Proofs.YtnkkndninilciaaDoorW.PrintWords Go.Proofs.YtnkkndninilciaaDoorW.PrintLast Go.Proofs.YtnkkndninilciaaDoorW.PrintMore

/-- Each is a uint32. -/
abbrev U32 (l : List Int) : Prop:=∀ x ∈ l,0≤x∧x < 4294967296
theorem of_l0 (l : List Int) (hl : U32 l) (hn : l.length≤1000000) (m : Nat) : ∀ (i : Nat) (a : List Int),i + m = l.length→
  Fill (fun x=>0≤x∧x < 4294967296) l.length i a→V B a = V B (l.take i)→
  Ev (fun k=>nat_of.l0 k a l (l.length : Int) (i : Int)) (D9 (V B l).toNat):=by
 induction m with
 | zero=>
  intro i a hi hf hv
  refine Ev.step (f:=fun k=>(nat_carried.f k a).bind fun t=>some t) (fun k=>?_) ?_
  ·simp only [nat_of.l0]
   rw [if_neg (by omega)]
  ·rw [List.take_of_length_le (by omega)] at hv
   rw [← hv]
   refine Ev.bind (carried_f a (fun x hx=>?_) (by rw [hf.len];omega)) (Ev.now _)
   have:=hf.all x hx
   omega
 | succ m ih=>
  intro i a hi hf hv
  have hx:=getD_mem (P:=fun x=>0≤x∧x < 4294967296) hl (by omega) i
  have ha:=hf.len
  refine Ev.step (f:=fun k=>nat_of.l0 k (a.set i (l.getD i 0)) l (l.length : Int) ((i + 1 : Nat) : Int)) (fun k=>?_) (ih (i + 1) _ (by omega) (hf.set hx) ?_)
  ·simp only [nat_of.l0]
   rw [if_pos (by omega),if_pos (by omega),if_pos (by omega),if_pos (by omega),rd_nat,wu (by omega) (by omega),w64 (by omega) (by omega)]
   rfl
  ·rw [hf.val B _ (by omega),hv,V_take_next]
theorem of_f (l : List Int) (hl : U32 l) (hn : l.length≤1000000) : Ev (fun k=>nat_of.f k l) (D9 (V B l).toNat):=by
 refine Ev.congr (fun k=>?_) (of_l0 l hl hn l.length 0 _ (by omega) (Fill.start (by omega) _) (by rw [V_replicate];rfl))
 unfold nat_of.f
 rw [if_pos (by omega),if_pos (by omega)]
 rfl

theorem D9_dig (n : Nat) : Dig B (D9 n):=D_dig B2 n
theorem D9_V (n : Nat) : V B (D9 n) = n:=V_D B2 n
theorem Dig9 {l : List Int} (h : Dig B l) : ∀ x ∈ l,0≤x∧x < 1000000000:=h
theorem D9_lt (n : Nat) : ∀ x ∈ D9 n,0≤x∧x < 1000000000:=D9_dig n
theorem D9_at (n i : Nat) : 0≤(D9 n).getD i 0∧(D9 n).getD i 0 < 1000000000:=getD_mem (P:=fun x=>0≤x∧x < 1000000000) (D9_lt n) (by omega) i
theorem row_l0 (l : List Int) (hl : Dig B l) (hn : l.length≤1000000) (m : Nat) : ∀ (i : Nat),i + m = l.length→
  Ev (fun k=>nat_number_row.l0 k (l.take i) l (l.length : Int) (i : Int)) l:=by
 induction m with
 | zero=>
  intro i hi
  refine Ev.step (f:=fun _=>some l) (fun k=>?_) (Ev.now _)
  simp only [nat_number_row.l0]
  rw [if_neg (by omega),List.take_of_length_le (by omega)]
 | succ m ih=>
  intro i hi
  refine Ev.step (f:=fun k=>nat_number_row.l0 k (l.take (i + 1)) l (l.length : Int) ((i + 1 : Nat) : Int)) (fun k=>?_) (ih (i + 1) (by omega))
  have hx:=getD_mem (P:=fun x=>0≤x∧x < 1000000000) (Dig9 hl) (by omega) i
  simp only [nat_number_row.l0]
  rw [if_pos (by omega),if_pos (by omega),if_pos (by omega),if_pos (by simp;omega),rd_nat,w64 (by omega) (by omega),Int.emod_eq_of_lt (by omega) (by omega),List.take_succ_eq_append_getElem (by omega)]
  congr 2
  simp [List.getD,show i < l.length by omega]
theorem row_f (n : Nat) (hn : (D9 n).length≤1000000) : Ev (fun k=>nat_number_row.f k (D9 n)) (D9 n):=
 Ev.congr (fun k=>rfl) (row_l0 (D9 n) (D9_dig n) hn (D9 n).length 0 (by omega))

theorem plus_l0 (n m : Nat) (L : Nat) (hL1 : (D9 n).length≤L) (hL2 : (D9 m).length≤L) (hL : L≤1000000) (q : Nat) : ∀ (i : Nat) (a : List Int),i + q = L→
  Fill (fun x=>0≤x∧x < 4294967296) L i a→V B a = V B ((D9 n).take i) + V B ((D9 m).take i)→
  Ev (fun k=>nat_number_plus.l0 k a (L : Int) (i : Int) (D9 n) (D9 m)) (D9 (n + m)):=by
 induction q with
 | zero=>
  intro i a hi hf hv
  refine Ev.step (f:=fun k=>(nat_carried.f k a).bind fun t=>some t) (fun k=>?_) ?_
  ·simp only [nat_number_plus.l0]
   rw [if_neg (by omega)]
  ·rw [List.take_of_length_le (by omega),List.take_of_length_le (by omega),D9_V,D9_V] at hv
   have e : (V B a).toNat = n + m:=by rw [hv];omega
   rw [← e]
   refine Ev.bind (carried_f a (fun x hx=>?_) (by rw [hf.len];omega)) (Ev.now _)
   have:=hf.all x hx
   omega
 | succ q ih=>
  intro i a hi hf hv
  have hx:=D9_at n i
  have hy:=D9_at m i
  have ha:=hf.len
  refine Ev.step (f:=fun k=>nat_number_plus.l0 k (a.set i ((D9 n).getD i 0 + (D9 m).getD i 0)) (L : Int) ((i + 1 : Nat) : Int) (D9 n) (D9 m)) (fun k=>?_) (ih (i + 1) _ (by omega) (hf.set ⟨by omega,by omega⟩) ?_)
  ·simp only [nat_number_plus.l0]
   rw [if_pos (by omega),at_f,at_f]
   simp only [Option.bind_some]
   rw [if_pos (by omega),if_pos (by omega),wu (by omega) (by omega),w64 (by omega) (by omega)]
   rfl
  ·rw [hf.val B _ (by omega),hv,V_take_next,V_take_next,Int.mul_add]
   omega
theorem plus_f (n m : Nat) (h1 : (D9 n).length≤1000000) (h2 : (D9 m).length≤1000000) : Ev (fun k=>nat_number_plus.f k (D9 n) (D9 m)) (D9 (n + m)):=by
 by_cases h : (D9 n).length < (D9 m).length
 ·refine Ev.congr (fun k=>?_) (plus_l0 n m (D9 m).length (by omega) (by omega) h2 (D9 m).length 0 _ (by omega) (Fill.start (by omega) _) (by rw [V_replicate];simp [V]))
  unfold nat_number_plus.f
  rw [if_pos (by omega),if_pos (by omega),if_pos (by omega)]
  simp only [Option.bind_some,List.length_replicate,Int.toNat_natCast]
  rfl
 ·refine Ev.congr (fun k=>?_) (plus_l0 n m (D9 n).length (by omega) (by omega) h1 (D9 n).length 0 _ (by omega) (Fill.start (by omega) _) (by rw [V_replicate];simp [V]))
  unfold nat_number_plus.f
  rw [if_neg (by omega),if_pos (by omega),if_pos (by omega)]
  simp only [Option.bind_some,List.length_replicate,Int.toNat_natCast]
  rfl

theorem less_l0 (n m : Nat) (hnm : m≤n) (h1 : (D9 n).length≤1000000) (q : Nat) : ∀ (i : Nat) (a : List Int) (c : Int),i + q = (D9 n).length→(0≤c∧c≤1)→
  Fill (fun x=>0≤x∧x < 1000000000) (D9 n).length i a→V B a = V B ((D9 n).take i) - V B ((D9 m).take i) + (B : Int) ^ i * c→
  Ev (fun k=>nat_number_less.l0 k a c ((D9 n).length : Int) (i : Int) (D9 n) (D9 m)) (D9 (n - m)):=by
 induction q with
 | zero=>
  intro i a c hi hc hf hv
  refine Ev.step (f:=fun k=>(nat_carried.f k a).bind fun t=>some t) (fun k=>?_) ?_
  ·simp only [nat_number_less.l0]
   rw [if_neg (by omega)]
  ·have hml : (D9 m).length≤(D9 n).length:=D_len_mono B2 hnm
   rw [List.take_of_length_le (by omega),List.take_of_length_le (by omega),D9_V,D9_V] at hv
   have hlt:=V_lt (b:=B) (l:=a) hf.all
   rw [hf.len,show(D9 n).length = i by omega] at hlt
   have hc0 : c = 0:=by
    rcases (show c = 0∨c = 1 by omega) with h | h
    ·exact h
    ·rw [h,Int.mul_one] at hv
     generalize (B : Int) ^ i = w at *
     omega
   rw [hc0,Int.mul_zero] at hv
   have e : (V B a).toNat = n - m:=by rw [hv];omega
   rw [← e]
   refine Ev.bind (carried_f a (fun x hx=>?_) (by rw [hf.len];omega)) (Ev.now _)
   have:=hf.all x hx
   omega
 | succ q ih=>
  intro i a c hi hc hf hv
  have hx:=D9_at n i
  have hy:=D9_at m i
  have ha:=hf.len
  obtain⟨s,hs⟩ : ∃ s,s = (D9 n).getD i 0 + 1000000000 - (D9 m).getD i 0 - c:=⟨_,rfl⟩
  refine Ev.step (f:=fun k=>nat_number_less.l0 k (a.set i (s % 1000000000)) (1 - s / 1000000000) ((D9 n).length : Int) ((i + 1 : Nat) : Int) (D9 n) (D9 m)) (fun k=>?_) (ih (i + 1) _ _ (by omega) (by omega) (hf.set ⟨by omega,by omega⟩) ?_)
  ·simp only [nat_number_less.l0]
   rw [if_pos (by omega),at_f,at_f]
   simp only [Option.bind_some]
   rw [if_pos (by omega),if_pos (by omega),wu (x:=_ + _) (by omega) (by omega),wu (x:=(D9 n).getD i 0 + 1000000000 - (D9 m).getD i 0) (by omega) (by omega),wu (x:=(D9 n).getD i 0 + 1000000000 - (D9 m).getD i 0 - c) (by omega) (by omega),← hs,tm _ (by omega),td _ (by omega),wu (x:=s / _) (by omega) (by omega),wu (by omega) (by omega),w64 (by omega) (by omega)]
   rfl
  ·rw [hf.val B _ (by omega),hv,V_take_next,V_take_next,Int.pow_succ,Int.mul_assoc]
   have e : (D9 n).getD i 0 - (D9 m).getD i 0 + (B : Int) * (1 - s / 1000000000) = c + s % 1000000000:=by
    show _ + 1000000000 * _ = _
    omega
   generalize V B ((D9 n).take i) = p at *
   generalize V B ((D9 m).take i) = q at *
   generalize (B : Int) ^ i = w at *
   have e2 : w * ((D9 n).getD i 0 - (D9 m).getD i 0 + (B : Int) * (1 - s / 1000000000)) = w * (c + s % 1000000000):=by rw [e]
   rw [Int.mul_add,Int.mul_sub,Int.mul_add] at e2
   omega
theorem less_f (n m : Nat) (hnm : m≤n) (h1 : (D9 n).length≤1000000) : Ev (fun k=>nat_number_less.f k (D9 n) (D9 m)) (D9 (n - m)):=by
 refine Ev.congr (fun k=>?_) (less_l0 n m hnm h1 (D9 n).length 0 _ 0 (by omega) (by omega) (Fill.start (by omega) _) (by rw [V_replicate];simp [V]))
 unfold nat_number_less.f
 rw [if_pos (by omega),if_pos (by omega)]
 simp only [Option.bind_some,List.length_replicate,Int.toNat_natCast]
 rfl

/-- Less, equal, more. -/
def sgn (x y : Int) : Int:=if x < y then -1 else if y < x then 1 else 0
theorem sgn_le {x y : Int} : sgn x y≤0 ↔ x≤y:=by
 unfold sgn
 split
 ·omega
 ·split <;> omega
theorem sgn_lt {x y : Int} : sgn x y < 0 ↔ x < y:=by
 unfold sgn
 split
 ·omega
 ·split <;> omega
theorem cmpI_f (x y : Int) : cmp_Compare_int.f x y = some (sgn x y):=by
 unfold cmp_Compare_int.f cmp_isNaN_int.f sgn
 simp
 split
 ·rfl
 ·split <;> rfl
theorem cmpU_f (x y : Int) : cmp_Compare_uint64.f x y = some (sgn x y):=by
 unfold cmp_Compare_uint64.f cmp_isNaN_uint64.f sgn
 simp
 split
 ·rfl
 ·split <;> rfl
theorem compare_out (s i : Int) (a b : List Int) (h : i < 0∨s≠0) : Ev (fun k=>nat_number_compare.l0 k s i a b) s:=by
 refine Ev.step (f:=fun k=>nat_number_compare.j1 k s i false a b) (fun k=>?_) (Ev.step (f:=fun _=>some s) (fun k=>?_) (Ev.now _))
 ·simp only [nat_number_compare.l0]
  by_cases hi : i≥0
  ·rw [if_pos hi,show(s == 0) = false from by simp;omega]
  ·rw [if_neg hi]
 ·simp only [nat_number_compare.j1]
  rw [if_neg (by simp)]
theorem compare_l0 (n m : Nat) : ∀ (i : Nat),i≤1000000→Ev (fun k=>nat_number_compare.l0 k 0 ((i : Int) - 1) (D9 n) (D9 m)) (sgn (V B ((D9 n).take i)) (V B ((D9 m).take i))):=by
 intro i
 induction i with
 | zero=>intro _;exact compare_out 0 _ _ _ (by omega)
 | succ i ih=>
  intro hi
  refine Ev.step (f:=fun k=>nat_number_compare.j1 k 0 (((i + 1 : Nat) : Int) - 1) true (D9 n) (D9 m)) (fun k=>?_) ?_
  ·simp only [nat_number_compare.l0]
   rw [if_pos (by omega)]
   rfl
  refine Ev.step (f:=fun k=>nat_number_compare.l0 k (sgn ((D9 n).getD i 0) ((D9 m).getD i 0)) ((i : Int) - 1) (D9 n) (D9 m)) (fun k=>?_) ?_
  ·simp only [nat_number_compare.j1]
   rw [if_pos trivial,show((i + 1 : Nat) : Int) - 1 = (i : Int) by omega,at_f,at_f]
   simp only [Option.bind_some]
   rw [cmpU_f,w64 (by omega) (by omega)]
   rfl
  rw [V_take_next,V_take_next]
  have h1 : V B ((D9 n).take i) < (B : Int) ^ i:=by rw [D_take B2];exact_mod_cast Nat.mod_lt n (Nat.pow_pos (by decide))
  have h2 : V B ((D9 m).take i) < (B : Int) ^ i:=by rw [D_take B2];exact_mod_cast Nat.mod_lt m (Nat.pow_pos (by decide))
  have h3 : 0≤V B ((D9 n).take i):=by rw [D_take B2];exact Int.natCast_nonneg _
  have h4 : 0≤V B ((D9 m).take i):=by rw [D_take B2];exact Int.natCast_nonneg _
  generalize (D9 n).getD i 0 = x
  generalize (D9 m).getD i 0 = y
  have ih':=ih (by omega)
  generalize V B ((D9 n).take i) = p at *
  generalize V B ((D9 m).take i) = q at *
  generalize (B : Int) ^ i = w at *
  rcases Int.lt_trichotomy x y with h | h | h
  ·have hm : w * (x + 1)≤w * y:=Int.mul_le_mul_of_nonneg_left (by omega) (by omega)
   rw [Int.mul_add,Int.mul_one] at hm
   rw [show sgn (p + w * x) (q + w * y) = -1 from by unfold sgn;rw [if_pos (by omega)],show sgn x y = -1 from by unfold sgn;rw [if_pos (by omega)]]
   exact compare_out _ _ _ _ (by omega)
  ·subst h
   rw [show sgn (p + w * x) (q + w * x) = sgn p q from by unfold sgn;split <;> split <;> first | rfl | omega |(split <;> first | rfl | omega |(split <;> first | rfl | omega)),show sgn x x = 0 from by unfold sgn;simp]
   exact ih'
  ·have hm : w * (y + 1)≤w * x:=Int.mul_le_mul_of_nonneg_left (by omega) (by omega)
   rw [Int.mul_add,Int.mul_one] at hm
   rw [show sgn (p + w * x) (q + w * y) = 1 from by unfold sgn;rw [if_neg (by omega),if_pos (by omega)],show sgn x y = 1 from by unfold sgn;rw [if_neg (by omega),if_pos (by omega)]]
   exact compare_out _ _ _ _ (by omega)
theorem compare_f (n m : Nat) (h1 : (D9 n).length≤1000000) : Ev (fun k=>nat_number_compare.f k (D9 n) (D9 m)) (sgn n m):=by
 have hu : ∀ k,nat_number_compare.f k (D9 n) (D9 m) = nat_number_compare.l0 k (sgn ((D9 n).length : Int) ((D9 m).length : Int)) (((D9 n).length : Int) - 1) (D9 n) (D9 m):=by
  intro k
  unfold nat_number_compare.f
  rw [cmpI_f,w64 (by omega) (by omega)]
  rfl
 refine Ev.congr hu ?_
 rcases Nat.lt_trichotomy (D9 n).length (D9 m).length with h | h | h
 ·have hlt : n < m:=by
   rcases Nat.lt_or_ge n m with h' | h'
   ·exact h'
   ·have : (D9 m).length≤(D9 n).length:=D_len_mono B2 h'
    omega
  rw [show sgn (n : Int) m = -1 from by unfold sgn;rw [if_pos (by omega)],show sgn ((D9 n).length : Int) ((D9 m).length : Int) = -1 from by unfold sgn;rw [if_pos (by omega)]]
  exact compare_out _ _ _ _ (by omega)
 ·have:=compare_l0 n m (D9 n).length h1
  rw [List.take_of_length_le (by omega),List.take_of_length_le (by omega),D9_V,D9_V] at this
  rw [show sgn ((D9 n).length : Int) ((D9 m).length : Int) = 0 from by unfold sgn;rw [if_neg (by omega),if_neg (by omega)]]
  exact this
 ·have hlt : m < n:=by
   rcases Nat.lt_or_ge m n with h' | h'
   ·exact h'
   ·have : (D9 n).length≤(D9 m).length:=D_len_mono B2 h'
    omega
  rw [show sgn (n : Int) m = 1 from by unfold sgn;rw [if_neg (by omega),if_pos (by omega)],show sgn ((D9 n).length : Int) ((D9 m).length : Int) = 1 from by unfold sgn;rw [if_neg (by omega),if_pos (by omega)]]
  exact compare_out _ _ _ _ (by omega)
end Go.Proofs.YtnkkndninilciaaDoor.M

/- What the functions of package nat compute, in plain Lean over their printed forms: times, scaled, digit, parted. -/
namespace Go.Proofs.YtnkkndninilciaaDoor.M
open Go.RowKit Go.Proofs.YtnkkndninilciaaDoor.X Go.Proofs.YtnkkndninilciaaDoorW.PrintWords Go.Proofs.YtnkkndninilciaaDoorW.PrintLast Go.Proofs.YtnkkndninilciaaDoorW.PrintMore

theorem pow_pos' (i : Nat) : 0 < (B : Int) ^ i:=Int.pow_pos (by decide)
/-- One cell of the inner row. -/
theorem cell {a : List Int} (ha : Dig B a) {p : Nat} (hp : p < a.length) {c : Int} (hc : 0≤c∧c < 10000000000) {x y : Int} (hx : 0≤x∧x < 1000000000) (hy : 0≤y∧y < 1000000000) (hpl : a.length≤3000000) (i j : Nat) (hij : i + j = p) :
  ∃ s : Int,s = c + (a.getD p 0 + x * y)∧(0≤s∧s < 10000000000000000000)∧Int.tmod (IntKind.u64.wrap (c + (IntKind.u64.wrap ((rd a (wrap64 ((i : Int) + (j : Int)))) + (IntKind.u64.wrap (x * y)))))) 1000000000 = s % 1000000000∧
   IntKind.u64.wrap (Int.tdiv (IntKind.u64.wrap (c + (IntKind.u64.wrap ((rd a (wrap64 ((i : Int) + (j : Int)))) + (IntKind.u64.wrap (x * y)))))) 1000000000) = s / 1000000000∧
   (0≤s / 1000000000∧s / 1000000000 < 10000000000)∧Dig B (a.set p (s % 1000000000))∧
   V B (a.set p (s % 1000000000)) + (B : Int) ^ (i + (j + 1)) * (s / 1000000000) = V B a + (B : Int) ^ (i + j) * c + (B : Int) ^ i * ((B : Int) ^ j * (x * y)):=by
 have hm0 : 0≤x * y:=Int.mul_nonneg hx.1 hy.1
 have hm1 : x * y≤999999999 * 999999999:=Int.mul_le_mul (by omega) (by omega) hy.1 (by omega)
 have ha':=getD_mem (P:=fun x=>0≤x∧x < 1000000000) ha (by omega) p
 have hr : rd a (wrap64 ((i : Int) + (j : Int))) = a.getD p 0:=by
  rw [w64 (by omega) (by omega),show(i : Int) + j = (p : Int) by omega,rd_nat]
 refine⟨_,rfl,⟨by omega,by omega⟩,?_,?_,⟨by omega,by omega⟩,mem_set ha ⟨by omega,by show _ < (1000000000 : Int);omega⟩ p,?_⟩
 ·rw [hr,wu (x:=x * y) (by omega) (by omega),wu (x:=a.getD p 0 + _) (by omega) (by omega),wu (by omega) (by omega),tm _ (by omega)]
 ·rw [hr,wu (x:=x * y) (by omega) (by omega),wu (x:=a.getD p 0 + _) (by omega) (by omega),wu (x:=c + _) (by omega) (by omega),td _ (by omega),wu (by omega) (by omega)]
 ·obtain⟨s,hs⟩ : ∃ s,s = c + (a.getD p 0 + x * y):=⟨_,rfl⟩
  rw [← hs,V_set a p _ hp,← Int.mul_assoc ((B : Int) ^ i),← Int.pow_add,hij,show i + (j + 1) = p + 1 by omega,Int.pow_succ,Int.mul_assoc]
  have e : s % 1000000000 - a.getD p 0 + (B : Int) * (s / 1000000000) = c + x * y:=by
   show _ + 1000000000 * _ = _
   omega
  have e2 : (B : Int) ^ p * (s % 1000000000 - a.getD p 0 + (B : Int) * (s / 1000000000)) = (B : Int) ^ p * (c + x * y):=by rw [e]
  rw [Int.mul_add,Int.mul_add] at e2
  omega

theorem times_l1 (n m : Nat) (h1 : (D9 n).length≤1000000) (h2 : (D9 m).length≤1000000) (i : Nat) (hi : i < (D9 n).length)
  (q : Nat) : ∀ (j : Nat) (a : List Int) (c : Int),i + j + q = (D9 n).length + (D9 m).length + 1→(0≤c∧c < 10000000000)→a.length = (D9 n).length + (D9 m).length + 1→Dig B a→
  V B a + (B : Int) ^ (i + j) * c = V B ((D9 n).take i) * m + (B : Int) ^ i * ((D9 n).getD i 0 * V B ((D9 m).take j))→
  ∃ a' : List Int,a'.length = (D9 n).length + (D9 m).length + 1∧Dig B a'∧V B a' = V B ((D9 n).take (i + 1)) * m∧
   ∀ R,Ev (fun k=>nat_number_times.l0 k a' (D9 n) ((D9 n).length : Int) ((i + 1 : Nat) : Int) (D9 m)) R→Ev (fun k=>nat_number_times.l1 k a (i : Int) ((D9 n).getD i 0) c (j : Int) (D9 n) ((D9 n).length : Int) (i : Int) (D9 m)) R:=by
 have hB : V B ((D9 n).take (i + 1)) < (B : Int) ^ (i + 1):=by rw [D_take B2];exact_mod_cast Nat.mod_lt n (Nat.pow_pos (by decide))
 have hx:=D9_at n i
 have hmV : (m : Int) < (B : Int) ^ (D9 m).length:=by
  have:=(D_len B2 (n:=m)).1 (Nat.le_refl _)
  exact_mod_cast this
 have htop : V B ((D9 n).take (i + 1)) * m < (B : Int) ^ (i + 1 + (D9 m).length):=by
  rw [D_take B2] at hB ⊢
  rw [Int.pow_add]
  have:=Nat.mul_lt_mul'' (a:=n % B ^ (i + 1)) (b:=m) (c:=B ^ (i + 1)) (d:=B ^ (D9 m).length) (Nat.mod_lt n (Nat.pow_pos (by decide))) ((D_len B2 (n:=m)).1 (Nat.le_refl _))
  exact_mod_cast this
 have hend : ∀ j,(D9 m).length≤j→V B ((D9 n).take i) * m + (B : Int) ^ i * ((D9 n).getD i 0 * V B ((D9 m).take j)) = V B ((D9 n).take (i + 1)) * m:=by
  intro j hj
  rw [List.take_of_length_le hj,D9_V,V_take_next,Int.add_mul,Int.mul_assoc]
 induction q with
 | zero=>
  intro j a c hq hc hl ha hv
    -- i + j is behind the row: the carry is nought
  have hj : (D9 m).length≤j:=by omega
  rw [hend j hj] at hv
  have hV:=V_nonneg (b:=(B : Int)) (by decide) ha.nonneg
  have hc0 : c = 0:=by
   rcases (show c = 0∨1≤c by omega) with h | h
   ·exact h
   ·have e1 : (B : Int) ^ (i + j) * 1≤(B : Int) ^ (i + j) * c:=Int.mul_le_mul_of_nonneg_left h (by have:=pow_pos' (i + j);omega)
    have e2 : (B : Int) ^ (i + 1 + (D9 m).length)≤(B : Int) ^ (i + j):=by
     exact_mod_cast Nat.pow_le_pow_right (n:=B) (by decide) (show i + 1 + (D9 m).length≤i + j by omega)
    generalize (B : Int) ^ (i + j) = w at *
    generalize V B ((D9 n).take (i + 1)) * m = p at *
    generalize (B : Int) ^ (i + 1 + (D9 m).length) = r at *
    omega
  subst hc0
  rw [Int.mul_zero,Int.add_zero] at hv
  refine⟨a,hl,ha,hv,fun R hR=>Ev.step (f:=fun k=>nat_number_times.l0 k a (D9 n) ((D9 n).length : Int) ((i + 1 : Nat) : Int) (D9 m)) (fun k=>?_) hR⟩
  simp only [nat_number_times.l1]
  rw [if_neg (by omega),if_neg (by omega),w64 (by omega) (by omega)]
  rfl
 | succ q ih=>
  intro j a c hq hc hl ha hv
  by_cases hj : j < (D9 m).length
  ·have hy:=D9_at m j
   obtain⟨s,hs,hs',e1,e2,hc',hd',hv'⟩:=cell ha (p:=i + j) (by omega) hc hx hy (by omega) i j rfl
   obtain⟨a',b1,b2,b3,b4⟩:=ih (j + 1) (a.set (i + j) (s % 1000000000)) (s / 1000000000) (by omega) hc' (by rw [List.length_set,hl]) hd' (by
    rw [hv',hv,V_take_next (D9 m) j,Int.mul_add ((D9 n).getD i 0),Int.mul_add ((B : Int) ^ i)]
    have : (B : Int) ^ j * ((D9 n).getD i 0 * (D9 m).getD j 0) = (D9 n).getD i 0 * ((B : Int) ^ j * (D9 m).getD j 0):=by
     rw [← Int.mul_assoc,← Int.mul_assoc,Int.mul_comm ((B : Int) ^ j)]
    rw [this,Int.add_assoc])
   refine⟨a',b1,b2,b3,fun R hR=>Ev.step (f:=_) (fun k=>?_) (b4 R hR)⟩
   simp only [nat_number_times.l1]
   rw [if_pos (by omega),if_pos (by rw [w64 (by omega) (by omega)];omega),if_pos (by rw [w64 (by omega) (by omega)];omega),at_f]
   simp only [Option.bind_some]
   rw [e1,e2,w64 (x:=(i : Int) + j) (by omega) (by omega),show((i : Int) + j).toNat = i + j by omega,w64 (by omega) (by omega)]
   rfl
  ·by_cases hc0 : c = 0
   ·subst hc0
    rw [hend j (by omega),Int.mul_zero,Int.add_zero] at hv
    refine⟨a,hl,ha,hv,fun R hR=>Ev.step (f:=fun k=>nat_number_times.l0 k a (D9 n) ((D9 n).length : Int) ((i + 1 : Nat) : Int) (D9 m)) (fun k=>?_) hR⟩
    simp only [nat_number_times.l1]
    rw [if_neg (by omega),if_neg (by omega),w64 (by omega) (by omega)]
    rfl
   ·have h0 : (D9 m).getD j 0 = 0:=by rw [List.getD_eq_getElem?_getD,List.getElem?_eq_none (by omega)];rfl
    obtain⟨s,hs,hs',e1,e2,hc',hd',hv'⟩:=cell ha (p:=i + j) (by omega) hc hx (y:=(D9 m).getD j 0) (by omega) (by omega) i j rfl
    obtain⟨a',b1,b2,b3,b4⟩:=ih (j + 1) (a.set (i + j) (s % 1000000000)) (s / 1000000000) (by omega) hc' (by rw [List.length_set,hl]) hd' (by
     rw [hv',hv,hend j (by omega),hend (j + 1) (by omega),h0]
     simp)
    refine⟨a',b1,b2,b3,fun R hR=>Ev.step (f:=_) (fun k=>?_) (b4 R hR)⟩
    simp only [nat_number_times.l1]
    rw [if_neg (by omega),if_pos (by omega),if_pos (by rw [w64 (by omega) (by omega)];omega),if_pos (by rw [w64 (by omega) (by omega)];omega),at_f]
    simp only [Option.bind_some]
    rw [e1,e2,w64 (x:=(i : Int) + j) (by omega) (by omega),show((i : Int) + j).toNat = i + j by omega,w64 (by omega) (by omega)]
    rfl

theorem times_l0 (n m : Nat) (h1 : (D9 n).length≤1000000) (h2 : (D9 m).length≤1000000) (q : Nat) : ∀ (i : Nat) (a : List Int),i + q = (D9 n).length→
  a.length = (D9 n).length + (D9 m).length + 1→Dig B a→V B a = V B ((D9 n).take i) * m→
  Ev (fun k=>nat_number_times.l0 k a (D9 n) ((D9 n).length : Int) (i : Int) (D9 m)) (D9 (n * m)):=by
 induction q with
 | zero=>
  intro i a hq hl ha hv
  rw [List.take_of_length_le (by omega),D9_V] at hv
  refine Ev.step (f:=fun k=>(nat_carried.f k a).bind fun t=>some t) (fun k=>?_) ?_
  ·simp only [nat_number_times.l0]
   rw [if_neg (by omega)]
  ·have e : (V B a).toNat = n * m:=by rw [hv,← Int.natCast_mul];rfl
   rw [← e]
   refine Ev.bind (carried_f a (fun x hx=>?_) (by omega)) (Ev.now _)
   have:=Dig9 ha x hx
   omega
 | succ q ih=>
  intro i a hq hl ha hv
  obtain⟨a',b1,b2,b3,b4⟩:=times_l1 n m h1 h2 i (by omega) ((D9 n).length + (D9 m).length + 1 - i) 0 a 0 (by omega) (by omega) hl ha (by simpa [V] using hv)
  refine Ev.step (f:=fun k=>nat_number_times.l1 k a (i : Int) ((D9 n).getD i 0) 0 ((0 : Nat) : Int) (D9 n) ((D9 n).length : Int) (i : Int) (D9 m)) (fun k=>?_) (b4 _ (ih (i + 1) a' (by omega) b1 b2 b3))
  simp only [nat_number_times.l0]
  rw [if_pos (by omega),if_pos (by omega),if_pos (by omega),rd_nat]
  rfl
theorem times_f (n m : Nat) (h1 : (D9 n).length≤1000000) (h2 : (D9 m).length≤1000000) : Ev (fun k=>nat_number_times.f k (D9 n) (D9 m)) (D9 (n * m)):=by
 refine Ev.congr (fun k=>?_) (times_l0 n m h1 h2 (D9 n).length 0 (List.replicate ((D9 n).length + (D9 m).length + 1) 0) (by omega) (by simp) (Fill.start (P:=fun x=>0≤x∧x < ((B : Nat) : Int)) (by decide) _).all (by rw [V_replicate];simp [V]))
 unfold nat_number_times.f
 rw [w64 (x:=((D9 n).length : Int) + _) (by omega) (by omega),w64 (by omega) (by omega),if_pos (by omega),if_pos (by omega),show(((D9 n).length : Int) + ((D9 m).length : Int) + 1).toNat = (D9 n).length + (D9 m).length + 1 by omega]
 rfl
theorem one_f (x : Nat) (h : x < 9223372036854775808) : Ev (fun k=>nat_carried.f k [(x : Int)]) (D9 x):=by
 have:=carried_f [(x : Int)] (fun y hy=>by rw [List.mem_singleton] at hy;omega) (by simp)
 simpa [V] using this
theorem D9_small {x : Nat} (h : x < 1000000000000000000) : (D9 x).length≤2:=(D_len B2).2 (by show x < 1000000000 ^ 2;omega)
theorem scaled_f (n x : Nat) (h1 : (D9 n).length≤1000000) (hx : x < 1000000000000000000) : Ev (fun k=>nat_number_scaled.f k (D9 n) (x : Int)) (D9 (n * x)):=by
 unfold nat_number_scaled.f
 refine Ev.bind (one_f x (by omega)) (Ev.bind (times_f n x h1 (by have:=D9_small hx;omega)) (Ev.now _))

theorem digit_l0 (r d : Nat) (hd : 0 < d) (h1 : (D9 d).length≤900000) (q : Nat) : ∀ (lo hi : Nat),hi - lo≤q→lo≤r / d→r / d≤hi→hi < 1000000000→
  Ev (fun k=>nat_number_digit.l0 k (lo : Int) (hi : Int) (D9 r) (D9 d)) ((r / d : Nat) : Int):=by
 induction q with
 | zero=>
  intro lo hi hq h2 h3 h4
  refine Ev.step (f:=fun _=>some (lo : Int)) (fun k=>?_) ?_
  ·simp only [nat_number_digit.l0]
   rw [if_neg (by omega)]
  ·rw [show lo = r / d by omega];exact Ev.now _
 | succ q ih=>
  intro lo hi hq h2 h3 h4
  by_cases hlt : lo < hi
  ·obtain⟨p,hp⟩ : ∃ p,p = (lo + hi + 1) / 2:=⟨_,rfl⟩
   have hlen : (D9 (d * p)).length≤1000000:=by
    have e1 : (D9 (d * p)).length≤(D9 d).length + (D9 p).length:=D_len_mul B2 d p
    have e2:=D9_small (x:=p) (by omega)
    omega
   refine Ev.step (f:=fun k=>(nat_number_scaled.f k (D9 d) (p : Int)).bind fun t=>(nat_number_compare.f k t (D9 r)).bind fun u=>if u≤0 then nat_number_digit.l0 k (p : Int) (hi : Int) (D9 r) (D9 d) else nat_number_digit.l0 k (lo : Int) ((p - 1 : Nat) : Int) (D9 r) (D9 d)) (fun k=>?_) ?_
   ·simp only [nat_number_digit.l0]
    rw [if_pos (by omega),wu (x:=(lo : Int) + hi) (by omega) (by omega),wu (x:=(lo : Int) + hi + 1) (by omega) (by omega),td _ (by omega),wu (x:=((lo : Int) + hi + 1) / 2) (by omega) (by omega),wu (by omega) (by omega),show((lo : Int) + hi + 1) / 2 = (p : Int) by omega,show(p : Int) - 1 = ((p - 1 : Nat) : Int) by omega]
   ·refine Ev.bind (scaled_f d p (by omega) (by omega)) (Ev.bind (compare_f (d * p) r hlen) ?_)
    by_cases hle : d * p≤r
    ·have : p≤r / d:=(Nat.le_div_iff_mul_le hd).2 (by rw [Nat.mul_comm];exact hle)
     exact Ev.congr (fun k=>if_pos (sgn_le.2 (by omega))) (ih p hi (by omega) this h3 h4)
    ·have : r / d < p:=(Nat.div_lt_iff_lt_mul hd).2 (by rw [Nat.mul_comm];omega)
     exact Ev.congr (fun k=>if_neg (fun h=>by rw [sgn_le] at h;omega)) (ih lo (p - 1) (by omega) h2 (by omega) (by omega))
  ·refine Ev.step (f:=fun _=>some (lo : Int)) (fun k=>?_) ?_
   ·simp only [nat_number_digit.l0]
    rw [if_neg (by omega)]
   ·rw [show lo = r / d by omega];exact Ev.now _
theorem digit_f (r d : Nat) (hr : r < d * B) (h1 : (D9 d).length≤900000) : Ev (fun k=>nat_number_digit.f k (D9 r) (D9 d)) ((r / d : Nat) : Int):=by
 have hd : 0 < d:=by
  rcases Nat.eq_zero_or_pos d with h | h
  ·subst h;omega
  ·exact h
 have : r / d < B:=(Nat.div_lt_iff_lt_mul hd).2 (by rw [Nat.mul_comm];exact hr)
 refine Ev.congr (fun k=>rfl) (digit_l0 r d hd h1 1000000000 0 999999999 (by omega) (Nat.zero_le _) ?_ (by omega))
 have h2 : r / d < 1000000000:=this
 omega

theorem parted_l0 (n d : Nat) (hd : 0 < d) (h1 : (D9 n).length≤800000) (h2 : (D9 d).length≤800000) : ∀ (i : Nat) (a : List Int) (r : Nat),i≤(D9 n).length→
  a.length = (D9 n).length→Dig B a→r < d→V B ((D9 n).drop i) = d * V B (a.drop i) + r→
  Ev (fun k=>nat_number_parted.l0 k a ((i : Int) - 1) (D9 n) (D9 d) (D9 r)) (D9 (n / d),D9 (n % d)):=by
 intro i
 induction i with
 | zero=>
  intro a r hi hl ha hr hv
  refine Ev.step (f:=fun k=>(nat_carried.f k a).bind fun t=>some (t,D9 r)) (fun k=>?_) ?_
  ·simp only [nat_number_parted.l0]
   rw [if_neg (by omega)]
  ·simp only [List.drop_zero,D9_V] at hv
   have hV:=V_nonneg (b:=(B : Int)) (by decide) ha.nonneg
   obtain⟨v,hv'⟩ : ∃ v : Nat,V B a = v:=⟨(V B a).toNat,by omega⟩
   have e : n = d * v + r:=by rw [hv'] at hv;exact_mod_cast hv
   have e1 : n / d = v:=by rw [e,Nat.mul_add_div hd,Nat.div_eq_of_lt hr,Nat.add_zero]
   have e2 : n % d = r:=by rw [e,Nat.mul_add_mod,Nat.mod_eq_of_lt hr]
   rw [e1,e2,show v = (V B a).toNat by omega]
   refine Ev.bind (carried_f a (fun x hx=>?_) (by omega)) (Ev.now _)
   have:=Dig9 ha x hx
   omega
 | succ i ih=>
  intro a r hi hl ha hr hv
  have hx:=D9_at n i
  obtain⟨x,hx'⟩ : ∃ x : Nat,(D9 n).getD i 0 = x:=⟨((D9 n).getD i 0).toNat,by omega⟩
  rw [hx'] at hx
  obtain⟨s,hs⟩ : ∃ s,s = x + B * r:=⟨_,rfl⟩
  have hsd : s < d * B:=by
   have e1 : B * (r + 1)≤B * d:=Nat.mul_le_mul_left _ (by omega)
   rw [Nat.mul_add,Nat.mul_comm B d] at e1
   have e2 : x < B:=by show x < 1000000000;omega
   omega
  have hrl : (D9 r).length≤800000:=by
   have : (D9 r).length≤(D9 d).length:=D_len_mono B2 (by omega)
   omega
  have hq : s / d < B:=(Nat.div_lt_iff_lt_mul hd).2 (by rw [Nat.mul_comm];exact hsd)
  have hq' : s / d < 1000000000:=hq
  have hsl : (D9 s).length≤900000:=by
   have e1 : (D9 s).length≤(D9 (d * B)).length:=D_len_mono B2 (by omega)
   have e2 : (D9 (d * B)).length≤(D9 d).length + (D9 B).length:=D_len_mul B2 d B
   have e3:=D9_small (x:=B) (by decide)
   omega
  have e0 : Ev (fun k=>nat_carried.f k ([(x : Int)] ++ D9 r)) (D9 s):=by
   have:=carried_f ([(x : Int)] ++ D9 r) (fun y hy=>by
    rcases List.mem_append.1 hy with h | h
    ·rw [List.mem_singleton] at h;omega
    ·have:=D9_lt r y h;omega) (by simp;omega)
   rw [List.singleton_append,V,D9_V] at this
   have e : ((x : Int) + (B : Int) * (r : Int)).toNat = s:=by rw [hs,← Int.natCast_mul,← Int.natCast_add];rfl
   rw [e] at this
   exact this
  have hmul : d * (s / d)≤s:=Nat.mul_div_le s d
  have hsub : s - d * (s / d) = s % d:=by have:=Nat.div_add_mod s d;omega
  refine Ev.step (f:=fun k=>(nat_carried.f k ([(x : Int)] ++ D9 r)).bind fun t237=>((nat_number_digit.f k t237 (D9 d)).bind fun t240=>((some (a.set i t240)).bind fun y241=>((nat_number_scaled.f k (D9 d) (y241.getD i 0)).bind fun t243=>((nat_number_less.f k t237 t243).bind fun t246=>(nat_number_parted.l0 k y241 ((i : Int) - 1) (D9 n) (D9 d) t246)))))) (fun k=>?_) ?_
  ·simp only [nat_number_parted.l0]
   rw [if_pos (by omega),show((i + 1 : Nat) : Int) - 1 = (i : Int) by omega,at_f]
   simp only [Option.bind_some]
   rw [if_pos (by simp;omega),hx']
   congr 1;funext t237
   congr 1;funext t240
   rw [if_pos (by omega),if_pos (by omega),w64 (by omega) (by omega),rd_nat]
   rfl
  ·refine Ev.bind e0 (Ev.bind (digit_f s d hsd (by omega)) (Ev.bind (Ev.now _) ?_))
   rw [getD_set_eq _ (by omega)]
   refine Ev.bind (scaled_f d (s / d) (by omega) (by omega)) (Ev.bind (less_f s (d * (s / d)) hmul (by omega)) ?_)
   rw [hsub]
   refine ih (a.set i ((s / d : Nat) : Int)) (s % d) (by omega) (by rw [List.length_set,hl]) (mem_set ha ⟨Int.natCast_nonneg _,Int.ofNat_lt.2 hq⟩ i) (Nat.mod_lt _ hd) ?_
   rw [V_getD (D9 n) i,hv,hx',V_getD (a.set i _) i,getD_set_eq _ (by omega),List.drop_set_of_lt (by omega)]
   have hm:=Nat.div_add_mod s d
   have hm' : ((d * (s / d) + s % d : Nat) : Int) = x + B * r:=by rw [hm,hs];simp
   rw [Int.natCast_add,Int.natCast_mul] at hm'
   have hc : (d : Int) * ((B : Int) * V B (a.drop (i + 1))) = (B : Int) * ((d : Int) * V B (a.drop (i + 1))):=by rw [← Int.mul_assoc,← Int.mul_assoc,Int.mul_comm (d : Int)]
   rw [Int.mul_add,Int.mul_add,hc]
   generalize (B : Int) * ((d : Int) * V B (a.drop (i + 1))) = p at *
   generalize (d : Int) * ((s / d : Nat) : Int) = u at *
   generalize ((s % d : Nat) : Int) = t at *
   omega
theorem parted_f (n d : Nat) (hd : 0 < d) (h1 : (D9 n).length≤800000) (h2 : (D9 d).length≤800000) : Ev (fun k=>nat_number_parted.f k (D9 n) (D9 d)) (D9 (n / d),D9 (n % d)):=by
 have:=parted_l0 n d hd h1 h2 (D9 n).length (List.replicate (D9 n).length 0) 0 (by omega) (by simp) (Fill.start (P:=fun x=>0≤x∧x < ((B : Nat) : Int)) (by decide) _).all hd (by simp [V])
 refine Ev.congr (fun k=>?_) this
 unfold nat_number_parted.f
 rw [if_pos (by omega),if_pos (by omega)]
 simp only [Option.bind_some,List.length_replicate,Int.toNat_natCast]
 rw [w64 (by omega) (by omega),show D9 0 = [] from D_zero B]
end Go.Proofs.YtnkkndninilciaaDoor.M

/- What the exported functions of package nat compute, in plain Lean over their printed forms: Add, Mul, DivMod; and SameLimbs. -/
namespace Go.Proofs.YtnkkndninilciaaDoor.M
open Go.RowKit Go.Proofs.YtnkkndninilciaaDoor.X Go.Proofs.YtnkkndninilciaaDoorW.PrintWords Go.Proofs.YtnkkndninilciaaDoorW.PrintLast Go.Proofs.YtnkkndninilciaaDoorW.PrintMore

/-- The number that a row stands for. -/
def val (l : List Int) : Nat:=(V B l).toNat
theorem val_D (n : Nat) : val (D9 n) = n:=by unfold val;rw [D9_V];rfl
/-- A row that a caller may hand in, of at most N digits. -/
def Row (N : Nat) (l : List Int) : Prop:=U32 l∧l.length≤N
theorem Row.D {N n : Nat} (h : (D9 n).length≤N) : Row N (D9 n):=⟨fun x hx=>by have:=D9_lt n x hx;omega,h⟩
theorem Row.le {N M : Nat} {l : List Int} (h : Row N l) (hm : N≤M) : Row M l:=⟨h.1,by have:=h.2;omega⟩
theorem Row.len {N : Nat} {l : List Int} (h : Row N l) : (D9 (val l)).length≤N + 1:=by
 have h1:=D_len_V B2 (l:=l) (fun x hx=>by have:=h.1 x hx;show 0≤x∧x≤1000000000 * 1000000000 - 1000000000;omega)
 have h2:=h.2
 unfold val
 show(M.D B _).length≤_
 omega
theorem Row.of {N : Nat} {l : List Int} (h : Row N l) (hN : N≤100000) : Ev (fun k=>nat_of.f k l) (D9 (val l)):=of_f l h.1 (by have:=h.2;omega)
theorem rd_L2_nat (L : List (List Int)) (i : Nat) : rd_L2 L (i : Int) = L.getD i []:=by unfold rd_L2;simp
theorem getD_append (p : List (List Int)) (x : List Int) (s : List (List Int)) : (p ++ x :: s).getD p.length [] = x:=by simp [List.getD]

def sumV : List (List Int)→Nat
 | []=>0
 | l :: L=>val l + sumV L
def prodV : List (List Int)→Nat
 | []=>1
 | l :: L=>val l * prodV L
theorem plus_fold (s : List (List Int)) : ∀ (p : List (List Int)) (n : Nat),(∀ l ∈ s,Row 10000 l)→(D9 n).length + 10010 * s.length≤900000→p.length + s.length≤1000→
  Ev (fun k=>nat_folded_at_nat_number_plus.l0 k (p ++ s) ((p ++ s).length : Int) (p.length : Int) (D9 n)) (D9 (n + sumV s)):=by
 induction s with
 | nil=>
  intro p n hs hn hp
  refine Ev.step (f:=fun k=>(nat_number_row.f k (D9 n)).bind fun t=>some t) (fun k=>?_) ?_
  ·simp only [nat_folded_at_nat_number_plus.l0]
   rw [if_neg (by simp)]
  ·exact Ev.bind (row_f n (by omega)) (Ev.now _)
 | cons l s ih=>
  intro p n hs hn hp
  have hl:=hs l (by simp)
  simp only [List.length_cons] at hn hp
  refine Ev.step (f:=fun k=>(nat_of.f k l).bind fun t153=>(nat_number_plus.f k (D9 n) t153).bind fun t156=>nat_folded_at_nat_number_plus.l0 k ((p ++ [l]) ++ s) (((p ++ [l]) ++ s).length : Int) ((p ++ [l]).length : Int) t156) (fun k=>?_) ?_
  ·simp only [nat_folded_at_nat_number_plus.l0]
   rw [if_pos (by simp;omega),if_pos (by omega),if_pos (by simp;omega),rd_L2_nat,getD_append,w64 (by omega) (by omega)]
   simp
  ·have h1:=hl.len
   have h3:=hl.of (by decide)
   have h2 : (D9 (n + val l)).length≤(D9 n).length + (D9 (val l)).length + 1:=D_len_add B2 n (val l)
   refine Ev.bind h3 (Ev.bind (plus_f n (val l) (by omega) (by omega)) ?_)
   have e : n + sumV (l :: s) = n + val l + sumV s:=by rw [sumV,Nat.add_assoc]
   rw [e]
   exact ih (p ++ [l]) (n + val l) (fun y hy=>hs y (by simp [hy])) (by omega) (by simp;omega)
theorem times_fold (s : List (List Int)) : ∀ (p : List (List Int)) (n : Nat),(∀ l ∈ s,Row 10000 l)→(D9 n).length + 10010 * s.length≤900000→p.length + s.length≤1000→
  Ev (fun k=>nat_folded_at_nat_number_times.l0 k (p ++ s) ((p ++ s).length : Int) (p.length : Int) (D9 n)) (D9 (n * prodV s)):=by
 induction s with
 | nil=>
  intro p n hs hn hp
  refine Ev.step (f:=fun k=>(nat_number_row.f k (D9 n)).bind fun t=>some t) (fun k=>?_) ?_
  ·simp only [nat_folded_at_nat_number_times.l0]
   rw [if_neg (by simp)]
  ·rw [prodV,Nat.mul_one]
   exact Ev.bind (row_f n (by omega)) (Ev.now _)
 | cons l s ih=>
  intro p n hs hn hp
  have hl:=hs l (by simp)
  simp only [List.length_cons] at hn hp
  refine Ev.step (f:=fun k=>(nat_of.f k l).bind fun t153=>(nat_number_times.f k (D9 n) t153).bind fun t156=>nat_folded_at_nat_number_times.l0 k ((p ++ [l]) ++ s) (((p ++ [l]) ++ s).length : Int) ((p ++ [l]).length : Int) t156) (fun k=>?_) ?_
  ·simp only [nat_folded_at_nat_number_times.l0]
   rw [if_pos (by simp;omega),if_pos (by omega),if_pos (by simp;omega),rd_L2_nat,getD_append,w64 (by omega) (by omega)]
   simp
  ·have h1:=hl.len
   have h3:=hl.of (by decide)
   have h2 : (D9 (n * val l)).length≤(D9 n).length + (D9 (val l)).length:=D_len_mul B2 n (val l)
   refine Ev.bind h3 (Ev.bind (times_f n (val l) (by omega) (by omega)) ?_)
   have e : n * prodV (l :: s) = n * val l * prodV s:=by rw [prodV,Nat.mul_assoc]
   rw [e]
   exact ih (p ++ [l]) (n * val l) (fun y hy=>hs y (by simp [hy])) (by omega) (by simp;omega)
theorem Add_f (L : List (List Int)) (hL : ∀ l ∈ L,Row 10000 l) (hn : L.length≤20) : Ev (fun k=>nat_Add.f k L) (D9 (sumV L)):=by
 have:=plus_fold L [] 0 hL (by rw [show D9 0 = [] from D_zero B];simp;omega) (by simp;omega)
 rw [Nat.zero_add,show D9 0 = [] from D_zero B] at this
 unfold nat_Add.f
 exact Ev.bind this (Ev.now _)
theorem Mul_f (L : List (List Int)) (hL : ∀ l ∈ L,Row 10000 l) (hn : L.length≤20) : Ev (fun k=>nat_Mul.f k L) (D9 (prodV L)):=by
 have h1 : D9 1 = [1]:=by show D B 1 = _;rw [D_pos B2 (by decide)];show _ :: D B 0 = _;rw [D_zero];rfl
 have:=times_fold L [] 1 hL (by rw [h1];simp;omega) (by simp;omega)
 rw [Nat.one_mul,h1] at this
 unfold nat_Mul.f
 exact Ev.bind this (Ev.now _)

theorem D9_nil {n : Nat} : (D9 n).length = 0 ↔ n = 0:=by
 constructor
 ·intro h
  have:=(D_len B2 (n:=n) (k:=0)).1 (by show(D9 n).length≤0;omega)
  simp at this
  exact this
 ·intro h;subst h;rw [show D9 0 = [] from D_zero B];rfl
theorem DivMod_f (l r : List Int) (hl : Row 10000 l) (hr : Row 10000 r) : Ev (fun k=>nat_DivMod.f k l r) (if val r = 0 then([],[],false) else(D9 (val l / val r),D9 (val l % val r),true)):=by
 have h1:=hl.len
 have h2:=hr.len
 unfold nat_DivMod.f
 refine Ev.bind (hr.of (by omega)) ?_
 by_cases h : val r = 0
 ·rw [if_pos h]
  refine Ev.congr (fun k=>if_pos ?_) (Ev.now _)
  have:=D9_nil.2 h
  omega
 ·rw [if_neg h]
  refine Ev.congr (fun k=>if_neg ?_) ?_
  ·intro h0
   exact h (D9_nil.1 (by omega))
  ·have e1 : (D9 (val l / val r)).length≤(D9 (val l)).length:=D_len_mono B2 (Nat.div_le_self _ _)
   have e2 : (D9 (val l % val r)).length≤(D9 (val l)).length:=D_len_mono B2 (Nat.mod_le _ _)
   exact Ev.bind (hl.of (by omega)) (Ev.bind (parted_f _ _ (by omega) (by omega) (by omega)) (Ev.bind (row_f _ (by omega)) (Ev.bind (row_f _ (by omega)) (Ev.now _))))

theorem limbs_l0 (a b : List Int) (he : a.length = b.length) (hl : a.length≤1000000000) (q : Nat) : ∀ (i : Nat),i + q = a.length→a.take i = b.take i→
  Ev (fun k=>whetstonekit_SameLimbs.l0 k a b (i : Int)) (decide (a = b)):=by
 induction q with
 | zero=>
  intro i hi ht
  rw [List.take_of_length_le (by omega),List.take_of_length_le (by omega)] at ht
  refine Ev.step (f:=fun _=>some true) (fun k=>?_) (by rw [decide_eq_true ht];exact Ev.now _)
  simp only [whetstonekit_SameLimbs.l0]
  rw [if_neg (by omega)]
 | succ q ih=>
  intro i hi ht
  by_cases h : a.getD i 0 = b.getD i 0
  ·refine Ev.step (f:=fun k=>whetstonekit_SameLimbs.l0 k a b ((i + 1 : Nat) : Int)) (fun k=>?_) (ih (i + 1) (by omega) ?_)
   ·simp only [whetstonekit_SameLimbs.l0]
    rw [if_pos (by omega),if_pos (by omega),if_pos (by omega),rd_nat,rd_nat,if_pos h,w64 (by omega) (by omega)]
    rfl
   ·rw [List.take_succ_eq_append_getElem (by omega),List.take_succ_eq_append_getElem (by omega),ht]
    simp only [List.getD,show i < a.length by omega,show i < b.length by omega,List.getElem?_eq_getElem,Option.getD_some] at h
    rw [h]
  ·refine Ev.step (f:=fun _=>some false) (fun k=>?_) (by rw [decide_eq_false (fun e=>h (by rw [e]))];exact Ev.now _)
   simp only [whetstonekit_SameLimbs.l0]
   rw [if_pos (by omega),if_pos (by omega),if_pos (by omega),rd_nat,rd_nat,if_neg h]
end Go.Proofs.YtnkkndninilciaaDoor.M

/- What the statements' own same and few compute, in plain Lean over their printed forms. -/
namespace Go.Proofs.YtnkkndninilciaaDoor.M
open Go.RowKit Go.Proofs.YtnkkndninilciaaDoor.X Go.Proofs.YtnkkndninilciaaDoorW.PrintWords Go.Proofs.YtnkkndninilciaaDoorW.PrintLast Go.Proofs.YtnkkndninilciaaDoorW.PrintMore
theorem same_f (a b : List Int) (hl : a.length≤1000000000) : Ev (fun k=>whetstonelaw01_same.f k a b) (decide (a = b)):=by
 unfold whetstonelaw01_same.f
 refine Ev.bind (a:=decide (a = b)) ?_ (Ev.now _)
 unfold whetstonekit_SameLimbs.f
 by_cases he : a.length = b.length
 ·exact Ev.congr (fun k=>if_pos (by omega)) (limbs_l0 a b he hl a.length 0 (by omega) rfl)
 ·rw [decide_eq_false (fun e=>he (by rw [e]))]
  exact Ev.congr (fun k=>if_neg (by omega)) (Ev.now _)
theorem same_D (n m : Nat) (h : (D9 n).length≤1000000000) : Ev (fun k=>whetstonelaw01_same.f k (D9 n) (D9 m)) (decide (n = m)):=by
 have:=same_f (D9 n) (D9 m) h
 rwa [show decide (D9 n = D9 m) = decide (n = m) from decide_eq_decide.2 ⟨fun h=>D_inj B2 h,fun h=>by rw [h]⟩] at this

/-- few: at most eight rows of at most forty digits. -/
def fewB (L : List (List Int)) : Bool:=L.all (fun l=>decide (l.length≤40)) && decide (L.length≤8)
theorem few_l0 (s : List (List Int)) : ∀ (p : List (List Int)),(p ++ s).length≤maxLen→Ev (fun k=>whetstonelaw01_few.l0 k (p ++ s) (p.length : Int)) (s.all (fun l=>decide (l.length≤40)) && decide ((p ++ s).length≤8)):=by
 induction s with
 | nil=>
  intro p hp
  refine Ev.step (f:=fun _=>some _) (fun k=>?_) (Ev.now _)
  simp only [whetstonelaw01_few.l0]
  rw [if_neg (by simp)]
  simp
  omega
 | cons l s ih=>
  intro p hp
  have hpl : p.length < maxLen:=by simp at hp;omega
  by_cases h : l.length≤40
  ·refine Ev.step (f:=fun k=>whetstonelaw01_few.l0 k ((p ++ [l]) ++ s) ((p ++ [l]).length : Int)) (fun k=>?_) ?_
   ·simp only [whetstonelaw01_few.l0]
    rw [if_pos (by simp;omega),if_pos (by omega),rd_L2_nat,getD_append,if_neg (by omega),w64 (by omega) (by unfold maxLen at hpl;omega)]
    simp
   ·have:=ih (p ++ [l]) (by simpa using hp)
    simpa [h] using this
  ·refine Ev.step (f:=fun _=>some _) (fun k=>?_) (Ev.now _)
   simp only [whetstonelaw01_few.l0]
   rw [if_pos (by simp;omega),if_pos (by omega),rd_L2_nat,getD_append,if_pos (by omega)]
   simp [h]
theorem few_f (L : List (List Int)) (h : L.length≤maxLen) : Ev (fun k=>whetstonelaw01_few.f k L) (fewB L):=few_l0 L [] (by simpa using h)
end Go.Proofs.YtnkkndninilciaaDoor.M

/- awake answers true: the closed example, by the functions' laws. -/
namespace Go.Proofs.YtnkkndninilciaaDoor.M
open Go.RowKit Go.Proofs.YtnkkndninilciaaDoor.X Go.Proofs.YtnkkndninilciaaDoorW.PrintWords Go.Proofs.YtnkkndninilciaaDoorW.PrintLast Go.Proofs.YtnkkndninilciaaDoorW.PrintMore

theorem D9_1 {x : Nat} (h0 : 0 < x) (h1 : x < 1000000000) : D9 x = [(x : Int)]:=by
 show D B x = _
 rw [D_pos B2 (by omega),Nat.mod_eq_of_lt h1,Nat.div_eq_of_lt h1,D_zero]
theorem D9_2 {x y : Nat} (h0 : 0 < y) (h1 : x < 1000000000) (h2 : y < 1000000000) : D9 (x + 1000000000 * y) = [(x : Int),(y : Int)]:=by
 show D B _ = _
 rw [D_pos B2 (by omega),Nat.add_mul_mod_self_left,Nat.add_mul_div_left _ _ (by decide),Nat.mod_eq_of_lt h1,Nat.div_eq_of_lt h1,Nat.zero_add]
 exact congrArg _ (D9_1 h0 h2)
theorem awake_f : Ev (fun k=>whetstonelaw01_awake.f k) true:=by
 have r (l : List Int) (h : l.all (fun x=>decide (0≤x∧x < 4294967296)) = true) (h2 : l.length≤2) : Row 10000 l:=
  ⟨fun x hx=>by simpa using List.all_eq_true.1 h x hx,by omega⟩
 have e1 : val [0,1] = 1000000000:=rfl
 have e2 : val [7] = 7:=rfl
 have e3 : sumV [[999999999],[1]] = 1000000000:=rfl
 have e4 : val [5,1] = 1000000005:=rfl
 have h1:=DivMod_f [0,1] [7] (r _ (by decide) (by simp)) (r _ (by decide) (by simp))
 rw [e1,e2,if_neg (by decide),show(1000000000 : Nat) / 7 = 142857142 by decide,show(1000000000 : Nat) % 7 = 6 by decide,D9_1 (by decide) (by decide),D9_1 (by decide) (by decide)] at h1
 have h2:=Add_f [[999999999],[1]] (fun l hl=>by simp at hl;rcases hl with rfl | rfl <;> exact r _ (by decide) (by simp)) (by simp)
 rw [e3,show(1000000000 : Nat) = 0 + 1000000000 * 1 by decide,D9_2 (by decide) (by decide) (by decide)] at h2
 have h3:=(r [5,1] (by decide) (by simp)).of (by decide)
 rw [e4,show(1000000005 : Nat) = 5 + 1000000000 * 1 by decide,D9_2 (by decide) (by decide) (by decide)] at h3
 unfold whetstonelaw01_awake.f
 refine Ev.bind h1 (Ev.congr (fun k=>if_pos rfl) (Ev.bind h2 (Ev.bind (same_f _ _ (by simp)) (Ev.congr (fun k=>if_pos (by decide)) (Ev.bind (same_f _ _ (by simp)) (Ev.congr (fun k=>if_pos (by decide)) (Ev.bind (same_f _ _ (by simp)) (Ev.congr (fun k=>if_pos (by decide)) ?_))))))))
 unfold nat_Text.f
 refine Ev.bind (a:=(⟨#[49,48,48,48,48,48,48,48,48,53]⟩ : ByteArray)) (Ev.bind h3 ?_) ?_
 ·refine Ev.congr (fun k=>?_) (Ev.now _)
  decide +kernel
 ·refine Ev.congr (fun k=>?_) (Ev.now _)
  decide +kernel
end Go.Proofs.YtnkkndninilciaaDoor.M

/- What Trim, Cmp, Sub and Right compute, in plain Lean over their printed forms. -/
namespace Go.Proofs.YtnkkndninilciaaDoor.M
open Go.RowKit Go.Proofs.YtnkkndninilciaaDoor.X Go.Proofs.YtnkkndninilciaaDoorW.PrintWords Go.Proofs.YtnkkndninilciaaDoorW.PrintLast Go.Proofs.YtnkkndninilciaaDoorW.PrintMore
theorem u32_wf {x : Int} (h : (Lit.int .u32 x).wf = true) : 0≤x∧x < 4294967296:=by
 have h' : IntKind.u32.min≤x∧x≤IntKind.u32.max:=by simpa [Lit.wf] using h
 rw [show IntKind.u32.min = 0 from rfl,show IntKind.u32.max = 4294967295 from rfl] at h'
 omega
theorem Trim_f (l : List Int) (h : Row 10000 l) : Ev (fun k=>nat_Trim.f k l) (D9 (val l)):=by
 have h1:=h.len
 unfold nat_Trim.f
 exact Ev.bind (h.of (by omega)) (Ev.bind (row_f _ (by omega)) (Ev.now _))
theorem Cmp_f (l r : List Int) (h : Row 10000 l) (h' : Row 10000 r) : Ev (fun k=>nat_Cmp.f k l r) (sgn (val l) (val r)):=by
 have h1:=h.len
 unfold nat_Cmp.f
 exact Ev.bind (h.of (by omega)) (Ev.bind (h'.of (by omega)) (Ev.bind (compare_f _ _ (by omega)) (Ev.now _)))
end Go.Proofs.YtnkkndninilciaaDoor.M
