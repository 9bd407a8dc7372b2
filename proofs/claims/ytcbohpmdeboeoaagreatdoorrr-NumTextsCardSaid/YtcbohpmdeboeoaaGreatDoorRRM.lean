/- Several texts of this claim, put together. -/
import Derived.Test.YtcbohpmdeboeoaaGreatDoorRRXWords
import Derived.Test.YtcbohpmdeboeoaaGreatDoorRRX1
import Derived.Test.YtcbohpmdeboeoaaGreatDoorRRX2
import Derived.Test.YtcbohpmdeboeoaaGreatDoorRRX4
import Derived.Test.YtcbohpmdeboeoaaGreatDoorRRX9
import Derived.Test.YtcbohpmdeboeoaaGreatDoorRRX5
import Derived.Test.YtcbohpmdeboeoaaGreatDoorRRX6
import Derived.Test.YtcbohpmdeboeoaaGreatDoorRRX3
import Derived.Test.YtcbohpmdeboeoaaGreatDoorRRX7
import Derived.Test.YtcbohpmdeboeoaaGreatDoorRRX10
import Derived.Test.YtcbohpmdeboeoaaGreatDoorRRX17
import Derived.Test.YtcbohpmdeboeoaaGreatDoorRRX8
import Derived.Test.YtcbohpmdeboeoaaGreatDoorRRX11
import Derived.Test.YtcbohpmdeboeoaaGreatDoorRRX12
import Derived.Lib.Strings
import Derived.Test.YtcbohpmdeboeoaaGreatDoorRRX13
import Derived.Test.YtcbohpmdeboeoaaGreatDoorRRX14
import Derived.Test.YtcbohpmdeboeoaaGreatDoorRRX15
import Derived.Test.YtcbohpmdeboeoaaGreatDoorRRX16
/- Digits: what a row of digits stands for, and the one right row of a number (no Go in it). -/
namespace Go.Proofs.YtcbohpmdeboeoaaGreatDoorRR.M
open Go.RowKit Go.Proofs.YtcbohpmdeboeoaaGreatDoorRRW.PrintWords

/-- What a row of digits to the base b stands for, the lowest first. -/
def V (b : Int) : List Int→Int
 | []=>0
 | x :: xs=>x + b * V b xs
/-- Each is a digit. -/
def Dig (b : Int) (l : List Int) : Prop:=∀ x ∈ l,0≤x∧x < b
/-- The right row of a number. -/
def D (b : Nat) (n : Nat) : List Int:=
 if _h : n = 0∨b < 2 then [] else((n % b : Nat) : Int) :: D b (n / b)
termination_by n
decreasing_by exact Nat.div_lt_self (by omega) (by omega)

theorem D_zero (b : Nat) : D b 0 = []:=by rw [D];simp
theorem D_pos {b n : Nat} (hb : 2≤b) (hn : n≠0) : D b n = ((n % b : Nat) : Int) :: D b (n / b):=by
 rw [D,dif_neg (by omega)]
theorem V_append (b : Int) (l r : List Int) : V b (l ++ r) = V b l + b ^ l.length * V b r:=by
 induction l with
 | nil=>simp [V]
 | cons x l ih=>simp only [List.cons_append,V,ih,List.length_cons,Int.pow_succ];rw [Int.mul_add,Int.add_assoc,← Int.mul_assoc,Int.mul_comm b (b ^ l.length)]
theorem V_snoc (b : Int) (l : List Int) (x : Int) : V b (l ++ [x]) = V b l + b ^ l.length * x:=by
 rw [V_append];simp [V]
theorem V_nonneg {b : Int} (hb : 0≤b) {l : List Int} (h : ∀ x ∈ l,0≤x) : 0≤V b l:=by
 induction l with
 | nil=>simp [V]
 | cons x l ih=>
  have h1:=h x (by simp)
  have h2:=ih (fun y hy=>h y (by simp [hy]))
  have h3:=Int.mul_nonneg hb h2
  simp only [V];omega
theorem Dig.nonneg {b : Int} {l : List Int} (h : Dig b l) : ∀ x ∈ l,0≤x:=fun x hx=>(h x hx).1
theorem Dig.cons {b : Int} {x : Int} {l : List Int} : Dig b (x :: l) ↔ (0≤x∧x < b)∧Dig b l:=by
 unfold Dig
 simp
theorem Dig.append {b : Int} {l r : List Int} : Dig b (l ++ r) ↔ Dig b l∧Dig b r:=by
 unfold Dig
 simp only [List.mem_append]
 exact⟨fun h=>⟨fun x hx=>h x (.inl hx),fun x hx=>h x (.inr hx)⟩,fun h x hx=>hx.elim (h.1 x) (h.2 x)⟩
theorem Dig.snoc {b : Int} {x : Int} {l : List Int} (h : Dig b l) (h0 : 0≤x) (h1 : x < b) : Dig b (l ++ [x]):=
 Dig.append.2 ⟨h,fun y hy=>by rw [List.mem_singleton] at hy;subst hy;exact⟨h0,h1⟩⟩
theorem Dig.nil (b : Int) : Dig b []:=fun x hx=>absurd hx (by simp)
theorem D_dig {b : Nat} (hb : 2≤b) (n : Nat) : Dig b (D b n):=by
 induction n using Nat.strongRecOn with
 | _ n ih=>
  by_cases hn : n = 0
  ·subst hn;rw [D_zero];exact Dig.nil _
  ·rw [D_pos hb hn]
   refine Dig.cons.2 ⟨⟨by omega,?_⟩,ih _ (Nat.div_lt_self (by omega) (by omega))⟩
   have:=Nat.mod_lt n (show 0 < b by omega)
   omega
theorem V_D {b : Nat} (hb : 2≤b) (n : Nat) : V b (D b n) = n:=by
 induction n using Nat.strongRecOn with
 | _ n ih=>
  by_cases hn : n = 0
  ·subst hn;rw [D_zero];rfl
  ·rw [D_pos hb hn]
   simp only [V]
   rw [ih _ (Nat.div_lt_self (by omega) (by omega))]
   have:=Nat.div_add_mod n b
   have h2 : ((b * (n / b) + n % b : Nat) : Int) = n:=by rw [this]
   simp only [Int.natCast_add,Int.natCast_mul] at h2
   omega
/-- A row of digits without a nought at its end is the right row of what it stands for. -/
theorem D_of {b : Nat} (hb : 2≤b) {l : List Int} (h : Dig b l) (hl : l.getLast?≠some 0) : l = D b (V b l).toNat:=by
 induction l with
 | nil=>simp [V,D_zero]
 | cons x l ih=>
  obtain⟨⟨hx0,hx1⟩,hd⟩:=Dig.cons.1 h
  have hv:=V_nonneg (b:=(b : Int)) (by omega) hd.nonneg
  have hl' : l.getLast?≠some 0:=by
   cases l with
   | nil=>simp
   | cons y l=>rwa [List.getLast?_cons_cons] at hl
  have e:=ih hd hl'
  have hbv:=Int.mul_nonneg (show(0 : Int)≤(b : Int) by omega) hv
  have hne : (V b (x :: l)).toNat≠0:=by
   simp only [V]
   intro h0
   have hx : x = 0:=by omega
   have hz : (b : Int) * V b l = 0:=by omega
   have hvz : V b l = 0:=by
    rcases Int.mul_eq_zero.1 hz with h1 | h1
    ·omega
    ·exact h1
   rw [hvz] at e
   simp [D_zero] at e
   subst e
   simp [hx] at hl
  rw [D_pos hb hne]
  obtain⟨v,hv'⟩ : ∃ v : Nat,V b l = v:=⟨(V b l).toNat,by omega⟩
  obtain⟨y,rfl⟩ : ∃ y : Nat,x = y:=⟨x.toNat,by omega⟩
  have e2 : (V b ((y : Int) :: l)).toNat = y + b * v:=by
   simp only [V,hv']
   rw [← Int.natCast_mul,← Int.natCast_add,Int.toNat_natCast]
  rw [e2,Nat.add_mul_mod_self_left,Nat.add_mul_div_left _ _ (by omega),Nat.mod_eq_of_lt (by omega),Nat.div_eq_of_lt (by omega),Nat.zero_add]
  rw [hv',Int.toNat_natCast] at e
  rw [← e]
theorem D_inj {b : Nat} (hb : 2≤b) {n m : Nat} (h : D b n = D b m) : n = m:=by
 have h1:=V_D hb n
 have h2:=V_D hb m
 rw [h] at h1
 omega
theorem V_lt {b : Nat} {l : List Int} (h : Dig b l) : V b l < (b : Int) ^ l.length:=by
 induction l with
 | nil=>simp [V]
 | cons x l ih=>
  obtain⟨⟨hx0,hx1⟩,hd⟩:=Dig.cons.1 h
  have:=ih hd
  simp only [V,List.length_cons,Int.pow_succ]
  have h2 : (b : Int) * (V b l + 1)≤(b : Int) * (b : Int) ^ l.length:=Int.mul_le_mul_of_nonneg_left (by omega) (by omega)
  rw [Int.mul_add,Int.mul_one] at h2
  rw [Int.mul_comm ((b : Int) ^ l.length)]
  omega
theorem D_len {b : Nat} (hb : 2≤b) {n k : Nat} : (D b n).length≤k ↔ n < b ^ k:=by
 induction k generalizing n with
 | zero=>
  by_cases hn : n = 0
  ·subst hn;simp [D_zero]
  ·rw [D_pos hb hn];simp;omega
 | succ k ih=>
  by_cases hn : n = 0
  ·subst hn
   simp [D_zero]
   exact Nat.pow_pos (by omega)
  ·rw [D_pos hb hn,List.length_cons,Nat.add_le_add_iff_right,ih,Nat.div_lt_iff_lt_mul (by omega),Nat.pow_succ]
theorem V_getD {b : Int} (l : List Int) (i : Nat) : V b (l.drop i) = l.getD i 0 + b * V b (l.drop (i + 1)):=by
 by_cases h : i < l.length
 ·rw [List.drop_eq_getElem_cons h]
  simp [V,List.getD,h]
 ·rw [List.drop_eq_nil_of_le (by omega),List.drop_eq_nil_of_le (by omega)]
  simp [V,List.getD,List.getElem?_eq_none (show l.length≤i by omega)]
theorem V_take_succ {b : Int} (l : List Int) (i : Nat) (h : i < l.length) : V b (l.take (i + 1)) = V b (l.take i) + b ^ i * l.getD i 0:=by
 rw [List.take_succ_eq_append_getElem h,V_snoc,List.length_take,Nat.min_eq_left (by omega)]
 simp [List.getD,h]
theorem V_set {b : Int} (l : List Int) (i : Nat) (x : Int) (h : i < l.length) : V b (l.set i x) = V b l + b ^ i * (x - l.getD i 0):=by
 induction l generalizing i with
 | nil=>simp at h
 | cons y l ih=>
  cases i with
  | zero=>simp [V];omega
  | succ i=>
   simp only [List.set_cons_succ,V]
   rw [ih i (by simpa using h),Int.pow_succ,Int.mul_add,List.getD_cons_succ,Int.add_assoc,Int.mul_comm (b ^ i) b,Int.mul_assoc]
theorem V_replicate (b : Int) (n : Nat) : V b (List.replicate n 0) = 0:=by
 induction n with
 | zero=>rfl
 | succ n ih=>rw [List.replicate_succ,V,ih];simp

-- machine arithmetic
theorem w64 {x : Int} (h0 : -9223372036854775808≤x) (h1 : x < 9223372036854775808) : wrap64 x = x:=by unfold wrap64;omega
theorem wu {x : Int} (h0 : 0≤x) (h1 : x < 18446744073709551616) : IntKind.u64.wrap x = x:=by rw [IntKind.wrap_u64];omega
theorem tm {x : Int} (b : Int) (h0 : 0≤x) : Int.tmod x b = x % b:=Int.tmod_eq_emod_of_nonneg h0
theorem td {x : Int} (b : Int) (h0 : 0≤x) : Int.tdiv x b = x / b:=Int.tdiv_eq_ediv_of_nonneg h0
theorem rd_nat (l : List Int) (i : Nat) : rd l (i : Int) = l.getD i 0:=by unfold rd;simp
theorem getD_mem {l : List Int} {P : Int→Prop} (h : ∀ x ∈ l,P x) (h0 : P 0) (i : Nat) : P (l.getD i 0):=by
 by_cases hi : i < l.length
 ·rw [List.getD_eq_getElem?_getD,List.getElem?_eq_getElem hi];exact h _ (List.getElem_mem hi)
 ·rw [List.getD_eq_getElem?_getD,List.getElem?_eq_none (by omega)];exact h0
theorem V_take_next {b : Int} (l : List Int) (i : Nat) : V b (l.take (i + 1)) = V b (l.take i) + b ^ i * l.getD i 0:=by
 by_cases h : i < l.length
 ·exact V_take_succ l i h
 ·rw [List.take_of_length_le (by omega),List.take_of_length_le (by omega),List.getD_eq_getElem?_getD,List.getElem?_eq_none (by omega)];simp
/-- A row of n that is filled up to i. -/
structure Fill (P : Int→Prop) (n i : Nat) (l : List Int) : Prop where
 len : l.length = n
 all : ∀ x ∈ l,P x
 zero : ∀ j,i≤j→l.getD j 0 = 0
theorem Fill.start {P : Int→Prop} (h : P 0) (n : Nat) : Fill P n 0 (List.replicate n 0):=by
 refine⟨by simp,fun x hx=>by rw [List.eq_of_mem_replicate hx];exact h,fun j _=>?_⟩
 rw [List.getD_eq_getElem?_getD,List.getElem?_replicate]
 split <;> rfl
theorem mem_set {P : Int→Prop} {l : List Int} (h : ∀ x ∈ l,P x) {x : Int} (hx : P x) (i : Nat) : ∀ y ∈ l.set i x,P y:=by
 intro y hy
 rcases List.mem_or_eq_of_mem_set hy with h1 | h1
 ·exact h y h1
 ·rw [h1];exact hx
theorem getD_set_ne {l : List Int} {i j : Nat} (x : Int) (h : i≠j) : (l.set i x).getD j 0 = l.getD j 0:=by
 rw [List.getD_eq_getElem?_getD,List.getD_eq_getElem?_getD,List.getElem?_set_ne h]
theorem getD_set_eq {l : List Int} {i : Nat} (x : Int) (h : i < l.length) : (l.set i x).getD i 0 = x:=by
 rw [List.getD_eq_getElem?_getD,List.getElem?_set_self h];rfl
theorem Fill.set {P : Int→Prop} {n i : Nat} {l : List Int} (h : Fill P n i l) {x : Int} (hx : P x) : Fill P n (i + 1) (l.set i x):=
 ⟨by rw [List.length_set,h.len],mem_set h.all hx i,fun j hj=>by rw [getD_set_ne x (by omega)];exact h.zero j (by omega)⟩
theorem Fill.val {P : Int→Prop} {n i : Nat} {l : List Int} (h : Fill P n i l) (b x : Int) (hi : i < n) : V b (l.set i x) = V b l + b ^ i * x:=by
 rw [V_set l i x (by rw [h.len];exact hi),h.zero i (Nat.le_refl _),Int.sub_zero]
theorem D_drop {b : Nat} (hb : 2≤b) (n j : Nat) : (D b n).drop j = D b (n / b ^ j):=by
 induction j generalizing n with
 | zero=>simp
 | succ j ih=>
  by_cases hn : n = 0
  ·subst hn;simp [D_zero]
  ·rw [D_pos hb hn,List.drop_succ_cons,ih,Nat.div_div_eq_div_mul,Nat.pow_succ,Nat.mul_comm]
theorem D_take {b : Nat} (hb : 2≤b) (n j : Nat) : V b ((D b n).take j) = ((n % b ^ j : Nat) : Int):=by
 induction j generalizing n with
 | zero=>simp [V,Nat.mod_one]
 | succ j ih=>
  by_cases hn : n = 0
  ·subst hn;simp [D_zero,V]
  ·rw [D_pos hb hn,List.take_succ_cons,V,ih,Nat.pow_succ,Nat.mul_comm (b ^ j),Nat.mod_mul]
   simp
theorem D_len_add {b : Nat} (hb : 2≤b) (n m : Nat) : (D b (n + m)).length≤(D b n).length + (D b m).length + 1:=by
 rw [D_len hb]
 have h1:=(D_len hb (n:=n)).1 (Nat.le_refl _)
 have h2:=(D_len hb (n:=m)).1 (Nat.le_refl _)
 generalize (D b n).length = p at *
 generalize (D b m).length = q at *
 have e1 : b ^ p≤b ^ (p + q):=Nat.pow_le_pow_right (by omega) (by omega)
 have e2 : b ^ q≤b ^ (p + q):=Nat.pow_le_pow_right (by omega) (by omega)
 rw [Nat.pow_succ]
 have e3 : b ^ (p + q) * 2≤b ^ (p + q) * b:=Nat.mul_le_mul_left _ hb
 omega
theorem D_len_mul {b : Nat} (hb : 2≤b) (n m : Nat) : (D b (n * m)).length≤(D b n).length + (D b m).length:=by
 rw [D_len hb,Nat.pow_add]
 exact Nat.mul_lt_mul'' ((D_len hb).1 (Nat.le_refl _)) ((D_len hb).1 (Nat.le_refl _))
theorem D_len_mono {b : Nat} (hb : 2≤b) {n m : Nat} (h : n≤m) : (D b n).length≤(D b m).length:=by
 rw [D_len hb]
 exact Nat.lt_of_le_of_lt h ((D_len hb).1 (Nat.le_refl _))
/-- A row whose entries are below b² is not much longer than its right row. -/
theorem V_len' {b : Nat} {l : List Int} (h : ∀ x ∈ l,0≤x∧x≤(b : Int) * b - b) : V b l≤(b : Int) ^ (l.length + 1) - b:=by
 induction l with
 | nil=>simp [V,Int.pow_succ]
 | cons x l ih=>
  have h1:=ih (fun y hy=>h y (by simp [hy]))
  have h2:=h x (by simp)
  simp only [V,List.length_cons]
  have h3 : (b : Int) * V b l≤(b : Int) * ((b : Int) ^ (l.length + 1) - b):=Int.mul_le_mul_of_nonneg_left h1 (by omega)
  rw [Int.mul_sub] at h3
  rw [Int.pow_succ,Int.mul_comm ((b : Int) ^ (l.length + 1))]
  omega
theorem D_len_V {b : Nat} (hb : 2≤b) {l : List Int} (h : ∀ x ∈ l,0≤x∧x≤(b : Int) * b - b) : (D b (V b l).toNat).length≤l.length + 1:=by
 rw [D_len hb]
 have h1:=V_len' h
 have h2:=V_nonneg (b:=(b : Int)) (by omega) (fun x hx=>(h x hx).1)
 have h3 : ((b ^ (l.length + 1) : Nat) : Int) = (b : Int) ^ (l.length + 1):=by simp
 omega
end Go.Proofs.YtcbohpmdeboeoaaGreatDoorRR.M

/- What the functions of package nat compute, in plain Lean over their printed forms: carried, of, row, plus, less, compare, times. -/
namespace Go.Proofs.YtcbohpmdeboeoaaGreatDoorRR.M
open Go.RowKit Go.Proofs.YtcbohpmdeboeoaaGreatDoorRR.X Go.Proofs.YtcbohpmdeboeoaaGreatDoorRRW.PrintWords Go.Proofs.YtcbohpmdeboeoaaGreatDoorRRW.PrintLast Go.Proofs.YtcbohpmdeboeoaaGreatDoorRRW.PrintMore

abbrev B : Nat:=1000000000
theorem B2 : 2≤B:=by decide
/-- The row of a number, as the program has it. -/
abbrev D9 (n : Nat) : List Int:=D B n

theorem at_f (l : List Int) (i : Nat) : nat_digits_at.f l (i : Int) = some (l.getD i 0):=by
 unfold nat_digits_at.f
 rw [if_pos (by omega)]
 by_cases h : i < l.length
 ·rw [if_pos (by omega),if_pos (by omega),rd_nat]
 ·rw [if_neg (by omega),List.getD_eq_getElem?_getD,List.getElem?_eq_none (by omega)];rfl

theorem at_neg (l : List Int) (i : Int) (h : i < 0) : nat_digits_at.f l i = some 0:=by
 unfold nat_digits_at.f
 rw [if_neg (by omega)]

theorem top_f (l : List Int) (hl : l.length≤1000000000000000) : nat_digits_top.f l = some (l.getLast?.getD 0):=by
 unfold nat_digits_top.f
 rw [w64 (by omega) (by omega)]
 by_cases h0 : l = []
 ·subst h0
  rw [at_neg _ _ (by simp)]
  rfl
 ·have hp : 0 < l.length:=List.length_pos_iff.2 h0
  rw [show((l.length : Int) - 1) = ((l.length - 1 : Nat) : Int) from by omega,at_f]
  simp [List.getLast?_eq_getElem?]

/-- The noughts at the end fall away. -/
theorem trim_l1 (o : List Int) : Dig B o→o.length≤1000000000000→Ev (fun k=>nat_carried.l1 k o) (D9 (V B o).toNat):=by
 induction h : o.length generalizing o with
 | zero=>
  intro _ _
  obtain rfl:=List.eq_nil_of_length_eq_zero h
  refine Ev.step (f:=fun _=>some []) (fun k=>?_) ?_
  ·simp only [nat_carried.l1]
   rw [if_neg (by simp)]
  ·simp [V,D_zero];exact Ev.now _
 | succ n ih=>
  intro hd hl
  have hne : o≠[]:=by intro h0;subst h0;simp at h
  obtain⟨p,x,rfl⟩ : ∃ p x,o = p ++ [x]:=⟨o.dropLast,o.getLast hne,(List.dropLast_concat_getLast hne).symm⟩
  have hp : p.length = n:=by simpa using h
  have hd':=Dig.append.1 hd
  by_cases hx : x = 0
  ·subst hx
   refine Ev.step (f:=fun k=>nat_carried.l1 k p) (fun k=>?_) ?_
   ·simp only [nat_carried.l1]
    rw [if_pos (by simp;try omega),top_f _ (by simp at h hl ⊢;omega)]
    simp only [Option.bind_some]
    have e : wrap64 (((p ++ [(0 : Int)]).length : Int) - 1) = p.length:=by
     rw [w64 (by simp;try omega) (by simp at h hl ⊢;omega)];simp
    rw [if_pos (by simp),e,if_pos (by omega),if_pos (by simp;omega),Int.toNat_natCast,List.take_left' rfl]
   ·rw [V_snoc,Int.mul_zero,Int.add_zero]
    exact ih p hp hd'.1 (by simp at hl;omega)
  ·refine Ev.step (f:=fun _=>some (p ++ [x])) (fun k=>?_) ?_
   ·simp only [nat_carried.l1]
    rw [if_pos (by simp),top_f _ (by simp at h hl ⊢;omega)]
    simp only [Option.bind_some]
    rw [if_neg (by simpa using hx)]
   ·have e:=D_of B2 hd (by simpa using hx)
    show Ev _ (D B _)
    rw [← e]
    exact Ev.now _

/-- What is left of the carry, behind the last digit. -/
theorem carry_tail (d o : List Int) (c : Nat) : c < 18446744073709551616→Dig B o→d.length≤o.length→o.length + c≤1000000000000→
  Ev (fun k=>nat_carried.l0 k d o (c : Int) (o.length : Int)) (D9 (V B o + (B : Int) ^ o.length * c).toNat):=by
 induction c using Nat.strongRecOn generalizing o with
 | _ c ih=>
  intro hc hd hl hb
  by_cases h0 : c = 0
  ·subst h0
   refine Ev.step (f:=fun k=>nat_carried.l1 k o) (fun k=>?_) ?_
   ·simp only [nat_carried.l0]
    rw [if_neg (by omega),if_neg (by simp)]
   ·simpa using trim_l1 o hd (by omega)
  ·have hlt : c / B < c:=Nat.div_lt_self (by omega) (by decide)
   have hm : c % B < B:=Nat.mod_lt _ (by decide)
   have ih':=ih (c / B) hlt (o ++ [((c % B : Nat) : Int)]) (by omega) (Dig.snoc hd (by omega) (by omega)) (by simp;omega) (by simp;omega)
   refine Ev.step (f:=fun k=>nat_carried.l0 k d (o ++ [((c % B : Nat) : Int)]) ((c / B : Nat) : Int) ((o ++ [((c % B : Nat) : Int)]).length : Int)) (fun k=>?_) ?_
   ·simp only [nat_carried.l0]
    rw [if_neg (by omega),if_pos (by omega),at_f]
    simp only [Option.bind_some]
    rw [List.getD_eq_getElem?_getD,List.getElem?_eq_none hl,Option.getD_none,Int.add_zero,wu (by omega) (by omega),tm _ (by omega),td _ (by omega),if_pos (by omega),wu (by omega) (by omega),w64 (by omega) (by omega)]
    congr 1
    simp
   ·have e : V B o + (B : Int) ^ o.length * c = V B (o ++ [((c % B : Nat) : Int)]) + (B : Int) ^ (o ++ [((c % B : Nat) : Int)]).length * ((c / B : Nat) : Int):=by
     rw [V_snoc,List.length_append,List.length_singleton,Int.pow_succ,Int.add_assoc,Int.mul_assoc,← Int.mul_add]
     congr 2
     have:=Nat.mod_add_div c B
     omega
    rw [e]
    exact ih'
/-- carried: the right row of what a row of any small numbers stands for. -/
theorem carry_l0 (d : List Int) (hd : ∀ x ∈ d,0≤x∧x < 9223372036854775808) (hn : d.length≤1000000000) (m : Nat) :
  ∀ (o : List Int) (c : Nat),o.length + m = d.length→c < 34359738368→Dig B o→
  Ev (fun k=>nat_carried.l0 k d o (c : Int) (o.length : Int)) (D9 (V B o + (B : Int) ^ o.length * (c + V B (d.drop o.length))).toNat):=by
 induction m with
 | zero=>
  intro o c hm hc ho
  have:=carry_tail d o c (by omega) ho (by omega) (by omega)
  rw [List.drop_eq_nil_of_le (by omega)]
  simpa [V] using this
 | succ m ih=>
  intro o c hm hc ho
  obtain⟨x,hx⟩ : ∃ x,d.getD o.length 0 = x:=⟨_,rfl⟩
  have hx':=getD_mem (P:=fun x=>0≤x∧x < 9223372036854775808) hd (by omega) o.length
  rw [hx] at hx'
  obtain⟨y,rfl⟩ : ∃ y : Nat,x = y:=⟨x.toNat,by omega⟩
  have hmod : (c + y) % B < B:=Nat.mod_lt _ (by decide)
  have hdv : (c + y) / B < 34359738368:=by
   rw [Nat.div_lt_iff_lt_mul (by decide)]
   show c + y < 34359738368 * 1000000000
   omega
  have ih':=ih (o ++ [(((c + y) % B : Nat) : Int)]) ((c + y) / B) (by simp;omega) hdv (Dig.snoc ho (by omega) (by omega))
  refine Ev.step (f:=fun k=>nat_carried.l0 k d (o ++ [(((c + y) % B : Nat) : Int)]) (((c + y) / B : Nat) : Int) ((o ++ [(((c + y) % B : Nat) : Int)]).length : Int)) (fun k=>?_) ?_
  ·simp only [nat_carried.l0]
   rw [if_pos (by omega),at_f]
   simp only [Option.bind_some]
   rw [hx,wu (by omega) (by omega),tm _ (by omega),td _ (by omega),if_pos (by omega),wu (by omega) (by omega),w64 (by omega) (by omega)]
   congr 1
   simp
  ·have e : V B o + (B : Int) ^ o.length * (c + V B (d.drop o.length)) = V B (o ++ [(((c + y) % B : Nat) : Int)]) + (B : Int) ^ (o ++ [(((c + y) % B : Nat) : Int)]).length * ((((c + y) / B : Nat) : Int) + V B (d.drop (o ++ [(((c + y) % B : Nat) : Int)]).length)):=by
    rw [V_snoc,List.length_append,List.length_singleton,Int.pow_succ,Int.add_assoc,Int.mul_assoc,← Int.mul_add,V_getD d o.length,hx]
    congr 2
    have:=Nat.mod_add_div (c + y) B
    rw [Int.mul_add]
    omega
   rw [e]
   exact ih'

theorem carried_f (d : List Int) (hd : ∀ x ∈ d,0≤x∧x < 9223372036854775808) (hn : d.length≤1000000000) :
  Ev (fun k=>nat_carried.f k d) (D9 (V B d).toNat):=by
 have h:=carry_l0 d hd hn d.length [] 0 (by simp) (by omega) (Dig.nil _)
 simp only [V,List.length_nil,List.drop_zero,Int.pow_zero,Int.one_mul,Int.zero_add,Int.ofNat_zero] at h
 refine Ev.congr (fun k=>?_) h
 unfold nat_carried.f
 rw [w64 (by omega) (by omega),if_pos (by omega),if_pos (by omega)]
end Go.Proofs.YtcbohpmdeboeoaaGreatDoorRR.M

/- What the functions of package nat compute, in plain Lean over their printed forms: of, row, plus, less, compare. -/
namespace Go.Proofs.YtcbohpmdeboeoaaGreatDoorRR.M
open Go.RowKit Go.Proofs.YtcbohpmdeboeoaaGreatDoorRR.X Go.Proofs.YtcbohpmdeboeoaaGreatDoorRRW.PrintWords Go.Proofs.YtcbohpmdeboeoaaGreatDoorRRW.PrintLast Go.Proofs.YtcbohpmdeboeoaaGreatDoorRRW.PrintMore

/-- Each is a uint32. -/
abbrev U32 (l : List Int) : Prop:=∀ x ∈ l,0≤x∧x < 4294967296
theorem of_l0 (l : List Int) (hl : U32 l) (hn : l.length≤1000000) (m : Nat) : ∀ (i : Nat) (a : List Int),i + m = l.length→
  Fill (fun x=>0≤x∧x < 4294967296) l.length i a→V B a = V B (l.take i)→
  Ev (fun k=>nat_of.l0 k a l (l.length : Int) (i : Int)) (D9 (V B l).toNat):=by
 induction m with
 | zero=>
  intro i a hi hf hv
  refine Ev.step (f:=fun k=>(nat_carried.f k a).bind fun t=>some t) (fun k=>?_) ?_
  ·simp only [nat_of.l0]
   rw [if_neg (by omega)]
  ·rw [List.take_of_length_le (by omega)] at hv
   rw [← hv]
   refine Ev.bind (carried_f a (fun x hx=>?_) (by rw [hf.len];omega)) (Ev.now _)
   have:=hf.all x hx
   omega
 | succ m ih=>
  intro i a hi hf hv
  have hx:=getD_mem (P:=fun x=>0≤x∧x < 4294967296) hl (by omega) i
  have ha:=hf.len
  refine Ev.step (f:=fun k=>nat_of.l0 k (a.set i (l.getD i 0)) l (l.length : Int) ((i + 1 : Nat) : Int)) (fun k=>?_) (ih (i + 1) _ (by omega) (hf.set hx) ?_)
  ·simp only [nat_of.l0]
   rw [if_pos (by omega),if_pos (by omega),if_pos (by omega),if_pos (by omega),rd_nat,wu (by omega) (by omega),w64 (by omega) (by omega)]
   rfl
  ·rw [hf.val B _ (by omega),hv,V_take_next]
theorem of_f (l : List Int) (hl : U32 l) (hn : l.length≤1000000) : Ev (fun k=>nat_of.f k l) (D9 (V B l).toNat):=by
 refine Ev.congr (fun k=>?_) (of_l0 l hl hn l.length 0 _ (by omega) (Fill.start (by omega) _) (by rw [V_replicate];rfl))
 unfold nat_of.f
 rw [if_pos (by omega),if_pos (by omega)]
 rfl

theorem D9_dig (n : Nat) : Dig B (D9 n):=D_dig B2 n
theorem D9_V (n : Nat) : V B (D9 n) = n:=V_D B2 n
theorem Dig9 {l : List Int} (h : Dig B l) : ∀ x ∈ l,0≤x∧x < 1000000000:=h
theorem D9_lt (n : Nat) : ∀ x ∈ D9 n,0≤x∧x < 1000000000:=D9_dig n
theorem D9_at (n i : Nat) : 0≤(D9 n).getD i 0∧(D9 n).getD i 0 < 1000000000:=getD_mem (P:=fun x=>0≤x∧x < 1000000000) (D9_lt n) (by omega) i
theorem row_l0 (l : List Int) (hl : Dig B l) (hn : l.length≤1000000) (m : Nat) : ∀ (i : Nat),i + m = l.length→
  Ev (fun k=>nat_number_row.l0 k (l.take i) l (l.length : Int) (i : Int)) l:=by
 induction m with
 | zero=>
  intro i hi
  refine Ev.step (f:=fun _=>some l) (fun k=>?_) (Ev.now _)
  simp only [nat_number_row.l0]
  rw [if_neg (by omega),List.take_of_length_le (by omega)]
 | succ m ih=>
  intro i hi
  refine Ev.step (f:=fun k=>nat_number_row.l0 k (l.take (i + 1)) l (l.length : Int) ((i + 1 : Nat) : Int)) (fun k=>?_) (ih (i + 1) (by omega))
  have hx:=getD_mem (P:=fun x=>0≤x∧x < 1000000000) (Dig9 hl) (by omega) i
  simp only [nat_number_row.l0]
  rw [if_pos (by omega),if_pos (by omega),if_pos (by omega),if_pos (by simp;omega),rd_nat,w64 (by omega) (by omega),Int.emod_eq_of_lt (by omega) (by omega),List.take_succ_eq_append_getElem (by omega)]
  congr 2
  simp [List.getD,show i < l.length by omega]
theorem row_f (n : Nat) (hn : (D9 n).length≤1000000) : Ev (fun k=>nat_number_row.f k (D9 n)) (D9 n):=
 Ev.congr (fun k=>rfl) (row_l0 (D9 n) (D9_dig n) hn (D9 n).length 0 (by omega))

theorem plus_l0 (n m : Nat) (L : Nat) (hL1 : (D9 n).length≤L) (hL2 : (D9 m).length≤L) (hL : L≤1000000) (q : Nat) : ∀ (i : Nat) (a : List Int),i + q = L→
  Fill (fun x=>0≤x∧x < 4294967296) L i a→V B a = V B ((D9 n).take i) + V B ((D9 m).take i)→
  Ev (fun k=>nat_number_plus.l0 k a (L : Int) (i : Int) (D9 n) (D9 m)) (D9 (n + m)):=by
 induction q with
 | zero=>
  intro i a hi hf hv
  refine Ev.step (f:=fun k=>(nat_carried.f k a).bind fun t=>some t) (fun k=>?_) ?_
  ·simp only [nat_number_plus.l0]
   rw [if_neg (by omega)]
  ·rw [List.take_of_length_le (by omega),List.take_of_length_le (by omega),D9_V,D9_V] at hv
   have e : (V B a).toNat = n + m:=by rw [hv];omega
   rw [← e]
   refine Ev.bind (carried_f a (fun x hx=>?_) (by rw [hf.len];omega)) (Ev.now _)
   have:=hf.all x hx
   omega
 | succ q ih=>
  intro i a hi hf hv
  have hx:=D9_at n i
  have hy:=D9_at m i
  have ha:=hf.len
  refine Ev.step (f:=fun k=>nat_number_plus.l0 k (a.set i ((D9 n).getD i 0 + (D9 m).getD i 0)) (L : Int) ((i + 1 : Nat) : Int) (D9 n) (D9 m)) (fun k=>?_) (ih (i + 1) _ (by omega) (hf.set ⟨by omega,by omega⟩) ?_)
  ·simp only [nat_number_plus.l0]
   rw [if_pos (by omega),at_f,at_f]
   simp only [Option.bind_some]
   rw [if_pos (by omega),if_pos (by omega),wu (by omega) (by omega),w64 (by omega) (by omega)]
   rfl
  ·rw [hf.val B _ (by omega),hv,V_take_next,V_take_next,Int.mul_add]
   omega
theorem plus_f (n m : Nat) (h1 : (D9 n).length≤1000000) (h2 : (D9 m).length≤1000000) : Ev (fun k=>nat_number_plus.f k (D9 n) (D9 m)) (D9 (n + m)):=by
 by_cases h : (D9 n).length < (D9 m).length
 ·refine Ev.congr (fun k=>?_) (plus_l0 n m (D9 m).length (by omega) (by omega) h2 (D9 m).length 0 _ (by omega) (Fill.start (by omega) _) (by rw [V_replicate];simp [V]))
  unfold nat_number_plus.f
  rw [if_pos (by omega),if_pos (by omega),if_pos (by omega)]
  simp only [Option.bind_some,List.length_replicate,Int.toNat_natCast]
  rfl
 ·refine Ev.congr (fun k=>?_) (plus_l0 n m (D9 n).length (by omega) (by omega) h1 (D9 n).length 0 _ (by omega) (Fill.start (by omega) _) (by rw [V_replicate];simp [V]))
  unfold nat_number_plus.f
  rw [if_neg (by omega),if_pos (by omega),if_pos (by omega)]
  simp only [Option.bind_some,List.length_replicate,Int.toNat_natCast]
  rfl

theorem less_l0 (n m : Nat) (hnm : m≤n) (h1 : (D9 n).length≤1000000) (q : Nat) : ∀ (i : Nat) (a : List Int) (c : Int),i + q = (D9 n).length→(0≤c∧c≤1)→
  Fill (fun x=>0≤x∧x < 1000000000) (D9 n).length i a→V B a = V B ((D9 n).take i) - V B ((D9 m).take i) + (B : Int) ^ i * c→
  Ev (fun k=>nat_number_less.l0 k a c ((D9 n).length : Int) (i : Int) (D9 n) (D9 m)) (D9 (n - m)):=by
 induction q with
 | zero=>
  intro i a c hi hc hf hv
  refine Ev.step (f:=fun k=>(nat_carried.f k a).bind fun t=>some t) (fun k=>?_) ?_
  ·simp only [nat_number_less.l0]
   rw [if_neg (by omega)]
  ·have hml : (D9 m).length≤(D9 n).length:=D_len_mono B2 hnm
   rw [List.take_of_length_le (by omega),List.take_of_length_le (by omega),D9_V,D9_V] at hv
   have hlt:=V_lt (b:=B) (l:=a) hf.all
   rw [hf.len,show(D9 n).length = i by omega] at hlt
   have hc0 : c = 0:=by
    rcases (show c = 0∨c = 1 by omega) with h | h
    ·exact h
    ·rw [h,Int.mul_one] at hv
     generalize (B : Int) ^ i = w at *
     omega
   rw [hc0,Int.mul_zero] at hv
   have e : (V B a).toNat = n - m:=by rw [hv];omega
   rw [← e]
   refine Ev.bind (carried_f a (fun x hx=>?_) (by rw [hf.len];omega)) (Ev.now _)
   have:=hf.all x hx
   omega
 | succ q ih=>
  intro i a c hi hc hf hv
  have hx:=D9_at n i
  have hy:=D9_at m i
  have ha:=hf.len
  obtain⟨s,hs⟩ : ∃ s,s = (D9 n).getD i 0 + 1000000000 - (D9 m).getD i 0 - c:=⟨_,rfl⟩
  refine Ev.step (f:=fun k=>nat_number_less.l0 k (a.set i (s % 1000000000)) (1 - s / 1000000000) ((D9 n).length : Int) ((i + 1 : Nat) : Int) (D9 n) (D9 m)) (fun k=>?_) (ih (i + 1) _ _ (by omega) (by omega) (hf.set ⟨by omega,by omega⟩) ?_)
  ·simp only [nat_number_less.l0]
   rw [if_pos (by omega),at_f,at_f]
   simp only [Option.bind_some]
   rw [if_pos (by omega),if_pos (by omega),wu (x:=_ + _) (by omega) (by omega),wu (x:=(D9 n).getD i 0 + 1000000000 - (D9 m).getD i 0) (by omega) (by omega),wu (x:=(D9 n).getD i 0 + 1000000000 - (D9 m).getD i 0 - c) (by omega) (by omega),← hs,tm _ (by omega),td _ (by omega),wu (x:=s / _) (by omega) (by omega),wu (by omega) (by omega),w64 (by omega) (by omega)]
   rfl
  ·rw [hf.val B _ (by omega),hv,V_take_next,V_take_next,Int.pow_succ,Int.mul_assoc]
   have e : (D9 n).getD i 0 - (D9 m).getD i 0 + (B : Int) * (1 - s / 1000000000) = c + s % 1000000000:=by
    show _ + 1000000000 * _ = _
    omega
   generalize V B ((D9 n).take i) = p at *
   generalize V B ((D9 m).take i) = q at *
   generalize (B : Int) ^ i = w at *
   have e2 : w * ((D9 n).getD i 0 - (D9 m).getD i 0 + (B : Int) * (1 - s / 1000000000)) = w * (c + s % 1000000000):=by rw [e]
   rw [Int.mul_add,Int.mul_sub,Int.mul_add] at e2
   omega
theorem less_f (n m : Nat) (hnm : m≤n) (h1 : (D9 n).length≤1000000) : Ev (fun k=>nat_number_less.f k (D9 n) (D9 m)) (D9 (n - m)):=by
 refine Ev.congr (fun k=>?_) (less_l0 n m hnm h1 (D9 n).length 0 _ 0 (by omega) (by omega) (Fill.start (by omega) _) (by rw [V_replicate];simp [V]))
 unfold nat_number_less.f
 rw [if_pos (by omega),if_pos (by omega)]
 simp only [Option.bind_some,List.length_replicate,Int.toNat_natCast]
 rfl

/-- Less, equal, more. -/
def sgn (x y : Int) : Int:=if x < y then -1 else if y < x then 1 else 0
theorem sgn_le {x y : Int} : sgn x y≤0 ↔ x≤y:=by
 unfold sgn
 split
 ·omega
 ·split <;> omega
theorem sgn_lt {x y : Int} : sgn x y < 0 ↔ x < y:=by
 unfold sgn
 split
 ·omega
 ·split <;> omega
theorem cmpI_f (x y : Int) : cmp_Compare_int.f x y = some (sgn x y):=by
 unfold cmp_Compare_int.f cmp_isNaN_int.f sgn
 simp
 split
 ·rfl
 ·split <;> rfl
theorem cmpU_f (x y : Int) : cmp_Compare_uint64.f x y = some (sgn x y):=by
 unfold cmp_Compare_uint64.f cmp_isNaN_uint64.f sgn
 simp
 split
 ·rfl
 ·split <;> rfl
theorem compare_out (s i : Int) (a b : List Int) (h : i < 0∨s≠0) : Ev (fun k=>nat_number_compare.l0 k s i a b) s:=by
 refine Ev.step (f:=fun k=>nat_number_compare.j1 k s i false a b) (fun k=>?_) (Ev.step (f:=fun _=>some s) (fun k=>?_) (Ev.now _))
 ·simp only [nat_number_compare.l0]
  by_cases hi : i≥0
  ·rw [if_pos hi,show(s == 0) = false from by simp;omega]
  ·rw [if_neg hi]
 ·simp only [nat_number_compare.j1]
  rw [if_neg (by simp)]
theorem compare_l0 (n m : Nat) : ∀ (i : Nat),i≤1000000→Ev (fun k=>nat_number_compare.l0 k 0 ((i : Int) - 1) (D9 n) (D9 m)) (sgn (V B ((D9 n).take i)) (V B ((D9 m).take i))):=by
 intro i
 induction i with
 | zero=>intro _;exact compare_out 0 _ _ _ (by omega)
 | succ i ih=>
  intro hi
  refine Ev.step (f:=fun k=>nat_number_compare.j1 k 0 (((i + 1 : Nat) : Int) - 1) true (D9 n) (D9 m)) (fun k=>?_) ?_
  ·simp only [nat_number_compare.l0]
   rw [if_pos (by omega)]
   rfl
  refine Ev.step (f:=fun k=>nat_number_compare.l0 k (sgn ((D9 n).getD i 0) ((D9 m).getD i 0)) ((i : Int) - 1) (D9 n) (D9 m)) (fun k=>?_) ?_
  ·simp only [nat_number_compare.j1]
   rw [if_pos trivial,show((i + 1 : Nat) : Int) - 1 = (i : Int) by omega,at_f,at_f]
   simp only [Option.bind_some]
   rw [cmpU_f,w64 (by omega) (by omega)]
   rfl
  rw [V_take_next,V_take_next]
  have h1 : V B ((D9 n).take i) < (B : Int) ^ i:=by rw [D_take B2];exact_mod_cast Nat.mod_lt n (Nat.pow_pos (by decide))
  have h2 : V B ((D9 m).take i) < (B : Int) ^ i:=by rw [D_take B2];exact_mod_cast Nat.mod_lt m (Nat.pow_pos (by decide))
  have h3 : 0≤V B ((D9 n).take i):=by rw [D_take B2];exact Int.natCast_nonneg _
  have h4 : 0≤V B ((D9 m).take i):=by rw [D_take B2];exact Int.natCast_nonneg _
  generalize (D9 n).getD i 0 = x
  generalize (D9 m).getD i 0 = y
  have ih':=ih (by omega)
  generalize V B ((D9 n).take i) = p at *
  generalize V B ((D9 m).take i) = q at *
  generalize (B : Int) ^ i = w at *
  rcases Int.lt_trichotomy x y with h | h | h
  ·have hm : w * (x + 1)≤w * y:=Int.mul_le_mul_of_nonneg_left (by omega) (by omega)
   rw [Int.mul_add,Int.mul_one] at hm
   rw [show sgn (p + w * x) (q + w * y) = -1 from by unfold sgn;rw [if_pos (by omega)],show sgn x y = -1 from by unfold sgn;rw [if_pos (by omega)]]
   exact compare_out _ _ _ _ (by omega)
  ·subst h
   rw [show sgn (p + w * x) (q + w * x) = sgn p q from by unfold sgn;split <;> split <;> first | rfl | omega |(split <;> first | rfl | omega |(split <;> first | rfl | omega)),show sgn x x = 0 from by unfold sgn;simp]
   exact ih'
  ·have hm : w * (y + 1)≤w * x:=Int.mul_le_mul_of_nonneg_left (by omega) (by omega)
   rw [Int.mul_add,Int.mul_one] at hm
   rw [show sgn (p + w * x) (q + w * y) = 1 from by unfold sgn;rw [if_neg (by omega),if_pos (by omega)],show sgn x y = 1 from by unfold sgn;rw [if_neg (by omega),if_pos (by omega)]]
   exact compare_out _ _ _ _ (by omega)
theorem compare_f (n m : Nat) (h1 : (D9 n).length≤1000000) : Ev (fun k=>nat_number_compare.f k (D9 n) (D9 m)) (sgn n m):=by
 have hu : ∀ k,nat_number_compare.f k (D9 n) (D9 m) = nat_number_compare.l0 k (sgn ((D9 n).length : Int) ((D9 m).length : Int)) (((D9 n).length : Int) - 1) (D9 n) (D9 m):=by
  intro k
  unfold nat_number_compare.f
  rw [cmpI_f,w64 (by omega) (by omega)]
  rfl
 refine Ev.congr hu ?_
 rcases Nat.lt_trichotomy (D9 n).length (D9 m).length with h | h | h
 ·have hlt : n < m:=by
   rcases Nat.lt_or_ge n m with h' | h'
   ·exact h'
   ·have : (D9 m).length≤(D9 n).length:=D_len_mono B2 h'
    omega
  rw [show sgn (n : Int) m = -1 from by unfold sgn;rw [if_pos (by omega)],show sgn ((D9 n).length : Int) ((D9 m).length : Int) = -1 from by unfold sgn;rw [if_pos (by omega)]]
  exact compare_out _ _ _ _ (by omega)
 ·have:=compare_l0 n m (D9 n).length h1
  rw [List.take_of_length_le (by omega),List.take_of_length_le (by omega),D9_V,D9_V] at this
  rw [show sgn ((D9 n).length : Int) ((D9 m).length : Int) = 0 from by unfold sgn;rw [if_neg (by omega),if_neg (by omega)]]
  exact this
 ·have hlt : m < n:=by
   rcases Nat.lt_or_ge m n with h' | h'
   ·exact h'
   ·have : (D9 n).length≤(D9 m).length:=D_len_mono B2 h'
    omega
  rw [show sgn (n : Int) m = 1 from by unfold sgn;rw [if_neg (by omega),if_pos (by omega)],show sgn ((D9 n).length : Int) ((D9 m).length : Int) = 1 from by unfold sgn;rw [if_neg (by omega),if_pos (by omega)]]
  exact compare_out _ _ _ _ (by omega)
end Go.Proofs.YtcbohpmdeboeoaaGreatDoorRR.M

/- What the functions of package nat compute, in plain Lean over their printed forms: times, scaled, digit, parted. -/
namespace Go.Proofs.YtcbohpmdeboeoaaGreatDoorRR.M
open Go.RowKit Go.Proofs.YtcbohpmdeboeoaaGreatDoorRR.X Go.Proofs.YtcbohpmdeboeoaaGreatDoorRRW.PrintWords Go.Proofs.YtcbohpmdeboeoaaGreatDoorRRW.PrintLast Go.Proofs.YtcbohpmdeboeoaaGreatDoorRRW.PrintMore

theorem pow_pos' (i : Nat) : 0 < (B : Int) ^ i:=Int.pow_pos (by decide)
/-- One cell of the inner row. -/
theorem cell {a : List Int} (ha : Dig B a) {p : Nat} (hp : p < a.length) {c : Int} (hc : 0≤c∧c < 10000000000) {x y : Int} (hx : 0≤x∧x < 1000000000) (hy : 0≤y∧y < 1000000000) (hpl : a.length≤3000000) (i j : Nat) (hij : i + j = p) :
  ∃ s : Int,s = c + (a.getD p 0 + x * y)∧(0≤s∧s < 10000000000000000000)∧Int.tmod (IntKind.u64.wrap (c + (IntKind.u64.wrap ((rd a (wrap64 ((i : Int) + (j : Int)))) + (IntKind.u64.wrap (x * y)))))) 1000000000 = s % 1000000000∧
   IntKind.u64.wrap (Int.tdiv (IntKind.u64.wrap (c + (IntKind.u64.wrap ((rd a (wrap64 ((i : Int) + (j : Int)))) + (IntKind.u64.wrap (x * y)))))) 1000000000) = s / 1000000000∧
   (0≤s / 1000000000∧s / 1000000000 < 10000000000)∧Dig B (a.set p (s % 1000000000))∧
   V B (a.set p (s % 1000000000)) + (B : Int) ^ (i + (j + 1)) * (s / 1000000000) = V B a + (B : Int) ^ (i + j) * c + (B : Int) ^ i * ((B : Int) ^ j * (x * y)):=by
 have hm0 : 0≤x * y:=Int.mul_nonneg hx.1 hy.1
 have hm1 : x * y≤999999999 * 999999999:=Int.mul_le_mul (by omega) (by omega) hy.1 (by omega)
 have ha':=getD_mem (P:=fun x=>0≤x∧x < 1000000000) ha (by omega) p
 have hr : rd a (wrap64 ((i : Int) + (j : Int))) = a.getD p 0:=by
  rw [w64 (by omega) (by omega),show(i : Int) + j = (p : Int) by omega,rd_nat]
 refine⟨_,rfl,⟨by omega,by omega⟩,?_,?_,⟨by omega,by omega⟩,mem_set ha ⟨by omega,by show _ < (1000000000 : Int);omega⟩ p,?_⟩
 ·rw [hr,wu (x:=x * y) (by omega) (by omega),wu (x:=a.getD p 0 + _) (by omega) (by omega),wu (by omega) (by omega),tm _ (by omega)]
 ·rw [hr,wu (x:=x * y) (by omega) (by omega),wu (x:=a.getD p 0 + _) (by omega) (by omega),wu (x:=c + _) (by omega) (by omega),td _ (by omega),wu (by omega) (by omega)]
 ·obtain⟨s,hs⟩ : ∃ s,s = c + (a.getD p 0 + x * y):=⟨_,rfl⟩
  rw [← hs,V_set a p _ hp,← Int.mul_assoc ((B : Int) ^ i),← Int.pow_add,hij,show i + (j + 1) = p + 1 by omega,Int.pow_succ,Int.mul_assoc]
  have e : s % 1000000000 - a.getD p 0 + (B : Int) * (s / 1000000000) = c + x * y:=by
   show _ + 1000000000 * _ = _
   omega
  have e2 : (B : Int) ^ p * (s % 1000000000 - a.getD p 0 + (B : Int) * (s / 1000000000)) = (B : Int) ^ p * (c + x * y):=by rw [e]
  rw [Int.mul_add,Int.mul_add] at e2
  omega

theorem times_l1 (n m : Nat) (h1 : (D9 n).length≤1000000) (h2 : (D9 m).length≤1000000) (i : Nat) (hi : i < (D9 n).length)
  (q : Nat) : ∀ (j : Nat) (a : List Int) (c : Int),i + j + q = (D9 n).length + (D9 m).length + 1→(0≤c∧c < 10000000000)→a.length = (D9 n).length + (D9 m).length + 1→Dig B a→
  V B a + (B : Int) ^ (i + j) * c = V B ((D9 n).take i) * m + (B : Int) ^ i * ((D9 n).getD i 0 * V B ((D9 m).take j))→
  ∃ a' : List Int,a'.length = (D9 n).length + (D9 m).length + 1∧Dig B a'∧V B a' = V B ((D9 n).take (i + 1)) * m∧
   ∀ R,Ev (fun k=>nat_number_times.l0 k a' (D9 n) ((D9 n).length : Int) ((i + 1 : Nat) : Int) (D9 m)) R→Ev (fun k=>nat_number_times.l1 k a (i : Int) ((D9 n).getD i 0) c (j : Int) (D9 n) ((D9 n).length : Int) (i : Int) (D9 m)) R:=by
 have hB : V B ((D9 n).take (i + 1)) < (B : Int) ^ (i + 1):=by rw [D_take B2];exact_mod_cast Nat.mod_lt n (Nat.pow_pos (by decide))
 have hx:=D9_at n i
 have hmV : (m : Int) < (B : Int) ^ (D9 m).length:=by
  have:=(D_len B2 (n:=m)).1 (Nat.le_refl _)
  exact_mod_cast this
 have htop : V B ((D9 n).take (i + 1)) * m < (B : Int) ^ (i + 1 + (D9 m).length):=by
  rw [D_take B2] at hB ⊢
  rw [Int.pow_add]
  have:=Nat.mul_lt_mul'' (a:=n % B ^ (i + 1)) (b:=m) (c:=B ^ (i + 1)) (d:=B ^ (D9 m).length) (Nat.mod_lt n (Nat.pow_pos (by decide))) ((D_len B2 (n:=m)).1 (Nat.le_refl _))
  exact_mod_cast this
 have hend : ∀ j,(D9 m).length≤j→V B ((D9 n).take i) * m + (B : Int) ^ i * ((D9 n).getD i 0 * V B ((D9 m).take j)) = V B ((D9 n).take (i + 1)) * m:=by
  intro j hj
  rw [List.take_of_length_le hj,D9_V,V_take_next,Int.add_mul,Int.mul_assoc]
 induction q with
 | zero=>
  intro j a c hq hc hl ha hv
    -- i + j is behind the row: the carry is nought
  have hj : (D9 m).length≤j:=by omega
  rw [hend j hj] at hv
  have hV:=V_nonneg (b:=(B : Int)) (by decide) ha.nonneg
  have hc0 : c = 0:=by
   rcases (show c = 0∨1≤c by omega) with h | h
   ·exact h
   ·have e1 : (B : Int) ^ (i + j) * 1≤(B : Int) ^ (i + j) * c:=Int.mul_le_mul_of_nonneg_left h (by have:=pow_pos' (i + j);omega)
    have e2 : (B : Int) ^ (i + 1 + (D9 m).length)≤(B : Int) ^ (i + j):=by
     exact_mod_cast Nat.pow_le_pow_right (n:=B) (by decide) (show i + 1 + (D9 m).length≤i + j by omega)
    generalize (B : Int) ^ (i + j) = w at *
    generalize V B ((D9 n).take (i + 1)) * m = p at *
    generalize (B : Int) ^ (i + 1 + (D9 m).length) = r at *
    omega
  subst hc0
  rw [Int.mul_zero,Int.add_zero] at hv
  refine⟨a,hl,ha,hv,fun R hR=>Ev.step (f:=fun k=>nat_number_times.l0 k a (D9 n) ((D9 n).length : Int) ((i + 1 : Nat) : Int) (D9 m)) (fun k=>?_) hR⟩
  simp only [nat_number_times.l1]
  rw [if_neg (by omega),if_neg (by omega),w64 (by omega) (by omega)]
  rfl
 | succ q ih=>
  intro j a c hq hc hl ha hv
  by_cases hj : j < (D9 m).length
  ·have hy:=D9_at m j
   obtain⟨s,hs,hs',e1,e2,hc',hd',hv'⟩:=cell ha (p:=i + j) (by omega) hc hx hy (by omega) i j rfl
   obtain⟨a',b1,b2,b3,b4⟩:=ih (j + 1) (a.set (i + j) (s % 1000000000)) (s / 1000000000) (by omega) hc' (by rw [List.length_set,hl]) hd' (by
    rw [hv',hv,V_take_next (D9 m) j,Int.mul_add ((D9 n).getD i 0),Int.mul_add ((B : Int) ^ i)]
    have : (B : Int) ^ j * ((D9 n).getD i 0 * (D9 m).getD j 0) = (D9 n).getD i 0 * ((B : Int) ^ j * (D9 m).getD j 0):=by
     rw [← Int.mul_assoc,← Int.mul_assoc,Int.mul_comm ((B : Int) ^ j)]
    rw [this,Int.add_assoc])
   refine⟨a',b1,b2,b3,fun R hR=>Ev.step (f:=_) (fun k=>?_) (b4 R hR)⟩
   simp only [nat_number_times.l1]
   rw [if_pos (by omega),if_pos (by rw [w64 (by omega) (by omega)];omega),if_pos (by rw [w64 (by omega) (by omega)];omega),at_f]
   simp only [Option.bind_some]
   rw [e1,e2,w64 (x:=(i : Int) + j) (by omega) (by omega),show((i : Int) + j).toNat = i + j by omega,w64 (by omega) (by omega)]
   rfl
  ·by_cases hc0 : c = 0
   ·subst hc0
    rw [hend j (by omega),Int.mul_zero,Int.add_zero] at hv
    refine⟨a,hl,ha,hv,fun R hR=>Ev.step (f:=fun k=>nat_number_times.l0 k a (D9 n) ((D9 n).length : Int) ((i + 1 : Nat) : Int) (D9 m)) (fun k=>?_) hR⟩
    simp only [nat_number_times.l1]
    rw [if_neg (by omega),if_neg (by omega),w64 (by omega) (by omega)]
    rfl
   ·have h0 : (D9 m).getD j 0 = 0:=by rw [List.getD_eq_getElem?_getD,List.getElem?_eq_none (by omega)];rfl
    obtain⟨s,hs,hs',e1,e2,hc',hd',hv'⟩:=cell ha (p:=i + j) (by omega) hc hx (y:=(D9 m).getD j 0) (by omega) (by omega) i j rfl
    obtain⟨a',b1,b2,b3,b4⟩:=ih (j + 1) (a.set (i + j) (s % 1000000000)) (s / 1000000000) (by omega) hc' (by rw [List.length_set,hl]) hd' (by
     rw [hv',hv,hend j (by omega),hend (j + 1) (by omega),h0]
     simp)
    refine⟨a',b1,b2,b3,fun R hR=>Ev.step (f:=_) (fun k=>?_) (b4 R hR)⟩
    simp only [nat_number_times.l1]
    rw [if_neg (by omega),if_pos (by omega),if_pos (by rw [w64 (by omega) (by omega)];omega),if_pos (by rw [w64 (by omega) (by omega)];omega),at_f]
    simp only [Option.bind_some]
    rw [e1,e2,w64 (x:=(i : Int) + j) (by omega) (by omega),show((i : Int) + j).toNat = i + j by omega,w64 (by omega) (by omega)]
    rfl

theorem times_l0 (n m : Nat) (h1 : (D9 n).length≤1000000) (h2 : (D9 m).length≤1000000) (q : Nat) : ∀ (i : Nat) (a : List Int),i + q = (D9 n).length→
  a.length = (D9 n).length + (D9 m).length + 1→Dig B a→V B a = V B ((D9 n).take i) * m→
  Ev (fun k=>nat_number_times.l0 k a (D9 n) ((D9 n).length : Int) (i : Int) (D9 m)) (D9 (n * m)):=by
 induction q with
 | zero=>
  intro i a hq hl ha hv
  rw [List.take_of_length_le (by omega),D9_V] at hv
  refine Ev.step (f:=fun k=>(nat_carried.f k a).bind fun t=>some t) (fun k=>?_) ?_
  ·simp only [nat_number_times.l0]
   rw [if_neg (by omega)]
  ·have e : (V B a).toNat = n * m:=by rw [hv,← Int.natCast_mul];rfl
   rw [← e]
   refine Ev.bind (carried_f a (fun x hx=>?_) (by omega)) (Ev.now _)
   have:=Dig9 ha x hx
   omega
 | succ q ih=>
  intro i a hq hl ha hv
  obtain⟨a',b1,b2,b3,b4⟩:=times_l1 n m h1 h2 i (by omega) ((D9 n).length + (D9 m).length + 1 - i) 0 a 0 (by omega) (by omega) hl ha (by simpa [V] using hv)
  refine Ev.step (f:=fun k=>nat_number_times.l1 k a (i : Int) ((D9 n).getD i 0) 0 ((0 : Nat) : Int) (D9 n) ((D9 n).length : Int) (i : Int) (D9 m)) (fun k=>?_) (b4 _ (ih (i + 1) a' (by omega) b1 b2 b3))
  simp only [nat_number_times.l0]
  rw [if_pos (by omega),if_pos (by omega),if_pos (by omega),rd_nat]
  rfl
theorem times_f (n m : Nat) (h1 : (D9 n).length≤1000000) (h2 : (D9 m).length≤1000000) : Ev (fun k=>nat_number_times.f k (D9 n) (D9 m)) (D9 (n * m)):=by
 refine Ev.congr (fun k=>?_) (times_l0 n m h1 h2 (D9 n).length 0 (List.replicate ((D9 n).length + (D9 m).length + 1) 0) (by omega) (by simp) (Fill.start (P:=fun x=>0≤x∧x < ((B : Nat) : Int)) (by decide) _).all (by rw [V_replicate];simp [V]))
 unfold nat_number_times.f
 rw [w64 (x:=((D9 n).length : Int) + _) (by omega) (by omega),w64 (by omega) (by omega),if_pos (by omega),if_pos (by omega),show(((D9 n).length : Int) + ((D9 m).length : Int) + 1).toNat = (D9 n).length + (D9 m).length + 1 by omega]
 rfl
theorem one_f (x : Nat) (h : x < 9223372036854775808) : Ev (fun k=>nat_carried.f k [(x : Int)]) (D9 x):=by
 have:=carried_f [(x : Int)] (fun y hy=>by rw [List.mem_singleton] at hy;omega) (by simp)
 simpa [V] using this
theorem D9_small {x : Nat} (h : x < 1000000000000000000) : (D9 x).length≤2:=(D_len B2).2 (by show x < 1000000000 ^ 2;omega)
theorem scaled_f (n x : Nat) (h1 : (D9 n).length≤1000000) (hx : x < 1000000000000000000) : Ev (fun k=>nat_number_scaled.f k (D9 n) (x : Int)) (D9 (n * x)):=by
 unfold nat_number_scaled.f
 refine Ev.bind (one_f x (by omega)) (Ev.bind (times_f n x h1 (by have:=D9_small hx;omega)) (Ev.now _))

theorem digit_l0 (r d : Nat) (hd : 0 < d) (h1 : (D9 d).length≤900000) (q : Nat) : ∀ (lo hi : Nat),hi - lo≤q→lo≤r / d→r / d≤hi→hi < 1000000000→
  Ev (fun k=>nat_number_digit.l0 k (lo : Int) (hi : Int) (D9 r) (D9 d)) ((r / d : Nat) : Int):=by
 induction q with
 | zero=>
  intro lo hi hq h2 h3 h4
  refine Ev.step (f:=fun _=>some (lo : Int)) (fun k=>?_) ?_
  ·simp only [nat_number_digit.l0]
   rw [if_neg (by omega)]
  ·rw [show lo = r / d by omega];exact Ev.now _
 | succ q ih=>
  intro lo hi hq h2 h3 h4
  by_cases hlt : lo < hi
  ·obtain⟨p,hp⟩ : ∃ p,p = (lo + hi + 1) / 2:=⟨_,rfl⟩
   have hlen : (D9 (d * p)).length≤1000000:=by
    have e1 : (D9 (d * p)).length≤(D9 d).length + (D9 p).length:=D_len_mul B2 d p
    have e2:=D9_small (x:=p) (by omega)
    omega
   refine Ev.step (f:=fun k=>(nat_number_scaled.f k (D9 d) (p : Int)).bind fun t=>(nat_number_compare.f k t (D9 r)).bind fun u=>if u≤0 then nat_number_digit.l0 k (p : Int) (hi : Int) (D9 r) (D9 d) else nat_number_digit.l0 k (lo : Int) ((p - 1 : Nat) : Int) (D9 r) (D9 d)) (fun k=>?_) ?_
   ·simp only [nat_number_digit.l0]
    rw [if_pos (by omega),wu (x:=(lo : Int) + hi) (by omega) (by omega),wu (x:=(lo : Int) + hi + 1) (by omega) (by omega),td _ (by omega),wu (x:=((lo : Int) + hi + 1) / 2) (by omega) (by omega),wu (by omega) (by omega),show((lo : Int) + hi + 1) / 2 = (p : Int) by omega,show(p : Int) - 1 = ((p - 1 : Nat) : Int) by omega]
   ·refine Ev.bind (scaled_f d p (by omega) (by omega)) (Ev.bind (compare_f (d * p) r hlen) ?_)
    by_cases hle : d * p≤r
    ·have : p≤r / d:=(Nat.le_div_iff_mul_le hd).2 (by rw [Nat.mul_comm];exact hle)
     exact Ev.congr (fun k=>if_pos (sgn_le.2 (by omega))) (ih p hi (by omega) this h3 h4)
    ·have : r / d < p:=(Nat.div_lt_iff_lt_mul hd).2 (by rw [Nat.mul_comm];omega)
     exact Ev.congr (fun k=>if_neg (fun h=>by rw [sgn_le] at h;omega)) (ih lo (p - 1) (by omega) h2 (by omega) (by omega))
  ·refine Ev.step (f:=fun _=>some (lo : Int)) (fun k=>?_) ?_
   ·simp only [nat_number_digit.l0]
    rw [if_neg (by omega)]
   ·rw [show lo = r / d by omega];exact Ev.now _
theorem digit_f (r d : Nat) (hr : r < d * B) (h1 : (D9 d).length≤900000) : Ev (fun k=>nat_number_digit.f k (D9 r) (D9 d)) ((r / d : Nat) : Int):=by
 have hd : 0 < d:=by
  rcases Nat.eq_zero_or_pos d with h | h
  ·subst h;omega
  ·exact h
 have : r / d < B:=(Nat.div_lt_iff_lt_mul hd).2 (by rw [Nat.mul_comm];exact hr)
 refine Ev.congr (fun k=>rfl) (digit_l0 r d hd h1 1000000000 0 999999999 (by omega) (Nat.zero_le _) ?_ (by omega))
 have h2 : r / d < 1000000000:=this
 omega

theorem parted_l0 (n d : Nat) (hd : 0 < d) (h1 : (D9 n).length≤800000) (h2 : (D9 d).length≤800000) : ∀ (i : Nat) (a : List Int) (r : Nat),i≤(D9 n).length→
  a.length = (D9 n).length→Dig B a→r < d→V B ((D9 n).drop i) = d * V B (a.drop i) + r→
  Ev (fun k=>nat_number_parted.l0 k a ((i : Int) - 1) (D9 n) (D9 d) (D9 r)) (D9 (n / d),D9 (n % d)):=by
 intro i
 induction i with
 | zero=>
  intro a r hi hl ha hr hv
  refine Ev.step (f:=fun k=>(nat_carried.f k a).bind fun t=>some (t,D9 r)) (fun k=>?_) ?_
  ·simp only [nat_number_parted.l0]
   rw [if_neg (by omega)]
  ·simp only [List.drop_zero,D9_V] at hv
   have hV:=V_nonneg (b:=(B : Int)) (by decide) ha.nonneg
   obtain⟨v,hv'⟩ : ∃ v : Nat,V B a = v:=⟨(V B a).toNat,by omega⟩
   have e : n = d * v + r:=by rw [hv'] at hv;exact_mod_cast hv
   have e1 : n / d = v:=by rw [e,Nat.mul_add_div hd,Nat.div_eq_of_lt hr,Nat.add_zero]
   have e2 : n % d = r:=by rw [e,Nat.mul_add_mod,Nat.mod_eq_of_lt hr]
   rw [e1,e2,show v = (V B a).toNat by omega]
   refine Ev.bind (carried_f a (fun x hx=>?_) (by omega)) (Ev.now _)
   have:=Dig9 ha x hx
   omega
 | succ i ih=>
  intro a r hi hl ha hr hv
  have hx:=D9_at n i
  obtain⟨x,hx'⟩ : ∃ x : Nat,(D9 n).getD i 0 = x:=⟨((D9 n).getD i 0).toNat,by omega⟩
  rw [hx'] at hx
  obtain⟨s,hs⟩ : ∃ s,s = x + B * r:=⟨_,rfl⟩
  have hsd : s < d * B:=by
   have e1 : B * (r + 1)≤B * d:=Nat.mul_le_mul_left _ (by omega)
   rw [Nat.mul_add,Nat.mul_comm B d] at e1
   have e2 : x < B:=by show x < 1000000000;omega
   omega
  have hrl : (D9 r).length≤800000:=by
   have : (D9 r).length≤(D9 d).length:=D_len_mono B2 (by omega)
   omega
  have hq : s / d < B:=(Nat.div_lt_iff_lt_mul hd).2 (by rw [Nat.mul_comm];exact hsd)
  have hq' : s / d < 1000000000:=hq
  have hsl : (D9 s).length≤900000:=by
   have e1 : (D9 s).length≤(D9 (d * B)).length:=D_len_mono B2 (by omega)
   have e2 : (D9 (d * B)).length≤(D9 d).length + (D9 B).length:=D_len_mul B2 d B
   have e3:=D9_small (x:=B) (by decide)
   omega
  have e0 : Ev (fun k=>nat_carried.f k ([(x : Int)] ++ D9 r)) (D9 s):=by
   have:=carried_f ([(x : Int)] ++ D9 r) (fun y hy=>by
    rcases List.mem_append.1 hy with h | h
    ·rw [List.mem_singleton] at h;omega
    ·have:=D9_lt r y h;omega) (by simp;omega)
   rw [List.singleton_append,V,D9_V] at this
   have e : ((x : Int) + (B : Int) * (r : Int)).toNat = s:=by rw [hs,← Int.natCast_mul,← Int.natCast_add];rfl
   rw [e] at this
   exact this
  have hmul : d * (s / d)≤s:=Nat.mul_div_le s d
  have hsub : s - d * (s / d) = s % d:=by have:=Nat.div_add_mod s d;omega
  refine Ev.step (f:=fun k=>(nat_carried.f k ([(x : Int)] ++ D9 r)).bind fun t237=>((nat_number_digit.f k t237 (D9 d)).bind fun t240=>((some (a.set i t240)).bind fun y241=>((nat_number_scaled.f k (D9 d) (y241.getD i 0)).bind fun t243=>((nat_number_less.f k t237 t243).bind fun t246=>(nat_number_parted.l0 k y241 ((i : Int) - 1) (D9 n) (D9 d) t246)))))) (fun k=>?_) ?_
  ·simp only [nat_number_parted.l0]
   rw [if_pos (by omega),show((i + 1 : Nat) : Int) - 1 = (i : Int) by omega,at_f]
   simp only [Option.bind_some]
   rw [if_pos (by simp;omega),hx']
   congr 1;funext t237
   congr 1;funext t240
   rw [if_pos (by omega),if_pos (by omega),w64 (by omega) (by omega),rd_nat]
   rfl
  ·refine Ev.bind e0 (Ev.bind (digit_f s d hsd (by omega)) (Ev.bind (Ev.now _) ?_))
   rw [getD_set_eq _ (by omega)]
   refine Ev.bind (scaled_f d (s / d) (by omega) (by omega)) (Ev.bind (less_f s (d * (s / d)) hmul (by omega)) ?_)
   rw [hsub]
   refine ih (a.set i ((s / d : Nat) : Int)) (s % d) (by omega) (by rw [List.length_set,hl]) (mem_set ha ⟨Int.natCast_nonneg _,Int.ofNat_lt.2 hq⟩ i) (Nat.mod_lt _ hd) ?_
   rw [V_getD (D9 n) i,hv,hx',V_getD (a.set i _) i,getD_set_eq _ (by omega),List.drop_set_of_lt (by omega)]
   have hm:=Nat.div_add_mod s d
   have hm' : ((d * (s / d) + s % d : Nat) : Int) = x + B * r:=by rw [hm,hs];simp
   rw [Int.natCast_add,Int.natCast_mul] at hm'
   have hc : (d : Int) * ((B : Int) * V B (a.drop (i + 1))) = (B : Int) * ((d : Int) * V B (a.drop (i + 1))):=by rw [← Int.mul_assoc,← Int.mul_assoc,Int.mul_comm (d : Int)]
   rw [Int.mul_add,Int.mul_add,hc]
   generalize (B : Int) * ((d : Int) * V B (a.drop (i + 1))) = p at *
   generalize (d : Int) * ((s / d : Nat) : Int) = u at *
   generalize ((s % d : Nat) : Int) = t at *
   omega
theorem parted_f (n d : Nat) (hd : 0 < d) (h1 : (D9 n).length≤800000) (h2 : (D9 d).length≤800000) : Ev (fun k=>nat_number_parted.f k (D9 n) (D9 d)) (D9 (n / d),D9 (n % d)):=by
 have:=parted_l0 n d hd h1 h2 (D9 n).length (List.replicate (D9 n).length 0) 0 (by omega) (by simp) (Fill.start (P:=fun x=>0≤x∧x < ((B : Nat) : Int)) (by decide) _).all hd (by simp [V])
 refine Ev.congr (fun k=>?_) this
 unfold nat_number_parted.f
 rw [if_pos (by omega),if_pos (by omega)]
 simp only [Option.bind_some,List.length_replicate,Int.toNat_natCast]
 rw [w64 (by omega) (by omega),show D9 0 = [] from D_zero B]
end Go.Proofs.YtcbohpmdeboeoaaGreatDoorRR.M

/- What the exported functions of package nat compute, in plain Lean over their printed forms: Add, Mul, DivMod; and SameLimbs. -/
namespace Go.Proofs.YtcbohpmdeboeoaaGreatDoorRR.M
open Go.RowKit Go.Proofs.YtcbohpmdeboeoaaGreatDoorRR.X Go.Proofs.YtcbohpmdeboeoaaGreatDoorRRW.PrintWords Go.Proofs.YtcbohpmdeboeoaaGreatDoorRRW.PrintLast Go.Proofs.YtcbohpmdeboeoaaGreatDoorRRW.PrintMore

/-- The number that a row stands for. -/
def val (l : List Int) : Nat:=(V B l).toNat
theorem val_D (n : Nat) : val (D9 n) = n:=by unfold val;rw [D9_V];rfl
/-- A row that a caller may hand in, of at most N digits. -/
def Row (N : Nat) (l : List Int) : Prop:=U32 l∧l.length≤N
theorem Row.D {N n : Nat} (h : (D9 n).length≤N) : Row N (D9 n):=⟨fun x hx=>by have:=D9_lt n x hx;omega,h⟩
theorem Row.le {N M : Nat} {l : List Int} (h : Row N l) (hm : N≤M) : Row M l:=⟨h.1,by have:=h.2;omega⟩
theorem Row.len {N : Nat} {l : List Int} (h : Row N l) : (D9 (val l)).length≤N + 1:=by
 have h1:=D_len_V B2 (l:=l) (fun x hx=>by have:=h.1 x hx;show 0≤x∧x≤1000000000 * 1000000000 - 1000000000;omega)
 have h2:=h.2
 unfold val
 show(M.D B _).length≤_
 omega
theorem Row.of {N : Nat} {l : List Int} (h : Row N l) (hN : N≤100000) : Ev (fun k=>nat_of.f k l) (D9 (val l)):=of_f l h.1 (by have:=h.2;omega)
theorem rd_L2_nat (L : List (List Int)) (i : Nat) : rd_L3 L (i : Int) = L.getD i []:=by unfold rd_L3;simp
theorem getD_append (p : List (List Int)) (x : List Int) (s : List (List Int)) : (p ++ x :: s).getD p.length [] = x:=by simp [List.getD]

def sumV : List (List Int)→Nat
 | []=>0
 | l :: L=>val l + sumV L
theorem plus_fold (s : List (List Int)) : ∀ (p : List (List Int)) (n : Nat),(∀ l ∈ s,Row 10000 l)→(D9 n).length + 10010 * s.length≤900000→p.length + s.length≤1000→
  Ev (fun k=>nat_folded_at_nat_number_plus.l0 k (p ++ s) ((p ++ s).length : Int) (p.length : Int) (D9 n)) (D9 (n + sumV s)):=by
 induction s with
 | nil=>
  intro p n hs hn hp
  refine Ev.step (f:=fun k=>(nat_number_row.f k (D9 n)).bind fun t=>some t) (fun k=>?_) ?_
  ·simp only [nat_folded_at_nat_number_plus.l0]
   rw [if_neg (by simp)]
  ·exact Ev.bind (row_f n (by omega)) (Ev.now _)
 | cons l s ih=>
  intro p n hs hn hp
  have hl:=hs l (by simp)
  simp only [List.length_cons] at hn hp
  refine Ev.step (f:=fun k=>(nat_of.f k l).bind fun t153=>(nat_number_plus.f k (D9 n) t153).bind fun t156=>nat_folded_at_nat_number_plus.l0 k ((p ++ [l]) ++ s) (((p ++ [l]) ++ s).length : Int) ((p ++ [l]).length : Int) t156) (fun k=>?_) ?_
  ·simp only [nat_folded_at_nat_number_plus.l0]
   rw [if_pos (by simp;omega),if_pos (by omega),if_pos (by simp;omega),rd_L2_nat,getD_append,w64 (by omega) (by omega)]
   simp
  ·have h1:=hl.len
   have h3:=hl.of (by decide)
   have h2 : (D9 (n + val l)).length≤(D9 n).length + (D9 (val l)).length + 1:=D_len_add B2 n (val l)
   refine Ev.bind h3 (Ev.bind (plus_f n (val l) (by omega) (by omega)) ?_)
   have e : n + sumV (l :: s) = n + val l + sumV s:=by rw [sumV,Nat.add_assoc]
   rw [e]
   exact ih (p ++ [l]) (n + val l) (fun y hy=>hs y (by simp [hy])) (by omega) (by simp;omega)
theorem Add_f (L : List (List Int)) (hL : ∀ l ∈ L,Row 10000 l) (hn : L.length≤20) : Ev (fun k=>nat_Add.f k L) (D9 (sumV L)):=by
 have:=plus_fold L [] 0 hL (by rw [show D9 0 = [] from D_zero B];simp;omega) (by simp;omega)
 rw [Nat.zero_add,show D9 0 = [] from D_zero B] at this
 unfold nat_Add.f
 exact Ev.bind this (Ev.now _)
theorem D9_nil {n : Nat} : (D9 n).length = 0 ↔ n = 0:=by
 constructor
 ·intro h
  have:=(D_len B2 (n:=n) (k:=0)).1 (by show(D9 n).length≤0;omega)
  simp at this
  exact this
 ·intro h;subst h;rw [show D9 0 = [] from D_zero B];rfl
theorem DivMod_f (l r : List Int) (hl : Row 10000 l) (hr : Row 10000 r) : Ev (fun k=>nat_DivMod.f k l r) (if val r = 0 then([],[],false) else(D9 (val l / val r),D9 (val l % val r),true)):=by
 have h1:=hl.len
 have h2:=hr.len
 unfold nat_DivMod.f
 refine Ev.bind (hr.of (by omega)) ?_
 by_cases h : val r = 0
 ·rw [if_pos h]
  refine Ev.congr (fun k=>if_pos ?_) (Ev.now _)
  have:=D9_nil.2 h
  omega
 ·rw [if_neg h]
  refine Ev.congr (fun k=>if_neg ?_) ?_
  ·intro h0
   exact h (D9_nil.1 (by omega))
  ·have e1 : (D9 (val l / val r)).length≤(D9 (val l)).length:=D_len_mono B2 (Nat.div_le_self _ _)
   have e2 : (D9 (val l % val r)).length≤(D9 (val l)).length:=D_len_mono B2 (Nat.mod_le _ _)
   exact Ev.bind (hl.of (by omega)) (Ev.bind (parted_f _ _ (by omega) (by omega) (by omega)) (Ev.bind (row_f _ (by omega)) (Ev.bind (row_f _ (by omega)) (Ev.now _))))

theorem limbs_l0 (a b : List Int) (he : a.length = b.length) (hl : a.length≤1000000000) (q : Nat) : ∀ (i : Nat),i + q = a.length→a.take i = b.take i→
  Ev (fun k=>whetstonekit_SameLimbs.l0 k a b (i : Int)) (decide (a = b)):=by
 induction q with
 | zero=>
  intro i hi ht
  rw [List.take_of_length_le (by omega),List.take_of_length_le (by omega)] at ht
  refine Ev.step (f:=fun _=>some true) (fun k=>?_) (by rw [decide_eq_true ht];exact Ev.now _)
  simp only [whetstonekit_SameLimbs.l0]
  rw [if_neg (by omega)]
 | succ q ih=>
  intro i hi ht
  by_cases h : a.getD i 0 = b.getD i 0
  ·refine Ev.step (f:=fun k=>whetstonekit_SameLimbs.l0 k a b ((i + 1 : Nat) : Int)) (fun k=>?_) (ih (i + 1) (by omega) ?_)
   ·simp only [whetstonekit_SameLimbs.l0]
    rw [if_pos (by omega),if_pos (by omega),if_pos (by omega),rd_nat,rd_nat,if_pos h,w64 (by omega) (by omega)]
    rfl
   ·rw [List.take_succ_eq_append_getElem (by omega),List.take_succ_eq_append_getElem (by omega),ht]
    simp only [List.getD,show i < a.length by omega,show i < b.length by omega,List.getElem?_eq_getElem,Option.getD_some] at h
    rw [h]
  ·refine Ev.step (f:=fun _=>some false) (fun k=>?_) (by rw [decide_eq_false (fun e=>h (by rw [e]))];exact Ev.now _)
   simp only [whetstonekit_SameLimbs.l0]
   rw [if_pos (by omega),if_pos (by omega),if_pos (by omega),rd_nat,rd_nat,if_neg h]
end Go.Proofs.YtcbohpmdeboeoaaGreatDoorRR.M

/- What Trim, Cmp, Sub and Right compute, in plain Lean over their printed forms. -/
namespace Go.Proofs.YtcbohpmdeboeoaaGreatDoorRR.M
open Go.RowKit Go.Proofs.YtcbohpmdeboeoaaGreatDoorRR.X Go.Proofs.YtcbohpmdeboeoaaGreatDoorRRW.PrintWords Go.Proofs.YtcbohpmdeboeoaaGreatDoorRRW.PrintLast Go.Proofs.YtcbohpmdeboeoaaGreatDoorRRW.PrintMore
theorem Trim_f (l : List Int) (h : Row 10000 l) : Ev (fun k=>nat_Trim.f k l) (D9 (val l)):=by
 have h1:=h.len
 unfold nat_Trim.f
 exact Ev.bind (h.of (by omega)) (Ev.bind (row_f _ (by omega)) (Ev.now _))
theorem Cmp_f (l r : List Int) (h : Row 10000 l) (h' : Row 10000 r) : Ev (fun k=>nat_Cmp.f k l r) (sgn (val l) (val r)):=by
 have h1:=h.len
 unfold nat_Cmp.f
 exact Ev.bind (h.of (by omega)) (Ev.bind (h'.of (by omega)) (Ev.bind (compare_f _ _ (by omega)) (Ev.now _)))
end Go.Proofs.YtcbohpmdeboeoaaGreatDoorRR.M

/- Whole numbers by sign and size, without Go: sums, products, quotients of two. -/
namespace Go.Proofs.YtcbohpmdeboeoaaGreatDoorRR.M
/-- A size with a sign. -/
def mk (b : Bool) (n : Nat) : Int:=if b = true then -(n : Int) else n
/-- Is a number below 0? -/
def ng (z : Int) : Bool:=decide (z < 0)
theorem mk_true (n : Nat) : mk true n = -(n : Int):=rfl
theorem mk_false (n : Nat) : mk false n = (n : Int):=rfl
theorem mk_abs (b : Bool) (n : Nat) : (mk b n).natAbs = n:=by cases b <;> simp [mk]
theorem mk_ng (b : Bool) (n : Nat) : ng (mk b n) = (b && !decide (n = 0)):=by
 unfold ng
 cases b
 ·rw [mk_false,decide_eq_false (by omega)];rfl
 ·rw [mk_true]
  by_cases h : n = 0
  ·rw [decide_eq_false (by omega),decide_eq_true h];rfl
  ·rw [decide_eq_true (by omega),decide_eq_false h];rfl
theorem mk_self (z : Int) : mk (ng z) z.natAbs = z:=by
 unfold ng
 by_cases h : z < 0
 ·rw [decide_eq_true h,mk_true];omega
 ·rw [decide_eq_false h,mk_false];omega
theorem ng_true {z : Int} : ng z = true ↔ z < 0:=by unfold ng;exact decide_eq_true_iff
theorem ng_false {z : Int} : ng z = false ↔ 0≤z:=by unfold ng;rw [decide_eq_false_iff_not];omega
theorem mk_cases (z : Int) : (∃ n : Nat,z = n∧ng z = false∧z.natAbs = n)∨(∃ n : Nat,0 < n∧z = -(n : Int)∧ng z = true∧z.natAbs = n):=by
 by_cases h : z < 0
 ·exact Or.inr ⟨z.natAbs,by omega,by omega,ng_true.2 h,rfl⟩
 ·exact Or.inl ⟨z.natAbs,by omega,ng_false.2 (by omega),rfl⟩
theorem mk_add {x y : Int} (h : ng x = ng y) : mk (ng x) (x.natAbs + y.natAbs) = x + y:=by
 rcases mk_cases x with ⟨n,e,s,a⟩ | ⟨n,n0,e,s,a⟩ <;> rcases mk_cases y with ⟨m,e',s',a'⟩ | ⟨m,m0,e',s',a'⟩ <;> rw [s,s'] at h <;> (try cases h) <;> rw [s,a,a',e,e'] <;> simp only [mk_true,mk_false] <;> omega
theorem mk_sub {x y : Int} (h : ng x≠ng y) (hl : y.natAbs≤x.natAbs) : mk (ng x) (x.natAbs - y.natAbs) = x + y:=by
 rcases mk_cases x with ⟨n,e,s,a⟩ | ⟨n,n0,e,s,a⟩ <;> rcases mk_cases y with ⟨m,e',s',a'⟩ | ⟨m,m0,e',s',a'⟩ <;> rw [s,s'] at h <;> (try exact absurd rfl h) <;> rw [a,a'] at hl <;> rw [s,a,a',e,e'] <;> simp only [mk_true,mk_false] <;> omega
/-- The quotient of two numbers, rounded down, and the rest. -/
def qd (x y : Int) : Int:=mk (ng x != ng y) (x.natAbs / y.natAbs) + (if (ng x != ng y) = true∧x.natAbs % y.natAbs≠0 then -1 else 0)
def rs (x y : Int) : Int:=if (ng x != ng y) = true∧x.natAbs % y.natAbs≠0 then y + -(mk (ng y) (x.natAbs % y.natAbs)) else mk (ng y) (x.natAbs % y.natAbs)
end Go.Proofs.YtcbohpmdeboeoaaGreatDoorRR.M

/- What the functions of package num compute, in plain Lean over their printed forms: made, of, plus, turned, small, Of, Gcd of two. -/
namespace Go.Proofs.YtcbohpmdeboeoaaGreatDoorRR.M
open Go.RowKit Go.Proofs.YtcbohpmdeboeoaaGreatDoorRR.X Go.Proofs.YtcbohpmdeboeoaaGreatDoorRRW.PrintWords Go.Proofs.YtcbohpmdeboeoaaGreatDoorRRW.PrintLast Go.Proofs.YtcbohpmdeboeoaaGreatDoorRRW.PrintMore

theorem Sub_f (l r : List Int) (h : Row 10000 l) (h' : Row 10000 r) : Ev (fun k=>nat_Sub.f k l r) (if val l < val r then([],false) else(D9 (val l - val r),true)):=by
 have h1:=h.len
 unfold nat_Sub.f
 refine Ev.bind (h.of (by omega)) (Ev.bind (h'.of (by omega)) (Ev.bind (compare_f _ _ (by omega)) ?_))
 by_cases g : val l < val r
 ·rw [if_pos g]
  exact Ev.congr (fun k=>if_pos (sgn_lt.2 (by omega))) (Ev.now _)
 ·rw [if_neg g]
  have e : (D9 (val l - val r)).length≤(D9 (val l)).length:=D_len_mono B2 (Nat.sub_le _ _)
  exact Ev.congr (fun k=>if_neg (fun h=>by rw [sgn_lt] at h;omega)) (Ev.bind (less_f _ _ (by omega) (by omega)) (Ev.bind (row_f _ (by omega)) (Ev.now _)))

/-- A number at work, and as it is told: its digits and its sign. -/
abbrev nz (z : Int) : List Int×Bool:=(D9 z.natAbs,ng z)
abbrev az (z : Int) : Bool×List Int:=(ng z,D9 z.natAbs)
/-- How long a number is. -/
abbrev ln (z : Int) : Nat:=(D9 z.natAbs).length
theorem D9_lenI (n : Nat) : ((D9 n).length : Int) = 0 ↔ n = 0:=by
 have:=@D9_nil n
 constructor
 ·intro h;exact this.1 (by omega)
 ·intro h;have:=this.2 h;omega
theorem zero_f (n : Nat) : num_size_zero.f (D9 n) = some (decide (n = 0)):=by
 unfold num_size_zero.f
 rw [show(((D9 n).length : Int) == 0) = decide (n = 0) from ?_]
 rw [Bool.eq_iff_iff,decide_eq_true_iff,beq_iff_eq]
 exact D9_lenI n
theorem nz_mk (b : Bool) (n : Nat) : nz (mk b n) = (D9 n,b && !decide (n = 0)):=by
 show(D9 (mk b n).natAbs,ng (mk b n)) = _
 rw [mk_abs,mk_ng]
theorem made_f (l : List Int) (b : Bool) (h : Row 10000 l) : Ev (fun k=>num_made.f k l b) (nz (mk b (val l))):=by
 unfold num_made.f
 rw [nz_mk]
 refine Ev.bind (Trim_f l h) ?_
 cases b
 ·exact Ev.congr (fun k=>if_neg (by decide)) (Ev.now _)
 ·refine Ev.congr (fun k=>if_pos rfl) ?_
  refine Ev.congr (f:=fun _=>some _) (fun k=>by rw [zero_f];rfl) (Ev.now _)
theorem made_D (n : Nat) (b : Bool) (h : (D9 n).length≤10000) : Ev (fun k=>num_made.f k (D9 n) b) (nz (mk b n)):=by
 have:=made_f (D9 n) b (Row.D h)
 rwa [val_D] at this
theorem nof_f (b : Bool) (l : List Int) (h : Row 10000 l) : Ev (fun k=>num_of.f k b l) (nz (mk b (val l))):=by
 unfold num_of.f
 exact Ev.bind (made_f l b h) (Ev.now _)
theorem turned_f (z : Int) : num_number_turned.f (D9 z.natAbs) (ng z) = some (nz (-z)):=by
 unfold num_number_turned.f
 rw [zero_f]
 show _ = some (D9 (-z).natAbs,ng (-z))
 rw [Int.natAbs_neg]
 by_cases h : z < 0
 ·rw [ng_true.2 h,if_pos rfl,ng_false.2 (by omega)]
 ·rw [ng_false.2 (by omega),if_neg (by decide)]
  simp only [Option.bind_some]
  by_cases h0 : z = 0
  ·subst h0;rfl
  ·rw [ng_true.2 (by omega),decide_eq_false (by omega)];rfl
theorem ln_neg (x : Int) : ln (-x) = ln x:=by
 show(D9 (-x).natAbs).length = _
 rw [Int.natAbs_neg]
theorem ln_mk (b : Bool) (n : Nat) : ln (mk b n) = (D9 n).length:=by
 show(D9 (mk b n).natAbs).length = _
 rw [mk_abs]
theorem add2_f (n m : Nat) (h1 : (D9 n).length≤9000) (h2 : (D9 m).length≤9000) : Ev (fun k=>nat_Add.f k [D9 n,D9 m]) (D9 (n + m)):=by
 have:=Add_f [D9 n,D9 m] (fun l hl=>by simp at hl;rcases hl with rfl | rfl <;> exact Row.D (by omega)) (by simp)
 rwa [show sumV [D9 n,D9 m] = n + m by simp [sumV,val_D]] at this
theorem scmp_f (n m : Nat) (h1 : (D9 n).length≤9000) (h2 : (D9 m).length≤9000) : Ev (fun k=>num_size_cmp.f k (D9 n) (D9 m)) (sgn n m):=by
 have:=Cmp_f (D9 n) (D9 m) (Row.D (by omega)) (Row.D (by omega))
 rw [val_D,val_D] at this
 unfold num_size_cmp.f
 exact Ev.bind this (Ev.now _)
theorem plus_lt (x y : Int) (hx' : ln x≤4000) (hy' : ln y≤4000) (hs : ng x≠ng y) (hl : y.natAbs≤x.natAbs) : Ev (fun k=>num_number_plus.f k (D9 x.natAbs) (ng x) (D9 y.natAbs) (ng y)) (nz (x + y)):=by
 have hx : (D9 x.natAbs).length≤4000:=hx'
 have hy : (D9 y.natAbs).length≤4000:=hy'
 have hs' : ¬ ((ng x == ng y) = true):=by rw [beq_iff_eq];exact hs
 have h1:=scmp_f x.natAbs y.natAbs (by omega) (by omega)
 have h2:=Sub_f (D9 x.natAbs) (D9 y.natAbs) (Row.D (by omega)) (Row.D (by omega))
 rw [val_D,val_D,if_neg (by omega)] at h2
 have e : (D9 (x.natAbs - y.natAbs)).length≤(D9 x.natAbs).length:=D_len_mono B2 (Nat.sub_le _ _)
 have h3:=made_D (x.natAbs - y.natAbs) (ng x) (by omega)
 rw [mk_sub hs hl] at h3
 refine Ev.step (f:=fun k=>_) (fun k=>by simp only [num_number_plus.f];rw [if_neg hs']) ?_
 exact Ev.bind h1 (Ev.congr (fun k=>if_neg (by rw [sgn_lt];omega)) (Ev.bind h2 (Ev.bind h3 (Ev.now _))))
theorem nplus_f (x y : Int) (hx' : ln x≤4000) (hy' : ln y≤4000) : Ev (fun k=>num_number_plus.f k (D9 x.natAbs) (ng x) (D9 y.natAbs) (ng y)) (nz (x + y)):=by
 have hx : (D9 x.natAbs).length≤4000:=hx'
 have hy : (D9 y.natAbs).length≤4000:=hy'
 by_cases hs : ng x = ng y
 ·have h1:=add2_f x.natAbs y.natAbs (by omega) (by omega)
  have e : (D9 (x.natAbs + y.natAbs)).length≤(D9 x.natAbs).length + (D9 y.natAbs).length + 1:=D_len_add B2 _ _
  have h3:=made_D (x.natAbs + y.natAbs) (ng x) (by omega)
  rw [mk_add hs] at h3
  refine Ev.step (f:=fun k=>_) (fun k=>by simp only [num_number_plus.f];rw [if_pos (beq_iff_eq.2 hs)]) ?_
  exact Ev.bind h1 (Ev.bind h3 (Ev.now _))
 ·by_cases hl : y.natAbs≤x.natAbs
  ·exact plus_lt x y hx hy hs hl
  ·have hs' : ¬ ((ng x == ng y) = true):=by rw [beq_iff_eq];exact hs
   have h1:=scmp_f x.natAbs y.natAbs (by omega) (by omega)
   have h2:=plus_lt y x hy hx (fun e=>hs e.symm) (by omega)
   rw [Int.add_comm] at h2
   refine Ev.step (f:=fun k=>_) (fun k=>by simp only [num_number_plus.f];rw [if_neg hs']) ?_
   exact Ev.bind h1 (Ev.congr (fun k=>if_pos (by rw [sgn_lt];omega)) (Ev.bind h2 (Ev.now _)))
/-- A number of 64 bits, by its digits. -/
theorem small_l0 (b : Bool) (n : Nat) : ∀ (x : Nat) (o : List Int),x < 18446744073709551616→Dig B o→V B o + (B : Int) ^ o.length * x = n→o.length + (D9 x).length≤100→
  Ev (fun k=>num_small.l0 k (x : Int) b o) (nz (mk b n)):=by
 intro x
 induction x using Nat.strongRecOn with
 | ind x ih=>
  intro o hx ho hv hl
  by_cases h0 : x = 0
  ·subst h0
   have hr : Row 10000 o:=⟨fun y hy=>by have:=ho y hy;show 0≤y∧y < 4294967296;constructor;exact this.1;exact Int.lt_trans this.2 (by decide),by omega⟩
   have h1:=made_f o b hr
   have e : val o = n:=by unfold val;rw [show V B o = (n : Int) by simpa using hv];rfl
   rw [e] at h1
   refine Ev.step (f:=fun k=>_) (fun k=>by simp only [num_small.l0];rw [if_neg (by simp)]) ?_
   exact Ev.bind h1 (Ev.now _)
  ·have hm : x % B < B:=Nat.mod_lt _ (by decide)
   have hd : x / B < x:=Nat.div_lt_self (by omega) (by decide)
   have hq:=Nat.div_add_mod x B
   have e1 : Int.tmod (x : Int) 1000000000 = ((x % B : Nat) : Int):=by rw [tm _ (by omega)];rfl
   have e2 : Int.tdiv (x : Int) 1000000000 = ((x / B : Nat) : Int):=by rw [td _ (by omega)];rfl
   have e3 : ((x % B : Nat) : Int) % 4294967296 = ((x % B : Nat) : Int):=Int.emod_eq_of_lt (by omega) (by have : B = 1000000000:=rfl;omega)
   have hlen : (D9 x).length = (D9 (x / B)).length + 1:=by
    show(D B x).length = (D B (x / B)).length + 1
    rw [D_pos B2 h0,List.length_cons]
   refine Ev.step (f:=fun k=>num_small.l0 k ((x / B : Nat) : Int) b (o ++ [((x % B : Nat) : Int)])) (fun k=>?_) (ih (x / B) hd _ (by omega) (ho.snoc (by omega) (by omega)) ?_ ?_)
   ·simp only [num_small.l0]
    rw [if_pos (by omega),if_pos (by omega),e1,e2,e3,wu (Int.natCast_nonneg _) (by have : ((x / B : Nat) : Int) < (x : Int):=Int.ofNat_lt.2 hd;omega)]
   ·rw [V_snoc,List.length_append,List.length_singleton,Int.pow_succ,← hv]
    have : ((x : Nat) : Int) = (B : Int) * ((x / B : Nat) : Int) + ((x % B : Nat) : Int):=by rw [← Int.natCast_mul,← Int.natCast_add,hq]
    rw [this,Int.mul_add,Int.mul_assoc,Int.add_assoc]
    congr 1
    rw [Int.add_comm]
   ·rw [List.length_append,List.length_singleton];omega
theorem D9_u64 {x : Nat} (h : x < 18446744073709551616) : (D9 x).length≤3:=(D_len B2 (n:=x) (k:=3)).2 (Nat.lt_of_lt_of_le h (by decide))
theorem small_f (x : Nat) (b : Bool) (hx : x < 18446744073709551616) : Ev (fun k=>num_small.f k (x : Int) b) (nz (mk b x)):=by
 have:=D9_u64 hx
 unfold num_small.f
 exact small_l0 b x x [] hx (Dig.nil _) (by simp [V]) (by simp;omega)
theorem nOf_f (z : Int) (h0 : -9223372036854775808≤z) (h1 : z < 9223372036854775808) : Ev (fun k=>num_Of.f k z) (az z):=by
 unfold num_Of.f
 by_cases h : z < 0
 ·have e : IntKind.u64.wrap (-(IntKind.u64.wrap z)) = ((z.natAbs : Nat) : Int):=by
   rw [IntKind.wrap_u64,IntKind.wrap_u64];omega
  have h2:=small_f z.natAbs true (by omega)
  rw [mk_true,show -((z.natAbs : Nat) : Int) = z by omega,← e] at h2
  exact Ev.congr (fun k=>if_pos h) (Ev.bind h2 (Ev.now _))
 ·have ez : ((z.natAbs : Nat) : Int) = z:=by omega
  have h2:=small_f z.natAbs false (by omega)
  rw [mk_false,ez] at h2
  refine Ev.congr (fun k=>if_neg h) (Ev.bind (a:=nz z) ?_ (Ev.now _))
  rw [show IntKind.u64.wrap z = z by rw [IntKind.wrap_u64];omega]
  exact h2
/-- The greatest common divisor of two sizes. -/
theorem gcd2_l0 (m : Nat) : ∀ (n : Nat) (b1 b2 : Bool),(D9 n).length≤9000→(D9 m).length≤9000→Ev (fun k=>num_Gcd_1.l0 k (D9 n) b1 (D9 m) b2) (D9 (Nat.gcd n m),false):=by
 induction m using Nat.strongRecOn with
 | ind m ih=>
  intro n b1 b2 hn hm
  by_cases h0 : m = 0
  ·subst h0
   have h1:=made_D n false (by omega)
   rw [nz_mk] at h1
   rw [Nat.gcd_zero_right]
   refine Ev.step (f:=fun k=>(num_made.f k (D9 n) false).bind fun p=>some (p.1,p.2)) (fun k=>by simp only [num_Gcd_1.l0];rw [zero_f];rfl) ?_
   exact Ev.bind h1 (Ev.now _)
  ·have hd:=DivMod_f (D9 n) (D9 m) (Row.D (by omega)) (Row.D (by omega))
   rw [val_D,val_D,if_neg h0] at hd
   have e2 : (D9 (n % m)).length≤(D9 n).length:=D_len_mono B2 (Nat.mod_le _ _)
   have h1:=made_D (n % m) false (by omega)
   rw [nz_mk] at h1
   rw [Nat.gcd_comm,Nat.gcd_rec,Nat.gcd_comm]
   refine Ev.step (f:=fun k=>(nat_DivMod.f k (D9 n) (D9 m)).bind fun p=>(num_made.f k p.2.1 false).bind fun q=>num_Gcd_1.l0 k (D9 m) b2 q.1 q.2) (fun k=>by simp only [num_Gcd_1.l0];rw [zero_f,decide_eq_false h0];rfl) ?_
   exact Ev.bind hd (Ev.bind h1 (ih (n % m) (Nat.mod_lt _ (by omega)) m b2 _ hm (by omega)))
end Go.Proofs.YtcbohpmdeboeoaaGreatDoorRR.M

/- What num.DivMod computes, in plain Lean over its printed form. -/
namespace Go.Proofs.YtcbohpmdeboeoaaGreatDoorRR.M
open Go.RowKit Go.Proofs.YtcbohpmdeboeoaaGreatDoorRR.X Go.Proofs.YtcbohpmdeboeoaaGreatDoorRRW.PrintWords Go.Proofs.YtcbohpmdeboeoaaGreatDoorRRW.PrintLast Go.Proofs.YtcbohpmdeboeoaaGreatDoorRRW.PrintMore
theorem nDivMod_f (b1 : Bool) (l1 : List Int) (b2 : Bool) (l2 : List Int) (h1 : Row 3000 l1) (h2 : Row 3000 l2) :
  Ev (fun k=>num_DivMod.f k b1 l1 b2 l2) (if mk b2 (val l2) = 0 then(false,[],false,[],9) else
   (ng (qd (mk b1 (val l1)) (mk b2 (val l2))),D9 (qd (mk b1 (val l1)) (mk b2 (val l2))).natAbs,ng (rs (mk b1 (val l1)) (mk b2 (val l2))),D9 (rs (mk b1 (val l1)) (mk b2 (val l2))).natAbs,0)):=by
 have n1:=h1.len
 have n2:=h2.len
 have lx : ln (mk b1 (val l1))≤3001:=by rw [ln_mk];exact n1
 have ly : ln (mk b2 (val l2))≤3001:=by rw [ln_mk];exact n2
 have o1:=nof_f b1 l1 (h1.le (show 3000≤10000 by decide))
 have o2:=nof_f b2 l2 (h2.le (show 3000≤10000 by decide))
 generalize mk b1 (val l1) = x at *
 generalize mk b2 (val l2) = y at *
 have lx' : (D9 x.natAbs).length≤3001:=lx
 have ly' : (D9 y.natAbs).length≤3001:=ly
 have hd:=DivMod_f (D9 x.natAbs) (D9 y.natAbs) (Row.D (by omega)) (Row.D (by omega))
 rw [val_D,val_D] at hd
 unfold num_DivMod.f
 refine Ev.bind o1 (Ev.bind o2 (Ev.bind hd ?_))
 by_cases h0 : y = 0
 ·rw [if_pos h0,if_pos (by omega)]
  refine Ev.step (f:=fun _=>some _) (fun k=>?_) (Ev.now _)
  simp only [num_DivMod.j0]
  rw [if_neg (by decide)]
 ·rw [if_neg h0,if_neg (by omega)]
  have e1 : (D9 (x.natAbs / y.natAbs)).length≤(D9 x.natAbs).length:=D_len_mono B2 (Nat.div_le_self _ _)
  have e2 : (D9 (x.natAbs % y.natAbs)).length≤(D9 x.natAbs).length:=D_len_mono B2 (Nat.mod_le _ _)
  have m1:=made_D (x.natAbs / y.natAbs) (ng x != ng y) (by omega)
  have m2:=made_D (x.natAbs % y.natAbs) (ng y) (by omega)
  have l1' : ln (mk (ng x != ng y) (x.natAbs / y.natAbs))≤3001:=by rw [ln_mk];omega
  have l2' : ln (mk (ng y) (x.natAbs % y.natAbs))≤3001:=by rw [ln_mk];omega
  have z2 : (mk (ng y) (x.natAbs % y.natAbs)).natAbs = x.natAbs % y.natAbs:=mk_abs _ _
  unfold qd rs
  refine Ev.step (f:=fun k=>_) (fun k=>by simp only [num_DivMod.j0];rw [if_pos trivial]) ?_
  refine Ev.bind m1 (Ev.bind m2 ?_)
  by_cases hs : (ng x != ng y) = true
  ·refine Ev.congr (fun k=>by rw [if_pos hs,zero_f];rfl) (f:=fun k=>num_DivMod.j1 k (!decide ((mk (ng y) (x.natAbs % y.natAbs)).natAbs = 0)) (D9 y.natAbs) (ng y) (D9 (mk (ng x != ng y) (x.natAbs / y.natAbs)).natAbs) (ng (mk (ng x != ng y) (x.natAbs / y.natAbs))) (D9 (mk (ng y) (x.natAbs % y.natAbs)).natAbs) (ng (mk (ng y) (x.natAbs % y.natAbs)))) ?_
   by_cases hr : x.natAbs % y.natAbs = 0
   ·rw [if_neg (fun h=>h.2 hr),if_neg (fun h=>h.2 hr),Int.add_zero]
    refine Ev.step (f:=fun _=>some _) (fun k=>?_) (Ev.now _)
    simp only [num_DivMod.j1]
    rw [z2,decide_eq_true hr,if_neg (by decide)]
    rfl
   ·rw [if_pos ⟨hs,hr⟩,if_pos ⟨hs,hr⟩]
    have s1:=small_f 1 true (by decide)
    have t1 : ln (mk true 1)≤3:=by rw [ln_mk];exact D9_u64 (by decide)
    have p1:=nplus_f (mk (ng x != ng y) (x.natAbs / y.natAbs)) (mk true 1) (by omega) (by omega)
    have t2 : ln (-(mk (ng y) (x.natAbs % y.natAbs)))≤3001:=by rw [ln_neg];exact l2'
    have p2:=nplus_f y (-(mk (ng y) (x.natAbs % y.natAbs))) (by omega) (by omega)
    refine Ev.step (f:=fun k=>_) (fun k=>by simp only [num_DivMod.j1];rw [show(!decide ((mk (ng y) (x.natAbs % y.natAbs)).natAbs = 0)) = true by rw [z2,decide_eq_false hr];rfl,if_pos rfl]) ?_
    refine Ev.bind s1 (Ev.bind p1 ?_)
    refine Ev.congr (fun k=>by rw [turned_f];rfl) (f:=fun k=>(num_number_plus.f k (D9 y.natAbs) (ng y) (D9 (-(mk (ng y) (x.natAbs % y.natAbs))).natAbs) (ng (-(mk (ng y) (x.natAbs % y.natAbs))))).bind fun p=>some ((ng (mk (ng x != ng y) (x.natAbs / y.natAbs) + mk true 1)),D9 (mk (ng x != ng y) (x.natAbs / y.natAbs) + mk true 1).natAbs,p.2,p.1,0)) ?_
    exact Ev.bind p2 (Ev.now _)
  ·refine Ev.congr (fun k=>by rw [if_neg hs]) (f:=fun k=>num_DivMod.j1 k false (D9 y.natAbs) (ng y) (D9 (mk (ng x != ng y) (x.natAbs / y.natAbs)).natAbs) (ng (mk (ng x != ng y) (x.natAbs / y.natAbs))) (D9 (mk (ng y) (x.natAbs % y.natAbs)).natAbs) (ng (mk (ng y) (x.natAbs % y.natAbs)))) ?_
   rw [if_neg (fun h=>hs h.1),if_neg (fun h=>hs h.1),Int.add_zero]
   refine Ev.step (f:=fun _=>some _) (fun k=>?_) (Ev.now _)
   simp only [num_DivMod.j1]
   rw [if_neg (by decide)]
   rfl
end Go.Proofs.YtcbohpmdeboeoaaGreatDoorRR.M

/- What Of computes, the program's and the reference's: on a row of decimal digits without a leading nought the number, else false. -/
namespace Go.Proofs.YtcbohpmdeboeoaaGreatDoorRR.M
open Go.RowKit Go.Proofs.YtcbohpmdeboeoaaGreatDoorRR.X Go.Proofs.YtcbohpmdeboeoaaGreatDoorRRW.PrintWords Go.Proofs.YtcbohpmdeboeoaaGreatDoorRRW.PrintLast Go.Proofs.YtcbohpmdeboeoaaGreatDoorRRW.PrintMore

/-- The number that decimal digits spell, the highest first. -/
def dv (l : List UInt8) : Nat:=l.foldl (fun a c=>a * 10 + (c.toNat - 48)) 0
/-- A decimal digit's byte. -/
def isDig (c : UInt8) : Prop:=48≤c.toNat∧c.toNat≤57
instance (c : UInt8) : Decidable (isDig c):=inferInstanceAs (Decidable (_∧_))
def allDig (l : List UInt8) : Bool:=l.all (fun c=>decide (isDig c))
theorem allDig_iff {l : List UInt8} : allDig l = true ↔ ∀ c ∈ l,isDig c:=by
 unfold allDig
 rw [List.all_eq_true]
 exact⟨fun h c hc=>of_decide_eq_true (h c hc),fun h c hc=>decide_eq_true (h c hc)⟩
theorem allDig_no {l : List UInt8} (h : ¬ ∀ c ∈ l,isDig c) : allDig l = false:=by
 cases e : allDig l
 ·rfl
 ·exact absurd (allDig_iff.1 e) h
theorem dv_foldl (l : List UInt8) (a : Nat) : l.foldl (fun a c=>a * 10 + (c.toNat - 48)) a = a * 10 ^ l.length + dv l:=by
 induction l generalizing a with
 | nil=>simp [dv]
 | cons c l ih=>
  have h:=ih (c.toNat - 48)
  simp only [dv,List.foldl_cons,List.length_cons,Nat.zero_mul,Nat.zero_add] at h ⊢
  rw [ih,h,Nat.add_mul,Nat.pow_succ,Nat.mul_comm (10 ^ l.length),← Nat.mul_assoc,Nat.add_assoc]
  rfl
theorem dv_append (l r : List UInt8) : dv (l ++ r) = dv l * 10 ^ r.length + dv r:=by
 unfold dv
 rw [List.foldl_append,dv_foldl]
 rfl
theorem dv_one (c : UInt8) : dv [c] = c.toNat - 48:=by simp [dv]
theorem dv_lt (l : List UInt8) (h : ∀ c ∈ l,isDig c) : dv l < 10 ^ l.length:=by
 induction l with
 | nil=>simp [dv]
 | cons c l ih=>
  have h1:=ih (fun x hx=>h x (by simp [hx]))
  have h2 : isDig c:=h c (by simp)
  unfold isDig at h2
  have e : dv (c :: l) = dv [c] * 10 ^ l.length + dv l:=dv_append [c] l
  rw [e,dv_one,List.length_cons,Nat.pow_succ]
  have h3 : (c.toNat - 48 + 1) * 10 ^ l.length≤10 * 10 ^ l.length:=Nat.mul_le_mul_right _ (by omega)
  rw [Nat.add_mul] at h3
  omega
theorem parse_dv (r : List UInt8) (h : ∀ c ∈ r,isDig c) : ∀ a : Nat,(a + 1) * 10 ^ r.length≤1000000000000000000→Lib.parseUintM (2 ^ 64 - 1) a r = .ok (r.foldl (fun a c=>a * 10 + (c.toNat - 48)) a):=by
 induction r with
 | nil=>intro a _;rfl
 | cons c r ih=>
  intro a ha
  have h2 : isDig c:=h c (by simp)
  rw [List.length_cons,Nat.pow_succ] at ha
  have hp : 1≤10 ^ r.length:=Nat.pow_pos (by omega)
  have ha1 : (a + 1) * (1 * 10)≤(a + 1) * (10 ^ r.length * 10):=Nat.mul_le_mul_left _ (Nat.mul_le_mul_right _ hp)
  unfold isDig at h2
  rw [Lib.parseUintM,if_pos h2,if_neg (by omega),if_neg (by omega)]
  refine ih (fun x hx=>h x (by simp [hx])) _ ?_
  have : (a * 10 + (c.toNat - 48) + 1) * 10 ^ r.length≤((a + 1) * 10) * 10 ^ r.length:=Nat.mul_le_mul_right _ (by omega)
  rw [Nat.mul_assoc,Nat.mul_comm 10] at this
  omega
theorem parse_f (s : ByteArray) (h : ∀ c ∈ s.data.toList,isDig c) (h0 : s.data.toList≠[]) (h9 : s.size≤9) : strconv_ParseUint.f s 10 64 = some ((dv s.data.toList : Int),none):=by
 unfold strconv_ParseUint.f
 have hl : s.data.toList.length≤9:=by rw [← Lib.size_eq];exact h9
 rw [if_pos rfl,if_pos rfl,if_pos (by omega),Lib.parseUintB,if_neg h0,parse_dv _ h 0 (by
  have : 10 ^ s.data.toList.length≤10 ^ 9:=Nat.pow_le_pow_right (by omega) hl
  omega)]
 rfl
theorem bt_eq (s : ByteArray) (i : Nat) (h : i < s.size) : bt s (i : Int) = ((s.data.toList[i]'(by rw [← Lib.size_eq];exact h)).toNat : Int):=by
 unfold bt
 rw [Int.toNat_natCast,dif_pos h]
 rfl

theorem decimal_l0 (s : ByteArray) (hs : s.size≤1000000) (q : Nat) : ∀ (i : Nat),i + q = s.size→
  Ev (fun k=>nat_decimal.l0 k s (s.size : Int) (i : Int)) (allDig (s.data.toList.drop i)):=by
 induction q with
 | zero=>
  intro i hi
  have hl:=Lib.size_eq s
  rw [List.drop_eq_nil_of_le (by omega)]
  refine Ev.step (f:=fun _=>some true) (fun k=>?_) (Ev.now _)
  simp only [nat_decimal.l0]
  rw [if_neg (by omega)]
 | succ q ih=>
  intro i hi
  have hl:=Lib.size_eq s
  have hil : i < s.data.toList.length:=by omega
  have hb:=bt_eq s i (by omega)
  rw [List.drop_eq_getElem_cons hil]
  obtain⟨c,hc⟩ : ∃ c,c = s.data.toList[i]'hil:=⟨_,rfl⟩
  rw [← hc] at hb ⊢
  by_cases h1 : isDig c
  ·have e : allDig (c :: s.data.toList.drop (i + 1)) = allDig (s.data.toList.drop (i + 1)):=by
    unfold allDig
    rw [List.all_cons,decide_eq_true h1,Bool.true_and]
   rw [e]
   unfold isDig at h1
   refine Ev.step (f:=fun k=>nat_decimal.l0 k s (s.size : Int) ((i + 1 : Nat) : Int)) (fun k=>?_) (ih (i + 1) (by omega))
   simp only [nat_decimal.l0]
   rw [if_pos (by omega),if_pos (by omega),if_pos (by omega),hb,if_neg (by omega),if_neg (by omega),w64 (by omega) (by omega)]
   rfl
  ·have e : allDig (c :: s.data.toList.drop (i + 1)) = false:=allDig_no (fun h=>h1 (h c (by simp)))
   rw [e]
   unfold isDig at h1
   refine Ev.step (f:=fun _=>some false) (fun k=>?_) (Ev.now _)
   simp only [nat_decimal.l0]
   rw [if_pos (by omega),if_pos (by omega),if_pos (by omega),hb]
   by_cases h2 : (c.toNat : Int) < 48
   ·rw [if_pos h2]
   ·rw [if_neg h2,if_pos (by omega)]
theorem decimal_f (s : ByteArray) (hs : s.size≤1000000) : Ev (fun k=>nat_decimal.f k s) (allDig s.data.toList):=by
 have:=decimal_l0 s hs s.size 0 (by omega)
 rwa [List.drop_zero] at this

theorem of_go (n : Nat) : ∀ (s : ByteArray) (o : List Int),s.size≤n→n≤100000→o.length + s.size≤100000→Dig B o→(∀ c ∈ s.data.toList,isDig c)→
  Ev (fun k=>nat_Of.l0 k s o) (D9 ((V B o).toNat + B ^ o.length * dv s.data.toList),true):=by
 induction n with
 | zero=>
  intro s o hs _ ho hd _
  have hl:=Lib.size_eq s
  have : s.data.toList = []:=List.eq_nil_of_length_eq_zero (by omega)
  rw [this]
  simp only [dv,List.foldl_nil,Nat.mul_zero,Nat.add_zero]
  refine Ev.step (f:=fun k=>(nat_carried.f k o).bind fun t599=>((nat_number_row.f k t599).bind fun t602=>(some (t602,true)))) (fun k=>?_) ?_
  ·simp only [nat_Of.l0]
   rw [if_neg (by omega)]
  ·have h1 : (D9 (V B o).toNat).length≤o.length + 1:=D_len_V B2 (fun x hx=>by have:=Dig9 hd x hx;show 0≤x∧x≤1000000000 * 1000000000 - 1000000000;omega)
   exact Ev.bind (carried_f o (fun x hx=>by have:=Dig9 hd x hx;omega) (by omega)) (Ev.bind (row_f _ (by omega)) (Ev.now _))
 | succ n ih=>
  intro s o hs hn ho hd hg
  by_cases h0 : s.size = 0
  ·exact ih s o (by omega) (by omega) ho hd hg
  ·have hl:=Lib.size_eq s
   obtain⟨lo,hlo⟩ : ∃ lo : Nat,lo = s.size - 9:=⟨_,rfl⟩
   have e1 : mx (wrap64 ((s.size : Int) - 9)) 0 = (lo : Int):=by
    rw [w64 (by omega) (by omega)]
    unfold mx
    split <;> omega
   have e2 : (s.extract lo s.size).data.toList = s.data.toList.drop lo:=by
    rw [Lib.extract_data,List.take_of_length_le (by simp;try omega)]
   have e3 : (s.extract 0 lo).data.toList = s.data.toList.take lo:=by
    rw [Lib.extract_data];simp
   have z2 : (s.extract lo s.size).size = s.size - lo:=by rw [Lib.size_eq,e2,List.length_drop];omega
   have z3 : (s.extract 0 lo).size = lo:=by rw [Lib.size_eq,e3,List.length_take];omega
   have hp:=parse_f (s.extract lo s.size) (by rw [e2];exact fun c hc=>hg c (List.mem_of_mem_drop hc)) (by rw [e2];intro h;have:=congrArg List.length h;simp at this;omega) (by omega)
   rw [e2] at hp
   have hlt : dv (s.data.toList.drop lo) < 1000000000:=by
    have h1:=dv_lt (s.data.toList.drop lo) (fun c hc=>hg c (List.mem_of_mem_drop hc))
    have h2 : 10 ^ (s.data.toList.drop lo).length≤10 ^ 9:=Nat.pow_le_pow_right (by omega) (by simp;omega)
    omega
   have ih':=ih (s.extract 0 lo) (o ++ [((dv (s.data.toList.drop lo) : Nat) : Int)]) (by omega) (by omega) (by simp;omega) (Dig.snoc hd (by omega) (by show _ < (1000000000 : Int);omega)) (by rw [e3];exact fun c hc=>hg c (List.mem_of_mem_take hc))
   have hv0:=V_nonneg (b:=(B : Int)) (by decide) hd.nonneg
   have ev : (V B (o ++ [((dv (s.data.toList.drop lo) : Nat) : Int)])).toNat + B ^ (o ++ [((dv (s.data.toList.drop lo) : Nat) : Int)]).length * dv (s.extract 0 lo).data.toList = (V B o).toNat + B ^ o.length * dv s.data.toList:=by
    rw [V_snoc,e3,List.length_append,List.length_singleton,Nat.pow_succ]
    have a1 : (B : Int) ^ o.length * ((dv (s.data.toList.drop lo) : Nat) : Int) = ((B ^ o.length * dv (s.data.toList.drop lo) : Nat) : Int):=by rw [Int.natCast_mul];simp
    rw [a1,Int.toNat_add hv0 (Int.natCast_nonneg _),Int.toNat_natCast]
    have a2 : dv s.data.toList = dv (s.data.toList.take lo) * 10 ^ (s.data.toList.drop lo).length + dv (s.data.toList.drop lo):=by rw [← dv_append,List.take_append_drop]
    have a3 : dv (s.data.toList.take lo) * 10 ^ (s.data.toList.drop lo).length = dv (s.data.toList.take lo) * B:=by
     by_cases h9 : 9≤s.size
     ·rw [show(s.data.toList.drop lo).length = 9 by rw [List.length_drop];omega]
     ·rw [show lo = 0 by omega];simp [dv]
    rw [a2,a3,Nat.mul_add,Nat.add_assoc,Nat.mul_comm (dv (s.data.toList.take lo)) B,← Nat.mul_assoc,Nat.add_comm (B ^ o.length * dv (s.data.toList.drop lo))]
   rw [ev] at ih'
   refine Ev.step (fun k=>?_) ih'
   simp only [nat_Of.l0]
   rw [if_pos (by omega),e1,if_pos (by omega),if_pos (by omega),Int.toNat_natCast,hp]
   simp only [Option.bind_some]
   rw [if_pos (by omega)]

/-- A number as Of takes it. -/
def okNum (s : ByteArray) : Bool:=decide (s.size≠0) && !(decide (1 < s.size) && decide (bt s 0 = 48)) && allDig s.data.toList
theorem toList_nil (s : ByteArray) : s.toList = ([] : List UInt8) ↔ s.size = 0:=by
 obtain⟨⟨l⟩⟩:=s
 simp [ByteArray.size]
theorem Of_f (s : ByteArray) (hs : s.size≤90000) : Ev (fun k=>nat_Of.f k s) (if okNum s = true then(D9 (dv s.data.toList),true) else([],false)):=by
 have no : Ev (fun k=>nat_Of.j0 k s true) (([] : List Int),false):=Ev.step (f:=fun _=>some ([],false)) (fun k=>by simp only [nat_Of.j0];rw [if_pos trivial]) (Ev.now _)
 have yes : (∀ c ∈ s.data.toList,isDig c)→Ev (fun k=>nat_Of.j0 k s false) (D9 (dv s.data.toList),true):=fun h=>by
  have:=of_go s.size s [] (Nat.le_refl _) (by omega) (by simp;omega) (Dig.nil _) h
  simp only [V,List.length_nil,Nat.pow_zero,Nat.one_mul,Int.toNat_zero,Nat.zero_add] at this
  exact Ev.step (f:=fun k=>nat_Of.l0 k s []) (fun k=>by simp only [nat_Of.j0];rw [if_neg (by simp)]) this
 have tail : Ev (fun k=>(nat_decimal.f k s).bind fun t=>nat_Of.j0 k s (!t)) (if allDig s.data.toList = true then(D9 (dv s.data.toList),true) else([],false)):=by
  refine Ev.bind (decimal_f s (by omega)) ?_
  by_cases h : ∀ c ∈ s.data.toList,isDig c
  ·rw [if_pos (allDig_iff.2 h),allDig_iff.2 h];exact yes h
  ·rw [if_neg (by rw [allDig_no h];simp),allDig_no h];exact no
 unfold nat_Of.f
 by_cases h0 : s.size = 0
 ·rw [show okNum s = false by simp [okNum,h0],if_neg (by simp)]
  exact Ev.congr (fun k=>if_pos ((toList_nil s).2 h0)) no
 ·refine Ev.congr (fun k=>if_neg (fun h=>h0 ((toList_nil s).1 h))) ?_
  by_cases h1 : 1 < s.size
  ·refine Ev.congr (fun k=>if_pos (by omega)) (Ev.congr (fun k=>if_pos (by omega)) ?_)
   by_cases h2 : bt s 0 = 48
   ·rw [show okNum s = false by simp [okNum,h1,h2],if_neg (by simp)]
    exact Ev.congr (fun k=>if_pos h2) no
   ·rw [show okNum s = allDig s.data.toList by simp [okNum,h0,h1,h2]]
    exact Ev.congr (fun k=>if_neg h2) tail
  ·rw [show okNum s = allDig s.data.toList by simp [okNum,h0,h1]]
   exact Ev.congr (fun k=>if_neg (by omega)) tail
end Go.Proofs.YtcbohpmdeboeoaaGreatDoorRR.M

/- What Text computes: the decimal digits of the number that a row stands for; and that Of reads them back. -/
namespace Go.Proofs.YtcbohpmdeboeoaaGreatDoorRR.M
open Go.RowKit Go.Proofs.YtcbohpmdeboeoaaGreatDoorRR.X Go.Proofs.YtcbohpmdeboeoaaGreatDoorRRW.PrintWords Go.Proofs.YtcbohpmdeboeoaaGreatDoorRRW.PrintLast Go.Proofs.YtcbohpmdeboeoaaGreatDoorRRW.PrintMore
open Lib (decDigits)

theorem dd_small {n : Nat} (h : n < 10) : decDigits n = [UInt8.ofNat (48 + n)]:=by rw [decDigits,dif_pos h]
theorem dd_big {n : Nat} (h : ¬ n < 10) : decDigits n = decDigits (n / 10) ++ [UInt8.ofNat (48 + n % 10)]:=by rw [decDigits,dif_neg h]
theorem dd_len {n k : Nat} (h : n < 10 ^ (k + 1)) : (decDigits n).length≤k + 1:=by
 induction k generalizing n with
 | zero=>rw [dd_small (by simpa using h)];simp
 | succ k ih=>
  by_cases h1 : n < 10
  ·rw [dd_small h1];simp
  ·rw [dd_big h1,List.length_append,List.length_singleton]
   have:=ih (n:=n / 10) (by rw [Nat.pow_succ] at h;omega)
   omega
theorem repeatL_eq (c : UInt8) (m : Nat) : Lib.repeatL [c] m = List.replicate m c:=by
 induction m with
 | zero=>rfl
 | succ m ih=>rw [Lib.repeatL,ih,List.replicate_succ];rfl
/-- The last k digits of a number. -/
def padk : Nat→Nat→List UInt8
 | 0,_=>[]
 | k + 1,b=>padk k (b / 10) ++ [UInt8.ofNat (48 + b % 10)]
theorem padk_zero (k : Nat) : padk k 0 = List.replicate k 48:=by
 induction k with
 | zero=>rfl
 | succ k ih=>rw [padk,Nat.zero_div,ih,List.replicate_succ'];rfl
theorem padk_eq (k b : Nat) (h : b < 10 ^ (k + 1)) : padk (k + 1) b = List.replicate (k + 1 - (decDigits b).length) 48 ++ decDigits b:=by
 induction k generalizing b with
 | zero=>
  have hb : b < 10:=by simpa using h
  rw [padk,padk,dd_small hb,Nat.mod_eq_of_lt hb];simp
 | succ k ih=>
  rw [padk]
  by_cases hb : b < 10
  ·rw [Nat.div_eq_of_lt hb,padk_zero,dd_small hb,Nat.mod_eq_of_lt hb];simp
  ·rw [ih (b / 10) (by rw [Nat.pow_succ] at h;omega),dd_big hb,List.length_append,List.length_singleton,← List.append_assoc]
   congr 2
   congr 1
   omega
theorem dd_split (k : Nat) : ∀ a b : Nat,a≠0→b < 10 ^ k→decDigits (a * 10 ^ k + b) = decDigits a ++ padk k b:=by
 induction k with
 | zero=>
  intro a b _ hb
  obtain rfl : b = 0:=by simpa using hb
  simp [padk]
 | succ k ih=>
  intro a b ha hb
  rw [Nat.pow_succ] at hb ⊢
  have hp : 1≤10 ^ k:=Nat.pow_pos (by omega)
  have hm : 1 * (1 * 10)≤a * (10 ^ k * 10):=Nat.mul_le_mul (by omega) (Nat.mul_le_mul_right _ hp)
  have hm2 : a * (10 ^ k * 10) = a * 10 ^ k * 10:=(Nat.mul_assoc _ _ _).symm
  rw [hm2] at hm ⊢
  rw [dd_big (by omega),show(a * 10 ^ k * 10 + b) / 10 = a * 10 ^ k + b / 10 by omega,show(a * 10 ^ k * 10 + b) % 10 = b % 10 by omega,ih a (b / 10) ha (by omega),padk,List.append_assoc]
theorem txtPad_eq (d : Nat) (h : d < 1000000000) : nat_txtPad (d : Int) = padk 9 d:=by
 unfold nat_txtPad
 rw [Int.toNat_natCast,repeatL_eq,padk_eq 8 d (by omega)]
theorem D9_1' {x : Nat} (h0 : x≠0) (h1 : x < B) : D9 x = [(x : Int)]:=by
 show D B x = _
 rw [D_pos B2 h0,Nat.mod_eq_of_lt h1,Nat.div_eq_of_lt h1,D_zero]
theorem txt_low (n : Nat) : ∀ j : Nat,n / B ^ j≠0→decDigits (n / B ^ j) ++ nat_txtLow (D9 n) j = decDigits n:=by
 intro j
 induction j with
 | zero=>intro _;simp [nat_txtLow]
 | succ j ih=>
  intro h
  have hd : n / B ^ (j + 1) = n / B ^ j / B:=by rw [Nat.pow_succ,Nat.div_div_eq_div_mul]
  have h0 : n / B ^ j≠0:=by
   intro h0
   rw [hd,h0] at h
   exact h (Nat.zero_div _)
  have hg : (D9 n).getD j 0 = ((n / B ^ j % B : Nat) : Int):=by
   have e : (D9 n).drop j = D9 (n / B ^ j):=D_drop B2 n j
   have e2 : D9 (n / B ^ j) = ((n / B ^ j % B : Nat) : Int) :: D9 (n / B ^ j / B):=D_pos B2 h0
   rw [e2] at e
   have : (D9 n)[j]? = some ((n / B ^ j % B : Nat) : Int):=by
    have h1 : ((D9 n).drop j)[0]? = (D9 n)[j + 0]?:=List.getElem?_drop
    rw [e] at h1
    exact h1.symm
   rw [List.getD_eq_getElem?_getD,this];rfl
  have hm : n / B ^ j % B < 1000000000:=Nat.mod_lt _ (by decide)
  rw [nat_txtLow,hg,txtPad_eq _ hm,← List.append_assoc,hd,← dd_split 9 _ _ (by rw [← hd];exact h) hm]
  have e3 : n / B ^ j / B * 10 ^ 9 + n / B ^ j % B = n / B ^ j:=by
   have:=Nat.div_add_mod (n / B ^ j) B
   rw [Nat.mul_comm] at this
   exact this
  rw [e3]
  exact ih h0
theorem txt_eq (n : Nat) : nat_txt (D9 n) = decDigits n:=by
 by_cases h : n = 0
 ·subst h
  rw [show D9 0 = [] from D_zero B]
  simp [nat_txt,nat_txtLow]
 ·have hl : 0 < (D9 n).length:=by
   rcases Nat.eq_zero_or_pos (D9 n).length with h1 | h1
   ·exact absurd (D9_nil.1 h1) h
   ·exact h1
  obtain⟨j,hj⟩ : ∃ j,(D9 n).length = j + 1:=⟨(D9 n).length - 1,by omega⟩
  have h1 : n < B ^ (j + 1):=(D_len B2).1 (by show(D9 n).length≤j + 1;omega)
  have h2 : ¬ n < B ^ j:=fun h2=>by have : (D9 n).length≤j:=(D_len B2).2 h2;omega
  have h0 : n / B ^ j≠0:=fun h3=>h2 ((Nat.div_eq_zero_iff_lt (Nat.pow_pos (by decide))).1 h3)
  have hlt : n / B ^ j < B:=(Nat.div_lt_iff_lt_mul (Nat.pow_pos (by decide))).2 (by rw [Nat.mul_comm,← Nat.pow_succ];exact h1)
  have hg : (D9 n).getD j 0 = ((n / B ^ j : Nat) : Int):=by
   have e : (D9 n).drop j = D9 (n / B ^ j):=D_drop B2 n j
   have e2 : D9 (n / B ^ j) = [((n / B ^ j : Nat) : Int)]:=D9_1' h0 hlt
   rw [e2] at e
   have h4 : ((D9 n).drop j)[0]? = (D9 n)[j + 0]?:=List.getElem?_drop
   rw [e] at h4
   have : (D9 n)[j]? = some ((n / B ^ j : Nat) : Int):=h4.symm
   rw [List.getD_eq_getElem?_getD,this];rfl
  rw [nat_txt,hj,Nat.add_sub_cancel,hg,Int.toNat_natCast]
  exact txt_low n j h0
/-- The bytes that Text answers. -/
def txt (n : Nat) : ByteArray:=⟨(decDigits n).toArray⟩
theorem txt_list (n : Nat) : (txt n).data.toList = decDigits n:=by simp [txt]
theorem dd_len9 (n N : Nat) (h : (D9 n).length≤N) : (decDigits n).length≤9 * N + 1:=by
 have h1 : n < B ^ N:=(D_len B2).1 h
 have h2 : n < 10 ^ (9 * N):=by rw [Nat.pow_mul];exact h1
 exact dd_len (Nat.lt_of_lt_of_le h2 (Nat.pow_le_pow_right (by omega) (by omega)))
theorem Text_f (l : List Int) (h : Row 10000 l) : Ev (fun k=>nat_Text.f k l) (txt (val l)):=by
 have h1:=h.len
 have h2:=dd_len9 (val l) 10001 h1
 unfold nat_Text.f
 refine Ev.bind (h.of (by omega)) (Ev.congr (fun k=>?_) (Ev.now _))
 rw [if_pos (by rw [List.all_eq_true];intro d hd;exact decide_eq_true (D9_lt _ d hd)),if_pos (by omega),txt_eq,if_pos (by omega)]
 rfl
theorem txt_size (n : Nat) : (txt n).size = (decDigits n).length:=by rw [Lib.size_eq,txt_list]
end Go.Proofs.YtcbohpmdeboeoaaGreatDoorRR.M

/- What num's folds compute, in plain Lean over their printed forms: Gcd, Text, Parse, same, and the reference's Of and Parse. -/
namespace Go.Proofs.YtcbohpmdeboeoaaGreatDoorRR.M
open Go.RowKit Go.Proofs.YtcbohpmdeboeoaaGreatDoorRR.X Go.Proofs.YtcbohpmdeboeoaaGreatDoorRRW.PrintWords Go.Proofs.YtcbohpmdeboeoaaGreatDoorRRW.PrintLast Go.Proofs.YtcbohpmdeboeoaaGreatDoorRRW.PrintMore
/-- The number that an api.Int stands for, and a list's rows within a length. -/
abbrev iv (x : S25) : Int:=mk x.f0 (val x.f1)
theorem rdS_nat (L : List S25) (i : Nat) : rd_T25 L (i : Int) = L.getD i z25:=by unfold rd_T25;simp
theorem getD_appS (p : List S25) (x : S25) (s : List S25) (d : S25) : (p ++ x :: s).getD p.length d = x:=by simp [List.getD]
def gcdV : List S25→Nat→Nat
 | [],g=>g
 | x :: L,g=>gcdV L (Nat.gcd g (iv x).natAbs)
theorem ln_gcd (n m : Nat) : (D9 (Nat.gcd n m)).length≤(D9 n).length + (D9 m).length:=by
 by_cases h : n = 0
 ·subst h;rw [Nat.gcd_zero_left];omega
 ·have : (D9 (Nat.gcd n m)).length≤(D9 n).length:=D_len_mono B2 (Nat.gcd_le_left _ (Nat.pos_of_ne_zero h))
  omega
theorem gcd_fold (s : List S25) : ∀ (p : List S25) (g : Nat),(∀ x ∈ s,Row 1000 x.f1)→(D9 g).length + 1001 * s.length≤9000→p.length + s.length≤1000→
  Ev (fun k=>num_together_at_num_Gcd_1.l0 k (p ++ s) ((p ++ s).length : Int) (p.length : Int) (D9 g) false) (false,D9 (gcdV s g)):=by
 induction s with
 | nil=>
  intro p g hs hn hp
  refine Ev.step (f:=fun _=>some _) (fun k=>?_) (Ev.now _)
  simp only [num_together_at_num_Gcd_1.l0]
  rw [if_neg (by simp)]
  rfl
 | cons x s ih=>
  intro p g hs hn hp
  have hx:=hs x (by simp)
  simp only [List.length_cons] at hn hp
  refine Ev.step (f:=fun k=>(num_of.f k x.f0 x.f1).bind fun u=>(num_Gcd_1.f k (D9 g) false u.1 u.2).bind fun v=>num_together_at_num_Gcd_1.l0 k ((p ++ [x]) ++ s) (((p ++ [x]) ++ s).length : Int) ((p ++ [x]).length : Int) v.1 v.2) (fun k=>?_) ?_
  ·simp only [num_together_at_num_Gcd_1.l0]
   rw [if_pos (by simp;omega),if_pos (by omega),if_pos (by simp;omega),rdS_nat,getD_appS,w64 (by omega) (by omega)]
   simp
  ·have h1:=hx.len
   have h3:=nof_f x.f0 x.f1 (hx.le (show 1000≤10000 by decide))
   have e : (iv x).natAbs = val x.f1:=mk_abs _ _
   have h2:=ln_gcd g (iv x).natAbs
   have h4:=gcd2_l0 (iv x).natAbs g false (ng (iv x)) (by omega) (by rw [e];omega)
   rw [e] at h2
   have h6:=ih (p ++ [x]) (Nat.gcd g (iv x).natAbs) (fun y hy=>hs y (by simp [hy])) (by rw [e];omega) (by simp;omega)
   have h5 : Ev (fun k=>num_Gcd_1.f k (D9 g) false (D9 (iv x).natAbs) (ng (iv x))) (D9 (Nat.gcd g (iv x).natAbs),false):=h4
   exact Ev.bind h3 (Ev.bind h5 h6)
theorem nGcd_f (L : List S25) (hL : ∀ x ∈ L,Row 1000 x.f1) (hn : L.length≤8) : Ev (fun k=>num_Gcd.f k L) (false,D9 (gcdV L 0)):=by
 have:=gcd_fold L [] 0 hL (by rw [show D9 0 = [] from D_zero B];simp;omega) (by simp;omega)
 rw [show D9 0 = [] from D_zero B] at this
 unfold num_Gcd.f
 exact Ev.bind this (Ev.now _)
/-- The text of a number. -/
def ntxt (z : Int) : ByteArray:=if ng z = true then(⟨#[45]⟩ : ByteArray) ++ txt z.natAbs else txt z.natAbs
theorem nText_f (b : Bool) (l : List Int) (h : Row 5000 l) : Ev (fun k=>num_Text.f k b l) (ntxt (mk b (val l))):=by
 have n1:=h.len
 have o1:=nof_f b l (h.le (show 5000≤10000 by decide))
 have lx : (D9 (mk b (val l)).natAbs).length≤5001:=by rw [mk_abs];exact n1
 generalize mk b (val l) = z at *
 have ht:=Text_f (D9 z.natAbs) (Row.D (by omega))
 rw [val_D] at ht
 have hsz : (txt z.natAbs).size≤100000:=by
  rw [txt_size];have:=dd_len9 z.natAbs 5001 lx;omega
 unfold num_Text.f ntxt
 refine Ev.bind o1 ?_
 by_cases hs : ng z = true
 ·rw [if_pos hs]
  exact Ev.congr (fun k=>if_pos hs) (Ev.bind ht (Ev.congr (fun k=>if_pos (by omega)) (Ev.now _)))
 ·rw [if_neg hs]
  exact Ev.congr (fun k=>if_neg hs) (Ev.bind ht (Ev.now _))
/-- Two numbers as told are one just if they are. -/
theorem nsame_f (b1 : Bool) (l1 : List Int) (b2 : Bool) (l2 : List Int) (hl : l1.length≤1000000000) : Ev (fun k=>whetstonelaw02_same.f k b1 l1 b2 l2) (decide ((b1,l1) = (b2,l2))):=by
 unfold whetstonelaw02_same.f
 refine Ev.bind (a:=decide ((b1,l1) = (b2,l2))) ?_ (Ev.now _)
 unfold whetstonekit_SameInt.f
 by_cases hb : b1 = b2
 ·subst hb
  refine Ev.congr (fun k=>if_pos (by simp)) ?_
  refine Ev.bind (a:=decide ((b1,l1) = (b1,l2))) ?_ (Ev.now _)
  unfold whetstonekit_SameLimbs.f
  by_cases he : l1.length = l2.length
  ·rw [show decide ((b1,l1) = (b1,l2)) = decide (l1 = l2) from decide_eq_decide.2 ⟨fun h=>(Prod.mk.inj h).2,fun h=>by rw [h]⟩]
   exact Ev.congr (fun k=>if_pos (by omega)) (limbs_l0 l1 l2 he hl l1.length 0 (by omega) rfl)
  ·rw [decide_eq_false (fun e=>he (by rw [(Prod.mk.inj e).2]))]
   exact Ev.congr (fun k=>if_neg (by omega)) (Ev.now _)
 ·rw [decide_eq_false (fun e=>hb (Prod.mk.inj e).1)]
  exact Ev.congr (fun k=>if_neg (by simpa using hb)) (Ev.now _)
theorem az_inj {x y : Int} (h : az x = az y) : x = y:=by
 have h1:=(Prod.mk.inj h).1
 have h2:=D_inj B2 (Prod.mk.inj h).2
 rw [← mk_self x,← mk_self y,h1,h2]
theorem nsame_az (x y : Int) (hx : ln x≤1000000) : Ev (fun k=>whetstonelaw02_same.f k (ng x) (D9 x.natAbs) (ng y) (D9 y.natAbs)) (decide (x = y)):=by
 have hl : (D9 x.natAbs).length≤1000000:=hx
 have:=nsame_f (ng x) (D9 x.natAbs) (ng y) (D9 y.natAbs) (by omega)
 rwa [show decide ((ng x,D9 x.natAbs) = (ng y,D9 y.natAbs)) = decide (x = y) from decide_eq_decide.2 ⟨fun h=>az_inj h,fun h=>by rw [h]⟩] at this
/-- Has a text a sign, and what stands behind it. -/
def sg (s : ByteArray) : Bool:=decide (0 < s.size) && decide (bt s 0 = 45)
def un (s : ByteArray) : ByteArray:=if sg s = true then s.extract 1 s.size else s
theorem cut_f (s : ByteArray) : strings_CutPrefix.f s (⟨#[45]⟩ : ByteArray) = some (un s,sg s):=by
 have h1 : (((⟨#[45]⟩ : ByteArray).size : Int)) = 1:=rfl
 have h2 : ((⟨#[45]⟩ : ByteArray).toList) = [45]:=by decide +kernel
 unfold strings_CutPrefix.f stringslite_CutPrefix.f stringslite_HasPrefix.f
 rw [h1,h2]
 by_cases h0 : 0 < s.size
 ·rw [if_pos (by omega),if_pos (by omega),if_pos (by omega)]
  have hb : ((s.extract 0 (1 : Int).toNat).toList == [45]) = decide (bt s 0 = 45):=by
   rw [Lib.extract_toList]
   have hb:=bt_eq s 0 h0
   have hl:=Lib.size_eq s
   cases hd : s.data.toList with
   | nil=>rw [hd,List.length_nil] at hl;omega
   | cons c r=>
    have e : bt s 0 = (c.toNat : Int):=by
     rw [show((0 : Nat) : Int) = 0 from rfl] at hb
     rw [hb]
     have hg : ∀ (h : 0 < s.data.toList.length),s.data.toList[0]'h = c:=by rw [hd];intro h;rfl
     rw [hg]
    rw [e]
    simp only [List.drop_zero,Int.toNat_one,Nat.sub_zero,List.take_succ_cons,List.take_zero]
    rw [Bool.eq_iff_iff,beq_iff_eq,decide_eq_true_iff]
    constructor
    ·intro h;injection h with h _;subst h;rfl
    ·intro h
     have : c = 45:=UInt8.toNat_inj.1 (by rw [show c.toNat = 45 by omega];rfl)
     rw [this]
  simp only [Option.bind_some,hb]
  unfold un sg
  by_cases h : bt s 0 = 45
  ·have h1 : (1 : Int)≤(s.size : Int):=by omega
   have h2 : (0 : Int)≤1:=by decide
   rw [decide_eq_true h,decide_eq_true h0,if_pos rfl,if_pos h2,if_pos h1]
   rfl
  ·rw [decide_eq_false h,Bool.and_false]
   rfl
 ·rw [if_neg (by omega)]
  unfold un sg
  simp [h0]
def okP (s : ByteArray) : Bool:=okNum (un s) && !(sg s && decide (dv (un s).data.toList = 0))
def vP (s : ByteArray) : Int:=mk (sg s) (dv (un s).data.toList)
def rP (s : ByteArray) : Bool×List Int×Bool:=if okP s = true then(ng (vP s),D9 (vP s).natAbs,true) else(false,[],false)
theorem un_size (s : ByteArray) : (un s).size≤s.size:=by
 unfold un
 by_cases h : sg s = true
 ·rw [if_pos h,Lib.size_eq,Lib.extract_data,Lib.size_eq s]
  simp
 ·rw [if_neg h];exact Nat.le_refl _
theorem ok_dig {s : ByteArray} (h : okNum s = true) : ∀ c ∈ s.data.toList,isDig c:=by
 unfold okNum at h
 simp only [Bool.and_eq_true] at h
 exact allDig_iff.1 h.2
theorem dv_len {s : ByteArray} (h : okNum s = true) : (D9 (dv s.data.toList)).length≤s.size:=by
 refine(D_len B2).2 (Nat.lt_of_lt_of_le (dv_lt _ (ok_dig h)) ?_)
 rw [Lib.size_eq]
 exact Nat.pow_le_pow_left (by decide) _
theorem nParse_f (s : ByteArray) (hs : s.size≤9000) : Ev (fun k=>num_Parse.f k s) (rP s):=by
 have hu:=un_size s
 have ho:=Of_f (un s) (by omega)
 have no (b : Bool) (l : List Int) : Ev (fun k=>num_Parse.j0 k b l true) (false,([] : List Int),false):=
  Ev.step (f:=fun _=>some _) (fun k=>by simp only [num_Parse.j0];rw [if_pos trivial]) (Ev.now _)
 unfold num_Parse.f
 refine Ev.congr (f:=fun k=>(nat_Of.f k (un s)).bind fun u=>(if u.2 = true then(if sg s = true then(num_Parse.j0 k (sg s) u.1 ((u.1.length : Int) == 0)) else(num_Parse.j0 k (sg s) u.1 false)) else(num_Parse.j0 k (sg s) u.1 true))) (fun k=>by rw [cut_f];rfl) ?_
 refine Ev.bind ho ?_
 unfold rP okP vP
 by_cases h : okNum (un s) = true
 ·have hl:=dv_len h
  have yes : Ev (fun k=>num_Parse.j0 k (sg s) (D9 (dv (un s).data.toList)) false) (ng (mk (sg s) (dv (un s).data.toList)),D9 (mk (sg s) (dv (un s).data.toList)).natAbs,true):=by
   have hm:=made_D (dv (un s).data.toList) (sg s) (by omega)
   refine Ev.step (f:=fun k=>(num_made.f k (D9 (dv (un s).data.toList)) (sg s)).bind fun u=>some (u.2,u.1,true)) (fun k=>by simp only [num_Parse.j0];rw [if_neg (by decide)];rfl) ?_
   exact Ev.bind hm (Ev.now _)
  rw [if_pos h,h]
  refine Ev.congr (fun k=>if_pos rfl) ?_
  by_cases hg : sg s = true
  ·refine Ev.congr (fun k=>if_pos hg) ?_
   by_cases h0 : dv (un s).data.toList = 0
   ·rw [if_neg (by simp [hg,h0])]
    have e : (((D9 (dv (un s).data.toList)).length : Int) == 0) = true:=beq_iff_eq.2 ((D9_lenI _).2 h0)
    rw [e]
    exact no _ _
   ·rw [if_pos (by simp [h0])]
    have e : (((D9 (dv (un s).data.toList)).length : Int) == 0) = false:=by
     rw [beq_eq_false_iff_ne];exact fun hh=>h0 ((D9_lenI _).1 hh)
    rw [e]
    exact yes
  ·refine Ev.congr (fun k=>if_neg hg) ?_
   rw [if_pos (by simp [hg])]
   exact yes
 ·rw [if_neg h,if_neg (by simp [h])]
  exact Ev.congr (fun k=>if_neg (by decide)) (no _ _)
end Go.Proofs.YtcbohpmdeboeoaaGreatDoorRR.M

/- num's awake answers true: the closed example, by the functions' laws. -/
namespace Go.Proofs.YtcbohpmdeboeoaaGreatDoorRR.M
open Go.RowKit Go.Proofs.YtcbohpmdeboeoaaGreatDoorRR.X Go.Proofs.YtcbohpmdeboeoaaGreatDoorRRW.PrintWords Go.Proofs.YtcbohpmdeboeoaaGreatDoorRRW.PrintLast Go.Proofs.YtcbohpmdeboeoaaGreatDoorRRW.PrintMore
theorem small_row {z : Int} (h : z.natAbs < 1000) : (D9 z.natAbs).length≤1:=(D_len B2 (n:=z.natAbs) (k:=1)).2 (Nat.lt_of_lt_of_le h (by decide))
theorem small_Of (z : Int) (h : z.natAbs < 1000) : Ev (fun k=>num_Of.f k z) (az z):=nOf_f z (by omega) (by omega)
theorem small_dm (x y : Int) (hx : x.natAbs < 1000) (hy : y.natAbs < 1000) (h0 : y≠0) : Ev (fun k=>num_DivMod.f k (ng x) (D9 x.natAbs) (ng y) (D9 y.natAbs)) (ng (qd x y),D9 (qd x y).natAbs,ng (rs x y),D9 (rs x y).natAbs,0):=by
 have h1:=small_row hx
 have h2:=small_row hy
 have:=nDivMod_f (ng x) (D9 x.natAbs) (ng y) (D9 y.natAbs) (Row.D (by omega)) (Row.D (by omega))
 rwa [val_D,val_D,mk_self,mk_self,if_neg h0] at this
theorem small_same (x y : Int) (hx : x.natAbs < 1000) (h : x = y) : Ev (fun k=>whetstonelaw02_same.f k (ng x) (D9 x.natAbs) (ng y) (D9 y.natAbs)) true:=by
 have h1:=small_row hx
 have:=nsame_az x y (by show(D9 x.natAbs).length≤_;omega)
 rwa [decide_eq_true h] at this
theorem awake_f : Ev (fun k=>whetstonelaw02_awake.f k) true:=by
 have p1 : Ev (fun k=>num_Parse.f k (⟨#[45,48]⟩ : ByteArray)) (false,[],false):=by
  have:=nParse_f (⟨#[45,48]⟩ : ByteArray) (by decide)
  rwa [show rP (⟨#[45,48]⟩ : ByteArray) = (false,[],false) by unfold rP;rw [show okP (⟨#[45,48]⟩ : ByteArray) = false by decide +kernel];rfl] at this
 have p2 : Ev (fun k=>num_Parse.f k (⟨#[43,49]⟩ : ByteArray)) (false,[],false):=by
  have:=nParse_f (⟨#[43,49]⟩ : ByteArray) (by decide)
  rwa [show rP (⟨#[43,49]⟩ : ByteArray) = (false,[],false) by unfold rP;rw [show okP (⟨#[43,49]⟩ : ByteArray) = false by decide +kernel];rfl] at this
 have g1 : Ev (fun k=>num_Gcd.f k [(⟨ng (-4),D9 (-4 : Int).natAbs⟩ : S25),⟨ng 6,D9 (6 : Int).natAbs⟩,⟨ng 0,D9 (0 : Int).natAbs⟩]) (az 2):=by
  have r (z : Int) (h : z.natAbs < 1000) : Row 1000 (D9 z.natAbs):=Row.D (by have:=small_row h;omega)
  have:=nGcd_f [(⟨ng (-4),D9 (-4 : Int).natAbs⟩ : S25),⟨ng 6,D9 (6 : Int).natAbs⟩,⟨ng 0,D9 (0 : Int).natAbs⟩] (fun x hx=>by simp only [List.mem_cons,List.not_mem_nil,or_false] at hx;rcases hx with rfl | rfl | rfl <;> exact r _ (by decide)) (by simp)
  rwa [show gcdV [(⟨ng (-4),D9 (-4 : Int).natAbs⟩ : S25),⟨ng 6,D9 (6 : Int).natAbs⟩,⟨ng 0,D9 (0 : Int).natAbs⟩] 0 = 2 by simp only [gcdV,iv,mk_abs,val_D];decide] at this
 have t1 : Ev (fun k=>num_Text.f k true ([] : List Int)) (⟨#[48]⟩ : ByteArray):=by
  have:=nText_f true [] ⟨fun x hx=>absurd hx (by simp),by simp⟩
  rwa [show ntxt (mk true (val [])) = (⟨#[48]⟩ : ByteArray) by show ntxt 0 = _;unfold ntxt;rw [if_neg (by decide)];show(⟨(Lib.decDigits 0).toArray⟩ : ByteArray) = _;rw [dd_small (by decide)];rfl] at this
 unfold whetstonelaw02_awake.f
 refine Ev.bind (small_Of (-7) (by decide)) (Ev.bind (small_Of 2 (by decide)) (Ev.bind (small_dm (-7) 2 (by decide) (by decide) (by decide)) ?_))
 refine Ev.bind (small_Of 7 (by decide)) (Ev.bind (small_Of (-2) (by decide)) (Ev.bind (small_dm 7 (-2) (by decide) (by decide) (by decide)) ?_))
 refine Ev.bind (small_Of (-7) (by decide)) (Ev.bind (small_Of (-2) (by decide)) (Ev.bind (small_dm (-7) (-2) (by decide) (by decide) (by decide)) ?_))
 refine Ev.bind p1 (Ev.bind p2 (Ev.bind (small_Of (-4) (by decide)) ?_))
 refine Ev.bind (small_same (qd (-7) 2) (-4) (by decide) (by decide)) (Ev.congr (fun k=>if_pos rfl) (Ev.bind (small_Of 1 (by decide)) ?_))
 refine Ev.bind (small_same (rs (-7) 2) 1 (by decide) (by decide)) (Ev.congr (fun k=>if_pos rfl) (Ev.congr (fun k=>if_pos rfl) (Ev.bind (small_Of (-4) (by decide)) ?_)))
 refine Ev.bind (small_same (qd 7 (-2)) (-4) (by decide) (by decide)) (Ev.congr (fun k=>if_pos rfl) (Ev.bind (small_Of (-1) (by decide)) ?_))
 refine Ev.bind (small_same (rs 7 (-2)) (-1) (by decide) (by decide)) (Ev.congr (fun k=>if_pos rfl) (Ev.congr (fun k=>if_pos rfl) (Ev.bind (small_Of 3 (by decide)) ?_)))
 refine Ev.bind (small_same (qd (-7) (-2)) 3 (by decide) (by decide)) (Ev.congr (fun k=>if_pos rfl) (Ev.bind (small_Of (-1) (by decide)) ?_))
 refine Ev.bind (small_same (rs (-7) (-2)) (-1) (by decide) (by decide)) (Ev.congr (fun k=>if_pos rfl) (Ev.congr (fun k=>if_pos rfl) ?_))
 refine Ev.bind (small_Of (-4) (by decide)) (Ev.bind (small_Of 6 (by decide)) (Ev.bind (small_Of 0 (by decide)) (Ev.bind g1 (Ev.bind (small_Of 2 (by decide)) ?_))))
 refine Ev.bind (small_same 2 2 (by decide) rfl) (Ev.congr (fun k=>if_pos rfl) (Ev.bind t1 (Ev.congr (fun k=>if_pos (by decide +kernel)) (Ev.congr (fun k=>if_neg (by decide)) (Ev.now _)))))
end Go.Proofs.YtcbohpmdeboeoaaGreatDoorRR.M

/- What the reference functions compute, in plain Lean over their printed forms: trim, plus, read, write, Add. -/
namespace Go.Proofs.YtcbohpmdeboeoaaGreatDoorRR.M
open Go.RowKit Go.Proofs.YtcbohpmdeboeoaaGreatDoorRR.X Go.Proofs.YtcbohpmdeboeoaaGreatDoorRRW.PrintWords Go.Proofs.YtcbohpmdeboeoaaGreatDoorRRW.PrintLast Go.Proofs.YtcbohpmdeboeoaaGreatDoorRRW.PrintMore

abbrev T : Nat:=10
theorem T2 : 2≤T:=by decide
/-- The row of a number to the base ten, as the reference has it. -/
abbrev D10 (n : Nat) : List Int:=D T n
theorem Dig10 {l : List Int} (h : Dig T l) : ∀ x ∈ l,0≤x∧x < 10:=h
theorem D10_V (n : Nat) : V T (D10 n) = n:=V_D T2 n

theorem rtrim_l0 (o : List Int) : Dig T o→o.length≤1000000000000→Ev (fun k=>whetstoneref01_trim.l0 k o) (D10 (V T o).toNat):=by
 induction h : o.length generalizing o with
 | zero=>
  intro _ _
  obtain rfl:=List.eq_nil_of_length_eq_zero h
  refine Ev.step (f:=fun _=>some []) (fun k=>?_) ?_
  ·simp only [whetstoneref01_trim.l0]
   rw [if_neg (by simp)]
  ·simp [V,D_zero];exact Ev.now _
 | succ n ih=>
  intro hd hl
  have hne : o≠[]:=by intro h0;subst h0;simp at h
  obtain⟨p,x,rfl⟩ : ∃ p x,o = p ++ [x]:=⟨o.dropLast,o.getLast hne,(List.dropLast_concat_getLast hne).symm⟩
  have hp : p.length = n:=by simpa using h
  have hd':=Dig.append.1 hd
  have e : wrap64 (((p ++ [(x : Int)]).length : Int) - 1) = (p.length : Int):=by
   rw [w64 (by simp;try omega) (by simp at h hl ⊢;omega)];simp
  have e2 : rd (p ++ [x]) (p.length : Int) = x:=by rw [rd_nat];simp [List.getD]
  by_cases hx : x = 0
  ·subst hx
   refine Ev.step (f:=fun k=>whetstoneref01_trim.l0 k p) (fun k=>?_) ?_
   ·simp only [whetstoneref01_trim.l0]
    rw [if_pos (by simp),e,if_pos (by omega),if_pos (by simp;try omega),e2,if_pos rfl,if_pos (by simp;try omega),Int.toNat_natCast,List.take_left' rfl]
   ·rw [V_snoc,Int.mul_zero,Int.add_zero]
    exact ih p hp hd'.1 (by simp at hl;omega)
  ·refine Ev.step (f:=fun _=>some (p ++ [x])) (fun k=>?_) ?_
   ·simp only [whetstoneref01_trim.l0]
    rw [if_pos (by simp),e,if_pos (by omega),if_pos (by simp;try omega),e2,if_neg hx]
   ·have e:=D_of T2 hd (by simpa using hx)
    show Ev _ (D T _)
    rw [← e]
    exact Ev.now _
theorem rtrim_f (o : List Int) (h : Dig T o) (hl : o.length≤1000000000000) : Ev (fun k=>whetstoneref01_trim.f k o) (D10 (V T o).toNat):=rtrim_l0 o h hl

theorem rplus_end (a b o : List Int) (c : Int) (i : Nat) (ho : Dig T o) (hl : o.length≤1000000000000) (h : c = 0) :
  Ev (fun k=>whetstoneref01_plus.j1 k a b o c (i : Int) (decide (c > 0))) (D10 (V T o).toNat):=by
 refine Ev.step (f:=fun k=>(whetstoneref01_trim.f k o).bind fun t=>some t) (fun k=>?_) (Ev.bind (rtrim_f o ho hl) (Ev.now _))
 simp only [whetstoneref01_plus.j1]
 rw [if_neg (by simp;omega)]
theorem rplus_l0 (a b : List Int) (ha : Dig T a) (hb : Dig T b) (h1 : a.length≤1000000) (h2 : b.length≤1000000) (q : Nat) : ∀ (o : List Int) (c : Int),2000002 = o.length + q→(0≤c∧c≤1)→Dig T o→(a.length + 1 < o.length→b.length + 1 < o.length→c = 0)→(a.length < o.length→b.length < o.length→c = 0)→
  Ev (fun k=>whetstoneref01_plus.l0 k a b o c (o.length : Int)) (D10 (V T o + (T : Int) ^ o.length * (c + V T (a.drop o.length) + V T (b.drop o.length))).toNat):=by
 induction q with
 | zero=>
  intro o c hq hc ho _ hz
  have hc0:=hz (by omega) (by omega)
  subst hc0
  rw [List.drop_eq_nil_of_le (by omega),List.drop_eq_nil_of_le (by omega)]
  simp only [V,Int.add_zero,Int.mul_zero]
  refine Ev.step (f:=fun k=>whetstoneref01_plus.j1 k a b o 0 (o.length : Int) (decide ((0 : Int) > 0))) (fun k=>?_) (rplus_end a b o 0 o.length ho (by omega) rfl)
  simp only [whetstoneref01_plus.l0]
  rw [if_neg (by omega),if_neg (by omega)]
 | succ q ih=>
  intro o c hq hc ho hz0 hz
  have hx:=getD_mem (P:=fun x=>0≤x∧x < 10) (Dig10 ha) (by omega) o.length
  have hy:=getD_mem (P:=fun x=>0≤x∧x < 10) (Dig10 hb) (by omega) o.length
  obtain⟨s,hs⟩ : ∃ s,s = c + a.getD o.length 0 + b.getD o.length 0:=⟨_,rfl⟩
  have key : V T o + (T : Int) ^ o.length * (c + V T (a.drop o.length) + V T (b.drop o.length)) = V T (o ++ [s % 10]) + (T : Int) ^ (o ++ [s % 10]).length * (s / 10 + V T (a.drop (o ++ [s % 10]).length) + V T (b.drop (o ++ [s % 10]).length)):=by
   rw [V_snoc,List.length_append,List.length_singleton,Int.pow_succ,Int.add_assoc (V T o),Int.mul_assoc,← Int.mul_add,V_getD a o.length,V_getD b o.length]
   congr 2
   rw [Int.mul_add,Int.mul_add]
   show _ = s % 10 + ((10 : Int) * _ + _ + _)
   omega
  have ih' : (o.length < a.length∨o.length < b.length∨0 < c)→Ev (fun k=>whetstoneref01_plus.l0 k a b (o ++ [s % 10]) (s / 10) ((o ++ [s % 10]).length : Int)) (D10 (V T o + (T : Int) ^ o.length * (c + V T (a.drop o.length) + V T (b.drop o.length))).toNat):=by
   intro hgo
   rw [key]
   refine ih (o ++ [s % 10]) (s / 10) (by simp;omega) (by omega) (Dig.snoc ho (by omega) (by show _ < (10 : Int);omega)) ?_ ?_
   ·simp only [List.length_append,List.length_singleton]
    intro g1 g2
    have e1 : a.getD o.length 0 = 0:=by rw [List.getD_eq_getElem?_getD,List.getElem?_eq_none (by omega)];rfl
    have e2 : b.getD o.length 0 = 0:=by rw [List.getD_eq_getElem?_getD,List.getElem?_eq_none (by omega)];rfl
    omega
   ·simp only [List.length_append,List.length_singleton]
    intro g1 g2
    have e1 : a.getD o.length 0 = 0:=by rw [List.getD_eq_getElem?_getD,List.getElem?_eq_none (by omega)];rfl
    have e2 : b.getD o.length 0 = 0:=by rw [List.getD_eq_getElem?_getD,List.getElem?_eq_none (by omega)];rfl
    omega
  have ln : ((o ++ [s % 10]).length : Int) = wrap64 ((o.length : Int) + 1):=by rw [w64 (by omega) (by omega)];simp
  have na : ¬ o.length < a.length→a.getD o.length 0 = 0:=fun h=>by rw [List.getD_eq_getElem?_getD,List.getElem?_eq_none (by omega)];rfl
  have nb : ¬ o.length < b.length→b.getD o.length 0 = 0:=fun h=>by rw [List.getD_eq_getElem?_getD,List.getElem?_eq_none (by omega)];rfl
    -- the step, once the way is taken
  have go : (o.length < a.length∨o.length < b.length∨0 < c)→Ev (fun k=>whetstoneref01_plus.j1 k a b o c (o.length : Int) true) (D10 (V T o + (T : Int) ^ o.length * (c + V T (a.drop o.length) + V T (b.drop o.length))).toNat):=by
   intro hgo
   refine Ev.step (fun k=>?_) (ih' hgo)
   simp only [whetstoneref01_plus.j1]
   rw [if_pos trivial,ln]
   by_cases g1 : o.length < a.length
   ·rw [if_pos (by omega),if_pos (by omega)]
    by_cases g2 : o.length < b.length
    ·rw [if_pos (by omega),if_pos (by omega),rd_nat,rd_nat,← hs,Int.emod_eq_of_lt (a:=s) (by omega) (by omega)]
    ·rw [if_neg (by omega),if_pos (by omega),rd_nat,show c + a.getD o.length 0 = s by rw [hs,nb g2];omega,Int.emod_eq_of_lt (a:=s) (by omega) (by omega)]
   ·rw [if_neg (by omega)]
    by_cases g2 : o.length < b.length
    ·rw [if_pos (by omega),if_pos (by omega),if_pos (by omega),rd_nat,show c + b.getD o.length 0 = s by rw [hs,na g1];omega,Int.emod_eq_of_lt (a:=s) (by omega) (by omega)]
    ·rw [if_neg (by omega),if_pos (by omega),show c = s by rw [hs,na g1,nb g2];omega,tm _ (by omega),td _ (by omega),Int.emod_eq_of_lt (a:=s / 10) (by omega) (by omega)]
  by_cases g1 : o.length < a.length
  ·refine Ev.step (fun k=>?_) (go (.inl g1))
   simp only [whetstoneref01_plus.l0]
   rw [if_pos (by omega)]
  ·by_cases g2 : o.length < b.length
   ·refine Ev.step (fun k=>?_) (go (.inr (.inl g2)))
    simp only [whetstoneref01_plus.l0]
    rw [if_neg (by omega),if_pos (by omega)]
   ·by_cases g3 : 0 < c
    ·refine Ev.step (fun k=>?_) (go (.inr (.inr g3)))
     simp only [whetstoneref01_plus.l0]
     rw [if_neg (by omega),if_neg (by omega),decide_eq_true g3]
    ·have hc0 : c = 0:=by omega
     subst hc0
     rw [List.drop_eq_nil_of_le (by omega),List.drop_eq_nil_of_le (by omega)]
     simp only [V,Int.add_zero,Int.mul_zero]
     refine Ev.step (f:=fun k=>whetstoneref01_plus.j1 k a b o 0 (o.length : Int) (decide ((0 : Int) > 0))) (fun k=>?_) (rplus_end a b o 0 o.length ho (by omega) rfl)
     simp only [whetstoneref01_plus.l0]
     rw [if_neg (by omega),if_neg (by omega)]
theorem rplus_f (a b : List Int) (ha : Dig T a) (hb : Dig T b) (h1 : a.length≤1000000) (h2 : b.length≤1000000) : Ev (fun k=>whetstoneref01_plus.f k a b) (D10 ((V T a).toNat + (V T b).toNat)):=by
 have:=rplus_l0 a b ha hb h1 h2 2000002 [] 0 (by simp) (by omega) (Dig.nil _) (by simp) (by simp)
 have e1:=V_nonneg (b:=(T : Int)) (by decide) ha.nonneg
 have e2:=V_nonneg (b:=(T : Int)) (by decide) hb.nonneg
 simp only [V,List.length_nil,List.drop_zero,Int.pow_zero,Int.one_mul,Int.zero_add,Int.ofNat_zero] at this
 rw [Int.toNat_add e1 e2] at this
 exact this

/-- One digit after the other. -/
theorem rread_l1 (a t : List Int) (i : Int) (q : Nat) : ∀ (o : List Int) (x : Nat),x < 10 ^ q→o.length + q≤1000→x < 4294967296→
  ∃ o' : List Int,o' = o ++ D10 x∧∀ R,Ev (fun k=>(whetstoneref01_plus.f k t o').bind fun u=>whetstoneref01_read.l0 k a u (wrap64 (i - 1))) R→Ev (fun k=>whetstoneref01_read.l1 k a t i o (x : Int)) R:=by
 induction q with
 | zero=>
  intro o x hx ho _
  obtain rfl : x = 0:=by simpa using hx
  refine⟨o ++ D10 0,rfl,fun R hR=>?_⟩
  rw [show D10 0 = [] from D_zero T,List.append_nil] at hR
  refine Ev.step (fun k=>?_) hR
  simp only [whetstoneref01_read.l1]
  rw [if_neg (by omega)]
 | succ q ih=>
  intro o x hx ho hx4
  refine⟨o ++ D10 x,rfl,fun R hR=>?_⟩
  by_cases h0 : x = 0
  ·subst h0
   rw [show D10 0 = [] from D_zero T,List.append_nil] at hR
   refine Ev.step (fun k=>?_) hR
   simp only [whetstoneref01_read.l1]
   rw [if_neg (by omega)]
  ·obtain⟨o',rfl,b⟩:=ih (o ++ [((x % 10 : Nat) : Int)]) (x / 10) (by rw [Nat.pow_succ] at hx;omega) (by simp;omega) (by omega)
   have e : D10 x = ((x % 10 : Nat) : Int) :: D10 (x / 10):=D_pos T2 h0
   rw [e,show o ++ ((x % 10 : Nat) : Int) :: D10 (x / 10) = (o ++ [((x % 10 : Nat) : Int)]) ++ D10 (x / 10) by simp] at hR
   refine Ev.step (fun k=>?_) (b R hR)
   simp only [whetstoneref01_read.l1]
   rw [if_pos (by omega),if_pos (by omega),tm _ (by omega),td _ (by omega),Int.emod_eq_of_lt (by omega) (by omega),Int.emod_eq_of_lt (b:=4294967296) (by omega) (by omega)]
   rfl
theorem D10_len_step (n x : Nat) (hx : x < 10000000000) : (D10 (x + B * n)).length≤(D10 n).length + 11:=by
 have h1 : (D10 n).length≤(D10 n).length:=Nat.le_refl _
 have h2:=(D_len T2).1 h1
 show(D T _).length≤_
 rw [D_len T2,Nat.pow_add]
 have : (n + 1) * 100000000000≤T ^ (D10 n).length * 100000000000:=Nat.mul_le_mul_right _ h2
 show _ < _ * 100000000000
 have e : B * n = 1000000000 * n:=rfl
 omega
theorem rread_l0 (a : List Int) (ha : U32 a) (hn : a.length≤10000) : ∀ (i : Nat) (n : Nat),i≤a.length→(n : Int) = V B (a.drop i)→(D10 n).length + 11 * i≤900000→
  Ev (fun k=>whetstoneref01_read.l0 k a (D10 n) ((i : Int) - 1)) (D10 (val a)):=by
 intro i
 induction i with
 | zero=>
  intro n hi hv hl
  simp only [List.drop_zero] at hv
  have e : val a = n:=by unfold val;omega
  rw [e]
  refine Ev.step (f:=fun _=>some _) (fun k=>?_) (Ev.now _)
  simp only [whetstoneref01_read.l0]
  rw [if_neg (by omega)]
 | succ i ih=>
  intro n hi hv hl
  have hx:=getD_mem (P:=fun x=>0≤x∧x < 4294967296) ha (by omega) i
  obtain⟨x,hx'⟩ : ∃ x : Nat,a.getD i 0 = x:=⟨(a.getD i 0).toNat,by omega⟩
  rw [hx'] at hx
  have hxl : (D10 x).length≤10:=(D_len T2).2 (by show x < 10000000000;omega)
  have hv2 : ((x + B * n : Nat) : Int) = V B (a.drop i):=by
   rw [V_getD a i,hx',← hv];simp
  have hl2:=D10_len_step n x (by omega)
    -- the zeros ahead
  obtain⟨t,ht,htl,htv⟩ : ∃ t,Dig T t∧t.length≤(D10 n).length + 9∧(V T t).toNat = B * n∧∀ R,Ev (fun k=>whetstoneref01_read.j1 k a t (i : Int)) R→Ev (fun k=>whetstoneref01_read.l0 k a (D10 n) ((i : Int))) R:=by
   by_cases h0 : (D10 n).length = 0
   ·refine⟨D10 n,D_dig T2 n,by omega,?_,fun R hR=>Ev.step (fun k=>?_) hR⟩
    ·have:=(D_len T2 (n:=n) (k:=0)).1 (by show(D10 n).length≤0;omega)
     have hn0 : n = 0:=by simpa using this
     subst hn0
     rw [show D10 0 = [] from D_zero T]
     rfl
    ·simp only [whetstoneref01_read.l0]
     rw [if_pos (by omega),if_neg (by omega)]
   ·refine⟨List.replicate 9 0 ++ D10 n,Dig.append.2 ⟨(Fill.start (P:=fun x=>0≤x∧x < ((T : Nat) : Int)) (by decide) 9).all,D_dig T2 n⟩,(by simp;try omega),?_,fun R hR=>Ev.step (fun k=>?_) hR⟩
    ·rw [V_append,V_replicate,List.length_replicate,D10_V,Int.zero_add]
     have : (T : Int) ^ 9 * (n : Int) = ((B * n : Nat) : Int):=by rw [Int.natCast_mul];rfl
     rw [this];rfl
    ·simp only [whetstoneref01_read.l0]
     rw [if_pos (by omega),if_pos (by omega),if_pos (by omega)]
     simp only [Option.bind_some]
     rw [if_pos (by simp;omega)]
  obtain⟨htv,hgo⟩:=htv
  rw [show((i + 1 : Nat) : Int) - 1 = (i : Int) by omega]
  refine hgo _ ?_
  refine Ev.step (f:=fun k=>whetstoneref01_read.l1 k a t (i : Int) [] (x : Int)) (fun k=>?_) ?_
  ·simp only [whetstoneref01_read.j1]
   rw [if_pos (by omega),if_pos (by omega),rd_nat,hx']
  obtain⟨o',rfl,b⟩:=rread_l1 a t (i : Int) 10 [] x (by omega) (by simp) (by omega)
  refine b _ ?_
  rw [List.nil_append]
  have hp:=rplus_f t (D10 x) ht (D_dig T2 x) (by omega) (by omega)
  rw [htv,D10_V,Int.toNat_natCast,Nat.add_comm (B * n)] at hp
  refine Ev.bind hp ?_
  rw [w64 (by omega) (by omega)]
  exact ih (x + B * n) (by omega) hv2 (by omega)
theorem rread_f (a : List Int) (ha : Row 10000 a) : Ev (fun k=>whetstoneref01_read.f k a) (D10 (val a)):=by
 have h2:=ha.2
 have:=rread_l0 a ha.1 h2 a.length 0 (Nat.le_refl _) (by rw [List.drop_length];rfl) (by rw [show D10 0 = [] from D_zero T];simp;omega)
 refine Ev.congr (fun k=>?_) this
 unfold whetstoneref01_read.f
 rw [w64 (by omega) (by omega),show D10 0 = [] from D_zero T]
end Go.Proofs.YtcbohpmdeboeoaaGreatDoorRR.M

/- What the reference functions compute, in plain Lean over their printed forms: write, Add, times, Mul. -/
namespace Go.Proofs.YtcbohpmdeboeoaaGreatDoorRR.M
open Go.RowKit Go.Proofs.YtcbohpmdeboeoaaGreatDoorRR.X Go.Proofs.YtcbohpmdeboeoaaGreatDoorRRW.PrintWords Go.Proofs.YtcbohpmdeboeoaaGreatDoorRRW.PrintLast Go.Proofs.YtcbohpmdeboeoaaGreatDoorRRW.PrintMore

theorem seg_step (l : List Int) (hi j : Nat) (hj : j < hi) : V T ((l.take hi).drop j) = l.getD j 0 + T * V T ((l.take hi).drop (j + 1)):=by
 rw [V_getD (l.take hi) j]
 congr 1
 simp only [List.getD,List.getElem?_take,if_pos hj]
theorem rwrite_l1 (l : List Int) (hl : Dig T l) (hn : l.length≤1000000) (o : List Int) (ho : o.length≤1000000) (i hi : Nat) (hih : hi≤l.length) (hi9 : hi≤i + 9) (q : Nat) : ∀ (j : Nat) (x : Nat),j = i + q→j≤hi→(x : Int) = V T ((l.take hi).drop j)→x < 10 ^ (hi - j)→
  ∀ (R : List Int),(∀ y : Nat,(y : Int) = V T ((l.take hi).drop i)→Ev (fun k=>whetstoneref01_write.l0 k l (o ++ [(y : Int)]) (wrap64 ((i : Int) + 9))) R)→
  Ev (fun k=>whetstoneref01_write.l1 k l o (i : Int) (x : Int) ((j : Int) - 1)) R:=by
 induction q with
 | zero=>
  intro j x hj hj' hx hx2 R hR
  subst hj
  refine Ev.step (fun k=>?_) (hR x hx)
  simp only [whetstoneref01_write.l1]
  rw [if_neg (by omega),if_pos (by omega)]
 | succ q ih=>
  intro j x hj hj' hx hx2 R hR
  subst hj
  have hd:=getD_mem (P:=fun x=>0≤x∧x < 10) (Dig10 hl) (by omega) (i + q)
  obtain⟨d,hd'⟩ : ∃ d : Nat,l.getD (i + q) 0 = d:=⟨(l.getD (i + q) 0).toNat,by omega⟩
  rw [hd'] at hd
  have hb : 10 ^ (hi - (i + (q + 1)))≤10 ^ 8:=Nat.pow_le_pow_right (by omega) (by omega)
  have hp : 10 ^ (hi - (i + q)) = 10 ^ (hi - (i + (q + 1))) * 10:=by rw [← Nat.pow_succ];congr 1;omega
  refine Ev.step (f:=fun k=>whetstoneref01_write.l1 k l o (i : Int) ((10 * x + d : Nat) : Int) (((i + q : Nat) : Int) - 1)) (fun k=>?_) (ih (i + q) (10 * x + d) rfl (by omega) ?_ ?_ R hR)
  ·simp only [whetstoneref01_write.l1]
   rw [if_pos (by omega),if_pos (by omega),if_pos (by omega),show((i + (q + 1) : Nat) : Int) - 1 = ((i + q : Nat) : Int) by omega,rd_nat,hd',w64 (by omega) (by omega),Int.emod_eq_of_lt (by omega) (by omega)]
   congr 1
  ·rw [seg_step l hi (i + q) (by omega),hd',Nat.add_assoc,← hx]
   show _ = _ + (10 : Int) * _
   omega
  ·rw [hp];omega
theorem rwrite_l0 (n : Nat) (hn : (D10 n).length≤900000) (m : Nat) : ∀ (i : Nat) (o : List Int),o.length≤i→i≤(D10 n).length + 9→(D10 n).length≤i + 9 * m→
  Ev (fun k=>whetstoneref01_write.l0 k (D10 n) o (i : Int)) (o ++ D9 (n / 10 ^ i)):=by
 have hend : ∀ (i : Nat) (o : List Int),(D10 n).length≤i→Ev (fun k=>whetstoneref01_write.l0 k (D10 n) o (i : Int)) (o ++ D9 (n / 10 ^ i)):=by
  intro i o h
  have:=(D_len T2).1 h
  rw [Nat.div_eq_of_lt this,show D9 0 = [] from D_zero B,List.append_nil]
  refine Ev.step (f:=fun _=>some _) (fun k=>?_) (Ev.now _)
  simp only [whetstoneref01_write.l0]
  rw [if_neg (by omega)]
 induction m with
 | zero=>intro i o ho hi hm;exact hend i o (by omega)
 | succ m ih=>
  intro i o ho hi hm
  by_cases h : (D10 n).length≤i
  ·exact hend i o h
  ·obtain⟨hi',hh⟩ : ∃ hi',hi' = min (i + 9) (D10 n).length:=⟨_,rfl⟩
   have hmn : wrap64 ((mn (wrap64 ((i : Int) + 9)) ((D10 n).length : Int)) - 1) = (hi' : Int) - 1:=by
    rw [w64 (x:=(i : Int) + 9) (by omega) (by omega)]
    unfold mn
    split
    ·rw [w64 (by omega) (by omega)];omega
    ·rw [w64 (by omega) (by omega)];omega
   refine Ev.step (f:=fun k=>whetstoneref01_write.l1 k (D10 n) o (i : Int) ((0 : Nat) : Int) ((hi' : Int) - 1)) (fun k=>?_) ?_
   ·simp only [whetstoneref01_write.l0]
    rw [if_pos (by omega),hmn]
    rfl
   ·refine rwrite_l1 (D10 n) (D_dig T2 n) (by omega) o (by omega) i hi' (by omega) (by omega) (hi' - i) hi' 0 (by omega) (Nat.le_refl _) ?_ (Nat.pow_pos (by omega)) _ ?_
    ·rw [List.drop_eq_nil_of_le (by simp;omega)];rfl
    ·intro y hy
          -- the chunk is the number's next digit to the base 10^9
     have e1 : ((D10 n).take hi').drop i = (D10 (n / 10 ^ i)).take 9:=by
      rw [List.drop_take,D_drop T2,hh]
      show(D T (n / T ^ i)).take _ = _
      by_cases hs : i + 9≤(D10 n).length
      ·rw [Nat.min_eq_left hs,show i + 9 - i = 9 by omega]
      ·have hl : (D T (n / T ^ i)).length = (D10 n).length - i:=by rw [← D_drop T2,List.length_drop]
       rw [List.take_of_length_le (by rw [hl];omega),List.take_of_length_le (by show(D T (n / T ^ i)).length≤9;rw [hl];omega)]
     rw [e1,D_take T2] at hy
     have hy' : y = n / 10 ^ i % B:=by exact_mod_cast hy
     have hne : n / 10 ^ i≠0:=by
      intro h0
      have h1 : n < 10 ^ i:=(Nat.div_eq_zero_iff_lt (Nat.pow_pos (by decide))).1 h0
      exact h ((D_len T2 (n:=n) (k:=i)).2 h1)
     have e2 : D9 (n / 10 ^ i) = ((n / 10 ^ i % B : Nat) : Int) :: D9 (n / 10 ^ (i + 9)):=by
      show D B _ = _
      rw [D_pos B2 hne,Nat.div_div_eq_div_mul,Nat.pow_add]
     rw [e2,hy',show o ++ ((n / 10 ^ i % B : Nat) : Int) :: D9 (n / 10 ^ (i + 9)) = (o ++ [((n / 10 ^ i % B : Nat) : Int)]) ++ D9 (n / 10 ^ (i + 9)) by simp,w64 (by omega) (by omega)]
     exact ih (i + 9) _ (by simp;omega) (by omega) (by omega)
theorem rwrite_f (n : Nat) (hn : (D10 n).length≤900000) : Ev (fun k=>whetstoneref01_write.f k (D10 n)) (D9 n):=by
 have:=rwrite_l0 n hn (D10 n).length 0 [] (by simp) (by omega) (by omega)
 rw [Nat.pow_zero,Nat.div_one] at this
 exact this

theorem D10_len9 (n : Nat) : (D10 n).length≤9 * (D9 n).length:=by
 show(D T n).length≤_
 rw [D_len T2,Nat.pow_mul]
 exact(D_len B2 (n:=n) (k:=(D9 n).length)).1 (Nat.le_refl _)
theorem Row.len10 {N : Nat} {l : List Int} (h : Row N l) : (D10 (val l)).length≤9 * (N + 1):=by
 have h1:=h.len
 have h2:=D10_len9 (val l)
 omega
end Go.Proofs.YtcbohpmdeboeoaaGreatDoorRR.M

/- What the reference's Of computes: on a row of decimal digits without a leading nought the number, else false. -/
namespace Go.Proofs.YtcbohpmdeboeoaaGreatDoorRR.M
open Go.RowKit Go.Proofs.YtcbohpmdeboeoaaGreatDoorRR.X Go.Proofs.YtcbohpmdeboeoaaGreatDoorRRW.PrintWords Go.Proofs.YtcbohpmdeboeoaaGreatDoorRRW.PrintLast Go.Proofs.YtcbohpmdeboeoaaGreatDoorRRW.PrintMore

theorem rof_l0 (s : ByteArray) (hs : s.size≤90000) (q : Nat) : ∀ (i : Nat) (a : List Int),i + q = s.size→a.length = s.size→Dig T a→(∀ j,j < s.size - i→a.getD j 0 = 0)→
  (∀ c ∈ s.data.toList.take i,isDig c)→V T a = (dv (s.data.toList.take i) : Int) * (T : Int) ^ (s.size - i)→
  Ev (fun k=>whetstoneref01_Of.l0 k s a (i : Int)) (if allDig s.data.toList = true then(D9 (dv s.data.toList),true) else([],false)):=by
 have hl:=Lib.size_eq s
 induction q with
 | zero=>
  intro i a hi ha hd _ hg hv
  rw [List.take_of_length_le (by omega)] at hg hv
  rw [show s.size - i = 0 by omega,Int.pow_zero,Int.mul_one] at hv
  rw [if_pos (allDig_iff.2 hg)]
  refine Ev.step (f:=fun k=>(whetstoneref01_trim.f k a).bind fun t609=>((whetstoneref01_write.f k t609).bind fun t612=>(some (t612,true)))) (fun k=>?_) ?_
  ·simp only [whetstoneref01_Of.l0]
   rw [if_neg (by omega)]
  ·have ht:=rtrim_f a hd (by omega)
   rw [hv,Int.toNat_natCast] at ht
   have hlt : (D10 (dv s.data.toList)).length≤s.data.toList.length:=(D_len T2).2 (dv_lt _ hg)
   exact Ev.bind ht (Ev.bind (rwrite_f _ (by omega)) (Ev.now _))
 | succ q ih=>
  intro i a hi ha hd hz hg hv
  have hil : i < s.data.toList.length:=by omega
  have hb:=bt_eq s i (by omega)
  obtain⟨c,hc⟩ : ∃ c,c = s.data.toList[i]'hil:=⟨_,rfl⟩
  rw [← hc] at hb
  by_cases h1 : isDig c
  ·have h1':=h1
   unfold isDig at h1'
   obtain⟨p,hp⟩ : ∃ p,p = s.size - 1 - i:=⟨_,rfl⟩
   have ew : wrap64 ((wrap64 ((s.size : Int) - 1)) - (i : Int)) = (p : Int):=by
    rw [w64 (x:=(s.size : Int) - 1) (by omega) (by omega),w64 (by omega) (by omega)];omega
   have etake : s.data.toList.take (i + 1) = s.data.toList.take i ++ [c]:=by rw [List.take_succ_eq_append_getElem hil,hc]
   refine Ev.step (f:=fun k=>whetstoneref01_Of.l0 k s (a.set p ((c.toNat : Int) - 48)) ((i + 1 : Nat) : Int)) (fun k=>?_) (ih (i + 1) _ (by omega) (by rw [List.length_set,ha]) (mem_set hd ⟨by omega,by show _ < (10 : Int);omega⟩ p) ?_ ?_ ?_)
   ·simp only [whetstoneref01_Of.l0]
    rw [if_pos (by omega),if_pos (by omega),hb,if_neg (by omega),if_neg (by omega),ew,if_pos (by omega),if_pos (by omega),Int.toNat_natCast,Int.emod_eq_of_lt (by omega) (by omega),w64 (by omega) (by omega)]
    rfl
   ·intro j hj
    rw [getD_set_ne _ (by omega)]
    exact hz j (by omega)
   ·rw [etake]
    intro x hx
    rcases List.mem_append.1 hx with h | h
    ·exact hg x h
    ·rw [List.mem_singleton] at h;rw [h];exact h1
   ·rw [V_set a p _ (by omega),hz p (by omega),hv,etake,dv_append,dv_one,List.length_singleton,Nat.pow_one,show s.size - i = p + 1 by omega,show s.size - (i + 1) = p by omega,Int.pow_succ,Int.natCast_add,Int.natCast_mul,Int.add_mul,Int.sub_zero]
    have e1 : ((c.toNat - 48 : Nat) : Int) = (c.toNat : Int) - 48:=by omega
    rw [e1]
    generalize (T : Int) ^ p = w
    generalize ((dv (s.data.toList.take i) : Nat) : Int) = u
    show u * (w * 10) + w * ((c.toNat : Int) - 48) = u * 10 * w + ((c.toNat : Int) - 48) * w
    rw [Int.mul_comm w 10,← Int.mul_assoc,Int.mul_comm w]
  ·have e : allDig s.data.toList = false:=allDig_no (fun h=>h1 (h c (by rw [hc];exact List.getElem_mem hil)))
   rw [e,if_neg (by simp)]
   unfold isDig at h1
   refine Ev.step (f:=fun _=>some ([],false)) (fun k=>?_) (Ev.now _)
   simp only [whetstoneref01_Of.l0]
   rw [if_pos (by omega),if_pos (by omega),hb]
   by_cases h2 : (c.toNat : Int) < 48
   ·rw [if_pos h2]
   ·rw [if_neg h2,if_pos (by omega)]
theorem rOf_f (s : ByteArray) (hs : s.size≤90000) : Ev (fun k=>whetstoneref01_Of.f k s) (if okNum s = true then(D9 (dv s.data.toList),true) else([],false)):=by
 have no : Ev (fun k=>whetstoneref01_Of.j0 k s true) (([] : List Int),false):=Ev.step (f:=fun _=>some ([],false)) (fun k=>by simp only [whetstoneref01_Of.j0];rw [if_pos trivial]) (Ev.now _)
 have tail : Ev (fun k=>whetstoneref01_Of.j0 k s false) (if allDig s.data.toList = true then(D9 (dv s.data.toList),true) else([],false)):=by
  have hz : ∀ j,(List.replicate s.size (0 : Int)).getD j 0 = 0:=fun j=>(Fill.start (P:=fun _=>True) trivial s.size).zero j (Nat.zero_le _)
  refine Ev.step (f:=fun k=>whetstoneref01_Of.l0 k s (List.replicate s.size 0) ((0 : Nat) : Int)) (fun k=>?_) (rof_l0 s hs s.size 0 _ (by omega) (by simp) (Fill.start (P:=fun x=>0≤x∧x < ((T : Nat) : Int)) (by decide) _).all (fun j _=>hz j) (by simp) (by rw [V_replicate];simp [dv]))
  simp only [whetstoneref01_Of.j0]
  rw [if_neg (by simp),if_pos (by omega),if_pos (by omega),Int.toNat_natCast]
  rfl
 unfold whetstoneref01_Of.f
 by_cases h0 : s.size = 0
 ·rw [show okNum s = false by simp [okNum,h0],if_neg (by simp)]
  exact Ev.congr (fun k=>if_pos (by omega)) no
 ·refine Ev.congr (fun k=>if_neg (by omega)) ?_
  by_cases h1 : 1 < s.size
  ·refine Ev.congr (fun k=>if_pos (by omega)) (Ev.congr (fun k=>if_pos (by omega)) ?_)
   by_cases h2 : bt s 0 = 48
   ·rw [show okNum s = false by simp [okNum,h1,h2],if_neg (by simp),show(bt s 0 == 48) = true by simp [h2]]
    exact no
   ·rw [show okNum s = allDig s.data.toList by simp [okNum,h0,h1,h2],show(bt s 0 == 48) = false by simp [h2]]
    exact tail
  ·rw [show okNum s = allDig s.data.toList by simp [okNum,h0,h1]]
   exact Ev.congr (fun k=>if_neg (by omega)) tail
end Go.Proofs.YtcbohpmdeboeoaaGreatDoorRR.M

/- What the reference's of, Of and Parse compute (layer 2), in plain Lean over their printed forms. -/
namespace Go.Proofs.YtcbohpmdeboeoaaGreatDoorRR.M
open Go.RowKit Go.Proofs.YtcbohpmdeboeoaaGreatDoorRR.X Go.Proofs.YtcbohpmdeboeoaaGreatDoorRRW.PrintWords Go.Proofs.YtcbohpmdeboeoaaGreatDoorRRW.PrintLast Go.Proofs.YtcbohpmdeboeoaaGreatDoorRRW.PrintMore
theorem rTrim_f (l : List Int) (h : Row 10000 l) : Ev (fun k=>whetstoneref01_Trim.f k l) (D9 (val l)):=by
 have h2:=h.len10
 unfold whetstoneref01_Trim.f
 exact Ev.bind (rread_f l h) (Ev.bind (rwrite_f _ (by omega)) (Ev.now _))
theorem rof_f (b : Bool) (l : List Int) (h : Row 10000 l) : Ev (fun k=>whetstoneref02_of.f k b l) (az (mk b (val l))):=by
 unfold whetstoneref02_of.f
 refine Ev.bind (rTrim_f l h) ?_
 show Ev _ (ng (mk b (val l)),D9 (mk b (val l)).natAbs)
 rw [mk_abs,mk_ng]
 have e : decide (0 < (D9 (val l)).length) = !decide (val l = 0):=by
  rw [Bool.eq_iff_iff]
  simp only [decide_eq_true_iff,Bool.not_eq_true',decide_eq_false_iff_not]
  have:=@D9_nil (val l)
  omega
 cases b
 ·exact Ev.congr (fun k=>if_neg (by decide)) (Ev.now _)
 ·refine Ev.congr (fun k=>if_pos rfl) ?_
  rw [e]
  exact Ev.now _
theorem rOf_l0 (z : Int) (n : Nat) : ∀ (x : Nat) (o : List Int),x < 18446744073709551616→Dig B o→V B o + (B : Int) ^ o.length * x = n→o.length + (D9 x).length≤100→
  Ev (fun k=>whetstoneref02_Of.l0 k z (x : Int) o) (az (mk (decide (z < 0)) n)):=by
 intro x
 induction x using Nat.strongRecOn with
 | ind x ih=>
  intro o hx ho hv hl
  by_cases h0 : x = 0
  ·subst h0
   have hr : Row 10000 o:=⟨fun y hy=>by have:=ho y hy;show 0≤y∧y < 4294967296;constructor;exact this.1;exact Int.lt_trans this.2 (by decide),by omega⟩
   have h1:=rof_f (decide (z < 0)) o hr
   have e : val o = n:=by unfold val;rw [show V B o = (n : Int) by simpa using hv];rfl
   rw [e] at h1
   refine Ev.step (f:=fun k=>(whetstoneref02_of.f k (decide (z < 0)) o).bind fun u=>some (u.1,u.2)) (fun k=>by simp only [whetstoneref02_Of.l0];rw [if_neg (by simp)]) ?_
   exact Ev.bind h1 (Ev.now _)
  ·have hm : x % B < B:=Nat.mod_lt _ (by decide)
   have hd : x / B < x:=Nat.div_lt_self (by omega) (by decide)
   have hq:=Nat.div_add_mod x B
   have e1 : Int.tmod (x : Int) 1000000000 = ((x % B : Nat) : Int):=by rw [tm _ (by omega)];rfl
   have e2 : Int.tdiv (x : Int) 1000000000 = ((x / B : Nat) : Int):=by rw [td _ (by omega)];rfl
   have e3 : ((x % B : Nat) : Int) % 4294967296 = ((x % B : Nat) : Int):=Int.emod_eq_of_lt (by omega) (by have : B = 1000000000:=rfl;omega)
   have hlen : (D9 x).length = (D9 (x / B)).length + 1:=by
    show(D B x).length = (D B (x / B)).length + 1
    rw [D_pos B2 h0,List.length_cons]
   refine Ev.step (f:=fun k=>whetstoneref02_Of.l0 k z ((x / B : Nat) : Int) (o ++ [((x % B : Nat) : Int)])) (fun k=>?_) (ih (x / B) hd _ (by omega) (ho.snoc (by omega) (by omega)) ?_ ?_)
   ·simp only [whetstoneref02_Of.l0]
    rw [if_pos (by omega),if_pos (by omega),e1,e2,e3,wu (Int.natCast_nonneg _) (by have : ((x / B : Nat) : Int) < (x : Int):=Int.ofNat_lt.2 hd;omega)]
   ·rw [V_snoc,List.length_append,List.length_singleton,Int.pow_succ,← hv]
    have : ((x : Nat) : Int) = (B : Int) * ((x / B : Nat) : Int) + ((x % B : Nat) : Int):=by rw [← Int.natCast_mul,← Int.natCast_add,hq]
    rw [this,Int.mul_add,Int.mul_assoc,Int.add_assoc]
    congr 1
    rw [Int.add_comm]
   ·rw [List.length_append,List.length_singleton];omega
theorem rOf2_f (z : Int) (h0 : -9223372036854775808≤z) (h1 : z < 9223372036854775808) : Ev (fun k=>whetstoneref02_Of.f k z) (az z):=by
 have hx : z.natAbs < 18446744073709551616:=by omega
 have h3:=D9_u64 hx
 have hl:=rOf_l0 z z.natAbs z.natAbs [] hx (Dig.nil _) (by simp [V]) (by simp;omega)
 rw [show mk (decide (z < 0)) z.natAbs = z from mk_self z] at hl
 have go : Ev (fun k=>whetstoneref02_Of.j0 k z ((z.natAbs : Nat) : Int)) (az z):=
  Ev.step (f:=fun k=>whetstoneref02_Of.l0 k z ((z.natAbs : Nat) : Int) []) (fun k=>by simp only [whetstoneref02_Of.j0]) hl
 unfold whetstoneref02_Of.f
 by_cases h : z < 0
 ·have e : IntKind.u64.wrap (-(IntKind.u64.wrap z)) = ((z.natAbs : Nat) : Int):=by
   rw [IntKind.wrap_u64,IntKind.wrap_u64];omega
  refine Ev.congr (fun k=>if_pos h) ?_
  rw [e];exact go
 ·have e : IntKind.u64.wrap z = ((z.natAbs : Nat) : Int):=by
   rw [IntKind.wrap_u64];omega
  refine Ev.congr (fun k=>if_neg h) ?_
  rw [e];exact go
theorem rParse_f (s : ByteArray) (hs : s.size≤9000) : Ev (fun k=>whetstoneref02_Parse.f k s) (rP s):=by
 have hu:=un_size s
 have ho:=rOf_f (un s) (by omega)
 have no (b : Bool) (l : List Int) : Ev (fun k=>whetstoneref02_Parse.j2 k b l true) (false,([] : List Int),false):=by
  have h0:=rOf2_f 0 (by decide) (by decide)
  rw [show az 0 = (false,[]) by show(ng 0,D9 0) = _;rw [show D9 0 = [] from D_zero B];rfl] at h0
  refine Ev.step (f:=fun k=>(whetstoneref02_Of.f k 0).bind fun u=>some (u.1,u.2,false)) (fun k=>by simp only [whetstoneref02_Parse.j2];rw [if_pos trivial]) ?_
  exact Ev.bind h0 (Ev.now _)
 have main : Ev (fun k=>whetstoneref02_Parse.j1 k (un s) (sg s)) (rP s):=by
  refine Ev.step (f:=fun k=>(whetstoneref01_Of.f k (un s)).bind fun u=>(if u.2 = true then(if sg s = true then(whetstoneref02_Parse.j2 k (sg s) u.1 ((u.1.length : Int) == 0)) else(whetstoneref02_Parse.j2 k (sg s) u.1 false)) else(whetstoneref02_Parse.j2 k (sg s) u.1 true))) (fun k=>by simp only [whetstoneref02_Parse.j1]) ?_
  refine Ev.bind ho ?_
  unfold rP okP vP
  by_cases h : okNum (un s) = true
  ·have hl:=dv_len h
   have yes : Ev (fun k=>whetstoneref02_Parse.j2 k (sg s) (D9 (dv (un s).data.toList)) false) (ng (mk (sg s) (dv (un s).data.toList)),D9 (mk (sg s) (dv (un s).data.toList)).natAbs,true):=by
    have hm:=rof_f (sg s) (D9 (dv (un s).data.toList)) (Row.D (by omega))
    rw [val_D] at hm
    refine Ev.step (f:=fun k=>(whetstoneref02_of.f k (sg s) (D9 (dv (un s).data.toList))).bind fun u=>some (u.1,u.2,true)) (fun k=>by simp only [whetstoneref02_Parse.j2];rw [if_neg (by decide)]) ?_
    exact Ev.bind hm (Ev.now _)
   rw [if_pos h,h]
   refine Ev.congr (fun k=>if_pos rfl) ?_
   by_cases hg : sg s = true
   ·refine Ev.congr (fun k=>if_pos hg) ?_
    by_cases h0 : dv (un s).data.toList = 0
    ·rw [if_neg (by simp [hg,h0])]
     have e : (((D9 (dv (un s).data.toList)).length : Int) == 0) = true:=beq_iff_eq.2 ((D9_lenI _).2 h0)
     rw [e]
     exact no _ _
    ·rw [if_pos (by simp [h0])]
     have e : (((D9 (dv (un s).data.toList)).length : Int) == 0) = false:=by
      rw [beq_eq_false_iff_ne];exact fun hh=>h0 ((D9_lenI _).1 hh)
     rw [e]
     exact yes
   ·refine Ev.congr (fun k=>if_neg hg) ?_
    rw [if_pos (by simp [hg])]
    exact yes
  ·rw [if_neg h,if_neg (by simp [h])]
   exact Ev.congr (fun k=>if_neg (by decide)) (no _ _)
 have j0 (b : Bool) (hb : b = sg s) : Ev (fun k=>whetstoneref02_Parse.j0 k s b) (rP s):=by
  subst hb
  by_cases hg : sg s = true
  ·have e : un s = s.extract 1 s.size:=by unfold un;rw [if_pos hg]
   have h1 : 1≤s.size:=by
    have : 0 < s.size:=by unfold sg at hg;simp at hg;exact hg.1
    omega
   rw [e] at main
   exact Ev.step (f:=fun k=>whetstoneref02_Parse.j1 k (s.extract 1 s.size) (sg s)) (fun k=>by simp only [whetstoneref02_Parse.j0];rw [if_pos hg,if_pos (by omega)]) main
  ·have e : un s = s:=by unfold un;rw [if_neg hg]
   rw [e] at main
   exact Ev.step (f:=fun k=>whetstoneref02_Parse.j1 k s (sg s)) (fun k=>by simp only [whetstoneref02_Parse.j0];rw [if_neg hg]) main
 unfold whetstoneref02_Parse.f
 by_cases h0 : 0 < s.size
 ·refine Ev.congr (fun k=>if_pos (by omega)) (Ev.congr (fun k=>if_pos (by omega)) (j0 _ ?_))
  unfold sg
  rw [decide_eq_true h0,Bool.true_and]
  rw [Bool.eq_iff_iff,beq_iff_eq,decide_eq_true_iff]
 ·refine Ev.congr (fun k=>if_neg (by omega)) (j0 _ ?_)
  unfold sg
  rw [decide_eq_false h0,Bool.false_and]
end Go.Proofs.YtcbohpmdeboeoaaGreatDoorRR.M
