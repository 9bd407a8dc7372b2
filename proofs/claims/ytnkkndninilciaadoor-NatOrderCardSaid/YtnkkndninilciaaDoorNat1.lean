/- What the functions of package nat compute, in plain Lean over their printed forms: carried, of, row, plus, less, compare, times. -/
import Derived.Test.YtnkkndninilciaaDoorMath
import Derived.Test.YtnkkndninilciaaDoorX1
import Derived.Test.YtnkkndninilciaaDoorX2
import Derived.Test.YtnkkndninilciaaDoorX3
import Derived.Test.YtnkkndninilciaaDoorX4
namespace Go.Proofs.YtnkkndninilciaaDoor.M
open Go.RowKit Go.Proofs.YtnkkndninilciaaDoor.X Go.Proofs.YtnkkndninilciaaDoorW.PrintWords Go.Proofs.YtnkkndninilciaaDoorW.PrintLast Go.Proofs.YtnkkndninilciaaDoorW.PrintMore

abbrev B : Nat := 1000000000
theorem B2 : 2 ≤ B := by decide
/-- The row of a number, as the program has it. -/
abbrev D9 (n : Nat) : List Int := D B n

theorem at_f (l : List Int) (i : Nat) : nat_digits_at.f l (i : Int) = some (l.getD i 0) := by
  unfold nat_digits_at.f
  rw [if_pos (by omega)]
  by_cases h : i < l.length
  · rw [if_pos (by omega), if_pos (by omega), rd_nat]
  · rw [if_neg (by omega), List.getD_eq_getElem?_getD, List.getElem?_eq_none (by omega)]; rfl

theorem at_neg (l : List Int) (i : Int) (h : i < 0) : nat_digits_at.f l i = some 0 := by
  unfold nat_digits_at.f
  rw [if_neg (by omega)]

theorem top_f (l : List Int) (hl : l.length ≤ 1000000000000000) : nat_digits_top.f l = some (l.getLast?.getD 0) := by
  unfold nat_digits_top.f
  rw [w64 (by omega) (by omega)]
  by_cases h0 : l = []
  · subst h0
    rw [at_neg _ _ (by simp)]
    rfl
  · have hp : 0 < l.length := List.length_pos_iff.2 h0
    rw [show ((l.length : Int) - 1) = ((l.length - 1 : Nat) : Int) from by omega, at_f]
    simp [List.getLast?_eq_getElem?]

/-- The noughts at the end fall away. -/
theorem trim_l1 (o : List Int) : Dig B o → o.length ≤ 1000000000000 → Ev (fun k => nat_carried.l1 k o) (D9 (V B o).toNat) := by
  induction h : o.length generalizing o with
  | zero =>
    intro _ _
    obtain rfl := List.eq_nil_of_length_eq_zero h
    refine Ev.step (f := fun _ => some []) (fun k => ?_) ?_
    · simp only [nat_carried.l1]
      rw [if_neg (by simp)]
    · simp [V, D_zero]; exact Ev.now _
  | succ n ih =>
    intro hd hl
    have hne : o ≠ [] := by intro h0; subst h0; simp at h
    obtain ⟨p, x, rfl⟩ : ∃ p x, o = p ++ [x] := ⟨o.dropLast, o.getLast hne, (List.dropLast_concat_getLast hne).symm⟩
    have hp : p.length = n := by simpa using h
    have hd' := Dig.append.1 hd
    by_cases hx : x = 0
    · subst hx
      refine Ev.step (f := fun k => nat_carried.l1 k p) (fun k => ?_) ?_
      · simp only [nat_carried.l1]
        rw [if_pos (by simp; try omega), top_f _ (by simp at h hl ⊢; omega)]
        simp only [Option.bind_some]
        have e : wrap64 (((p ++ [(0 : Int)]).length : Int) - 1) = p.length := by
          rw [w64 (by simp; try omega) (by simp at h hl ⊢; omega)]; simp
        rw [if_pos (by simp), e, if_pos (by omega), if_pos (by simp; omega), Int.toNat_natCast, List.take_left' rfl]
      · rw [V_snoc, Int.mul_zero, Int.add_zero]
        exact ih p hp hd'.1 (by simp at hl; omega)
    · refine Ev.step (f := fun _ => some (p ++ [x])) (fun k => ?_) ?_
      · simp only [nat_carried.l1]
        rw [if_pos (by simp), top_f _ (by simp at h hl ⊢; omega)]
        simp only [Option.bind_some]
        rw [if_neg (by simpa using hx)]
      · have e := D_of B2 hd (by simpa using hx)
        show Ev _ (D B _)
        rw [← e]
        exact Ev.now _

/-- What is left of the carry, behind the last digit. -/
theorem carry_tail (d o : List Int) (c : Nat) : c < 18446744073709551616 → Dig B o → d.length ≤ o.length → o.length + c ≤ 1000000000000 →
    Ev (fun k => nat_carried.l0 k d o (c : Int) (o.length : Int)) (D9 (V B o + (B : Int) ^ o.length * c).toNat) := by
  induction c using Nat.strongRecOn generalizing o with
  | _ c ih =>
    intro hc hd hl hb
    by_cases h0 : c = 0
    · subst h0
      refine Ev.step (f := fun k => nat_carried.l1 k o) (fun k => ?_) ?_
      · simp only [nat_carried.l0]
        rw [if_neg (by omega), if_neg (by simp)]
      · simpa using trim_l1 o hd (by omega)
    · have hlt : c / B < c := Nat.div_lt_self (by omega) (by decide)
      have hm : c % B < B := Nat.mod_lt _ (by decide)
      have ih' := ih (c / B) hlt (o ++ [((c % B : Nat) : Int)]) (by omega) (Dig.snoc hd (by omega) (by omega)) (by simp; omega) (by simp; omega)
      refine Ev.step (f := fun k => nat_carried.l0 k d (o ++ [((c % B : Nat) : Int)]) ((c / B : Nat) : Int) ((o ++ [((c % B : Nat) : Int)]).length : Int)) (fun k => ?_) ?_
      · simp only [nat_carried.l0]
        rw [if_neg (by omega), if_pos (by omega), at_f]
        simp only [Option.bind_some]
        rw [List.getD_eq_getElem?_getD, List.getElem?_eq_none hl, Option.getD_none, Int.add_zero, wu (by omega) (by omega), tm _ (by omega), td _ (by omega), if_pos (by omega), wu (by omega) (by omega), w64 (by omega) (by omega)]
        congr 1
        simp
      · have e : V B o + (B : Int) ^ o.length * c = V B (o ++ [((c % B : Nat) : Int)]) + (B : Int) ^ (o ++ [((c % B : Nat) : Int)]).length * ((c / B : Nat) : Int) := by
          rw [V_snoc, List.length_append, List.length_singleton, Int.pow_succ, Int.add_assoc, Int.mul_assoc, ← Int.mul_add]
          congr 2
          have := Nat.mod_add_div c B
          omega
        rw [e]
        exact ih'
/-- carried: the right row of what a row of any small numbers stands for. -/
theorem carry_l0 (d : List Int) (hd : ∀ x ∈ d, 0 ≤ x ∧ x < 9223372036854775808) (hn : d.length ≤ 1000000000) (m : Nat) :
    ∀ (o : List Int) (c : Nat), o.length + m = d.length → c < 34359738368 → Dig B o →
    Ev (fun k => nat_carried.l0 k d o (c : Int) (o.length : Int)) (D9 (V B o + (B : Int) ^ o.length * (c + V B (d.drop o.length))).toNat) := by
  induction m with
  | zero =>
    intro o c hm hc ho
    have := carry_tail d o c (by omega) ho (by omega) (by omega)
    rw [List.drop_eq_nil_of_le (by omega)]
    simpa [V] using this
  | succ m ih =>
    intro o c hm hc ho
    obtain ⟨x, hx⟩ : ∃ x, d.getD o.length 0 = x := ⟨_, rfl⟩
    have hx' := getD_mem (P := fun x => 0 ≤ x ∧ x < 9223372036854775808) hd (by omega) o.length
    rw [hx] at hx'
    obtain ⟨y, rfl⟩ : ∃ y : Nat, x = y := ⟨x.toNat, by omega⟩
    have hmod : (c + y) % B < B := Nat.mod_lt _ (by decide)
    have hdv : (c + y) / B < 34359738368 := by
      rw [Nat.div_lt_iff_lt_mul (by decide)]
      show c + y < 34359738368 * 1000000000
      omega
    have ih' := ih (o ++ [(((c + y) % B : Nat) : Int)]) ((c + y) / B) (by simp; omega) hdv (Dig.snoc ho (by omega) (by omega))
    refine Ev.step (f := fun k => nat_carried.l0 k d (o ++ [(((c + y) % B : Nat) : Int)]) (((c + y) / B : Nat) : Int) ((o ++ [(((c + y) % B : Nat) : Int)]).length : Int)) (fun k => ?_) ?_
    · simp only [nat_carried.l0]
      rw [if_pos (by omega), at_f]
      simp only [Option.bind_some]
      rw [hx, wu (by omega) (by omega), tm _ (by omega), td _ (by omega), if_pos (by omega), wu (by omega) (by omega), w64 (by omega) (by omega)]
      congr 1
      simp
    · have e : V B o + (B : Int) ^ o.length * (c + V B (d.drop o.length)) = V B (o ++ [(((c + y) % B : Nat) : Int)]) + (B : Int) ^ (o ++ [(((c + y) % B : Nat) : Int)]).length * ((((c + y) / B : Nat) : Int) + V B (d.drop (o ++ [(((c + y) % B : Nat) : Int)]).length)) := by
        rw [V_snoc, List.length_append, List.length_singleton, Int.pow_succ, Int.add_assoc, Int.mul_assoc, ← Int.mul_add, V_getD d o.length, hx]
        congr 2
        have := Nat.mod_add_div (c + y) B
        rw [Int.mul_add]
        omega
      rw [e]
      exact ih'

theorem carried_f (d : List Int) (hd : ∀ x ∈ d, 0 ≤ x ∧ x < 9223372036854775808) (hn : d.length ≤ 1000000000) :
    Ev (fun k => nat_carried.f k d) (D9 (V B d).toNat) := by
  have h := carry_l0 d hd hn d.length [] 0 (by simp) (by omega) (Dig.nil _)
  simp only [V, List.length_nil, List.drop_zero, Int.pow_zero, Int.one_mul, Int.zero_add, Int.ofNat_zero] at h
  refine Ev.congr (fun k => ?_) h
  unfold nat_carried.f
  rw [w64 (by omega) (by omega), if_pos (by omega), if_pos (by omega)]
end Go.Proofs.YtnkkndninilciaaDoor.M
